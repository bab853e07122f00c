/-
 The law PlanKnown, walked.
-/
import Derived.Test.YtolaedhdjcnijaaGreatDoorKk13
import Derived.Test.YtolaedhdjcnijaaGreatDoorKk2
import Derived.ProofKit
import Derived.Carry
import Derived.ChangeSame
import Derived.Deep.Slices
import Derived.Deep.Fields
import Derived.Test.YtolaedhdjcnijaaGreatDoorKk8
import Derived.Test.YtolaedhdjcnijaaGreatDoorRows
import Derived.PinnedBridge
import Derived.Lib.LaidU8
import Derived.Stop.LaidErr
import Derived.Deep.DeepHandedRow
import Derived.Lay
import Derived.MakeChecks
import Derived.JoinedOf
set_option linter.unusedVariables false
set_option linter.unusedSimpArgs false
namespace Go.Proofs.YtolaedhdjcnijaaGreatDoor
open Go Go.Mw Go.Lib
set_option maxRecDepth 4000
def knL : List (List UInt8) := [[119, 104, 101, 114, 101, 32, 110, 111, 110, 101, 10], [119, 104, 101, 114, 101, 32, 35, 49, 10], [119, 104, 101, 114, 101, 32, 10], [119, 104, 101, 114, 101, 10], [111, 117, 116, 32, 97, 32, 35, 49, 10], [111, 117, 116, 32, 98, 32, 35, 49, 32, 35, 49, 32, 43, 10], [111, 117, 116, 32, 97, 10], [111, 117, 116, 32, 65, 32, 35, 49, 10], [111, 117, 116, 32, 97, 32, 35, 49, 32, 10], [111, 117, 116, 32, 99, 111, 117, 110, 116, 32, 49, 10], [103, 114, 111, 117, 112, 32, 110, 111, 110, 101, 10], [103, 114, 111, 117, 112, 32, 48, 10], [103, 114, 111, 117, 112, 32, 49, 10], [103, 114, 111, 117, 112, 32, 51, 10], [103, 114, 111, 117, 112, 32, 48, 49, 10], [103, 114, 111, 117, 112, 32, 45, 49, 10], [103, 114, 111, 117, 112, 32, 43, 49, 10], [103, 114, 111, 117, 112, 32, 57, 57, 57, 57, 57, 57, 57, 57, 57, 57, 57, 57, 57, 57, 57, 57, 57, 57, 57, 10], [103, 114, 111, 117, 112, 10], [103, 114, 111, 117, 112, 32, 10], [10], [103, 114, 111, 117, 112, 32, 110, 111, 110, 101], [111, 117, 116, 32, 99, 32, 49]]
theorem Vp : knL.length = 23 ∧ ∀ x ∈ knL, x.length ≤ 40 := by decide
def FD : List bL := [⟨2, 1, []⟩]
def Zo (j : Nat) : jM := ⟨[99] ++ [UInt8.ofNat (97 + j)], FD⟩
def Bg (n : Nat) : List jM := (List.range n).map Zo
theorem R8 : ∀ i : Fin 17, (([97, 98, 99, 100, 101, 102, 103, 104, 105, 106, 107, 108, 109, 110, 111, 112, 113] : List UInt8).take (i.val + 1)).drop i.val = [UInt8.ofNat (97 + i.val)] := by decide
theorem P5 : dV FD := fun x hx => by
 rw [List.mem_singleton.1 hx]
 show fits 1
 unfold fits
 omega
theorem P6 (n : Nat) : ∀ o ∈ Bg n, dV o.steps := fun o ho => by
 obtain ⟨j, _, rfl⟩ := List.mem_map.1 ho
 exact P5
theorem oz : dV [] := fun x hx => absurd hx List.not_mem_nil
theorem dn.cut {α : Type} {w : World} {A : Option Addr} {c k m : Nat} {enc : α → List Value} [jU enc k] {l : List α} (h : dn w (.slice A l.length c) enc k l) (hm : m ≤ l.length) : dn w (.slice A m c) enc k (l.take m) := by
 obtain ⟨A', c', e, ⟨h1, h2⟩, hr⟩ := h
 injection e with e1 e2 e3
 subst e1 e3
 have hl : (l.take m).length = m := by rw [List.length_take]; omega
 exact ⟨A, c, by rw [hl], ⟨by rw [hl]; omega, h2⟩, hr.cut m⟩
theorem dn.rd {α : Type} {w : World} {A : Option Addr} {c m k : Nat} {enc : α → List Value} {l : List α} (h : dn w (.slice A m c) enc k l) : Rd w A enc k l := by
 obtain ⟨A', c', e, _, hr⟩ := h
 injection e with e1 e2 e3
 subst e1
 exact hr
theorem lJ.cut {w : World} {r : List (List UInt8 × Value)} {l : List jM} (h : lJ w r l) (m : Nat) : lJ w (r.take m) (l.take m) :=
 ⟨by rw [List.map_take, List.map_take, h.1], fun i x o hx ho => by
  rw [List.getElem?_take] at hx ho
  split at hx
  ·rw [if_pos (by assumption)] at ho
   exact h.2 i x o hx ho
  cases hx⟩
def onH (v : Value) (r : List (List UInt8 × Value)) (l : List jM) : HP := qI fun w => dn w v aI 3 FD ∧ lJ w r l
theorem M7 (w : World) (s : List UInt8) (n : Nat) (h : s.length * n ≤ 140737488355328) (hn : n ≤ 9223372036854775807) : bF Tryz.prog 34 [str s, I n] w fun v w' => v = str (Lib.repeatL s n) ∧ Kept noB w w' :=
 lU (Tryz.strings_Repeat ⟨s.toArray⟩ n w hn h)
section
variable {w : World}
theorem Jc (hT : je w) : bF Tryz.prog 10 [] w fun v' w' => v' = .bool true ∧ Kept noB w w' := by
 have H := Sep.bB w
 obtain ⟨Xk, hkl⟩ := Vp
 refine JW Tryz.func10 rfl rfl rfl ?_
 refine Sr (Am ?_)
 refine Nx (aX H (xs := [_, _, _, _, _, _, _, _, _, _, _, _, _, _, _, _, _, _, _, _, _, _, _]) (out := knL.flatMap bX) (aU.one rfl rfl (aU.one rfl rfl (aU.one rfl rfl (aU.one rfl rfl (aU.one rfl rfl (aU.one rfl rfl (aU.one rfl rfl (aU.one rfl rfl (aU.one rfl rfl (aU.one rfl rfl (aU.one rfl rfl (aU.one rfl rfl (aU.one rfl rfl (aU.one rfl rfl (aU.one rfl rfl (aU.one rfl rfl (aU.one rfl rfl (aU.one rfl rfl (aU.one rfl rfl (aU.one rfl rfl (aU.one rfl rfl (aU.one rfl rfl (aU.one rfl rfl aU.nil))))))))))))))))))))))) rfl rfl rfl (fun bl w3 H3 k2 => ?_))
 have H3 : Mw.Sep w noB (cO 9 1 bX (.slice (some ⟨bl, 0, none⟩) 23 23) knL :: _) w3 := Sep.JY H3 At0 (n := 23) rfl (by decide)
 obtain ⟨kl, abJ⟩ : ∃ kl, kl = knL := ⟨_, rfl⟩
 rw [← abJ] at H3 Xk hkl
 refine Am ?_
 refine Qn (au (Sr (Am ?_)))
 refine Qn (aF (bA (fun i : Nat => [(1, .slice (some ⟨bl, 0, none⟩) 23 23), (2, I i)]) (fun i w' => i ≤ kl.length ∧ Sep w noB [cO 9 1 bX (.slice (some ⟨bl, 0, none⟩) 23 23) kl] w') (fun i _ => kl.length - i) 0 ⟨rfl, rfl, trivial⟩ ⟨Nat.zero_le _, H3⟩ (fun i τ w7 hI => ?_)))
 obtain ⟨hi, H7⟩ := hI
 try simp only [cZ, like, bC, bZ]
 refine au (Sr (Mv ?_))
 refine Mv ?_
 refine Vs ?_
 refine Vl ?_
 refine Qn (Cp rfl (fun Ia => ?_) (fun Ia => ?_))
 ·have bU : i < kl.length := by omega
  obtain ⟨x, hx⟩ := get_some bU
  have UO := hkl x (List.mem_of_getElem? hx)
  refine Sk (au (aF (Sr (Am ?_))))
  refine Qn (aF (bA (fun k : Nat => [(1, .slice (some ⟨bl, 0, none⟩) 23 23), (2, I i), (3, I k)]) (fun k w' => k ≤ kl.length ∧ Sep w noB [cO 9 1 bX (.slice (some ⟨bl, 0, none⟩) 23 23) kl] w') (fun k _ => kl.length - k) 0 ⟨rfl, rfl, rfl, trivial⟩ ⟨Nat.zero_le _, H7⟩ (fun k τ wa hI => ?_)))
  obtain ⟨hk, Ha⟩ := hI
  try simp only [cZ, like, bC]
  refine au (Sr (Mv ?_))
  refine Mv ?_
  refine Vs ?_
  refine Vl ?_
  refine Qn (Cp rfl (fun Ib => ?_) (fun Ib => ?_))
  ·have Gw : k < kl.length := by omega
   obtain ⟨y, hy⟩ := get_some Gw
   have hyl := hkl y (List.mem_of_getElem? hy)
   have JV : 23 = kl.length := Xk.symm
   refine Sk (au (aF (au (bG rfl Ha (h := fun Sa wb Hb => ?_)))))
   refine Gp Sa 0 rfl rfl (fun _ => (Gives.build (out := [.slice none 0 0, .slice none 0 0, I 0]) Fills.nil)) (Gm Sa 1 ?_)
   refine Gm Sa 2 ?_
   refine Gp Sa 3 rfl rfl (fun _ => (Gives.Es (l := kl) JV rfl rfl (jI JV Hb At0) bU)) (Gl Sa 4 rfl rfl (Gives.o8 (i := i) (f := 0) rfl (jI JV Hb At0) hx rfl) ?_)
   refine Gm Sa 5 ?_
   refine Gm Sa 6 ?_
   refine Gp Sa 7 rfl rfl (fun _ => (Gives.Es (l := kl) JV rfl rfl (jI JV Hb At0) Gw)) (Gl Sa 8 rfl rfl (Gives.o8 (i := k) (f := 0) rfl (jI JV Hb At0) hy rfl) ?_)
   refine Gp Sa 9 rfl rfl (fun _ => (Gives.iW rfl rfl (by first | omega | (simp; done) | (simp; omega)))) ?_
   refine fQ Sa 10 [] Hb (lY _ (uW _) Ez.1 (hT.keep Hb.kept)) (h := fun wc Hc kb => ⟨aK, ?_⟩)
   refine Gp Sa 11 rfl rfl (fun _ => (Gives.not rfl)) (Gm Sa 12 ?_)
   refine jP (t := 40) rfl (fun Sb => ?_) (fun Sb => ?_)
   ·exact Bool.noConfusion Sb
   refine Gp Sa 13 rfl rfl (fun _ => (Gives.build (out := [.slice none 0 0, .slice none 0 0, I 0]) Fills.nil)) (Gm Sa 14 ?_)
   refine Gm Sa 15 ?_
   refine Gp Sa 16 rfl rfl (fun _ => (Gives.Es (l := kl) JV rfl rfl (jI JV Hc At0) bU)) (Gl Sa 17 rfl rfl (Gives.o8 (i := i) (f := 0) rfl (jI JV Hc At0) hx rfl) ?_)
   refine Gp Sa 18 rfl rfl (fun _ => (Gives.iW rfl rfl (by first | omega | (simp; done) | (simp; omega)))) ?_
   refine Gm Sa 19 ?_
   refine Gm Sa 20 ?_
   refine Gp Sa 21 rfl rfl (fun _ => (Gives.Es (l := kl) JV rfl rfl (jI JV Hc At0) Gw)) (Gl Sa 22 rfl rfl (Gives.o8 (i := k) (f := 0) rfl (jI JV Hc At0) hy rfl) ?_)
   refine Gp Sa 23 rfl rfl (fun _ => (Gives.iW rfl rfl (by first | omega | (simp; done) | (simp; omega)))) ?_
   refine fQ Sa 24 [] Hc (lY _ (uW _) Ez.1 (hT.keep Hc.kept)) (h := fun wd Hd kc => ⟨aK, ?_⟩)
   refine Gp Sa 25 rfl rfl (fun _ => (Gives.not rfl)) (Gp Sa 26 rfl rfl (fun _ => Gives.nP rfl rfl) ?_)
   refine Gm Sa 27 ?_
   refine jP (t := 55) rfl (fun Sc => ?_) (fun Sc => ?_)
   ·exact Bool.noConfusion Sc
   refine Gp Sa 28 rfl rfl (fun _ => (Gives.build (out := [.slice none 0 0, .slice none 0 0, I 0]) Fills.nil)) (Gm Sa 29 ?_)
   refine Gm Sa 30 ?_
   refine Gp Sa 31 rfl rfl (fun _ => (Gives.Es (l := kl) JV rfl rfl (jI JV Hd At0) bU)) (Gl Sa 32 rfl rfl (Gives.o8 (i := i) (f := 0) rfl (jI JV Hd At0) hx rfl) ?_)
   refine Gp Sa 33 rfl rfl (fun _ => (Gives.iW rfl rfl (by first | omega | (simp; done) | (simp; omega)))) ?_
   refine Gm Sa 34 ?_
   refine Gm Sa 35 ?_
   refine Gp Sa 36 rfl rfl (fun _ => (Gives.Es (l := kl) JV rfl rfl (jI JV Hd At0) Gw)) (Gl Sa 37 rfl rfl (Gives.o8 (i := k) (f := 0) rfl (jI JV Hd At0) hy rfl) ?_)
   refine Gp Sa 38 rfl rfl (fun _ => (Gives.iW rfl rfl (by first | omega | (simp; done) | (simp; omega)))) ?_
   refine fQ Sa 39 [] Hd (lY _ (uW _) Ez.1 (hT.keep Hd.kept)) (h := fun we He kd => ⟨aK, ?_⟩)
   refine Gp Sa 40 rfl rfl (fun _ => (Gives.not rfl)) (Gp Sa 41 rfl rfl (fun _ => Gives.nP rfl rfl) ?_)
   refine bR Sa (by kernel_rfl) ?_
   refine aj (Cd rfl (fun Ic => ?_) (fun Ic => ?_))
   ·exact Bool.noConfusion Ic
   refine aY (aA (aj (aB (Mv ?_))))
   refine Vv (Gives.bM rfl rfl rfl (by omega)) (Am ?_)
   refine aP ?_
   exact aC (k + 1) ⟨rfl, rfl, rfl, trivial⟩ ⟨by omega, He⟩ (by omega)
  refine bq (aT (aO (aV (aA (aj (aB (Mv ?_)))))))
  refine Vv (Gives.bM rfl rfl rfl (by omega)) (Am ?_)
  refine aP ?_
  exact aC (i + 1) ⟨rfl, rfl, trivial⟩ ⟨by omega, Ha⟩ (by omega)
 refine bq (aT (aO (aV (aj (Sr (Vv (Gives.build (out := aI ⟨2, 1, []⟩) (Fills.one rfl rfl rfl (by simp) rfl (Fills.one rfl rfl rfl (by simp) rfl Fills.nil))) ?_))))))
 refine aX H7 (xs := [.tmp 70]) (out := FD.flatMap aI) (aU.many rfl rfl aU.nil) rfl rfl rfl (fun bo wf Hf ke => ?_)
 have Hf : Mw.Sep w noB (cO 60 3 aI (.slice (some ⟨bo, 0, none⟩) 1 1) FD :: _) wf := Sep.JY Hf At0 (n := 1) rfl (by decide)
 refine Am ?_
 refine Nx (bD Hf (h := fun b5 wg Hg kf => ?_))
 refine Qn (au (Sr (Am ?_)))
 refine Qn (aF ?_)
 have Hh : Mw.Sep w noB [onH (.slice (some ⟨bo, 0, none⟩) 1 1) [] (Bg 0), cO 53 2 bO (.slice none 0 0) [], blk b5 [.slice none 0 0, .slice none 0 0, I 0] 25] wg := by
  have h1 := qg (Sep.iX (jD Hg.dS At0) 53 2 bO)
  have h2 : Mw.Sep w noB (onH (.slice (some ⟨bo, 0, none⟩) 1 1) [] (Bg 0) :: _) wg := Sep.Ox h1.iK fun _ a b => ⟨a, b⟩
  exact h2.firsts (l := [_, _, _])
 refine bA (fun x : Nat × (Option Addr × Nat) × List (List UInt8 × Value) => [(4, .slice (some ⟨bo, 0, none⟩) 1 1), (5, bI b5), (6, I x.1)]) (fun x w' => (x.1 ≤ 17 ∧ x.2.2.length = x.1) ∧ Sep w noB [onH (.slice (some ⟨bo, 0, none⟩) 1 1) x.2.2 (Bg x.1), cO 53 2 bO (.slice x.2.1.1 x.2.2.length x.2.1.2) x.2.2, blk b5 [.slice none 0 0, .slice x.2.1.1 x.2.2.length x.2.1.2, I 0] 25] w') (fun x _ => 17 - x.1) (0, (none, 0), []) ⟨rfl, rfl, rfl, trivial⟩ ⟨⟨Nat.zero_le _, rfl⟩, Hh⟩ (fun x τ wh hI => ?_)
 obtain ⟨i, ⟨C, cc⟩, r⟩ := x
 obtain ⟨⟨hi, AO⟩, Hh⟩ := hI
 dsimp only at hi AO Hh
 try simp only [cZ, like, bC]
 refine au (Sr (Mv ?_))
 refine Vl ?_
 refine Qn (Cp rfl (fun Id => ?_) (fun Id => ?_))
 ·have bU : i < 17 := by omega
  have aai := R8 ⟨i, bU⟩
  dsimp only at aai
  have hkc : Bg (i + 1) = Bg i ++ [Zo i] := by unfold Bg; rw [List.range_succ, List.map_append]; rfl
  refine Sk (au (aF (bG rfl Hh (h := fun Sd wi Hi => ?_))))
  refine Gp Sd 0 rfl rfl (fun _ => (Gives.dx rfl)) (cK Sd 1 Hi (h := ?_))
  refine Gm Sd 2 ?_
  refine Gm Sd 3 ?_
  refine Gp Sd 4 rfl rfl (fun _ => (Gives.bM (c := ((i + 1 : Nat) : Int)) rfl rfl (by omega) (by omega))) (Gp Sd 5 rfl rfl (fun _ => (Gives.fE (l := [97, 98, 99, 100, 101, 102, 103, 104, 105, 106, 107, 108, 109, 110, 111, 112, 113]) (i := i) (m := i + 1) rfl rfl rfl (by omega) (by show i + 1 ≤ 17; omega))) ?_)
  rw [aai]
  refine Gp Sd 6 rfl rfl (fun _ => (Gives.iW rfl rfl (by first | omega | (simp; done) | (simp; omega)))) ?_
  refine Gm Sd 7 ?_
  refine Gp Sd 8 rfl rfl (fun _ => (Gives.build (out := bO ([99] ++ [UInt8.ofNat (97 + i)], .slice (some ⟨bo, 0, none⟩) 1 1)) (Fills.one rfl rfl rfl (by simp) rfl (Fills.one rfl rfl rfl (by simp) rfl Fills.nil)))) (eD Sd 9 [(1, false), (0, true)] Hi (xs := [.tmp 84]) (out := [([99] ++ [UInt8.ofNat (97 + i)], Value.slice (some ⟨bo, 0, none⟩) 1 1)].flatMap bO) (aU.many rfl rfl aU.nil) (h := fun bs wj Hj => ⟨bQ Hj (h := av (aK)), ?_⟩))
  refine jo Sd 10 [] Hj (news := [([99] ++ [UInt8.ofNat (97 + i)], Value.slice (some ⟨bo, 0, none⟩) 1 1)]) At1 (by unfold maxLen; simp; omega) (by simp; omega) (uU rfl) (h := fun v2 wk Hk => ?_)
  obtain ⟨C2, c2, rfl, _, _⟩ := Sep.fJ Hk At1
  refine ⟨aK, ?_⟩
  refine Gp Sd 11 rfl rfl (fun _ => (Gives.dx rfl)) (nI Sd 12 [] Hk (h := fun wl Hl => ⟨aK, ?_⟩))
  refine bR Sd (by kernel_rfl) ?_
  refine aA (aj (aB (Mv ?_)))
  refine Vv (Gives.bM rfl rfl rfl (by omega)) (Am ?_)
  refine aP ?_
  exact aC (i + 1, (C2, c2), r ++ [([99] ++ [UInt8.ofNat (97 + i)], Value.slice (some ⟨bo, 0, none⟩) 1 1)]) ⟨rfl, rfl, rfl, trivial⟩ ⟨⟨by dsimp only; omega, by dsimp only; rw [List.length_append, AO]; rfl⟩, by
  dsimp only
  rw [hkc]
  exact Sep.U4 Hl At0 fun _ h => ⟨h.1, h.2.push h.1⟩⟩ (by dsimp only; omega)
 have abK : i = 17 := by omega
 subst abK
 refine bq (aT (aO (aV (aj (au (Sr (Am ?_)))))))
 refine Qn (aF ?_)
 obtain ⟨cols, UH⟩ : ∃ cols, cols = Bg 17 := ⟨_, rfl⟩
 have LY : ∀ o ∈ cols, dV o.steps := by rw [UH]; exact P6 17
 have EO : cols.length = 17 := by rw [UH]; rfl
 have Uq : r.length ≤ cc := by
  obtain ⟨_, _, e, h, _⟩ := Sep.fJ Hh At1
  injection e with _ _ e
  subst e
  exact h
 rw [← UH] at Hh
 refine bA (fun n : Nat => [(4, .slice (some ⟨bo, 0, none⟩) 1 1), (5, bI b5), (7, I (15 + n : Nat))]) (fun n w' => n ≤ 3 ∧ Sep w noB [onH (.slice (some ⟨bo, 0, none⟩) 1 1) r cols, cO 53 2 bO (.slice C r.length cc) r, blk b5 [.slice none 0 0, .slice C r.length cc, I 0] 25] w') (fun n _ => 3 - n) 0 ⟨rfl, rfl, rfl, trivial⟩ ⟨Nat.zero_le _, Hh⟩ (fun n τ wm hI => ?_)
 obtain ⟨hn, Hm⟩ := hI
 try simp only [cZ, like, bC]
 refine au (Sr (Mv ?_))
 refine Vl ?_
 refine Qn (Cp rfl (fun Ie => ?_) (fun Ie => ?_))
 ·have hn3 : n < 3 := by omega
  refine Sk (au (aF (Sr (Am ?_))))
  refine Qn (aF (bA (fun k : Nat => [(4, .slice (some ⟨bo, 0, none⟩) 1 1), (5, bI b5), (7, I (15 + n : Nat)), (8, I ((k : Int) - 2))]) (fun k w' => k ≤ 21 ∧ Sep w noB [onH (.slice (some ⟨bo, 0, none⟩) 1 1) r cols, cO 53 2 bO (.slice C r.length cc) r, blk b5 [.slice none 0 0, .slice C r.length cc, I 0] 25] w') (fun k _ => 21 - k) 0 ⟨rfl, rfl, rfl, rfl, trivial⟩ ⟨Nat.zero_le _, Hm⟩ (fun k τ wn hI => ?_)))
  obtain ⟨hk, Hn⟩ := hI
  try simp only [cZ, like, bC]
  refine au (Sr (Mv ?_))
  refine Vl ?_
  refine Qn (Cp rfl (fun If => ?_) (fun If => ?_))
  ·refine Sk (au (aF (Sr (Vf ?_))))
   refine Ld Hn ?_
   refine Mv ?_
   refine Vv (Gives.sliceTo (h := 15 + n) rfl rfl (by omega)) (Mv ?_)
   refine Vv (Gives.build (out := [.slice none 0 0, .slice C (15 + n) cc, I ((k : Int) - 2)]) (Fills.one rfl rfl rfl (by simp) rfl (Fills.one rfl rfl rfl (by simp) rfl Fills.nil))) (bD Hn (h := fun b9 wo Ho kg => ?_))
   refine aD Ho (h := fun wp Hp => ?_)
   refine Nx (aZ Hp (h := ?_))
   refine aZ Hp (h := ?_)
   have hpn : fD wp (agg [.slice none 0 0, .slice C (15 + n) cc, I ((k : Int) - 2)]) ⟨[], cols.take (15 + n), (k : Int) - 2⟩ := ⟨_, _, rfl, iC, r.take (15 + n), dn.cut (gQ Hp At2) (by omega), (Sep.sees Hp At1).2.cut (15 + n)⟩
   have hpp : fD wp (agg [.slice none 0 0, .slice C r.length cc, I 0]) ⟨[], cols, 0⟩ := ⟨_, _, rfl, iC, r, gQ Hp At2, (Sep.sees Hp At1).2⟩
   have hnf : nH ⟨[], cols.take (15 + n), (k : Int) - 2⟩ := ⟨oz, fun o ho => LY o (List.mem_of_mem_take ho)⟩
   refine aN Hp (sZ (cols := []) iC hpn hnf hpp ⟨oz, LY⟩ (hT.keep Hp.kept)) (h := fun wq Hq kq => ?_)
   refine Vv (Gives.not rfl) (Mv ?_)
   refine dh (t := 106) rfl (fun Se => ?_) (fun Se => ?_)
   ·exact Bool.noConfusion Se
   refine On (aZ Hq (h := ?_))
   refine On (aN Hq (lY [] (hpn.keep kq) hnf (hT.keep Hq.kept)) (h := fun wr Hr kh => ?_))
   refine On (Vv (Gives.not rfl) (Pf ?_))
   refine Qn (Cd rfl (fun Ig => ?_) (fun Ig => ?_))
   ·exact Bool.noConfusion Ig
   refine aY (aA (aj (aB (Mv ?_))))
   refine Vv (Gives.bM (c := ((k + 1 : Nat) : Int) - 2) rfl rfl (by omega) (by omega)) (Am ?_)
   refine aP ?_
   exact aC (k + 1) ⟨rfl, rfl, rfl, rfl, trivial⟩ ⟨by omega, Hr.fI⟩ (by omega)
  refine bq (aT (aO (aV (aA (aj (aB (Mv ?_)))))))
  refine Vv (Gives.bM (c := ((15 + (n + 1) : Nat) : Int)) rfl rfl (by omega) (by omega)) (Am ?_)
  refine aP ?_
  exact aC (n + 1) ⟨rfl, rfl, rfl, trivial⟩ ⟨by omega, Hn⟩ (by omega)
 refine bq (aT (aO (aV (aj (Sr (R7 Hm (k := 65) (cs := (List.replicate 65 (⟨0, 0, []⟩ : bL)).flatMap aI) (by kernel_rfl) (by decide) (by decide) (h := fun bm ws Hs ki => ?_)))))))
 have Hs : Mw.Sep w noB (cO 60 3 aI (.slice (some ⟨bm, 0, none⟩) 65 65) (List.replicate 65 (⟨0, 0, []⟩ : bL)) :: _) _ := Sep.JY (n := 65) Hs At0 (jT (k := 3) (fun _ => rfl) _) (by decide)
 refine Am ?_
 refine Qn (au (Sr (Am ?_)))
 refine Qn (aF (bA (fun x : Nat × List bL => [(4, .slice (some ⟨bo, 0, none⟩) 1 1), (5, bI b5), (10, .slice (some ⟨bm, 0, none⟩) 65 65), (11, I x.1)]) (fun x w' => (x.1 ≤ 65 ∧ 65 = x.2.length ∧ dV x.2) ∧ Sep w noB [cO 60 3 aI (.slice (some ⟨bm, 0, none⟩) 65 65) x.2, onH (.slice (some ⟨bo, 0, none⟩) 1 1) r cols, cO 53 2 bO (.slice C r.length cc) r, blk b5 [.slice none 0 0, .slice C r.length cc, I 0] 25] w') (fun x _ => 65 - x.1) (0, List.replicate 65 (⟨0, 0, []⟩ : bL)) ⟨rfl, rfl, rfl, rfl, trivial⟩ ⟨⟨Nat.zero_le _, by simp, fun y hy => by rw [List.eq_of_mem_replicate hy]; exact ⟨by decide, by decide⟩⟩, Hs⟩ (fun x τ wt hI => ?_)))
 obtain ⟨i, l⟩ := x
 obtain ⟨⟨hi, Wz, hlf⟩, Ht⟩ := hI
 dsimp only at hi Wz hlf Ht
 try simp only [cZ, like, bC]
 refine au (Sr (Mv ?_))
 refine Vl ?_
 refine Qn (Cp rfl (fun Ih => ?_) (fun Ih => ?_))
 ·have bU : i < l.length := by omega
  refine Sk (au (aF (aB (Mv ?_))))
  refine Mv ?_
  refine Vv (Gives.build (out := aI ⟨10, 0, []⟩) (Fills.one rfl rfl rfl (by simp) rfl Fills.nil)) (Vv (Gives.Es (l := l) Wz rfl rfl (jI Wz Ht At0) bU) ?_)
  refine yD (⟨10, 0, []⟩ : bL) Wz Ht At0 bU rfl (h := fun wu Hu => ?_)
  refine aP (aA (aj (aB (Mv ?_))))
  refine Vv (Gives.bM (c := ((i + 1 : Nat) : Int)) rfl rfl (by omega) (by omega)) (Am ?_)
  refine aP ?_
  exact aC (i + 1, l.set i ⟨10, 0, []⟩) ⟨rfl, rfl, rfl, rfl, trivial⟩ ⟨⟨by dsimp only; omega, by rw [List.length_set]; exact Wz, fun y hy => (List.mem_or_eq_of_mem_set hy).elim (hlf y) (fun h => by rw [h]; exact ⟨by decide, by decide⟩)⟩, Hu⟩ (by dsimp only; omega)
 refine bq (aT (aO (aV (aj (Sr (Mv ?_))))))
 refine Mv ?_
 refine Vv (Gives.eT (i := 0) (l := FD) (enc := aI) rfl rfl (dn.rd (Sep.sees Ht At1).1) (by decide)) (Vv (Gives.Dz (i := 0) (c := (⟨2, 1, []⟩ : bL)) rfl (dn.rd (Sep.sees Ht At1).1) rfl) ?_)
 refine Vv (Gives.Es (i := 0) (l := l) Wz rfl rfl (jI Wz Ht At0) (by omega)) (yD (i := 0) (⟨2, 1, []⟩ : bL) Wz Ht At0 (by omega) rfl (h := fun wv Hv => ?_))
 obtain ⟨g, hg⟩ : ∃ g, g = l.set 0 (⟨2, 1, []⟩ : bL) := ⟨_, rfl⟩
 have aak : g.length = 65 := by rw [hg, List.length_set]; exact Wz.symm
 have hgf : dV g := fun y hy => by
  rw [hg] at hy
  exact (List.mem_or_eq_of_mem_set hy).elim (hlf y) (fun h => by rw [h]; exact ⟨by decide, by decide⟩)
 rw [← hg] at Hv
 have Hv : Mw.Sep w noB (cO 60 3 aI (.slice (some ⟨bm, 0, none⟩) g.length 65) g :: [onH (.slice (some ⟨bo, 0, none⟩) 1 1) r cols, cO 53 2 bO (.slice C r.length cc) r, blk b5 [.slice none 0 0, .slice C r.length cc, I 0] 25]) wv := by rw [aak]; exact Hv
 refine Nx (aN Hv (M7 _ [10] 1048577 (by decide) (by decide)) (h := fun ww Hw kj => ?_))
 obtain ⟨long, Xl⟩ : ∃ l, l = Lib.repeatL [10] 1048577 := ⟨_, rfl⟩
 have Uz : long.length = 1048577 := by rw [Xl, Lib.repeatL_length]; rfl
 rw [← Xl]
 refine eX Hw (sW long (.inr (by omega)) (by omega) (hT.keep Hw.kept)) (h := fun z wx _ Hx kk => ?_)
 rw [show dX long = (eF, 0, 5) from if_pos (by omega)] at Hx ⊢
 dsimp only at Hx ⊢
 obtain ⟨Az, az, Bz, bz, rfl⟩ := gy (Sep.sees Hx At0)
 have aal : Value.slice (some ⟨bm, 0, none⟩) 65 65 = .slice (some ⟨bm, 0, none⟩) g.length 65 := by rw [aak]
 refine Mv ?_
 refine Vx ?_
 refine Vx ?_
 refine Vx ?_
 refine bD Hx (h := fun b12 wy Hy km => ?_)
 refine aD Hy (h := fun wz Hz => ?_)
 refine Am ?_
 refine Am ?_
 refine Qn (au (bG rfl Hz (h := fun Sf wA HA => ?_)))
 refine Gm Sf 0 ?_
 refine fQ Sf 1 [] HA (Ag (hT.keep HA.kept)) (h := fun wB HB kn => ⟨aK, ?_⟩)
 refine Gp Sf 2 rfl rfl (fun _ => Gives.nC rfl rfl) (Gm Sf 3 ?_)
 refine jP (t := 134) rfl (fun Sg => ?_) (fun Sg => ?_)
 ·refine Gm Sf 4 ?_
  refine Gp Sf 5 rfl rfl (fun _ => (Gives.dx rfl)) (cK Sf 6 HB (h := ?_))
  refine Gp Sf 7 rfl rfl (fun _ => (Gives.sliceTo (h := 1) rfl rfl (by omega))) (Gp Sf 8 rfl rfl (fun _ => (Gives.build (out := [.slice (some ⟨bm, 0, none⟩) 65 65, .slice C 1 cc, I (-1)]) (Fills.one rfl rfl rfl (by simp) rfl (Fills.one rfl rfl rfl (by simp) rfl (Fills.one rfl rfl rfl (by simp) rfl Fills.nil))))) ?_)
  refine dD Sf 9 HB (h := ?_)
  have Gx : fD wB (agg [.slice (some ⟨bm, 0, none⟩) 65 65, .slice C 1 cc, I (-1)]) ⟨g, cols.take 1, -1⟩ := ⟨_, _, rfl, by rw [aal]; exact gQ HB At2, r.take 1, dn.cut (gQ HB At4) (by omega), (Sep.sees HB At3).2.cut 1⟩
  have aam : nH ⟨g, cols.take 1, -1⟩ := ⟨hgf, fun o ho => LY o (List.mem_of_mem_take ho)⟩
  have hpp : fD wB (agg [.slice none 0 0, .slice C r.length cc, I 0]) ⟨[], cols, 0⟩ := ⟨_, _, rfl, iC, r, gQ HB At4, (Sep.sees HB At3).2⟩
  refine fQ Sf 10 [] HB (sZ (cols := []) iC Gx aam hpp ⟨oz, LY⟩ (hT.keep HB.kept)) (h := fun wC HC ka => ⟨aK, ?_⟩)
  refine Gp Sf 11 rfl rfl (fun _ => Gives.nC rfl rfl) (Gm Sf 12 ?_)
  refine jP (t := 143) rfl (fun Sh => ?_) (fun Sh => ?_)
  ·refine Gm Sf 13 ?_
   refine Gp Sf 14 rfl rfl (fun _ => (Gives.dx rfl)) (cK Sf 15 HC (h := ?_))
   refine Gp Sf 16 rfl rfl (fun _ => (Gives.sliceTo (h := 1) rfl rfl (by omega))) (Gp Sf 17 rfl rfl (fun _ => (Gives.build (out := [.slice (some ⟨bm, 0, none⟩) 65 65, .slice C 1 cc, I (-1)]) (Fills.one rfl rfl rfl (by simp) rfl (Fills.one rfl rfl rfl (by simp) rfl (Fills.one rfl rfl rfl (by simp) rfl Fills.nil))))) ?_)
   refine fQ Sf 18 [] HC (lY [] (Gx.keep ka) aam (hT.keep HC.kept)) (h := fun wD HD ko => ⟨aK, ?_⟩)
   refine Gp Sf 19 rfl rfl (fun _ => Gives.nC rfl rfl) (Gm Sf 20 ?_)
   refine jP (t := 151) rfl (fun Si => ?_) (fun Si => ?_)
   ·refine Gm Sf 21 ?_
    refine Gp Sf 22 rfl rfl (fun _ => (Gives.sliceTo (h := 64) rfl rfl (by omega))) (Gm Sf 23 ?_)
    refine Gp Sf 24 rfl rfl (fun _ => (Gives.sliceTo (h := 64) rfl rfl (by omega))) (Gp Sf 25 rfl rfl (fun _ => (Gives.build (out := bO ([97], .slice (some ⟨bm, 0, none⟩) 64 65)) (Fills.one rfl rfl rfl (by simp) rfl (Fills.one rfl rfl rfl (by simp) rfl Fills.nil)))) ?_)
    refine eD Sf 26 [(22, true), (21, true)] HD (xs := [.tmp 156]) (out := [(([97], .slice (some ⟨bm, 0, none⟩) 64 65) : List UInt8 × Value)].flatMap bO) (aU.many rfl rfl aU.nil) (h := fun bs wE HE => ⟨av (av (aK)), ?_⟩)
    refine Gp Sf 27 rfl rfl (fun _ => (Gives.build (out := [.slice (some ⟨bm, 0, none⟩) 64 65, .slice (some ⟨bs, 0, none⟩) 1 1, I (-1)]) (Fills.one rfl rfl rfl (by simp) rfl (Fills.one rfl rfl rfl (by simp) rfl (Fills.one rfl rfl rfl (by simp) rfl Fills.nil))))) ?_
    have h64 : dn wE (.slice (some ⟨bm, 0, none⟩) 64 65) aI 3 (g.take 64) := dn.cut (gQ HE At3) (by omega)
    have aan : dV (g.take 64) := fun y hy => hgf y (List.mem_of_mem_take hy)
    have UQ : fD wE (agg [.slice (some ⟨bm, 0, none⟩) 64 65, .slice (some ⟨bs, 0, none⟩) 1 1, I (-1)]) ⟨g.take 64, [⟨[97], g.take 64⟩], -1⟩ := ⟨_, _, rfl, h64, [([97], .slice (some ⟨bm, 0, none⟩) 64 65)], Df HE At0 rfl (Nat.le_of_ble_eq_true rfl), lJ.nil.push h64⟩
    refine fQ Sf 28 [] HE (lY [] UQ ⟨aan, fun o ho => by rw [List.mem_singleton.1 ho]; exact aan⟩ (hT.keep HE.kept)) (h := fun wF HF kp => ⟨aK, ?_⟩)
    refine Gp Sf 29 rfl rfl (fun _ => Gives.nC rfl rfl) (Gm Sf 30 ?_)
    refine jP (t := 161) rfl (fun Sj => ?_) (fun Sj => ?_)
    ·refine Gm Sf 31 ?_
     refine Gp Sf 32 rfl rfl (fun _ => (Gives.build (out := bO ([97], .slice (some ⟨bm, 0, none⟩) 65 65)) (Fills.one rfl rfl rfl (by simp) rfl (Fills.one rfl rfl rfl (by simp) rfl Fills.nil)))) (dD Sf 35 HF (h := ?_))
     refine eD Sf 33 [(35, false)] HF (xs := [.tmp 163]) (out := [(([97], .slice (some ⟨bm, 0, none⟩) 65 65) : List UInt8 × Value)].flatMap bO) (aU.many rfl rfl aU.nil) (h := fun bt wG HG => ⟨(eZ rfl (by kernel_rfl) (Gives.nQ (cs := [.slice none 0 0, .slice C r.length cc, I 0]) (E := 25) rfl (by first | exact HG.obj At7 | exact HG.obj At6) rfl rfl) rfl (aK)), ?_⟩)
     refine Gp Sf 34 rfl rfl (fun _ => (Gives.build (out := [.slice none 0 0, .slice (some ⟨bt, 0, none⟩) 1 1, I 0]) (Fills.one rfl rfl rfl (by simp) rfl Fills.nil))) ?_
     have abO : dn wG (.slice (some ⟨bm, 0, none⟩) 65 65) aI 3 g := by rw [aal]; exact gQ HG At4
     have pq : fD wG (agg [.slice none 0 0, .slice (some ⟨bt, 0, none⟩) 1 1, I 0]) ⟨[], [⟨[97], g⟩], 0⟩ := ⟨_, _, rfl, iC, [([97], .slice (some ⟨bm, 0, none⟩) 65 65)], Df HG At0 rfl (Nat.le_of_ble_eq_true rfl), lJ.nil.push abO⟩
     have abP : fD wG (agg [.slice none 0 0, .slice C r.length cc, I 0]) ⟨[], cols, 0⟩ := ⟨_, _, rfl, iC, r, gQ HG At6, (Sep.sees HG At5).2⟩
     refine fQ Sf 36 [] HG (sZ (cols := []) iC pq ⟨oz, fun o ho => by rw [List.mem_singleton.1 ho]; exact hgf⟩ abP ⟨oz, LY⟩ (hT.keep HG.kept)) (h := fun wH HH kr => ⟨aK, ?_⟩)
     refine Gp Sf 37 rfl rfl (fun _ => Gives.nC rfl rfl) (Gm Sf 38 ?_)
     refine jP (t := 169) rfl (fun Sl => ?_) (fun Sl => ?_)
     ·refine Gm Sf 39 ?_
      refine Gp Sf 40 rfl rfl (fun _ => (Gives.eql rfl rfl)) (Gp Sf 41 rfl rfl (fun _ => Gives.nC rfl rfl) ?_)
      refine Gm Sf 42 ?_
      refine lC (t := 173) rfl (fun Sm => ?_) (fun Sm => ?_)
      ·refine Gm Sf 43 ?_
       refine Gp Sf 44 rfl rfl (fun _ => (Gives.eql rfl rfl)) (Gp Sf 45 rfl rfl (fun _ => Gives.nC rfl rfl) ?_)
       refine Gp Sf 46 rfl rfl (fun _ => Gives.assign rfl) (bR Sf (by kernel_rfl) ?_)
       refine aj (aM (ak (hR := ?_)))
       exact ⟨rfl, HH.kept⟩
      exact (Sm trivial).elim
     exact Bool.noConfusion Sl
    exact Bool.noConfusion Sj
   exact Bool.noConfusion Si
  exact Bool.noConfusion Sh
 exact Bool.noConfusion Sg
end
end Go.Proofs.YtolaedhdjcnijaaGreatDoor
namespace Go.Mw
open Go.RowKit Go.ChangeShapes Go.WideShapes Go.Deep

section
variable {H : Type} {enc : TypeId × Value → H} {P : Program}
theorem xV (hl : laidOutB P = true) {W W' : World} (hk : Kept noB W W') {sp : Nat → Bool} : ∀ {ts : List TypeId} {vs : List Value} {ds : List (DataW H)} {ps : List MemPlace}, (∀ t ∈ ts, P.readableRec t = true ∧ t < P.types.size) →
    DataW.TrodAll enc P W 0 (fun _ => true) true ts vs ds ps → (∀ x ∈ ps, x.block < W.heap.size) → (∀ x ∈ ps, sp x.block = true) → DataW.TrodAll enc P W' 0 sp true ts vs ds ps
  | [], [], [], _, _, h, _, _ => h
  | t :: ts, v :: vs, d :: ds, ps, ht, ⟨p, q, h1, h2, e⟩, bU, vP => by
    subst e
    exact ⟨p, q, WideElems.Trod_stays hl (ht t List.mem_cons_self).1 (ht t List.mem_cons_self).2 h1 (fun x hx => hk.below.same (bU x (List.mem_append_left _ hx))) (fun x hx => vP x (List.mem_append_left _ hx)),
      xV hl hk (fun u hu => ht u (List.mem_cons_of_mem _ hu)) h2 (fun x hx => bU x (List.mem_append_right _ hx)) (fun x hx => vP x (List.mem_append_right _ hx)), rfl⟩
  | [], [], _ :: _, _, _, h, _, _ => h.elim
  | [], _ :: _, _, _, _, h, _, _ => by cases ‹List (DataW H)› <;> exact h.elim
  | _ :: _, [], _, _, _, h, _, _ => h.elim
  | _ :: _, _ :: _, [], _, _, h, _, _ => h.elim
theorem R9 {f : Func} {s : ChangeSpec} {apart fresh WA again : Bool} {W W' : World} {args : Array Value} {t : TypeId} {ds gs : List (DataW H)} {before : List MemPlace} (hl : laidOutB P = true)
    (hW : DataW.Whole enc P f.params.toList s.vars apart W args.toList ds gs before) (Xm : s.vars = []) (hr : f.resultTypes = #[t]) (hb : P.underlying t = some .bool) (gu : (f.params.toList.all fun t => P.readableRec t && decide (t < P.types.size)) = true)
    (hs : s.fn H (ds ++ gs) = { results := [.lit (.bool true)], args := ds }) (hk : Kept noB W W') (fK : Value.okWide P W' .any 0 t (.bool true)) : s.post enc P f apart fresh WA again W args (.bool true) W' := by
  have hp : ∀ t ∈ f.params.toList, P.readableRec t = true ∧ t < P.types.size := fun t ht => by
    have := List.all_eq_true.1 gu t ht
    simpa using this
  have hW' := hW
  obtain ⟨pa, pv, hA, hV, rfl, hz, hn⟩ := hW
  have LW : gs = [] ∧ pv = [] := by
    rw [Xm] at hV
    exact trodVars_none hV
  obtain ⟨rfl, rfl⟩ := LW
  have bU : ∀ p ∈ pa, p.block < W.heap.size := fun p hp => hW'.lt p (List.mem_append_left _ hp)
  have ay : ∀ (b : Nat) (sp : Nat → Bool) (hd : Bool), DataW.TrodAll enc P W' b sp hd f.resultTypes.toList ((Value.bool true).resultList f.resultTypes.size) (s.fn H (ds ++ [])).results [] := by
    intro b sp hd
    rw [hs, hr]
    exact trodAll_mk1 (shut_bool hb true)
  have Gv : ∀ sp : Nat → Bool, (∀ p ∈ pa, sp p.block = true) → DataW.TrodAll enc P W' 0 sp true f.params.toList args.toList (s.fn H (ds ++ [])).args pa := by
    intro sp vP
    rw [hs]
    exact xV hl hk hp hA bU vP
  have hvs : ∀ sp : Nat → Bool, DataW.TrodVars enc P W' sp s.vars (s.fn H (ds ++ [])).vars [] := by
    intro sp
    rw [Xm, hs]
    exact rfl
  refine ⟨ds, [], pa ++ [], [], pa, [], hW', ay _ _ _, Gv _ (fun p hp => by simpa using bU p hp), hvs _, World.keptBut_mono (fun p hp => ⟨hp, ?_⟩) (hk.below.frame (· ∈ pa ++ [])), fun _ => ?_⟩
  · simpa using hp
  refine ⟨fun j t' r hj hv => ?_, _, _, ([] ++ pa) ++ [], ⟨[] ++ pa, [], trodAll_append (Gv _ (fun _ _ => rfl)) (ay _ _ _), hvs _, rfl, ?_, ?_⟩, ?_⟩
  · exact ok_one hr rfl fK j t' r hj hv
  · intro b off hp
    have Xj : MemPlace.cell b off ∈ pa := by simpa using hp
    rw [hk.below.frozen (bU _ Xj)]
    exact hz b off (by simpa using Xj)
  · intro ha
    have := hn ha
    simpa using this
  intro p hp _
  simpa using hp
end
end Go.Mw
namespace Go.Proofs.YtolaedhdjcnijaaGreatDoor
open Go Go.Mw Go.Lib Go.RowKit
set_option maxRecDepth 100000
theorem Zp : ownKnob Tryz.prog.godebug = none := by kernel_rfl
theorem XE : laidOutB Tryz.prog = true := by kernel_rfl
def OE : List (String × DataW Unit) := [("math/bits.deBruijn32tab", Rows.laid_math_bits_deBruijn32tab), ("math/bits.deBruijn64tab", Rows.laid_math_bits_deBruijn64tab), ("internal/strconv.uint64pow10", Rows.laid_internal_strconv_uint64pow10), ("unicode/utf8.acceptRanges", Rows.laid_unicode_utf8_acceptRanges), ("strconv.ErrRange", Rows.laid_strconv_ErrRange), ("strconv.ErrSyntax", Rows.laid_strconv_ErrSyntax), ("unicode/utf8.first", Rows.laid_unicode_utf8_first)]
theorem Vq : U8Extra Tryz.prog Tryz.lays260_ren := ⟨by kernel_rfl, by kernel_rfl, by kernel_rfl, by kernel_rfl, by kernel_rfl, by kernel_rfl, by kernel_rfl⟩
theorem Ta : Rows.laid_unicode_utf8_first = firstData := Pinned.utf8First_eq
theorem P7 : (Rows.laid_unicode_utf8_acceptRanges : DataW Unit) = acceptData := by kernel_rfl
theorem pow_eq : (Rows.laid_internal_strconv_uint64pow10 : DataW Unit) = tabData .u64 pow10Tab := by kernel_rfl
theorem OG : "*" ++ "errors.errorString" = "*errors.errorString" := by decide
theorem Tc (u : TypeId) (h : Tryz.prog.typeName? 3 u = some "*errors.errorString") : u = 275 :=
 typeName_ptr_named (nm := "errors.errorString") (by rw [OG]; kernel_rfl) (by kernel_rfl) (by decide) u (by rw [OG]; exact h)
theorem KF : Tryz.prog.cellsOf 277 = 1 := by kernel_rfl
theorem KG : Tryz.prog.cellsOf 9 = 1 := by kernel_rfl
theorem Td {W : World} (h0 : laidMetH Tryz.prog OE W) (JF : W.ShapedOpen Tryz.prog) : je W := by
 rw [MakeChecks.laidMetH_plain _ _ _ (by kernel_rfl)] at h0
 have h := h0
 refine ⟨?_, ?_, ?_, ?_, ?_⟩
 ·exact utf8Tabs_of_reads Tryz.lays260 Vq (Ta ▸ Lib.laidMet.reads h (by unfold OE; simp)) (P7 ▸ Lib.laidMet.reads h (by unfold OE; simp))
 ·obtain ⟨g, t, cs, fuel, p, hg, hty, hvar, hd⟩ := Lib.laidMet.reads (n := "internal/strconv.uint64pow10") h (by unfold OE; exact .tail _ (.tail _ (.head _)))
  have hg' : Tryz.prog.globalNamed "internal/strconv.uint64pow10" = some 1 := by kernel_rfl
  obtain rfl := Option.some.inj (hg'.symm.trans hg)
  have hty' : (Tryz.prog.globals[1]?).map (·.type) = some 253 := by kernel_rfl
  obtain rfl := Option.some.inj (hty'.symm.trans hty)
  rw [pow_eq] at hd
  have oK := cells_of_tab Tryz.underlying253 Tryz.underlying156 (by kernel_rfl) (by kernel_rfl) hd
  unfold Lib.TabIs
  rw [hvar, ← oK]
 ·obtain ⟨a, s, hv, _⟩ := laid_sentinel (g := 2) (ti := 127) (tp := 275) (te := 277) (ts := 9) h.tail.tail.tail.tail.tail (by kernel_rfl) (by kernel_rfl) Tryz.underlying127 Tc Tryz.underlying275 Tryz.underlying277 rfl rfl Tryz.underlying9 KF KG
  exact ⟨_, _, hv⟩
 ·obtain ⟨a, s, hv, _⟩ := laid_sentinel (g := 3) (ti := 127) (tp := 275) (te := 277) (ts := 9) h.tail.tail.tail.tail (by kernel_rfl) (by kernel_rfl) Tryz.underlying127 Tc Tryz.underlying275 Tryz.underlying277 rfl rfl Tryz.underlying9 KF KG
  exact ⟨_, _, hv⟩
 exact Tryz.laysM219.s1_3 W JF
end Go.Proofs.YtolaedhdjcnijaaGreatDoor
namespace Go.Proofs.YtolaedhdjcnijaaGreatDoor
open Go
def M8 (P : Program) (f : FuncId) (fn : Func) (s : ChangeSpec) (c : OpenClaim) : Bool :=
 c.wf (OpenSpec.ofChange s) && laidOutB P && mapsRowed P &&
 fn.params.all (P.readableRec ·) && namedTie P c.named s.vars &&
 (c.stops == []) && (P.stops == []) && (c.knobs == []) && (P.stopKnobs == []) &&
 (c.inPlace == P.inPlace f) && (c.unfollowed == P.unfollowed f) && (c.recurses == P.recurses f) && (c.named == P.varsNamed f)
def M9 (P : Program) (fn : Func) (s : ChangeSpec) (c : OpenClaim) : Bool :=
 (c.maps == (fn.params.toList ++ s.plain.varTypes P).any (P.mapsRec ·)) && (c.ifaces == (fn.params.toList ++ s.plain.varTypes P).any (P.ifacesRec ·)) && (c.mapsOut == P.mapsAmong fn.resultTypes.toList) &&
 (c.loops == (fn.params.toList ++ s.plain.varTypes P).any (P.loopsFrom ·)) && (c.wideKeys == (fn.params.toList ++ s.plain.varTypes P ++ fn.resultTypes.toList).any (P.wideKeysFrom ·)) &&
 s.vars.all (P.varReadable ·) && fn.resultTypes.all (fun t => P.readableRec t && decide (t < P.types.size)) && (c.ifacesOut == fn.resultTypes.toList.any (P.ifacesRec ·)) && (c.loopsOut == fn.resultTypes.toList.any (P.loopsFrom ·)) && (c.plainKeys == P.plainKeys) && c.shortTexts.isNone
def Na (P : Program) (fn : Func) (s : ChangeSpec) (c : OpenClaim) : Bool :=
 P.stopsHeard && P.mayEnter && (c.lifted == P.liftsFinal) && (P.make == some c.make) && (c.kinds == (if c.domain.isEmpty then [] else fn.params.toList.map fun t => match P.underlying t with | some (.int k) => some k | _ => none)) && (c.pinned == c.pinnedBy) &&
 (c.veiled == (fn.params.toList ++ s.plain.varTypes P ++ fn.resultTypes.toList).any (P.veiledRec ·)) && c.veiledFits P fn.params.toList (fn.params.toList ++ s.plain.varTypes P ++ fn.resultTypes.toList)
theorem P8 {P : Program} {f : FuncId} {fn : Func} {s : ChangeSpec} {c : OpenClaim} (h1 : M8 P f fn s c = true) (h2 : M9 P fn s c = true) (h3 : Na P fn s c = true) : joinedFacts P f fn s c = true := by
 simp only [M8, Bool.and_eq_true] at h1
 simp only [M9, Bool.and_eq_true] at h2
 simp only [Na, Bool.and_eq_true] at h3
 simp only [joinedFacts, Bool.and_eq_true]
 simp only [h1, h2, h3, and_self, and_true, true_and]
 exact h3.1.1.1.2
end Go.Proofs.YtolaedhdjcnijaaGreatDoor
