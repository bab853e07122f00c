/-
 The document's cells, walked: bytes as hex digits; the words of types.
-/
import Derived.Test.YtolaedhdjcnijaaGreatDoorKx11
import Derived.Test.YtolaedhdjcnijaaGreatDoorKx6
set_option linter.unusedVariables false
set_option linter.unusedSimpArgs false
namespace Go.Proofs.YtolaedhdjcnijaaGreatDoor
open Go Go.Mw Go.Lib
set_option maxRecDepth 4000
def kindW (k : Int) : List UInt8 := if k = 1 then [98, 111, 111, 108] else if k = 2 then [105, 110, 116, 51, 50] else if k = 3 then [105, 110, 116, 54, 52] else if k = 4 then [115, 116, 114, 105, 110, 103] else if k = 5 then [98, 121, 116, 101, 115] else []
section
variable {w : World}
theorem word_ok11 (k : Int) : Rets Tryz.prog 135 [I k] w fun v w' => v = str (kindW k) ∧ w = w' := by
 have H := Sep.start0 w
 refine rets1 Tryz.func135 rfl rfl rfl rfl ?_
 refine Sr (Am ?_)
 refine Qn (FW_seq (Sr (Mv ?_)))
 refine Qn (FW_block (Sr (Ve ?_)))
 refine Am ?_
 refine Qn (Cp rfl (fun hc5 => ?_) (fun hc5 => ?_))
 ·refine Sr (Am ?_)
  refine Qn (Rb (Qfn_ret (hR := ?_)))
  exact ⟨by unfold kindW; simp only [*, if_true, if_false]; rfl, rfl⟩
 refine Sr (Ve ?_)
 refine Am ?_
 refine Qn (Cp rfl (fun hc10 => ?_) (fun hc10 => ?_))
 ·refine Sr (Am ?_)
  refine Qn (Rb (Qfn_ret (hR := ?_)))
  exact ⟨by unfold kindW; simp only [*, if_true, if_false]; rfl, rfl⟩
 refine Sr (Ve ?_)
 refine Am ?_
 refine Qn (Cp rfl (fun hc15 => ?_) (fun hc15 => ?_))
 ·refine Sr (Am ?_)
  refine Qn (Rb (Qfn_ret (hR := ?_)))
  exact ⟨by unfold kindW; simp only [*, if_true, if_false]; rfl, rfl⟩
 refine Sr (Ve ?_)
 refine Am ?_
 refine Qn (Cp rfl (fun hc20 => ?_) (fun hc20 => ?_))
 ·refine Sr (Am ?_)
  refine Qn (Rb (Qfn_ret (hR := ?_)))
  exact ⟨by unfold kindW; simp only [*, if_true, if_false]; rfl, rfl⟩
 refine Sr (Ve ?_)
 refine Am ?_
 refine Qn (Cp rfl (fun hc25 => ?_) (fun hc25 => ?_))
 ·refine Sr (Am ?_)
  refine Qn (Rb (Qfn_ret (hR := ?_)))
  exact ⟨by unfold kindW; simp only [*, if_true, if_false]; rfl, rfl⟩
 refine FW_skip (Qblk_normal (Qseq_normal (Sr (Am ?_))))
 refine Qn (FW_ret (Qfn_ret (hR := ?_)))
 exact ⟨by unfold kindW; simp only [*, if_true, if_false]; rfl, rfl⟩
theorem hex_ok9 (l : List UInt8) (hl : l.length ≤ 1000000) : Rets Tryz.prog 134 [str l] w fun v w' => v = str (hexL l) ∧ Kept noB w w' := by
 have H := Sep.start0 w
 refine rets1 Tryz.func134 rfl rfl rfl rfl ?_
 refine Sr (Am ?_)
 refine Nx (Am ?_)
 refine Qn (FW_seq (Sr (Am ?_)))
 refine Qn (FW_block (FW_loop' (fun i : Nat => [(0, str l), (3, str (hexL (l.take i))), (4, I i)]) (fun i w' => i ≤ l.length ∧ Sep w noB [] w') (fun i _ => l.length - i) 0 ⟨rfl, rfl, rfl, trivial⟩ ⟨Nat.zero_le _, H⟩ (fun i τ w5 hI => ?_)))
 obtain ⟨hi, H5⟩ := hI
 try simp only [upds, like, upd_ds, und_ds]
 refine FW_seq (Sr (Mv ?_))
 refine Mv ?_
 refine Vt ?_
 refine Vl ?_
 refine Qn (Cp rfl (fun hc10 => ?_) (fun hc10 => ?_))
 ·have hlt : i < l.length := by omega
  obtain ⟨c, hc⟩ : ∃ c, c = l.getD i 0 := ⟨_, rfl⟩
  have hsu := hexL_succ hlt
  rw [← hc] at hsu
  have hcl := c.toNat_lt
  have hxl := hexL_length (l.take i)
  rw [List.length_take] at hxl
  refine Sk (FW_seq (FW_block (FW_drawS rfl H5 (h := fun hok12 w14 H14 => ?_))))
  refine Gm hok12 0 ?_
  refine Gm hok12 1 ?_
  refine Gm hok12 2 ?_
  refine Gp hok12 3 rfl rfl (fun _ => (Gives.idxD rfl rfl hlt)) ?_
  rw [← hc]
  refine Gp hok12 4 rfl rfl (fun _ => (Gives.quo8 (b := 16) rfl rfl (by omega) (by omega))) (Gm hok12 5 ?_)
  refine Gm hok12 6 ?_
  refine Gp hok12 7 rfl rfl (fun _ => (Gives.idxD rfl rfl hlt)) ?_
  rw [← hc]
  refine Gp hok12 8 rfl rfl (fun _ => (Gives.quo8 (b := 16) rfl rfl (by omega) (by omega))) (Gp hok12 9 rfl rfl (fun _ => (Gives.addW (c := ((c.toNat / 16 + 1 : Nat) : Int)) rfl rfl (by rw [wrapB (by omega)]; omega))) ?_)
  refine Gp hok12 10 rfl rfl (fun _ => (Gives.sliceBothT (l := hexS) (i := c.toNat / 16) (m := c.toNat / 16 + 1) rfl rfl rfl (by omega) (by show c.toNat / 16 + 1 ≤ 16; omega))) ?_
  rw [hex_piece (by omega)]
  refine Gp hok12 11 rfl rfl (fun _ => (Gives.catT rfl rfl (by first | omega | (simp; done) | (simp; omega)))) ?_
  refine Gm hok12 12 ?_
  refine Gm hok12 13 ?_
  refine Gp hok12 14 rfl rfl (fun _ => (Gives.idxD rfl rfl hlt)) ?_
  rw [← hc]
  refine Gp hok12 15 rfl rfl (fun _ => (Gives.remN (b := 16) rfl rfl (by omega))) (Gm hok12 16 ?_)
  refine Gm hok12 17 ?_
  refine Gp hok12 18 rfl rfl (fun _ => (Gives.idxD rfl rfl hlt)) ?_
  rw [← hc]
  refine Gp hok12 19 rfl rfl (fun _ => (Gives.remN (b := 16) rfl rfl (by omega))) (Gp hok12 20 rfl rfl (fun _ => (Gives.addW (c := ((c.toNat % 16 + 1 : Nat) : Int)) rfl rfl (by rw [wrapB (by omega)]; omega))) ?_)
  refine Gp hok12 21 rfl rfl (fun _ => (Gives.sliceBothT (l := hexS) (i := c.toNat % 16) (m := c.toNat % 16 + 1) rfl rfl rfl (by omega) (by show c.toNat % 16 + 1 ≤ 16; omega))) ?_
  rw [hex_piece (by omega)]
  refine Gp hok12 22 rfl rfl (fun _ => (Gives.catT rfl rfl (by first | omega | (simp; done) | (simp; omega)))) ?_
  refine FGset hok12 23 [] (h := ⟨Stab_nil, ?_⟩)
  refine FG_end hok12 (by kernel_rfl) ?_
  refine Qblk_normal (Qseq_normal (FW_region (Mv ?_)))
  refine Vv (Gives.addI rfl rfl rfl (by omega)) (Am ?_)
  refine FL_nil ?_
  exact Qround_normal (i + 1) ⟨rfl, by rw [hsu, ← List.singleton_append (l := [_]), ← List.append_assoc]; rfl, rfl, trivial⟩ ⟨by omega, H14⟩ (by omega)
 have hil : i = l.length := by omega
 refine FW_exit (Qseq_exit (Qround_exit (Qblk_exit (Qseq_normal (Sr (Mv ?_))))))
 refine Am ?_
 refine Qn (FW_ret (Qfn_ret (hR := ?_)))
 exact ⟨by rw [hil, List.take_length]; rfl, H5.kept⟩
end
def hexI (c : UInt8) : Int := match hexD c with | some d => d | none => -1
theorem hexD_lt {c : UInt8} {d : Nat} (h : hexD c = some d) : d < 16 := by
 have := c.toNat_lt
 unfold hexD at h
 split at h
 ·injection h with h; omega
 split at h
 ·injection h with h; omega
 cases h
theorem hexI_neg {c : UInt8} (h : hexI c < 0) : hexD c = none := by
 unfold hexI at h
 split at h
 ·omega
 assumption
theorem hexI_some {c : UInt8} (h : ¬ hexI c < 0) : ∃ d, hexD c = some d ∧ hexI c = d ∧ d < 16 := by
 unfold hexI at h ⊢
 cases e : hexD c with
 | none => rw [e] at h; simp at h
 | some d => exact ⟨d, rfl, rfl, hexD_lt e⟩
theorem hexI_lt (c : UInt8) : hexI c < 16 := by
 unfold hexI
 split
 ·rename_i d e; have := hexD_lt e; omega
 omega
theorem hexI_at {c : UInt8} {i : Nat} (h : i < 16) : ((hexS.getD i 0).toNat : Int) = c.toNat ↔ hexI c = i := by
 have k1 : ∀ i : Fin 16, hexI (hexS.getD i.val 0) = i.val := by decide
 constructor
 ·intro e
  have : hexS.getD i 0 = c := UInt8.toNat_inj.1 (by omega)
  rw [← this]; exact k1 ⟨i, h⟩
 intro e
 have h0 : ¬ hexI c < 0 := by omega
 obtain ⟨d, hd, he, hl⟩ := hexI_some h0
 have hdi : d = i := by omega
 subst hdi
 have k2 : ∀ d : Fin 16, (hexS.getD d.val 0).toNat = if d.val < 10 then 48 + d.val else 87 + d.val := by decide
 have k3 : (hexS.getD d 0).toNat = if d < 10 then 48 + d else 87 + d := k2 ⟨d, h⟩
 rw [k3]
 unfold hexD at hd
 split at hd
 ·injection hd with hd; split <;> omega
 split at hd
 ·injection hd with hd; split <;> omega
 cases hd
theorem hex_init (c : UInt8) : (if hexI c < ((0 : Nat) : Int) then hexI c else -1) = -1 := by
 split
 ·have := hexI_neg (by assumption)
  unfold hexI; rw [this]
 rfl
def outU : List UInt8 → List UInt8
 | a :: b :: t => ((hexD a).getD 0 * 16 + (hexD b).getD 0).toUInt8 :: outU t
 | [a] => [((hexD a).getD 0 * 16).toUInt8]
 | [] => []
theorem outU_even (c : UInt8) : ∀ l : List UInt8, l.length % 2 = 0 → outU (l ++ [c]) = outU l ++ [((hexD c).getD 0 * 16).toUInt8]
 | [], _ => rfl
 | [a], h => by simp at h
 | a :: b :: t, h => by
  show _ :: outU (t ++ [c]) = _
  rw [outU_even c t (by simp at h; omega)]; rfl
theorem hexG_lt (c : UInt8) : (hexD c).getD 0 < 16 := by
 cases e : hexD c with
 | none => simp
 | some d => exact hexD_lt e
theorem outU_odd (c : UInt8) : ∀ l : List UInt8, l.length % 2 = 1 → ∃ p x, outU l = p ++ [x] ∧ p.length = l.length / 2 ∧ x.toNat ≤ 240 ∧ outU (l ++ [c]) = p ++ [(x.toNat + (hexD c).getD 0).toUInt8]
 | [], h => by simp at h
 | [a], _ => by
  have ha := hexG_lt a
  refine ⟨[], ((hexD a).getD 0 * 16).toUInt8, rfl, by simp, ?_, ?_⟩
  ·simp; omega
  show [((hexD a).getD 0 * 16 + (hexD c).getD 0).toUInt8] = _
  congr 2
  simp; omega
 | a :: b :: t, h => by
  obtain ⟨p, x, h1, h2, h3, h4⟩ := outU_odd c t (by simp at h; omega)
  exact ⟨((hexD a).getD 0 * 16 + (hexD b).getD 0).toUInt8 :: p, x, by rw [outU, h1]; rfl, by simp; omega, h3, by show _ :: outU (t ++ [c]) = _; rw [h4]; rfl⟩
theorem outU_len : ∀ l : List UInt8, (outU l).length = (l.length + 1) / 2
 | [] => rfl
 | [a] => by simp [outU]
 | a :: b :: t => by rw [outU, List.length_cons, outU_len t]; simp; omega
theorem unhex_no : ∀ {l : List UInt8} {c : UInt8}, c ∈ l → hexD c = none → unhexGo l = none
 | [], _, h, _ => by simp at h
 | [a], _, _, _ => rfl
 | a :: b :: t, c, h, e => by
  rw [unhexGo]
  rcases List.mem_cons.1 h with rfl | h
  ·rw [e]
  rcases List.mem_cons.1 h with rfl | h
  ·rw [e]; cases hexD a <;> rfl
  rw [unhex_no h e]; cases hexD a <;> cases hexD b <;> rfl
theorem unhex_yes : ∀ {l : List UInt8}, l.length % 2 = 0 → (∀ c ∈ l, hexD c ≠ none) → unhexGo l = some (outU l)
 | [], _, _ => rfl
 | [a], h, _ => by simp at h
 | a :: b :: t, h, e => by
  rw [unhexGo, unhex_yes (l := t) (by simp at h; omega) (fun c hc => e c (by simp [hc]))]
  have ha := e a (by simp)
  have hb := e b (by simp)
  cases h1 : hexD a with
  | none => exact absurd h1 ha
  | some x => cases h2 : hexD b with
   | none => exact absurd h2 hb
   | some y => simp [outU, h1, h2]
theorem unhex_odd : ∀ {l : List UInt8}, l.length % 2 = 1 → unhexGo l = none
 | [], h => by simp at h
 | [a], _ => rfl
 | a :: b :: t, h => by
  rw [unhexGo, unhex_odd (l := t) (by simp at h; omega)]
  cases hexD a <;> cases hexD b <;> rfl
theorem take_snoc {l : List UInt8} {i : Nat} (h : i < l.length) : l.take (i + 1) = l.take i ++ [l.getD i 0] := by
 rw [List.take_add_one, List.getElem?_eq_getElem h]
 simp [List.getD_eq_getElem?_getD, List.getElem?_eq_getElem h]
theorem getD_mem {l : List UInt8} {i : Nat} (h : i < l.length) : l.getD i 0 ∈ l := by
 rw [List.getD_eq_getElem?_getD, List.getElem?_eq_getElem h]; exact List.getElem_mem h
section
variable {w : World}
theorem unhex_ok9 (l : List UInt8) (hl : l.length ≤ 1000000) : Rets Tryz.prog 198 [str l] w fun v w' => v = .tuple #[str ((unhexGo l).getD []), .bool (unhexGo l).isSome] ∧ Kept noB w w' := by
 have H := Sep.start0 w
 refine rets1 Tryz.func198 rfl rfl rfl rfl ?_
 refine Sr (Am ?_)
 refine Am ?_
 refine Qn (FW_seq (Sr (Mv ?_)))
 refine Vt ?_
 refine Vv (Gives.remN (b := 2) rfl rfl (by omega)) (Vn ?_)
 refine Qn (Cp rfl (fun hc7 => ?_) (fun hc7 => ?_))
 ·have hfin : unhexGo l = none := unhex_odd (by omega)
  refine Sr (Am ?_)
  refine Am ?_
  refine Qn (Rs (Qfn_ret (hR := ?_)))
  exact ⟨by rw [hfin]; rfl, H.kept⟩
 have hev : l.length % 2 = 0 := by omega
 refine Sk (Sr (Am ?_))
 refine Qn (FW_seq (Sr (Am ?_)))
 refine Qn (FW_block ?_)
 have H16 := Sep.nilBytes H 5
 refine FW_loop' (fun x : Nat × Value => [(0, str l), (4, x.2), (5, I x.1)]) (fun x w' => (x.1 ≤ l.length ∧ ∀ c ∈ l.take x.1, hexD c ≠ none) ∧ Sep w noB [bytesH 5 x.2 (outU (l.take x.1))] w') (fun x _ => l.length - x.1) (0, _) ⟨rfl, rfl, rfl, trivial⟩ ⟨⟨Nat.zero_le _, by simp⟩, H16⟩ (fun x τ w16 hI => ?_)
 obtain ⟨i, v1⟩ := x
 obtain ⟨⟨hi, hok⟩, H16⟩ := hI
 dsimp only at hi hok H16
 try simp only [upds, like, upd_ds, und_ds]
 refine FW_seq (Sr (Mv ?_))
 refine Mv ?_
 refine Vt ?_
 refine Vl ?_
 refine Qn (Cp rfl (fun hc21 => ?_) (fun hc21 => ?_))
 ·have hlt : i < l.length := by omega
  obtain ⟨c, hc⟩ : ∃ c, c = l.getD i 0 := ⟨_, rfl⟩
  have hts := take_snoc hlt
  have hme := getD_mem hlt
  rw [← hc] at hts hme
  have hol := outU_len (l.take i)
  have htl : (l.take i).length = i := by rw [List.length_take]; omega
  rw [htl] at hol
  have hcl := c.toNat_lt
  refine Sk (FW_seq (FW_block (Sr (Am ?_))))
  refine Qn (FW_seq (Sr (Am ?_)))
  refine Qn (FW_block (FW_loop' (fun k : Nat => [(0, str l), (4, v1), (5, I i), (6, I (if hexI c < (k : Int) then hexI c else -1)), (7, I k)]) (fun k w' => k ≤ 16 ∧ Sep w noB [bytesH 5 v1 (outU (l.take i))] w') (fun k _ => 16 - k) 0 ⟨rfl, rfl, rfl, by rw [hex_init]; rfl, rfl, trivial⟩ ⟨Nat.zero_le _, H16⟩ (fun k τ w26 hI => ?_)))
  obtain ⟨hk, H26⟩ := hI
  try simp only [upds, like, upd_ds]
  refine FW_seq (Sr (Mv ?_))
  refine Vl ?_
  refine Qn (Cp rfl (fun hc29 => ?_) (fun hc29 => ?_))
  ·have hk16 : k < 16 := by omega
   have hat := hexI_at (c := c) hk16
   refine Sk (FW_seq (FW_block (FW_seq (FW_drawS rfl H26 (h := fun hok31 w33 H33 => ?_)))))
   refine Gm hok31 0 ?_
   refine Gp hok31 1 rfl rfl (fun _ => (Gives.idxD (l := hexS) rfl rfl hk16)) (Gm hok31 2 ?_)
   refine Gm hok31 3 ?_
   refine Gp hok31 4 rfl rfl (fun _ => (Gives.idxD rfl rfl hlt)) ?_
   rw [← hc]
   refine Gp hok31 5 rfl rfl (fun _ => (Gives.eql rfl rfl)) (FG_end hok31 (by kernel_rfl) ?_)
   refine Qseq_normal (Cp rfl (fun hc37 => ?_) (fun hc37 => ?_))
   ·have hsame : (if hexI c < ((k + 1 : Nat) : Int) then hexI c else -1) = k := by have := hat.1 hc37; rw [if_pos (by omega)]; exact this
    refine FW_region (Mv ?_)
    refine Am ?_
    refine FL_nil (Qblk_normal (Qseq_normal (FW_region (Mv ?_))))
    refine Vv (Gives.addI rfl rfl rfl (by omega)) (Am ?_)
    refine FL_nil ?_
    exact Qround_normal (k + 1) ⟨rfl, rfl, rfl, by rw [hsame]; rfl, rfl, trivial⟩ ⟨by omega, H33⟩ (by omega)
   have hsame : (if hexI c < ((k + 1 : Nat) : Int) then hexI c else -1) = (if hexI c < (k : Int) then hexI c else -1) := by
    have : hexI c ≠ k := fun e => hc37 (hat.2 e)
    by_cases h : hexI c < k
    ·rw [if_pos h, if_pos (by omega)]
    rw [if_neg h, if_neg (by omega)]
   refine FW_skip (Qblk_normal (Qseq_normal (FW_region (Mv ?_))))
   refine Vv (Gives.addI rfl rfl rfl (by omega)) (Am ?_)
   refine FL_nil ?_
   exact Qround_normal (k + 1) ⟨rfl, rfl, rfl, by rw [hsame]; rfl, rfl, trivial⟩ ⟨by omega, H33⟩ (by omega)
  have hval : (if hexI c < (k : Int) then hexI c else -1) = hexI c := if_pos (by have := hexI_lt c; omega)
  rw [hval]
  refine FW_exit (Qseq_exit (Qround_exit (Qblk_exit (Qseq_normal (FW_seq (Sr (Mv ?_)))))))
  refine Vl ?_
  refine Qn (Cp rfl (fun hc53 => ?_) (fun hc53 => ?_))
  ·have hfin : unhexGo l = none := unhex_no hme (hexI_neg hc53)
   refine Sr (Am ?_)
   refine Am ?_
   refine Qn (Rs (Qblk_ret (Qseq_ret (Qround_ret (Qblk_ret (Qseq_ret (Qfn_ret (hR := ?_))))))))
   exact ⟨by rw [hfin]; rfl, H26.kept⟩
  obtain ⟨d, hd, hdI, hd16⟩ := hexI_some hc53
  rw [hdI]
  have hok' : ∀ c' ∈ l.take (i + 1), hexD c' ≠ none := by
   intro c' hc'
   rw [hts] at hc'
   rcases List.mem_append.1 hc' with h | h
   ·exact hok c' h
   rw [List.mem_singleton.1 h, hd]; simp
  refine Sk (Sr (Mv ?_))
  refine Vv (Gives.remN (b := 2) rfl rfl (by omega)) (Ve ?_)
  refine Qn (Cp rfl (fun hc62 => ?_) (fun hc62 => ?_))
  ·have hev2 := outU_even c (l.take i) (by rw [htl]; omega)
   rw [← hts, hd, show ((some d).getD 0 * 16).toUInt8 = (16 * (d : Int)).toNat.toUInt8 by simp only [Option.getD_some]; congr 1; omega] at hev2
   refine FW_region (Mv ?_)
   refine Mv ?_
   refine Vv (Gives.mulI rfl rfl rfl (by omega)) (Vv (Gives.convU8 (a := 16 * (d : Int)) rfl (by omega)) ?_)
   refine FL_buildSlice H26 (xs := [.tmp 37]) (out := [((16 * (d : Int)).toNat.toUInt8)].map B) (Elems.one rfl rfl Elems.nil) rfl rfl rfl (fun b w69 H69 _ => ?_)
   refine FL_appendB H69 (news := [((16 * (d : Int)).toNat.toUInt8)]) At0 (by simp; omega) (h := fun v2 w71 H71 => ?_)
   refine Am ?_
   refine FL_nil (Qblk_normal (Qseq_normal (FW_region (Mv ?_))))
   refine Vv (Gives.addI rfl rfl rfl (by omega)) (Am ?_)
   refine FL_nil ?_
   exact Qround_normal (i + 1, v2) ⟨rfl, rfl, rfl, trivial⟩ ⟨⟨by dsimp only; omega, hok'⟩, by dsimp only; rw [hev2]; exact H71⟩ (by dsimp only; omega)
  obtain ⟨p, x, hp1, hp2, hx, hp3⟩ := outU_odd c (l.take i) (by rw [htl]; omega)
  rw [← hts, hd, Option.getD_some] at hp3
  have hl2 : (p ++ [(x.toNat + d).toUInt8]).length = (p ++ [x]).length := by simp
  rw [htl] at hp2
  rw [hp1] at H26
  obtain ⟨g, cg, rest, hg2, hcg, hlg, hle, hmx, H78⟩ := Sep.rowOpen H26 At0 (by simp)
  subst hg2
  have hget : ((p ++ [x]).map B ++ rest)[i / 2]? = some (B x) := by
   rw [List.getElem?_append_left (by simp; omega), List.map_append, List.getElem?_append_right (by simp; omega)]
   simp [hp2]
  refine FW_region (Mv ?_)
  refine Mv ?_
  refine Vv (Gives.quoN (b := 2) rfl rfl (by omega) (by omega)) (Mv ?_)
  refine Mv ?_
  refine Vv (Gives.quoN (b := 2) rfl rfl (by omega) (by omega)) (Vv (Gives.idxB (i := i / 2) rfl rfl (by simp; omega)) ?_)
  refine FL_load H78 (hat := At0) (hv := hget) (h := ?_)
  refine Mv ?_
  refine Vv (Gives.convW (k := .u8) (c := (d : Int)) rfl (wrapB (by omega))) (Vv (Gives.addW (c := ((x.toNat + d).toUInt8.toNat : Int)) rfl rfl (by rw [wrapB (by omega)]; simp; omega)) ?_)
  refine Vv (Gives.idxB (i := i / 2) rfl rfl (by simp; omega)) ?_
  have hset : ((p ++ [x]).map B ++ rest).set (i / 2) (B (x.toNat + d).toUInt8) = (p ++ [(x.toNat + d).toUInt8]).map B ++ rest := by
   rw [set_front (by simp; omega), List.map_append, List.set_append_right _ _ (by simp; omega)]
   simp [hp2]
  refine FL_store H78 (hy := by exact rfl) (hat := At0) (ho := by rw [List.length_append, List.length_map]; exact Nat.ble_eq_true_of_le (by simp; omega)) (hs := hset) (h := fun w92 H92 => ?_)
  refine FL_nil (Qblk_normal (Qseq_normal (FW_region (Mv ?_))))
  refine Vv (Gives.addI rfl rfl rfl (by omega)) (Am ?_)
  refine FL_nil ?_
  exact Qround_normal (i + 1, .slice (some ⟨g, 0, none⟩) (p ++ [x]).length cg) ⟨rfl, rfl, rfl, trivial⟩ ⟨⟨by dsimp only; omega, hok'⟩, by dsimp only; rw [hp3]; unfold bytesH; rw [hl2]; refine Sep.rowShut H92 At0 ?_ ?_ hle hmx <;> simp at * <;> omega⟩ (by dsimp only; omega)
 have hil : i = l.length := by omega
 rw [hil, List.take_length] at hok H16
 have hfin : unhexGo l = some (outU l) := unhex_yes hev hok
 refine FW_exit (Qseq_exit (Qround_exit (Qblk_exit (Qseq_normal (Sr (Mv ?_))))))
 refine Vv (Gives.bytesO H16 At0 rfl) (Am ?_)
 refine Am ?_
 refine Qn (FW_ret (Qfn_ret (hR := ?_)))
 exact ⟨by rw [hfin]; rfl, H16.kept⟩
end
end Go.Proofs.YtolaedhdjcnijaaGreatDoor
namespace Go.Mw
open Go.RowKit
def adr (A : Option Addr) (o : Nat) : Value := .pointer (A.map (·.add o))
class EncK {α : Type} (enc : α → List Value) (k : outParam Nat) : Prop where
 len : ∀ x, (enc x).length = k
def Rd {α : Type} (w : World) (A : Option Addr) (enc : α → List Value) (k : Nat) (l : List α) : Prop := RowAt w A l.length k (l.flatMap enc)
section
variable {α : Type} {enc : α → List Value} {k : Nat} {l : List α} {A : Option Addr} {w w' w₀ : World}
theorem flat_get (hk : ∀ x, (enc x).length = k) : ∀ {l : List α} {i j : Nat} {c : α}, l[i]? = some c → j < k → (l.flatMap enc)[i * k + j]? = (enc c)[j]?
 | [], _, _, _, h, _ => by simp at h
 | a :: l, 0, j, c, h, hj => by
  simp only [List.getElem?_cons_zero, Option.some.injEq] at h
  subst h
  rw [List.flatMap_cons, Nat.zero_mul, Nat.zero_add, List.getElem?_append_left (by rw [hk]; exact hj)]
 | a :: l, i + 1, j, c, h, hj => by
  simp only [List.getElem?_cons_succ] at h
  rw [List.flatMap_cons, List.getElem?_append_right (by rw [hk, Nat.succ_mul]; omega), hk, Nat.succ_mul]
  rw [show i * k + k + j - k = i * k + j by omega]
  exact flat_get hk h hj
theorem flat_len (hk : ∀ x, (enc x).length = k) : ∀ l : List α, (l.flatMap enc).length = l.length * k
 | [] => by simp
 | a :: l => by rw [List.flatMap_cons, List.length_append, hk, flat_len hk l, List.length_cons, Nat.succ_mul]; omega
theorem Rd.keep (h : Rd w A enc k l) (hk : Kept noB w w') : Rd w' A enc k l := RowAt.keep h hk
theorem Rd.addr (h : Rd w A enc k l) (hn : 0 < l.length) : ∃ ad, A = some ad := by
 obtain ⟨ad, h1, _⟩ := h.at_ hn
 exact ⟨ad, h1⟩
theorem get_lt {i : Nat} {c : α} (h : l[i]? = some c) : i < l.length := (List.getElem?_eq_some_iff.1 h).1
theorem Rd.cell [hk : EncK enc k] {i f : Nat} {c : α} {v : Value} (h : Rd w A enc k l) (hg : l[i]? = some c) (hv : (enc c)[f]? = some v) : ∃ ad, A = some ad ∧ w.cell? (ad.add (i * k + f)) = some v := by
 have hl := get_lt hg
 obtain ⟨ad, h1, h2⟩ := h.at_ (by omega)
 refine ⟨ad, h1, h2 _ _ ?_⟩
 rw [flat_get hk.len hg (by rw [← hk.len c]; exact get_lt hv)]
 exact hv
end
section
variable {P : Program} {ρ : Operand → Value} {ty : TypeId} {w w₀ : World} {x y : Operand} {α : Type} {enc : α → List Value} {k : Nat} {l : List α} {A : Option Addr} {rs : List HP}
theorem Gives.idxR {t e : TypeId} [ht : IsSlice P t e] {bytes : Nat} [hc : Cells P e k bytes] {c i : Nat} {j : IntKind} (hx : ρ x = .slice A l.length c) (hy : ρ y = .int j i) (hr : Rd w₀ A enc k l) (hlt : i < l.length) : Gives P ρ (.indexAddr t x y) ty w (adr A (i * k)) w := by
 obtain ⟨ad, rfl⟩ := hr.addr (by omega)
 exact Gives.idx hx hy hlt
theorem Gives.fieldR {s f g o : Nat} [h : FieldAt P s f g] (hx : ρ x = adr A o) (hr : Rd w₀ A enc k l) (hlt : 0 < l.length) : Gives P ρ (.fieldAddr s x f) ty w (adr A (o + g)) w := by
 obtain ⟨ad, rfl⟩ := hr.addr hlt
 exact Gives.fieldA hx
theorem Gives.loadE [hk : EncK enc k] {i f : Nat} {c : α} {v : Value} {T : TypeId} [OneCell P T] (hx : ρ x = adr A (i * k + f)) (H : Sep w₀ noB rs w) (hr : Rd w₀ A enc k l) (hg : l[i]? = some c) (hv : (enc c)[f]? = some v) : Gives P ρ (.load T x) ty w v w := by
 obtain ⟨ad, rfl, h2⟩ := (hr.keep H.kept).cell hg hv
 exact Gives.loadC hx h2
theorem Gives.loadE1 [hk : EncK enc k] {i : Nat} {c : α} {v : Value} {T : TypeId} [OneCell P T] (hx : ρ x = adr A (i * k)) (H : Sep w₀ noB rs w) (hr : Rd w₀ A enc k l) (hg : l[i]? = some c) (hv : (enc c)[0]? = some v) : Gives P ρ (.load T x) ty w v w :=
 Gives.loadE (f := 0) hx H hr hg hv
theorem Gives.loadEN [hk : EncK enc k] {i f n : Nat} {c : α} {us : List Value} {T : TypeId} [Agg P T n] (hx : ρ x = adr A (i * k + f)) (H : Sep w₀ noB rs w) (hr : Rd w₀ A enc k l) (hg : l[i]? = some c) (hu : ((enc c).drop f).take n = us) (hn : us.length = n) : Gives P ρ (.load T x) ty w (.agg us.toArray) w := by
 obtain ⟨ad, h1⟩ := hr.addr (by have := get_lt hg; omega)
 subst h1
 refine Gives.loadCN (a := ad.add (i * k + f)) hx (fun j u hj => ?_) hn
 have hv : (enc c)[f + j]? = some u := by
  rw [← hu, List.getElem?_take] at hj
  split at hj
  ·rw [List.getElem?_drop] at hj; exact hj
  cases hj
 obtain ⟨ad', h1, h2⟩ := (hr.keep H.kept).cell hg hv
 injection h1 with h1
 subst h1
 rw [add_add, Nat.add_assoc]; exact h2
theorem Gives.loadE0 [hk : EncK enc k] {i : Nat} {c : α} {T : TypeId} [Agg P T k] (hx : ρ x = adr A (i * k)) (H : Sep w₀ noB rs w) (hr : Rd w₀ A enc k l) (hg : l[i]? = some c) : Gives P ρ (.load T x) ty w (.agg (enc c).toArray) w :=
 Gives.loadEN (f := 0) hx H hr hg (by rw [List.drop_zero, ← hk.len c, List.take_length]) (hk.len c)
end
section
variable {P : Program} {w w₀ : World} {S : Nat → Prop} {rs : List HP} {put : HP → List HP} {σ : St} {R : Value → World → Prop} {us : List Value} {a b k E : Nat} {T : TypeId}
theorem resC1 [Agg P T k] (H : Sep w₀ S rs w) (hx : σ a = .pointer (some ⟨b, 0, none⟩) := by exact rfl) (hat : At rs (blk b us E) put := by first | exact At0 | exact At1 | exact At2 | exact At3 | exact At4 | exact At5 | exact At6 | exact At7 | exact At8 | exact At9) (hk : us.length = k := by exact rfl) :
    ResAll P σ w [.cell a T] [.agg us.toArray] :=
  ⟨_, _, _, rfl, hx, loadVar_blkN (k := k) (H.obj hat) (us := us) (by rw [List.drop_zero, ← hk, List.take_length]) hk, rfl⟩
theorem resC2 [Agg P T k] {t : Nat} {v : Value} (H : Sep w₀ S rs w) (hx : σ a = .pointer (some ⟨b, 0, none⟩) := by exact rfl) (hat : At rs (blk b us E) put := by first | exact At0 | exact At1 | exact At2 | exact At3 | exact At4 | exact At5 | exact At6 | exact At7 | exact At8 | exact At9) (hk : us.length = k := by exact rfl) (hv : σ t = v := by exact rfl) :
    ResAll P σ w [.cell a T, .tmp t] [.agg us.toArray, v] :=
  ⟨_, _, _, rfl, hx, loadVar_blkN (k := k) (H.obj hat) (us := us) (by rw [List.drop_zero, ← hk, List.take_length]) hk, _, by subst hv; rfl, rfl⟩
end
end Go.Mw
namespace Go.Proofs.YtolaedhdjcnijaaGreatDoor
open Go Go.Mw
instance : EncK typeCells 2 := ⟨fun _ => rfl⟩
instance : EncK cellCells 3 := ⟨fun _ => rfl⟩
instance : EncK stepCells 3 := ⟨fun _ => rfl⟩
instance : EncK colCells 7 := ⟨fun _ => rfl⟩
def RowIn {α : Type} (w : World) (v : Value) (enc : α → List Value) (k : Nat) (l : List α) : Prop := ∃ A c, v = .slice A l.length c ∧ (l.length ≤ c ∧ c ≤ 9223372036854775807) ∧ Rd w A enc k l
theorem RowIn.keep {α : Type} {w w' : World} {v : Value} {enc : α → List Value} {k : Nat} {l : List α} (h : RowIn w v enc k l) (hk : Kept noB w w') : RowIn w' v enc k l := by
 obtain ⟨A, c, h1, h2, h3⟩ := h
 exact ⟨A, c, h1, h2, h3.keep hk⟩
end Go.Proofs.YtolaedhdjcnijaaGreatDoor
namespace Go.Proofs.YtolaedhdjcnijaaGreatDoor
open Go Go.Mw Go.Lib
set_option maxRecDepth 4000
theorem get_some {α : Type} {l : List α} {i : Nat} (h : i < l.length) : ∃ c, l[i]? = some c := ⟨l[i], List.getElem?_eq_getElem h⟩
attribute [local irreducible] checkC
section
variable {w : World}
end
section
variable {w : World}
theorem mayS_ok22 (x : StepM) : Rets Tryz.prog 85 [agg (stepCells x)] w fun v w' => v = .bool (mayS x) ∧ Kept noB w w' := by
 have H := Sep.start0 w
 refine rets1 Tryz.func85 rfl rfl rfl rfl ?_
 refine Sr (FL_box H (h := fun b1 w2 H2 k1 => ?_))
 refine Am ?_
 refine Qn (FW_seq (Sr (Vf ?_)))
 refine Ld H2 ?_
 refine Qn (FW_block (Sr (Ve ?_)))
 refine Am ?_
 refine Qn (Cp rfl (fun hc8 => ?_) (fun hc8 => ?_))
 ·refine Sr (Vf ?_)
  refine Ld H2 ?_
  refine Vv (Gives.eqlT rfl rfl) (Mv ?_)
  refine FL_splitP (t := 10) rfl (fun hs13 => ?_) (fun hs13 => ?_)
  ·refine On (Vf ?_)
   refine On (Ld H2 ?_)
   refine On (Vv (Gives.geq rfl rfl) (Pt ?_))
   refine Mv ?_
   refine FL_splitP (t := 15) rfl (fun hs19 => ?_) (fun hs19 => ?_)
   ·refine On (Vf ?_)
    refine On (Ld H2 ?_)
    refine On (Vv (Gives.leq rfl rfl) (Pt ?_))
    refine Am ?_
    refine Qn (Rb (Qfn_ret (hR := ?_)))
    exact ⟨boolE (by first | (unfold mayS; simp_all; done) | (simp_all; done) | (unfold mayS; simp_all; omega)), H2.kept⟩
   refine Of (Of (Of (Pf ?_)))
   refine Am ?_
   refine Qn (Rb (Qfn_ret (hR := ?_)))
   exact ⟨boolE (by first | (unfold mayS; simp_all; done) | (simp_all; done) | (unfold mayS; simp_all; omega)), H2.kept⟩
  refine Of (Of (Of (Pf ?_)))
  refine Mv ?_
  refine Of (Of (Of (Pf ?_)))
  refine Am ?_
  refine Qn (Rb (Qfn_ret (hR := ?_)))
  exact ⟨boolE (by first | (unfold mayS; simp_all; done) | (simp_all; done) | (unfold mayS; simp_all; omega)), H2.kept⟩
 refine Sr (Ve ?_)
 refine Am ?_
 refine Qn (Cp rfl (fun hc36 => ?_) (fun hc36 => ?_))
 ·refine Sr (Vf ?_)
  refine Ld H2 ?_
  refine Vv (Gives.eqlT rfl rfl) (Am ?_)
  refine Qn (Rb (Qfn_ret (hR := ?_)))
  exact ⟨boolE (by first | (unfold mayS; simp_all; done) | (simp_all; done) | (unfold mayS; simp_all; omega)), H2.kept⟩
 refine Sr (Ve ?_)
 refine Am ?_
 refine Qn (Cp rfl (fun hc44 => ?_) (fun hc44 => ?_))
 ·refine Sr (Vf ?_)
  refine Ld H2 ?_
  refine Vv (Gives.eqlT rfl rfl) (Mv ?_)
  refine FL_splitP (t := 30) rfl (fun hs49 => ?_) (fun hs49 => ?_)
  ·refine On (Vf ?_)
   refine On (Ld H2 ?_)
   refine On (Vv (Gives.geq rfl rfl) (Pt ?_))
   refine Mv ?_
   refine FL_splitP (t := 35) rfl (fun hs55 => ?_) (fun hs55 => ?_)
   ·refine On (Vf ?_)
    refine On (Ld H2 ?_)
    refine On (Vv (Gives.leq rfl rfl) (Pt ?_))
    refine Am ?_
    refine Qn (Rb (Qfn_ret (hR := ?_)))
    exact ⟨boolE (by first | (unfold mayS; simp_all; done) | (simp_all; done) | (unfold mayS; simp_all; omega)), H2.kept⟩
   refine Of (Of (Of (Pf ?_)))
   refine Am ?_
   refine Qn (Rb (Qfn_ret (hR := ?_)))
   exact ⟨boolE (by first | (unfold mayS; simp_all; done) | (simp_all; done) | (unfold mayS; simp_all; omega)), H2.kept⟩
  refine Of (Of (Of (Pf ?_)))
  refine Mv ?_
  refine Of (Of (Of (Pf ?_)))
  refine Am ?_
  refine Qn (Rb (Qfn_ret (hR := ?_)))
  exact ⟨boolE (by first | (unfold mayS; simp_all; done) | (simp_all; done) | (unfold mayS; simp_all; omega)), H2.kept⟩
 refine Sr (Ve ?_)
 refine Am ?_
 refine Qn (Cp rfl (fun hc72 => ?_) (fun hc72 => ?_))
 ·refine Sr (Vf ?_)
  refine Ld H2 ?_
  refine Ve ?_
  refine Mv ?_
  refine FL_splitP (t := 45) rfl (fun hs77 => ?_) (fun hs77 => ?_)
  ·refine On (Vf ?_)
   refine On (Ld H2 ?_)
   refine On (Vt ?_)
   refine On (Vv (Gives.leq rfl rfl) (Pt ?_))
   refine Mv ?_
   refine FL_splitP (t := 51) rfl (fun hs84 => ?_) (fun hs84 => ?_)
   ·refine On (Vf ?_)
    refine On (Ld H2 ?_)
    refine On (FL_callQ H2 (valid_ok4 x.s (by omega)) (h := fun w88 H88 _ => ?_))
    refine Pt ?_
    refine Am ?_
    refine Qn (Rb (Qfn_ret (hR := ?_)))
    exact ⟨boolE (by first | (unfold mayS; simp_all; done) | (simp_all; done) | (unfold mayS; simp_all; omega)), H88.kept⟩
   refine Of (Of (Of (Pf ?_)))
   refine Am ?_
   refine Qn (Rb (Qfn_ret (hR := ?_)))
   exact ⟨boolE (by first | (unfold mayS; simp_all; done) | (simp_all; done) | (unfold mayS; simp_all; omega)), H2.kept⟩
  refine Of (Of (Of (Of (Pf ?_))))
  refine Mv ?_
  refine Of (Of (Of (Pf ?_)))
  refine Am ?_
  refine Qn (Rb (Qfn_ret (hR := ?_)))
  exact ⟨boolE (by first | (unfold mayS; simp_all; done) | (simp_all; done) | (unfold mayS; simp_all; omega)), H2.kept⟩
 refine Sr (Ve ?_)
 refine Am ?_
 refine Qn (Cp rfl (fun hc102 => ?_) (fun hc102 => ?_))
 ·refine Sr (Vf ?_)
  refine Ld H2 ?_
  refine Ve ?_
  refine Mv ?_
  refine FL_splitP (t := 61) rfl (fun hs107 => ?_) (fun hs107 => ?_)
  ·refine On (Vf ?_)
   refine On (Ld H2 ?_)
   refine On (Vt ?_)
   refine On (Vv (Gives.leq rfl rfl) (Pt ?_))
   refine Am ?_
   refine Qn (Rb (Qfn_ret (hR := ?_)))
   exact ⟨boolE (by first | (unfold mayS; simp_all; done) | (simp_all; done) | (unfold mayS; simp_all; omega)), H2.kept⟩
  refine Of (Of (Of (Of (Pf ?_))))
  refine Am ?_
  refine Qn (Rb (Qfn_ret (hR := ?_)))
  exact ⟨boolE (by first | (unfold mayS; simp_all; done) | (simp_all; done) | (unfold mayS; simp_all; omega)), H2.kept⟩
 refine Sr (Ve ?_)
 refine Am ?_
 refine Qn (Cp rfl (fun hc120 => ?_) (fun hc120 => ?_))
 ·refine Sr (Vf ?_)
  refine Ld H2 ?_
  refine Vv (Gives.eqlT rfl rfl) (Mv ?_)
  refine FL_splitP (t := 72) rfl (fun hs125 => ?_) (fun hs125 => ?_)
  ·refine On (Vf ?_)
   refine On (Ld H2 ?_)
   refine On (Ve ?_)
   refine On (Mv ?_)
   refine FL_splitP (t := 76) rfl (fun hs130 => ?_) (fun hs130 => ?_)
   ·refine Of (Of (Of (Of (Ou (Ou (Ou (Of (On (Pt ?_)))))))))
    refine Pt ?_
    refine Am ?_
    refine Qn (Rb (Qfn_ret (hR := ?_)))
    exact ⟨boolE (by first | (unfold mayS; simp_all; done) | (simp_all; done) | (unfold mayS; simp_all; omega)), H2.kept⟩
   refine On (Vf ?_)
   refine On (Ld H2 ?_)
   refine On (Vv (Gives.geq rfl rfl) (On ?_))
   refine Mv ?_
   refine FL_splitP (t := 80) rfl (fun hs139 => ?_) (fun hs139 => ?_)
   ·refine On (Vf ?_)
    refine On (Ld H2 ?_)
    refine On (Vv (Gives.leq rfl rfl) (On ?_))
    refine Pt ?_
    refine On (Pf ?_)
    refine Pt ?_
    refine Am ?_
    refine Qn (Rb (Qfn_ret (hR := ?_)))
    exact ⟨boolE (by first | (unfold mayS; simp_all; done) | (simp_all; done) | (unfold mayS; simp_all; omega)), H2.kept⟩
   refine Of (Of (Of (On (Pf ?_))))
   refine On (Pf ?_)
   refine Pt ?_
   refine Am ?_
   refine Qn (Rb (Qfn_ret (hR := ?_)))
   exact ⟨boolE (by first | (unfold mayS; simp_all; done) | (simp_all; done) | (unfold mayS; simp_all; omega)), H2.kept⟩
  refine Of (Of (Of (Of (Ou (Ou (Ou (Ou (Ou (Ou (Ou (Ou (Of (Pf ?_)))))))))))))
  refine Am ?_
  refine Qn (Rb (Qfn_ret (hR := ?_)))
  exact ⟨boolE (by first | (unfold mayS; simp_all; done) | (simp_all; done) | (unfold mayS; simp_all; omega)), H2.kept⟩
 refine FW_skip (Qblk_normal (Qseq_normal (Sr (Vf ?_))))
 refine Ld H2 ?_
 refine Vv (Gives.geq rfl rfl) (Mv ?_)
 refine FL_splitP (t := 90) rfl (fun hs160 => ?_) (fun hs160 => ?_)
 ·refine On (Vf ?_)
  refine On (Ld H2 ?_)
  refine On (Vv (Gives.leq rfl rfl) (Pt ?_))
  refine Mv ?_
  refine FL_splitP (t := 95) rfl (fun hs166 => ?_) (fun hs166 => ?_)
  ·refine On (Vf ?_)
   refine On (Ld H2 ?_)
   refine On (Ve ?_)
   refine Pt ?_
   refine Mv ?_
   refine FL_splitP (t := 100) rfl (fun hs172 => ?_) (fun hs172 => ?_)
   ·refine On (Vf ?_)
    refine On (Ld H2 ?_)
    refine On (Vv (Gives.eqlT rfl rfl) (Pt ?_))
    refine Am ?_
    refine Qn (FW_ret (Qfn_ret (hR := ?_)))
    exact ⟨boolE (by first | (unfold mayS; simp_all; done) | (simp_all; done) | (unfold mayS; simp_all; omega)), H2.kept⟩
   refine Of (Of (Of (Pf ?_)))
   refine Am ?_
   refine Qn (FW_ret (Qfn_ret (hR := ?_)))
   exact ⟨boolE (by first | (unfold mayS; simp_all; done) | (simp_all; done) | (unfold mayS; simp_all; omega)), H2.kept⟩
  refine Of (Of (Of (Pf ?_)))
  refine Mv ?_
  refine Of (Of (Of (Pf ?_)))
  refine Am ?_
  refine Qn (FW_ret (Qfn_ret (hR := ?_)))
  exact ⟨boolE (by first | (unfold mayS; simp_all; done) | (simp_all; done) | (unfold mayS; simp_all; omega)), H2.kept⟩
 refine Of (Of (Of (Pf ?_)))
 refine Mv ?_
 refine Of (Of (Of (Pf ?_)))
 refine Mv ?_
 refine Of (Of (Of (Pf ?_)))
 refine Am ?_
 refine Qn (FW_ret (Qfn_ret (hR := ?_)))
 exact ⟨boolE (by first | (unfold mayS; simp_all; done) | (simp_all; done) | (unfold mayS; simp_all; omega)), H2.kept⟩
end
theorem find_lt {cols : List ColM} {n : Int} {i : Nat} (h : findC cols n = some i) : i < cols.length := by
 unfold findC at h
 rw [List.findIdx?_eq_some_iff_getElem] at h
 exact h.1
section
variable {w : World}
end
attribute [local irreducible] mayT
section
variable {w : World}
end
section
variable {w : World}
end
end Go.Proofs.YtolaedhdjcnijaaGreatDoor
namespace Go.Mw
open Go.RowKit
section
variable {P : Program} {r : Option Nat} {n : Nat} {ops : Array Oper} {Q : Post} {lv : List Bool} {pd : List (Nat × Bool)} {σ : St} {w : World}
def effectIn (ops : Array Oper) (lv : List Bool) (ids : List Nat) (e : Nat) : Bool :=
 (readyL ops lv).contains e &&
 ids.all fun k => (preds ops e).contains k || ((match dstOf ops e with | some d => dstOf ops k != some d && !(looks ops k).contains d | none => true) &&
  (match dstOf ops k with | some d => !(looks ops e).contains d | none => true))
def EffStep (P : Program) (r : Option Nat) (n : Nat) (ops : Array Oper) (Q : Post) (lv : List Bool) (pd : List (Nat × Bool)) (σ : St) (w : World) (e : Nat) : Prop :=
 ∀ sub lr a, Real P n ops lv pd σ w sub lr a → (∀ k ∈ preds ops e, lr.getD k false = true) → wpOpIn (fen r) 0 P ops (lift n Q) e (wpAnyIn (fen r) 0 P .any ops (lift n Q) (left ops (lr.setIfInBounds e true)) (lr.setIfInBounds e true)) a w
theorem FG_two (hok : okOps n ops = true) {e1 e2 : Nat} (hre : (readyL ops lv == [e1, e2]) = true) (h1 : EffStep P r n ops Q lv pd σ w e1) (h2 : EffStep P r n ops Q lv pd σ w e2) : FG P r n ops Q lv pd σ w := by
 have hre' : readyL ops lv = [e1, e2] := by simpa using hre
 refine FG_core hok (fun h0 => by rw [h0] at hre'; cases hre') fun e he sub lr a hr hpre => ?_
 rw [hre'] at he
 rcases List.mem_cons.1 he with rfl | he
 ·exact h1 sub lr a hr hpre
 rw [List.mem_singleton] at he
 subst he
 exact h2 sub lr a hr hpre
theorem eff_step (hok : okOps n ops = true) {e' : Nat} {o : Oper} (ho : ops[e']? = some o) (hck : effectIn ops lv (pd.map (·.1)) e' = true) (hw : Region.wanted o (yieldF ops σ) = true) (pd' : List (Nat × Bool)) (hpd : pd.filter (fun p => !((above ops e').contains p.1)) = pd')
    (h : EffK P σ w o fun σ' w' => Stab P ops σ' w' pd' ∧ FG P r n ops Q (lv.set e' true) pd' σ' w') : EffStep P r n ops Q lv pd σ w e' := by
  unfold effectIn at hck
  simp only [Bool.and_eq_true, List.all_eq_true] at hck
  obtain ⟨hmr0, hids⟩ := hck
  have hmr : e' ∈ readyL ops lv := List.contains_iff_mem.1 hmr0
  intro sub lr a hr hpre
  have hlt := (Array.getElem?_eq_some_iff.1 ho).1
  have hdo := dstOf_eq ho
  obtain ⟨hod, hopl⟩ := okOps_at hok ho
  have hrd := readyL_iff.1 hmr
  have h0' := getDL_false hrd.1
  obtain ⟨σr, hrep, hds, hσ⟩ := hr.rep
  have hnp : ∀ p ∈ sub, p.1 ∉ preds ops e' := fun p hp hm => by have := hpre _ hm; rw [hr.sub_not hp] at this; cases this
  have hids' : ∀ p ∈ sub, (∀ d, o.dst = some d → dstOf ops p.1 ≠ some d ∧ d ∉ looks ops p.1) ∧ ∀ d, dstOf ops p.1 = some d → d ∉ looks ops e' := fun p hp => by
    have := hids p.1 (List.mem_map.2 ⟨p, hr.mem p hp, rfl⟩)
    rw [Bool.or_eq_true] at this
    rcases this with h1 | h1
    · exact absurd (List.contains_iff_mem.1 h1) (hnp p hp)
    rw [Bool.and_eq_true, hdo] at h1
    refine ⟨fun d hd => ?_, fun d hd => ?_⟩
    · have h2 := h1.1
      rw [hd] at h2
      simpa using h2
    have h2 := h1.2
    rw [hd] at h2
    simpa using h2
  have hlook : ∀ x ∈ looks ops e', σr x = σ x := fun x hx => hσ x fun p hp hd => (hids' p hp).2 x hd hx
  have hnext : ∀ (v : Value) (w' : World) (a' : Act), Rep n (updO σr o.dst v) a' → Stab P ops (updO σ o.dst v) w' pd' → Real P n ops (lv.set e' true) pd' (updO σ o.dst v) w' sub (lr.setIfInBounds e' true) a' := by
    intro v w' a' ha' hst
    have hmem : ∀ p ∈ sub, p ∈ pd' := fun p hp => by
      rw [← hpd, List.mem_filter]
      refine ⟨hr.mem p hp, ?_⟩
      cases hc : (above ops e').contains p.1
      · rfl
      have := above_listed hr hpre p.1 (List.contains_iff_mem.1 hc)
      rw [hr.sub_not hp] at this; cases this
    refine ⟨hmem, hr.nd, hr.pw, fun p hp k hk => ⟨getDL_set (hr.pr p hp k hk).1, (hr.pr p hp k hk).2⟩, fun p hp => getDL_set (hr.lvl p hp), fun k hk => ?_, by simpa using hr.sz, by simpa using hr.lsz, fun k hk j hj => ?_, ⟨_, ha', by simpa [updO_ds] using hds, fun x hx => ?_⟩,
      fun p hp => ?_, hr.own, hr.apart⟩
    · by_cases hke : e' = k
      · subst hke
        have h1 : (lr.setIfInBounds e' true).getD e' true = true := by
          simp [Array.getD_eq_getD_getElem?, Array.getElem?_setIfInBounds]
          split <;> rfl
        rw [h1, getDL_set_same _ (by rw [hr.lsz]; exact hlt)]
        cases hc : (sub.map (·.1)).contains e'
        · rfl
        obtain ⟨p, hp, e1⟩ := List.mem_map.1 (List.contains_iff_mem.1 hc)
        have := hr.lvl p hp
        rw [e1, h0'] at this; cases this
      rw [getD_set_ne true hke, getDL_set_ne hke, hr.lrv k hk]
    · by_cases hke : e' = k
      · subst hke; exact getD_set_true (hpre j hj)
      rw [getD_set_ne false hke] at hk; exact getD_set_true (hr.cl k hk j hj)
    · by_cases hd : o.dst = some x
      · rw [hd]; show upd σr x v x = upd σ x v x; rw [upd_same, upd_same]
      rw [updO_other hd, updO_other hd]; exact hσ x hx
    cases hf : p.2 with
    | false =>
      obtain ⟨o', v', ho', hv', hy'⟩ := hst.get p (hmem p hp) hf
      refine ⟨o', v', ho', hv', fun w'' hw'' => ?_⟩
      rcases hw'' with hw'' | hw''
      · cases hw''
      rw [hw'']; exact hy'
    | true =>
      obtain ⟨o', v', ho', hv', hy'⟩ := hr.yl p hp
      refine ⟨o', v', ho', fun d hd => ?_, fun w'' _ => (hy' w'' (.inl hf)).congr ho' (okOps_at hok ho').2 fun x hx => (updO_other fun e1 => ((hids' p hp).1 x e1).2 hx).symm⟩
      rw [updO_other (fun e1 => ((hids' p hp).1 d e1).1 (by rw [dstOf_eq ho', hd]))]; exact hv' d hd
  unfold wpOpIn
  simp only [ho]
  have hww : Region.wanted o (yielded ops a.tmps) = true := by
    rw [hrep.yielded ops (okOps_dst hok), wanted_congr ho hlook]; exact hw
  rw [if_pos hww]
  refine ⟨fun _ _ => trivial, ?_⟩
  unfold EffK at h
  have hsem : (o.semAt (fen r).round a.eval) = execOp (evF σ) o := by
    rw [Oper.semAt_eq _ _ _ fun c hc => ?_, hrep.eval, exec_congr ho hopl hlook]
    have hne : ∀ x w', (execOp (evF σ) o).run P w = .ok x w' → ∃ d, x = .defer d := fun x w' hx => by
      unfold execOp at hx
      rw [hc] at hx
      simp only [Sem.run_bind] at hx
      cases hr : (resolve (evF σ) c o.type).run P w <;> rw [hr] at hx <;> simp [Result.andThen] at hx
      exact ⟨_, hx.1.symm⟩
    cases hx : (execOp (evF σ) o).run P w with
    | halt x w' => rw [hx] at h; exact h
    | ok x w' =>
      obtain ⟨d, rfl⟩ := hne x w' hx
      rw [hx] at h; exact h
  rw [hsem]
  generalize (execOp (evF σ) o).run P w = res at h ⊢
  cases res with
  | halt x w' => exact h.elim
  | ok nx w' =>
    cases nx with
    | value v => exact h.2 _ _ _ (hnext v w' _ (hrep.putO hod v) h.1)
    | skip => exact h.2 _ _ _ (hnext undef w' _ (hrep.putO hod undef) h.1)
    | enter f args =>
      refine ⟨(fun h => by cases h), fen_calls r (Calls.mono h fun en w'' hen => ?_)⟩
      cases en with
      | returned v => exact hen.2 _ _ _ (hnext v w'' _ (hrep.putO hod v) hen.1)
      | _ => exact hen.elim
    | _ => exact h.elim

theorem step_call (hok : okOps n ops = true) (e : Nat) (pd' : List (Nat × Bool)) {dst : Option Nat} {f : FuncId} {xs : List Operand} {ats : Array TypeId} {vals : List Value} {R : Value → World → Prop} {ty : TypeId} {pos : String} {after : Array Edge} {guard : Option (Nat × Bool)} [he : Enters P f]
    (ho : ops[e]? = some { dst := dst, op := .call { callee := .value (.func f), args := xs.toArray, argTypes := ats }, type := ty, pos := pos, after := after, guard := guard })
    (hw : Region.wanted { dst := dst, op := .call { callee := .value (.func f), args := xs.toArray, argTypes := ats }, type := ty, pos := pos, after := after, guard := guard } (yieldF ops σ) = true) (hc : Rets P f vals w R) (hv : xs.map (evF σ) = vals) (hck : effectIn ops lv (pd.map (·.1)) e = true)
    (hpd : pd.filter (fun p => !((above ops e).contains p.1)) = pd') (h : ∀ v w', R v w' → Stab P ops (updO σ dst v) w' pd' ∧ FG P r n ops Q (lv.set e true) pd' (updO σ dst v) w') : EffStep P r n ops Q lv pd σ w e := by
  refine eff_step hok ho hck hw pd' hpd ?_
  unfold EffK
  have e1 : execOp (evF σ) { dst := dst, op := .call { callee := .value (.func f), args := xs.toArray, argTypes := ats }, type := ty, pos := pos, after := after, guard := guard } = callFunc f (#[] ++ xs.toArray.map (evF σ) ++ #[]) := rfl
  have e2 : (#[] ++ xs.toArray.map (evF σ) ++ #[] : Array Value) = vals.toArray := by simp [hv]
  rw [e1, he.run, e2]
  refine Calls.mono hc fun en w'' hr => ?_
  cases en with
  | returned v => exact h v w'' hr
  | _ => exact hr.elim
theorem step_val (hok : okOps n ops = true) (e : Nat) (pd' : List (Nat × Bool)) {d : Nat} {op : Op} {ty : TypeId} {pos : String} {after : Array Edge} {guard : Option (Nat × Bool)} {C : Value → World → Prop} (ho : ops[e]? = some { dst := some d, op := op, type := ty, pos := pos, after := after, guard := guard })
    (hw : Region.wanted { dst := some d, op := op, type := ty, pos := pos, after := after, guard := guard } (yieldF ops σ) = true) (hg : ∃ v w', Gives P (evF σ) op ty w v w' ∧ C v w') (hck : effectIn ops lv (pd.map (·.1)) e = true)
    (hpd : pd.filter (fun p => !((above ops e).contains p.1)) = pd') (h : ∀ v w', C v w' → Stab P ops (upd σ d v) w' pd' ∧ FG P r n ops Q (lv.set e true) pd' (upd σ d v) w') : EffStep P r n ops Q lv pd σ w e := by
  obtain ⟨v, w', hg, hC⟩ := hg
  refine eff_step hok ho hck hw pd' hpd ?_
  unfold EffK
  rw [hg]
  exact h v w' hC
theorem step_alloc {w₀ : World} {S : Nat → Prop} {rs : List HP} (hok : okOps n ops = true) (i : Nat) (pd' : List (Nat × Bool)) {d : Nat} {T : TypeId} {ty : TypeId} {pos : String} {after : Array Edge} {guard : Option (Nat × Bool)} {z : Value} [hz : Zero P T z] {cs : List Value} (H : Sep w₀ S rs w) (ho : ops[i]? = some { dst := some d, op := .alloc T, type := ty, pos := pos, after := after, guard := guard } := by exact rfl)
    (hw : Region.wanted { dst := some d, op := .alloc T, type := ty, pos := pos, after := after, guard := guard } (yieldF ops σ) = true := by kernel_rfl) (hcs : z.cells = cs.toArray := by exact rfl)
    (hck : effectIn ops lv (pd.map (·.1)) i = true := by kernel_rfl) (hpd : pd.filter (fun p => !((above ops i).contains p.1)) = pd' := by kernel_rfl)
    (h : ∀ b w', Sep w₀ S (blk b cs T :: rs) w' → Stab P ops (upd σ d (.pointer (some ⟨b, 0, none⟩))) w' pd' ∧ FG P r n ops Q (lv.set i true) pd' (upd σ d (.pointer (some ⟨b, 0, none⟩))) w') : EffStep P r n ops Q lv pd σ w i :=
  step_val (C := fun v w' => ∃ b, v = .pointer (some ⟨b, 0, none⟩) ∧ Sep w₀ S (blk b cs T :: rs) w') hok i pd' ho hw
    ⟨.pointer (some ⟨w.heap.size, 0, none⟩), w.alloc (.cells cs.toArray T), fun _ _ _ _ => by simp [execOp, Instr.alloc, hz.run, newVar, newRow, hcs], _, rfl, H.alloc _⟩ hck hpd
    (fun v w' hv => by obtain ⟨b, rfl, hs⟩ := hv; exact h b w' hs)
end
end Go.Mw
