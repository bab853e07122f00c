/-
 The program's Uses and Same of a plan, walked.
-/
import Derived.Test.YtolaedhdjcnijaaGreatDoorKk10
import Derived.Test.YtolaedhdjcnijaaGreatDoorKk8
set_option linter.unusedVariables false
set_option linter.unusedSimpArgs false
namespace Go.Proofs.YtolaedhdjcnijaaGreatDoor
open Go Go.Mw Go.Lib
set_option maxRecDepth 4000
section
variable {w : World}
theorem Pz {p : cB} {v : Value} (hp : fD w v p) (hn : p.cols.length ≤ 100) (Uw : p.wh.length ≤ 1000) (Rm : ∀ o ∈ p.cols, o.steps.length ≤ 1000) :
    bF Tryz.prog 30 [v] w fun v w' => ∃ x, v = x ∧ True ∧ Turn noB (cO 3 1 intCells x (CG p)) w w' := by
  obtain ⟨vw, vc, rfl, hw, r, hr, mG⟩ := hp
  obtain ⟨A, m, rfl, ⟨hm, xK⟩, hA⟩ := hr
  have AO := mG.len
  have H := Sep.bB w
  rw [← GY]
  refine dP Tryz.func30 rfl rfl rfl rfl ?_
  refine Sr (dz H (cs := [vw, .slice A r.length m, I p.group]) rfl (h := fun b1 w2 H2 k1 => ?_))
  refine Am ?_
  refine Nx (Vf ?_)
  refine Ld H2 ?_
  refine eX H2 (Lc (hw.keep H2.kept) Uw) (h := fun x0 w7 _ H7 k6 => ?_)
  refine Am ?_
  refine Qn (au (Sr (Vf ?_)))
  refine Ld H7 ?_
  refine Vs ?_
  refine Mv ?_
  refine Qn (aF ?_)
  have Ha : Mw.Sep w noB [cO 3 1 intCells x0 (jK p.wh []), blk b1 [vw, .slice A r.length m, I p.group] 25] w7 := by
    unfold jK
    rw [List.flatMap_nil, List.append_nil]
    exact H7
  refine bA (fun x : Nat × Value => [(1, bI b1), (3, x.2), (10, .slice A r.length m), (11, I r.length), (12, I x.1)]) (fun x w' => x.1 ≤ r.length ∧ Sep w noB [cO 3 1 intCells x.2 (jK p.wh (p.cols.take x.1)), blk b1 [vw, .slice A r.length m, I p.group] 25] w') (fun x _ => r.length - x.1) (0, x0) ⟨rfl, rfl, rfl, rfl, rfl, trivial⟩ ⟨Nat.zero_le _, Ha⟩ (fun x τ wa hI => ?_)
  obtain ⟨i, v0⟩ := x
  obtain ⟨hi, Ha⟩ := hI
  dsimp only at hi Ha
  obtain ⟨B, cb, rfl, EP, hB⟩ := Sep.fJ Ha At0
  have Yb := MB (wh := p.wh) (m := 1000) (cols := p.cols.take i) fun o ho => Rm o (List.mem_of_mem_take ho)
  rw [List.length_take, Nat.min_eq_left (by omega)] at Yb
  try simp only [cZ, like, bC, bZ]
  refine Sr (Vl ?_)
  refine Qn (au (Cp rfl (fun Ia => ?_) (fun Ia => ?_)))
  · have bU : i < p.cols.length := by omega
    obtain ⟨vx, hx, uG⟩ := mG.at bU
    obtain ⟨Ax, cx, rfl, _⟩ := id uG
    have pq : p.cols[i]? = some p.cols[i] := List.getElem?_eq_getElem bU
    obtain ⟨o, ho⟩ : ∃ o, o = p.cols[i] := ⟨_, rfl⟩
    rw [← ho] at hx uG pq
    have O8 := Rm o (List.mem_of_getElem? pq)
    have hul := Aa o.steps
    have Ca : jK p.wh (p.cols.take (i + 1)) = jK p.wh (p.cols.take i) ++ o7 o.steps := by rw [List.take_add_one, pq]; exact Kh _ _ _
    refine Sk (au (aF (Sr (Vv (Gives.eT rfl rfl (by assumption) (by omega)) (Vv (Gives.iM rfl Ha (by assumption) (by assumption)) ?_)))))
    refine bD Ha (h := fun b5 wb Hb ka => ?_)
    refine aD Hb (h := fun wc Hc => ?_)
    refine Qn (aB (Mv ?_))
    refine Vf ?_
    refine Ld Hc ?_
    refine eX Hc (Lc (uG.keep Hc.kept) O8) (h := fun x2 wd _ Hd kb => ?_)
    obtain ⟨B2, c2, rfl, Xc, hB2⟩ := Sep.fJ Hd At0
    refine qx Hd At2 hB2 (by unfold maxLen; omega) (by omega) (cells_one (fun _ => rfl) _) (h := ?_)
    intro v2 we He
    rw [← Ca] at He
    refine Am ?_
    refine aP (aA (aj (aB (Vv (Gives.bM rfl rfl rfl (by omega)) ?_))))
    refine Mv ?_
    refine aP ?_
    exact aC (i + 1, v2) ⟨rfl, rfl, rfl, rfl, rfl, trivial⟩ ⟨by dsimp only; omega, He.fI.fI⟩ (by dsimp only; omega)
  have jW : i = r.length := by omega
  rw [jW, List.take_of_length_le (by omega)] at Ha Yb ⊢
  refine bq (aT (aO (aV (aj (Sr (Mv ?_))))))
  obtain ⟨F0, gu, nk, bJ⟩ := Ha.focus At0
  refine bH (O1 gu (by omega)) rfl rfl (fun v' wf hv => ?_)
  obtain ⟨rfl, dK, F1, hq, hs⟩ := hv
  have Hf := bJ _ F1 _ dK hq hs
  have yV : ((jK p.wh p.cols).mergeSort fun x y => decide (x ≤ y)).length = (jK p.wh p.cols).length := List.length_mergeSort _
  rw [← yV] at Hf
  refine Nx (Mv ?_)
  obtain ⟨F0, gu, nk, bJ⟩ := Hf.focus At0
  refine bH (DU gu (by omega)) (by rw [yV]; rfl) rfl (fun v' wg hv => ?_)
  obtain ⟨rfl, dK, F1, hq, hs⟩ := hv
  have Hg := bJ _ F1 _ dK hq hs
  refine Am ?_
  refine Qn (aM (ak (hR := ?_)))
  exact ⟨_, rfl, trivial, Hg.first.turn⟩
theorem CQ {a b : List bL} {va vb : Value} (ha : dn w va aI 3 a) (hb : dn w vb aI 3 b) : bF Tryz.prog 57 [va, vb] w fun v' w' => v' = .bool (decide (a = b)) ∧ Kept noB w w' := by
 obtain ⟨A, m, rfl, ⟨hm, xK⟩, hA⟩ := ha
 obtain ⟨B, n, rfl, ⟨hn, JL⟩, hB⟩ := hb
 have H := Sep.bB w
 refine eU Tryz.func57 rfl rfl rfl rfl ?_
 refine Sr (Am ?_)
 refine Qn (au (Sr (Mv ?_)))
 refine Vs ?_
 refine Mv ?_
 refine Vs ?_
 refine Vn ?_
 refine Qn (Cp rfl (fun oW => ?_) (fun oW => ?_))
 ·have fM := oW
  refine Sr (Am ?_)
  refine Qn (Rs (ak (hR := ?_)))
  exact ⟨congrArg Value.bool (Eq.symm (decide_eq_false fun e => fM (by rw [e]))), H.kept⟩
 have hlen : a.length = b.length := by omega
 refine Sk (au (Sr (Mv ?_)))
 refine Vs ?_
 refine Mv ?_
 refine Qn (aF (bA (fun i : Nat => [(0, .slice A a.length m), (1, .slice B b.length n), (12, I a.length), (13, I i)]) (fun i w' => (i ≤ a.length ∧ a.take i = b.take i) ∧ Sep w noB [] w') (fun i _ => a.length - i) 0 ⟨rfl, rfl, rfl, rfl, trivial⟩ ⟨⟨Nat.zero_le _, by simp⟩, H⟩ (fun i τ wa hI => ?_)))
 obtain ⟨⟨hi, dJ⟩, Ha⟩ := hI
 try simp only [cZ, like, bC, bZ]
 refine Sr (Vl ?_)
 refine Qn (au (Cp rfl (fun Ia => ?_) (fun Ia => ?_)))
 ·have bU : i < a.length := by omega
  obtain ⟨x, hx⟩ := get_some bU
  obtain ⟨y, hy⟩ := get_some (l := b) (i := i) (by omega)
  refine Sk (au (aF (Sr (Mv ?_))))
  refine Am ?_
  refine Qn (au (bG rfl Ha (h := fun Sa wb Hb => ?_)))
  refine Gm Sa 0 ?_
  refine Gm Sa 1 ?_
  refine Gp Sa 2 rfl rfl (fun _ => (Gives.eT rfl rfl (by assumption) (by omega))) (Gl Sa 3 rfl rfl (Gives.iM rfl Hb (by assumption) (by assumption)) ?_)
  refine Gm Sa 4 ?_
  refine Gm Sa 5 ?_
  refine Gp Sa 6 rfl rfl (fun _ => (Gives.eT rfl rfl (by assumption) (by omega))) (Gl Sa 7 rfl rfl (Gives.iM rfl Hb (by assumption) (by assumption)) ?_)
  refine Gp Sa 8 rfl rfl (fun _ => (Gives.VB (enc := aI) _ _ rfl rfl)) (bR Sa (by kernel_rfl) ?_)
  refine aj (Cp rfl (fun Ib => ?_) (fun Ib => ?_))
  ·have yS := Ib
   refine Sr (Am ?_)
   refine Qn (Rb (aR (aH (aL (ak (hR := ?_))))))
   exact ⟨congrArg Value.bool (Eq.symm (decide_eq_false fun e => yS (by rw [e, hy] at hx; injection hx with hx; exact hx.symm))), Hb.kept⟩
  have yS : x = y := Classical.not_not.1 Ib
  have Eo : a.take (i + 1) = b.take (i + 1) := by rw [List.take_add_one, List.take_add_one, dJ, hx, hy, yS]
  refine aY (aA (aj (aB (Vv (Gives.bM rfl rfl rfl (by omega)) ?_))))
  refine Mv ?_
  refine aP ?_
  exact aC (i + 1) ⟨rfl, rfl, rfl, rfl, trivial⟩ ⟨⟨by omega, Eo⟩, Hb⟩ (by omega)
 have jW : i = a.length := by omega
 have Ef : a = b := by rw [jW, List.take_length, hlen, List.take_length] at dJ; exact dJ
 refine bq (aT (aO (aV (aj (Sr (Am ?_))))))
 refine Qn (aM (ak (hR := ?_)))
 exact ⟨congrArg Value.bool (Eq.symm (decide_eq_true Ef)), Ha.kept⟩
theorem RN {x y : List UInt8 × Value} {a b : jM} (ha : dn w x.2 aI 3 a.steps) (hb : dn w y.2 aI 3 b.steps) (hx : x.1 = a.name) (hy : y.1 = b.name) : bF Tryz.prog 56 [agg (bO x), agg (bO y)] w fun v' w' => v' = .bool (decide (a = b)) ∧ Kept noB w w' := by
 have H := Sep.bB w
 refine eU Tryz.func56 rfl rfl rfl rfl ?_
 refine Sr (dz H (cs := bO x) rfl (h := fun b2 w2 H2 k1 => ?_))
 refine dz H2 (cs := bO y) rfl (h := fun b3 w4 H4 k3 => ?_)
 refine Am ?_
 refine Nx (Vf ?_)
 refine Ld H4 ?_
 refine Vf ?_
 refine Ld H4 ?_
 refine Vv (Gives.iD rfl rfl) (Mv ?_)
 refine aG (t := 10) rfl (fun Sa => ?_) (fun Sa => ?_)
 ·have yS : a.name = b.name := by rw [← hx, ← hy]; exact Sa
  refine On (Vf ?_)
  refine On (Ld H4 ?_)
  refine On (Vf ?_)
  refine On (Ld H4 ?_)
  refine On (aN H4 (CQ (ha.keep H4.kept) (hb.keep H4.kept)) (h := fun wa Ha ka => ?_))
  refine Pt ?_
  refine Am ?_
  refine Qn (aM (ak (hR := ?_)))
  exact ⟨by first | exact congrArg Value.bool (Eq.symm (decide_eq_false fun e => yS (by rw [e]))) | exact congrArg Value.bool (decide_eq_decide.2 ⟨fun e => jM.ext' yS e, fun e => by rw [e]⟩), Ha.kept⟩
 have yS : ¬ a.name = b.name := by rw [← hx, ← hy]; exact Sa
 refine Of (Of (Of (Of (Of (Pf ?_)))))
 refine Am ?_
 refine Qn (aM (ak (hR := ?_)))
 exact ⟨by first | exact congrArg Value.bool (Eq.symm (decide_eq_false fun e => yS (by rw [e]))) | exact congrArg Value.bool (decide_eq_decide.2 ⟨fun e => jM.ext' yS e, fun e => by rw [e]⟩), H4.kept⟩
theorem Kn {la lb : List jM} {va vb : Value} (ha : yx w va la) (hb : yx w vb lb) : bF Tryz.prog 58 [va, vb, .func (.func 56) #[] #[]] w fun v' w' => v' = .bool (decide (la = lb)) ∧ Kept noB w w' := by
 obtain ⟨r, ⟨A, m, rfl, ⟨hm, xK⟩, hA⟩, Z4⟩ := ha
 obtain ⟨s, ⟨B, n, rfl, ⟨hn, JL⟩, hB⟩, JM⟩ := hb
 have JJ := Z4.len
 have Z5 := JM.len
 have H := Sep.bB w
 refine EU Tryz.func58 rfl rfl rfl rfl ?_
 refine Sr (Am ?_)
 refine Qn (au (Sr (Mv ?_)))
 refine Vs ?_
 refine Mv ?_
 refine Vs ?_
 refine Vn ?_
 refine Qn (Cp rfl (fun oW => ?_) (fun oW => ?_))
 ·have fM : ¬ la = lb := fun e => oW (by rw [JJ, Z5, e])
  refine Sr (Am ?_)
  refine Qn (Rs (ak (hR := ?_)))
  exact ⟨congrArg Value.bool (Eq.symm (decide_eq_false fM)), H.kept⟩
 have hlen : la.length = lb.length := by omega
 refine Sk (au (Sr (Mv ?_)))
 refine Vs ?_
 refine Mv ?_
 refine Qn (aF (bA (fun i : Nat => [(0, .slice A r.length m), (1, .slice B s.length n), (2, .func (.func 56) #[] #[]), (15, .slice A r.length m), (16, I r.length), (17, I i)]) (fun i w' => (i ≤ la.length ∧ la.take i = lb.take i) ∧ Sep w noB [] w') (fun i _ => la.length - i) 0 ⟨rfl, rfl, rfl, rfl, rfl, rfl, trivial⟩ ⟨⟨Nat.zero_le _, by simp⟩, H⟩ (fun i τ wa hI => ?_)))
 obtain ⟨⟨hi, dJ⟩, Ha⟩ := hI
 try simp only [cZ, like, bC, bZ]
 refine Sr (Vl ?_)
 refine Qn (au (Cp rfl (fun Ia => ?_) (fun Ia => ?_)))
 ·have bU : i < la.length := by omega
  obtain ⟨vx, hx, uG⟩ := Z4.at bU
  obtain ⟨Ax, cx, rfl, _⟩ := id uG
  obtain ⟨vy, hy, Rh⟩ := JM.at (show i < lb.length by omega)
  obtain ⟨Ay, cy, rfl, _⟩ := id Rh
  have Gx : la[i]? = some la[i] := List.getElem?_eq_getElem bU
  have UQ : lb[i]? = some lb[i] := List.getElem?_eq_getElem (by omega)
  obtain ⟨a, hae⟩ : ∃ a, a = la[i] := ⟨_, rfl⟩
  obtain ⟨b, vO⟩ : ∃ b, b = lb[i]'(by omega) := ⟨_, rfl⟩
  rw [← hae] at hx uG Gx
  rw [← vO] at hy Rh UQ
  refine Sk (au (aF (Sr (Mv ?_))))
  refine Vv (Gives.eT rfl rfl (by assumption) (by omega)) (Vv (Gives.iM rfl Ha (by assumption) (by assumption)) ?_)
  refine bD Ha (h := fun b8 wb Hb ka => ?_)
  refine Am ?_
  refine aD Hb (h := fun wc Hc => ?_)
  refine Nx (Mv ?_)
  refine Mv ?_
  refine Vv (Gives.eT rfl rfl (by assumption) (by omega)) (Vv (Gives.iM rfl Hc (by assumption) (by assumption)) ?_)
  refine bD Hc (h := fun b9 wd Hd kb => ?_)
  refine aD Hd (h := fun we He => ?_)
  refine Nx (Mv ?_)
  refine aZ He (h := ?_)
  refine aZ He (h := ?_)
  refine jr (fs := []) (cs := []) (vals := [agg (bO (a.name, .slice Ax a.steps.length cx)), agg (bO (b.name, .slice Ay b.steps.length cy))]) rfl (RN (uG.keep He.kept) (Rh.keep He.kept) rfl rfl) rfl rfl (fun v' wf hv => ?_)
  obtain ⟨rfl, dK⟩ := hv
  have Hf := He.keep dK
  refine Vv (Gives.not rfl) (Qn ?_)
  refine Cd rfl (fun Ib => ?_) (fun Ib => ?_)
  ·have yS : ¬ a = b := by simpa using Ib
   refine Sr (Am ?_)
   refine Qn (Rb (aR (aH (aL (ak (hR := ?_))))))
   exact ⟨congrArg Value.bool (Eq.symm (decide_eq_false fun e => yS (by rw [e, UQ] at Gx; injection Gx with Gx; exact Gx.symm))), Hf.kept⟩
  have yS : a = b := by simpa using Ib
  have Eo : la.take (i + 1) = lb.take (i + 1) := by rw [List.take_add_one, List.take_add_one, dJ, Gx, UQ, yS]
  refine aY (aA (aj (aB (Vv (Gives.bM rfl rfl rfl (by omega)) ?_))))
  refine Mv ?_
  refine aP ?_
  exact aC (i + 1) ⟨rfl, rfl, rfl, rfl, rfl, rfl, trivial⟩ ⟨⟨by omega, Eo⟩, (Hf.fI.fI)⟩ (by omega)
 have jW : i = la.length := by omega
 have Ef : la = lb := by rw [jW, List.take_length, hlen, List.take_length] at dJ; exact dJ
 refine bq (aT (aO (aV (aj (Sr (Am ?_))))))
 refine Qn (aM (ak (hR := ?_)))
 exact ⟨congrArg Value.bool (Eq.symm (decide_eq_true Ef)), Ha.kept⟩
theorem CS {p q : cB} {va vb : Value} (ha : fD w va p) (hb : fD w vb q) : bF Tryz.prog 20 [va, vb] w fun v' w' => v' = .bool (decide (p = q)) ∧ Kept noB w w' := by
 obtain ⟨vw, vc, rfl, hw, hc⟩ := ha
 obtain ⟨uw, uc, rfl, gw, gc⟩ := hb
 have H := Sep.bB w
 have e1 : vw.cells = #[vw] := by obtain ⟨A, c, rfl, _⟩ := hw; rfl
 refine eU Tryz.func20 rfl rfl rfl rfl ?_
 refine Sr (dz H (cs := [vw, vc, I p.group]) rfl (h := fun b2 w2 H2 k1 => ?_))
 refine dz H2 (cs := [uw, uc, I q.group]) rfl (h := fun b3 w4 H4 k3 => ?_)
 refine Am ?_
 refine Nx (Am ?_)
 refine Nx (Vf ?_)
 refine Ld H4 ?_
 refine Vf ?_
 refine Ld H4 ?_
 refine Ve ?_
 refine Mv ?_
 refine aG (t := 11) rfl (fun Sa => ?_) (fun Sa => ?_)
 ·have hg : p.group = q.group := Sa
  refine On (Vf ?_)
  refine On (Ld H4 ?_)
  refine On (Vf ?_)
  refine On (Ld H4 ?_)
  refine On (aN H4 (CQ (hw.keep H4.kept) (gw.keep H4.kept)) (h := fun wa Ha ka => ?_))
  refine Pt ?_
  refine Mv ?_
  refine aG (t := 18) rfl (fun Sb => ?_) (fun Sb => ?_)
  ·have Wv : p.wh = q.wh := by simpa using Sb
   refine On (Vf ?_)
   refine On (Ld Ha ?_)
   refine On (Vf ?_)
   refine On (Ld Ha ?_)
   refine On (Mv ?_)
   refine On (aN Ha (Kn (hc.keep Ha.kept) (gc.keep Ha.kept)) (h := fun wb Hb kb => ?_))
   refine Pt ?_
   refine Am ?_
   refine Qn (aM (ak (hR := ?_)))
   exact ⟨by first | exact congrArg Value.bool (Eq.symm (decide_eq_false fM)) | exact congrArg Value.bool (decide_eq_decide.2 ⟨fun e => cB.ext' Wv e hg, fun e => by rw [e]⟩), Hb.kept⟩
  have fM : ¬ p = q := fun e => Sb (by rw [e])
  refine Of (Of (Of (Of (Of (Of (Pf ?_))))))
  refine Am ?_
  refine Qn (aM (ak (hR := ?_)))
  exact ⟨by first | exact congrArg Value.bool (Eq.symm (decide_eq_false fM)) | exact congrArg Value.bool (decide_eq_decide.2 ⟨fun e => cB.ext' Wv e hg, fun e => by rw [e]⟩), Ha.kept⟩
 have fM : ¬ p = q := fun e => Sa (by rw [e])
 refine Of (Of (Of (Of (Of (Pf ?_)))))
 refine Mv ?_
 refine Of (Of (Of (Of (Of (Of (Pf ?_))))))
 refine Am ?_
 refine Qn (aM (ak (hR := ?_)))
 exact ⟨by first | exact congrArg Value.bool (Eq.symm (decide_eq_false fM)) | exact congrArg Value.bool (decide_eq_decide.2 ⟨fun e => cB.ext' Wv e hg, fun e => by rw [e]⟩), H4.kept⟩
end
theorem Fe {p : cB} : jf p = true ↔ (1 ≤ p.cols.length ∧ p.cols.length ≤ 16 ∧ -1 ≤ p.group ∧ p.group ≤ p.cols.length) ∧ (∀ o ∈ p.cols, dG o.name = true ∧ ¬ (0 ≤ p.group ∧ o.name = eB)) ∧ (p.cols.map (·.name)).Nodup := by
 unfold jf
 rw [Bool.and_eq_true, Bool.and_eq_true, decide_eq_true_iff, decide_eq_true_iff, List.all_eq_true, and_assoc]
 refine and_congr_right fun _ => and_congr_left fun _ => ?_
 refine forall_congr' fun o => forall_congr' fun _ => ?_
 rw [Bool.and_eq_true, Bool.not_eq_true', Bool.and_eq_false_iff, decide_eq_false_iff_not, decide_eq_false_iff_not]
 exact and_congr_right fun _ => ⟨fun h ⟨a, b⟩ => h.elim (fun h => h a) fun h => h b, fun h => (Classical.em (0 ≤ p.group)).elim (fun a => .inr fun b => h ⟨a, b⟩) .inl⟩
theorem mW {p : cB} (h : ¬ ((1 ≤ p.cols.length ∧ p.cols.length ≤ 16 ∧ -1 ≤ p.group ∧ p.group ≤ p.cols.length) ∧ (∀ o ∈ p.cols, dG o.name = true ∧ ¬ (0 ≤ p.group ∧ o.name = eB)) ∧ (p.cols.map (·.name)).Nodup)) : jf p = false := eq_false_of_ne_true fun e => h (Fe.1 e)
theorem CU {l : List jM} : (l.map (·.name)).Nodup ↔ ∀ (a b : Nat) x y, a < b → l[a]? = some x → l[b]? = some y → x.name ≠ y.name := by
 unfold List.Nodup
 rw [List.pairwise_map, List.pairwise_iff_getElem]
 constructor
 ·intro h a b x y Ef hx hy
  obtain ⟨ha, rfl⟩ := List.getElem?_eq_some_iff.1 hx
  obtain ⟨hb, rfl⟩ := List.getElem?_eq_some_iff.1 hy
  exact h a b ha hb Ef
 intro h a b ha hb Ef
 exact h a b _ _ Ef (List.getElem?_eq_getElem ha) (List.getElem?_eq_getElem hb)
section
variable {w : World}
theorem Fg {a b : List bL} {va vb : Value} (ha : dn w va aI 3 a) (hb : dn w vb aI 3 b) : bF Tryz.prog 50 [va, vb] w fun v' w' => v' = .bool (decide (a = b)) ∧ Kept noB w w' := by
 obtain ⟨A, m, rfl, ⟨hm, xK⟩, hA⟩ := ha
 obtain ⟨B, n, rfl, ⟨hn, JL⟩, hB⟩ := hb
 have H := Sep.bB w
 refine eU Tryz.func50 rfl rfl rfl rfl ?_
 refine Sr (Am ?_)
 refine Qn (au (Sr (Mv ?_)))
 refine Vs ?_
 refine Mv ?_
 refine Vs ?_
 refine Vn ?_
 refine Qn (Cp rfl (fun oW => ?_) (fun oW => ?_))
 ·have fM := oW
  refine Sr (Am ?_)
  refine Qn (Rs (ak (hR := ?_)))
  exact ⟨congrArg Value.bool (Eq.symm (decide_eq_false fun e => fM (by rw [e]))), H.kept⟩
 have hlen : a.length = b.length := by omega
 refine Sk (au (Sr (Am ?_)))
 refine Qn (aF (bA (fun i : Nat => [(0, .slice A a.length m), (1, .slice B b.length n), (5, I i)]) (fun i w' => (i ≤ a.length ∧ a.take i = b.take i) ∧ Sep w noB [] w') (fun i _ => a.length - i) 0 ⟨rfl, rfl, rfl, trivial⟩ ⟨⟨Nat.zero_le _, by simp⟩, H⟩ (fun i τ wa hI => ?_)))
 obtain ⟨⟨hi, dJ⟩, Ha⟩ := hI
 try simp only [cZ, like, bC, bZ]
 refine au (Sr (Mv ?_))
 refine Mv ?_
 refine Vs ?_
 refine Vl ?_
 refine Qn (Cp rfl (fun Ia => ?_) (fun Ia => ?_))
 ·have bU : i < a.length := by omega
  obtain ⟨x, hx⟩ := get_some bU
  obtain ⟨y, hy⟩ := get_some (l := b) (i := i) (by omega)
  refine Sk (au (aF (au (bG rfl Ha (h := fun Sa wb Hb => ?_)))))
  refine Gm Sa 0 ?_
  refine Gm Sa 1 ?_
  refine Gp Sa 2 rfl rfl (fun _ => (Gives.eT rfl rfl (by assumption) (by omega))) (Gl Sa 3 rfl rfl (Gives.iM rfl Hb (by assumption) (by assumption)) ?_)
  refine Gm Sa 4 ?_
  refine Gm Sa 5 ?_
  refine Gp Sa 6 rfl rfl (fun _ => (Gives.eT rfl rfl (by assumption) (by omega))) (Gl Sa 7 rfl rfl (Gives.iM rfl Hb (by assumption) (by assumption)) ?_)
  refine Gp Sa 8 rfl rfl (fun _ => (Gives.VB (enc := aI) _ _ rfl rfl)) (bR Sa (by kernel_rfl) ?_)
  refine aj (Cp rfl (fun Ib => ?_) (fun Ib => ?_))
  ·have yS := Ib
   refine Sr (Am ?_)
   refine Qn (Rb (aR (aH (aL (ak (hR := ?_))))))
   exact ⟨congrArg Value.bool (Eq.symm (decide_eq_false fun e => yS (by rw [e, hy] at hx; injection hx with hx; exact hx.symm))), Hb.kept⟩
  have yS : x = y := Classical.not_not.1 Ib
  have Eo : a.take (i + 1) = b.take (i + 1) := by rw [List.take_add_one, List.take_add_one, dJ, hx, hy, yS]
  refine aY (aA (aj (aB (Mv ?_))))
  refine Vv (Gives.bM rfl rfl rfl (by omega)) (Am ?_)
  refine aP ?_
  exact aC (i + 1) ⟨rfl, rfl, rfl, trivial⟩ ⟨⟨by omega, Eo⟩, Hb⟩ (by omega)
 have jW : i = a.length := by omega
 have Ef : a = b := by rw [jW, List.take_length, hlen, List.take_length] at dJ; exact dJ
 refine bq (aT (aO (aV (aj (Sr (Am ?_))))))
 refine Qn (aM (ak (hR := ?_)))
 exact ⟨congrArg Value.bool (Eq.symm (decide_eq_true Ef)), Ha.kept⟩
theorem zk {p q : cB} {va vb : Value} (ha : fD w va p) (hb : fD w vb q) : bF Tryz.prog 17 [va, vb] w fun v' w' => v' = .bool (decide (p = q)) ∧ Kept noB w w' := by
 obtain ⟨vw, vc, rfl, hw, r, ⟨A, m, rfl, ⟨hm, xK⟩, hA⟩, Z4⟩ := ha
 obtain ⟨uw, uc, rfl, gw, s, ⟨B, n, rfl, ⟨hn, JL⟩, hB⟩, JM⟩ := hb
 have JJ := Z4.len
 have Z5 := JM.len
 have H := Sep.bB w
 refine eU Tryz.func17 rfl rfl rfl rfl ?_
 refine Sr (dz H (cs := [vw, .slice A r.length m, I p.group]) rfl (h := fun b2 w2 H2 k1 => ?_))
 refine dz H2 (cs := [uw, .slice B s.length n, I q.group]) rfl (h := fun b3 w4 H4 k3 => ?_)
 refine Am ?_
 refine Qn (au (Sr (Vf ?_)))
 refine Ld H4 ?_
 refine Vf ?_
 refine Ld H4 ?_
 refine aN H4 (Fg (hw.keep H4.kept) (gw.keep H4.kept)) (h := fun wa Ha ka => ?_)
 refine Vv (Gives.notP rfl) (Mv ?_)
 refine aG (t := 12) rfl (fun Sa => ?_) (fun Sa => ?_)
 ·have fM : ¬ p = q := fun e => Sa (by rw [e])
  refine Of (Of (Of (Of (Of (Pt ?_)))))
  refine Mv ?_
  refine Of (Of (Of (Of (Of (Of (Of (Pt ?_)))))))
  refine Qn (aQ rfl ?_)
  refine Sr (Am ?_)
  refine Qn (Rs (ak (hR := ?_)))
  exact ⟨congrArg Value.bool (Eq.symm (decide_eq_false fM)), Ha.kept⟩
 have Wv : p.wh = q.wh := Classical.not_not.1 Sa
 refine On (Vf ?_)
 refine On (Ld Ha ?_)
 refine On (Vf ?_)
 refine On (Ld Ha ?_)
 refine On (Vn ?_)
 refine Pf ?_
 refine Mv ?_
 refine aG (t := 19) rfl (fun Sb => ?_) (fun Sb => ?_)
 ·have fM : ¬ p = q := fun e => Sb (by rw [e])
  refine Of (Of (Of (Of (Of (Of (Of (Pt ?_)))))))
  refine Qn (aQ rfl ?_)
  refine Sr (Am ?_)
  refine Qn (Rs (ak (hR := ?_)))
  exact ⟨congrArg Value.bool (Eq.symm (decide_eq_false fM)), Ha.kept⟩
 have hg : p.group = q.group := Classical.not_not.1 Sb
 refine On (Vf ?_)
 refine On (Ld Ha ?_)
 refine On (Vs ?_)
 refine On (Vf ?_)
 refine On (Ld Ha ?_)
 refine On (Vs ?_)
 refine On (Vn ?_)
 refine Pf ?_
 refine Qn (Cp rfl (fun Ia => ?_) (fun Ia => ?_))
 ·have fM : ¬ p = q := fun e => Ia (by rw [JJ, Z5, e])
  refine Sr (Am ?_)
  refine Qn (Rs (ak (hR := ?_)))
  exact ⟨congrArg Value.bool (Eq.symm (decide_eq_false fM)), Ha.kept⟩
 have hlen : p.cols.length = q.cols.length := by omega
 refine Sk (au (Sr (Am ?_)))
 refine Qn (aF (bA (fun i : Nat => [(2, bI b2), (3, bI b3), (5, I i)]) (fun i w' => (i ≤ p.cols.length ∧ p.cols.take i = q.cols.take i) ∧ Sep w noB [blk b3 [uw, .slice B s.length n, I q.group] 25, blk b2 [vw, .slice A r.length m, I p.group] 25] w') (fun i _ => p.cols.length - i) 0 ⟨rfl, rfl, rfl, trivial⟩ ⟨⟨Nat.zero_le _, by simp⟩, Ha⟩ (fun i τ wb hI => ?_)))
 obtain ⟨⟨hi, dJ⟩, Hb⟩ := hI
 try simp only [cZ, like, bC, bZ]
 refine au (Sr (Mv ?_))
 refine Vf ?_
 refine Ld Hb ?_
 refine Vs ?_
 refine Vl ?_
 refine Qn (Cp rfl (fun Ib => ?_) (fun Ib => ?_))
 ·have bU : i < p.cols.length := by omega
  obtain ⟨vx, hx, uG⟩ := Z4.at bU
  obtain ⟨vy, hy, Rh⟩ := JM.at (show i < q.cols.length by omega)
  have Gx : p.cols[i]? = some p.cols[i] := List.getElem?_eq_getElem bU
  have UQ : q.cols[i]? = some q.cols[i] := List.getElem?_eq_getElem (by omega)
  obtain ⟨a, hae⟩ : ∃ a, a = p.cols[i] := ⟨_, rfl⟩
  obtain ⟨b, vO⟩ : ∃ b, b = q.cols[i]'(by omega) := ⟨_, rfl⟩
  rw [← hae] at hx uG Gx
  rw [← vO] at hy Rh UQ
  refine Sk (au (aF (au (bG rfl Hb (h := fun Sc wc Hc => ?_)))))
  refine Gp Sc 0 rfl rfl (fun _ => (Gives.dx rfl)) (cK Sc 1 Hc (h := ?_))
  refine Gm Sc 2 ?_
  refine Gp Sc 3 rfl rfl (fun _ => (Gives.eT rfl rfl (by assumption) (by omega))) (Gp Sc 4 rfl rfl (fun _ => (Gives.fH rfl (by assumption) (by omega))) ?_)
  refine Gl Sc 5 rfl rfl (Gives.iJ rfl Hc (by assumption) (by assumption) rfl) (Gp Sc 6 rfl rfl (fun _ => (Gives.dx rfl)) ?_)
  refine cK Sc 7 Hc (h := ?_)
  refine Gm Sc 8 ?_
  refine Gp Sc 9 rfl rfl (fun _ => (Gives.eT rfl rfl (by assumption) (by omega))) (Gp Sc 10 rfl rfl (fun _ => (Gives.fH rfl (by assumption) (by omega))) ?_)
  refine Gl Sc 11 rfl rfl (Gives.iJ rfl Hc (by assumption) (by assumption) rfl) (Gp Sc 12 rfl rfl (fun _ => (Gives.EA rfl rfl)) ?_)
  refine Gm Sc 13 ?_
  refine lC (t := 48) rfl (fun Sd => ?_) (fun Sd => ?_)
  ·have yS : ¬ a = b := fun e => Sd (by rw [e])
   refine dL Sc 14 rfl rfl (by kernel_rfl) ?_
   refine dL Sc 15 rfl rfl (by kernel_rfl) ?_
   refine dL Sc 16 rfl rfl (by kernel_rfl) ?_
   refine dL Sc 17 rfl rfl (by kernel_rfl) ?_
   refine dL Sc 18 rfl rfl (by kernel_rfl) ?_
   refine dL Sc 19 rfl rfl (by kernel_rfl) ?_
   refine dL Sc 20 rfl rfl (by kernel_rfl) ?_
   refine dL Sc 21 rfl rfl (by kernel_rfl) ?_
   refine dL Sc 22 rfl rfl (by kernel_rfl) ?_
   refine dL Sc 23 rfl rfl (by kernel_rfl) ?_
   refine dL Sc 24 rfl rfl (by kernel_rfl) ?_
   refine dL Sc 25 rfl rfl (by kernel_rfl) ?_
   refine dL Sc 26 rfl rfl (by kernel_rfl) ?_
   refine dL Sc 27 rfl rfl (by kernel_rfl) ?_
   refine Gp Sc 28 rfl rfl (fun _ => Gives.nC rfl rfl) (bR Sc (by kernel_rfl) ?_)
   refine aj (aQ rfl ?_)
   refine Sr (Am ?_)
   refine Qn (Rb (aR (aH (aL (ak (hR := ?_))))))
   exact ⟨congrArg Value.bool (Eq.symm (decide_eq_false fun e => yS (by rw [e, UQ] at Gx; injection Gx with Gx; exact Gx.symm))), Hc.kept⟩
  have En : a.name = b.name := Classical.not_not.1 Sd
  refine Gp Sc 14 rfl rfl (fun _ => (Gives.dx rfl)) (cK Sc 15 Hc (h := ?_))
  refine Gm Sc 16 ?_
  refine Gp Sc 17 rfl rfl (fun _ => (Gives.eT rfl rfl (by assumption) (by omega))) (Gp Sc 18 rfl rfl (fun _ => (Gives.fH rfl (by assumption) (by omega))) ?_)
  refine Gl Sc 19 rfl rfl (Gives.iJ rfl Hc (by assumption) (by assumption) rfl) (Gp Sc 20 rfl rfl (fun _ => (Gives.dx rfl)) ?_)
  refine cK Sc 21 Hc (h := ?_)
  refine Gm Sc 22 ?_
  refine Gp Sc 23 rfl rfl (fun _ => (Gives.eT rfl rfl (by assumption) (by omega))) (Gp Sc 24 rfl rfl (fun _ => (Gives.fH rfl (by assumption) (by omega))) ?_)
  refine Gl Sc 25 rfl rfl (Gives.iJ rfl Hc (by assumption) (by assumption) rfl) (fQ Sc 26 [] Hc (Fg (uG.keep Hc.kept) (Rh.keep Hc.kept)) (h := fun wd Hd kb => ⟨aK, ?_⟩))
  refine Gp Sc 27 rfl rfl (fun _ => (Gives.notP rfl)) (Gp Sc 28 rfl rfl (fun _ => Gives.nP rfl rfl) ?_)
  refine bR Sc (by kernel_rfl) ?_
  refine aj (Cp rfl (fun Ic => ?_) (fun Ic => ?_))
  ·have yS : ¬ a = b := fun e => Ic (by rw [e])
   refine Sr (Am ?_)
   refine Qn (Rb (aR (aH (aL (ak (hR := ?_))))))
   exact ⟨congrArg Value.bool (Eq.symm (decide_eq_false fun e => yS (by rw [e, UQ] at Gx; injection Gx with Gx; exact Gx.symm))), Hd.kept⟩
  have Eo : p.cols.take (i + 1) = q.cols.take (i + 1) := by rw [List.take_add_one, List.take_add_one, dJ, Gx, UQ, jM.ext' En (Classical.not_not.1 Ic)]
  refine aY (aA (aj (aB (Mv ?_))))
  refine Vv (Gives.bM rfl rfl rfl (by omega)) (Am ?_)
  refine aP ?_
  exact aC (i + 1) ⟨rfl, rfl, rfl, trivial⟩ ⟨⟨by omega, Eo⟩, Hd⟩ (by omega)
 have jW : i = p.cols.length := by omega
 have Ef : p.cols = q.cols := by rw [jW, List.take_length, hlen, List.take_length] at dJ; exact dJ
 refine bq (aT (aO (aV (aj (Sr (Am ?_))))))
 refine Qn (aM (ak (hR := ?_)))
 exact ⟨congrArg Value.bool (Eq.symm (decide_eq_true (cB.ext' Wv Ef hg))), Hb.kept⟩
theorem PD {p : cB} {v : Value} (hp : fD w v p) (hf : ∀ x ∈ p.wh ++ p.cols.flatMap (·.steps), fits x.n) (hn : p.cols.length ≤ 100) (Uw : p.wh.length ≤ 900) (Rm : ∀ o ∈ p.cols, o.steps.length ≤ 900) :
    bF Tryz.prog 33 [v] w fun v w' => ∃ x, v = x ∧ True ∧ Turn noB (cO 3 1 intCells x (CG p)) w w' := by
  obtain ⟨vw, vc, rfl, hw, r, hr, mG⟩ := hp
  obtain ⟨A, m, rfl, ⟨hm, xK⟩, hA⟩ := hr
  obtain ⟨W, mw, rfl, ⟨hmw, abl⟩, hW⟩ := hw
  have AO := mG.len
  have H := Sep.bB w
  have hlen : ∀ i, (p.wh ++ (p.cols.take i).flatMap (·.steps)).length ≤ 900 + i * 900 := fun i => by
    induction i with
    | zero => rw [List.take_zero, List.flatMap_nil, List.append_nil]; omega
    | succ i ih =>
      cases hc : p.cols[i]? with
      | none => rw [List.take_add_one, hc]; simp only [Option.toList_none, List.append_nil]; omega
      | some o =>
        have := Rm o (List.mem_of_getElem? hc)
        rw [List.take_add_one, hc, Option.toList_some, List.flatMap_append, ← List.append_assoc, List.length_append, List.flatMap_cons, List.flatMap_nil, List.append_nil]
        omega
  refine dP Tryz.func33 rfl rfl rfl rfl ?_
  refine Sr (dz H (cs := [.slice W p.wh.length mw, .slice A r.length m, I p.group]) rfl (h := fun b1 w2 H2 k1 => ?_))
  refine Am ?_
  refine Nx ?_
  have H5 := Sep.iX H2 60 3 aI
  refine Am ?_
  refine Nx (Mv ?_)
  refine Vf ?_
  refine Ld H5 ?_
  refine qx H5 At0 (hW.keep H5.kept) (by unfold maxLen; simp; omega) (by simp; omega) (cells_one (fun _ => rfl) _) (h := ?_)
  intro v0 wa Ha
  rw [List.nil_append] at Ha
  refine Am ?_
  refine Qn (au (Sr (Am ?_)))
  refine Qn (aF ?_)
  have Hb : Mw.Sep w noB [cO 60 3 aI v0 (p.wh ++ (p.cols.take 0).flatMap (·.steps)), blk b1 [.slice W p.wh.length mw, .slice A r.length m, I p.group] 25] wa := by
    rw [List.take_zero, List.flatMap_nil, List.append_nil]
    exact Ha
  refine bA (fun x : Nat × Value => [(1, bI b1), (3, x.2), (4, I x.1)]) (fun x w' => x.1 ≤ r.length ∧ Sep w noB [cO 60 3 aI x.2 (p.wh ++ (p.cols.take x.1).flatMap (·.steps)), blk b1 [.slice W p.wh.length mw, .slice A r.length m, I p.group] 25] w') (fun x _ => r.length - x.1) (0, v0) ⟨rfl, rfl, rfl, trivial⟩ ⟨Nat.zero_le _, Hb⟩ (fun x τ wb hI => ?_)
  obtain ⟨i, v1⟩ := x
  obtain ⟨hi, Hb⟩ := hI
  dsimp only at hi Hb
  obtain ⟨B, cb, rfl, EP, hB⟩ := Sep.fJ Hb At0
  have Z6 := hlen i
  try simp only [cZ, like, bC, bZ]
  refine au (Sr (Mv ?_))
  refine Vf ?_
  refine Ld Hb ?_
  refine Vs ?_
  refine Vl ?_
  refine Qn (Cp rfl (fun Ia => ?_) (fun Ia => ?_))
  · have bU : i < p.cols.length := by omega
    obtain ⟨vx, hx, uG⟩ := mG.at bU
    have pq : p.cols[i]? = some p.cols[i] := List.getElem?_eq_getElem bU
    obtain ⟨o, ho⟩ : ∃ o, o = p.cols[i] := ⟨_, rfl⟩
    rw [← ho] at hx uG pq
    obtain ⟨Ax, cx, rfl, _, hX⟩ := id uG
    have O8 := Rm o (List.mem_of_getElem? pq)
    have Ca : p.wh ++ (p.cols.take (i + 1)).flatMap (·.steps) = (p.wh ++ (p.cols.take i).flatMap (·.steps)) ++ o.steps := by rw [List.take_add_one, pq, Option.toList_some, List.flatMap_append, ← List.append_assoc, List.flatMap_cons, List.flatMap_nil, List.append_nil]
    refine Sk (au (aF (aB (Mv ?_))))
    refine Vf ?_
    refine Ld Hb ?_
    refine Mv ?_
    refine Vv (Gives.eT rfl rfl (by assumption) (by omega)) (Vv (Gives.fH rfl (by assumption) (by omega)) ?_)
    refine Vv (Gives.iJ rfl Hb (by assumption) (by assumption) rfl) (qx Hb At0 (hX.keep Hb.kept) (by unfold maxLen; omega) (by omega) (cells_one (fun _ => rfl) _) (h := ?_))
    intro v2 wc Hc
    rw [← Ca] at Hc
    refine Am ?_
    refine aP (aA (aj (aB (Mv ?_))))
    refine Vv (Gives.bM rfl rfl rfl (by omega)) (Am ?_)
    refine aP ?_
    exact aC (i + 1, v2) ⟨rfl, rfl, rfl, trivial⟩ ⟨by dsimp only; omega, Hc⟩ (by dsimp only; omega)
  have jW : i = r.length := by omega
  rw [jW, List.take_of_length_le (by omega)] at Hb Z6
  rw [jW, List.take_of_length_le (by omega)]
  refine bq (aT (aO (aV (aj (Sr (Mv ?_))))))
  refine eX Hb (Nu (gQ Hb At0) hf (by omega)) (h := fun x2 wd _ Hd ka => ?_)
  refine Am ?_
  refine Qn (aM (ak (hR := ?_)))
  exact ⟨_, rfl, trivial, Hd.first.turn⟩
theorem Bb (s : List UInt8) : bF Tryz.prog 87 [str s] w fun v w' => v = .bool (dG s) ∧ Kept noB w w' := by
 have H := Sep.bB w
 have lu : ∀ (i : Nat) c, s[i]? = some c → j6 c = false → dG s = false := fun i c hc hn => by
  unfold dG
  have : s.all j6 = false := by rw [List.all_eq_false]; exact ⟨c, List.mem_of_getElem? hc, by rw [hn]; decide⟩
  rw [this, Bool.and_false]
 refine dP Tryz.func87 rfl rfl rfl rfl ?_
 refine Sr (Am ?_)
 refine Qn (au (Sr (Mv ?_)))
 refine Vt ?_
 refine Vl ?_
 refine Mv ?_
 refine aG (t := 9) rfl (fun YK => ?_) (fun YK => ?_)
 ·have JF : ¬ (1 ≤ s.length ∧ s.length ≤ 32) := by omega
  refine Of (Of (Of (Pt ?_)))
  refine Qn (aQ rfl ?_)
  refine Sr (Am ?_)
  refine Qn (Rs (ak (hR := ?_)))
  exact ⟨congrArg Value.bool (by unfold dG; rw [decide_eq_false JF, Bool.false_and, Bool.false_and]), H.kept⟩
 refine On (Mv ?_)
 refine On (Vt ?_)
 refine On (Vg ?_)
 refine Pf ?_
 refine Qn (Cp rfl (fun Ia => ?_) (fun Ia => ?_))
 ·have JF : ¬ (1 ≤ s.length ∧ s.length ≤ 32) := by omega
  refine Sr (Am ?_)
  refine Qn (Rs (ak (hR := ?_)))
  exact ⟨congrArg Value.bool (by unfold dG; rw [decide_eq_false JF, Bool.false_and, Bool.false_and]), H.kept⟩
 have JF : 1 ≤ s.length ∧ s.length ≤ 32 := by omega
 refine Sk (au (Sr (Am ?_)))
 refine Qn (aF (bA (fun i : Nat => [(0, str s), (3, I i)]) (fun i w' => (i ≤ s.length ∧ (s.take i).all j6 = true ∧ (0 < i → GQ (s.getD 0 0) = true)) ∧ Sep w noB [] w') (fun i _ => s.length - i) 0 ⟨rfl, rfl, trivial⟩ ⟨⟨Nat.zero_le _, by simp, fun h => absurd h (by decide)⟩, H⟩ (fun i τ wa hI => ?_)))
 obtain ⟨⟨hi, dJ, YL⟩, Ha⟩ := hI
 try simp only [cZ, like, bC, bZ]
 refine au (Sr (Mv ?_))
 refine Mv ?_
 refine Vt ?_
 refine Vl ?_
 refine Qn (Cp rfl (fun Ib => ?_) (fun Ib => ?_))
 ·have bU : i < s.length := by omega
  obtain ⟨c, hc⟩ := get_some bU
  have LZ : s.getD i 0 = c := l6 hc
  have Eo : j6 c = true → (s.take (i + 1)).all j6 = true := fun h => by rw [List.take_add_one, hc, Option.toList_some, List.all_append, dJ, List.all_cons, h]; rfl
  have mF : ¬ (97 ≤ c.toNat ∧ c.toNat ≤ 122) → i = 0 → dG s = false := fun h e => by
   unfold dG
   rw [e] at LZ
   have : GQ (s.getD 0 0) = false := by rw [LZ]; exact decide_eq_false h
   rw [this, Bool.and_false, Bool.false_and]
  have uq : j6 c = (decide (97 ≤ c.toNat ∧ c.toNat ≤ 122) || decide (c = 95) || decide (48 ≤ c.toNat ∧ c.toNat ≤ 57)) := by unfold j6 GQ jQ; simp [UInt8.le_iff_toNat_le]
  have h95 : c = 95 ↔ c.toNat = 95 := ⟨fun h => by rw [h]; rfl, fun h => UInt8.toNat_inj.1 h⟩
  refine Sk (au (aF (Sr (Mv ?_))))
  refine Mv ?_
  refine Vv (Gives.fF rfl rfl bU) ?_
  rw [LZ]
  refine Am ?_
  refine Nx (Mv ?_)
  refine Vv (Gives.geq rfl rfl) (Mv ?_)
  refine aG (t := 25) rfl (fun Sa => ?_) (fun Sa => ?_)
  ·refine On (Mv ?_)
   refine On (Vv (Gives.leq rfl rfl) (Pt ?_))
   refine Am ?_
   refine Nx (Mv ?_)
   refine Vv (Gives.notP rfl) (Mv ?_)
   refine aG (t := 31) rfl (fun Sb => ?_) (fun Sb => ?_)
   ·have JR : ¬ (97 ≤ c.toNat ∧ c.toNat ≤ 122) := by omega
    refine On (Mv ?_)
    refine On (Ve ?_)
    refine On (Mv ?_)
    refine aG (t := 34) rfl (fun Sc => ?_) (fun Sc => ?_)
    ·have ay := mF JR (by omega)
     refine Of (Of (Of (Ou (Ou (Ou (Ou (Ou (Ou (Of (On (Pt ?_)))))))))))
     refine Pt ?_
     refine Qn (aQ rfl ?_)
     refine Sr (Am ?_)
     refine Qn (Rb (aR (aH (aL (ak (hR := ?_))))))
     exact ⟨by rw [ay]; rfl, Ha.kept⟩
    have hi0 : ¬ i = 0 := by omega
    refine On (Mv ?_)
    refine On (Vn ?_)
    refine On (Mv ?_)
    refine aG (t := 37) rfl (fun Sd => ?_) (fun Sd => ?_)
    ·have Ux : ¬ c = 95 := fun e => Sd (by rw [e]; rfl)
     refine On (Mv ?_)
     refine On (Vl ?_)
     refine On (Mv ?_)
     refine aG (t := 40) rfl (fun Se => ?_) (fun Se => ?_)
     ·have ay := lu i c hc (by rw [uq, decide_eq_false JR, decide_eq_false Ux, decide_eq_false (by omega)]; rfl)
      refine Of (Of (On (Pt ?_)))
      refine On (Pt ?_)
      refine On (Pf ?_)
      refine Pt ?_
      refine Qn (aQ rfl ?_)
      refine Sr (Am ?_)
      refine Qn (Rb (aR (aH (aL (ak (hR := ?_))))))
      exact ⟨by rw [ay]; rfl, Ha.kept⟩
     refine On (Mv ?_)
     refine On (Vg ?_)
     refine On (Pf ?_)
     refine On (Pt ?_)
     refine On (Pf ?_)
     refine Pt ?_
     refine Qn (Cp rfl (fun Ic => ?_) (fun Ic => ?_))
     ·have ay := lu i c hc (by rw [uq, decide_eq_false JR, decide_eq_false Ux, decide_eq_false (by omega)]; rfl)
      refine Sr (Am ?_)
      refine Qn (Rb (aR (aH (aL (ak (hR := ?_))))))
      exact ⟨by rw [ay]; rfl, Ha.kept⟩
     have hn : j6 c = true := by rw [uq, decide_eq_true (show 48 ≤ c.toNat ∧ c.toNat ≤ 57 by omega)]; simp
     refine aY (aA (aj (aB (Mv ?_))))
     refine Vv (Gives.bM rfl rfl rfl (by omega)) (Am ?_)
     refine aP ?_
     exact aC (i + 1) ⟨rfl, rfl, trivial⟩ ⟨⟨by omega, Eo hn, fun _ => YL (by omega)⟩, Ha⟩ (by omega)
    have hn : j6 c = true := by rw [uq, decide_eq_true (h95.2 (by omega))]; simp
    refine Of (Of (Of (Ou (Ou (Of (On (Pf ?_)))))))
    refine On (Pf ?_)
    refine Pt ?_
    refine Qn (bg rfl ?_)
    refine aY (aA (aj (aB (Mv ?_))))
    refine Vv (Gives.bM rfl rfl rfl (by omega)) (Am ?_)
    refine aP ?_
    exact aC (i + 1) ⟨rfl, rfl, trivial⟩ ⟨⟨by omega, Eo hn, fun _ => YL (by omega)⟩, Ha⟩ (by omega)
   have hl : 97 ≤ c.toNat ∧ c.toNat ≤ 122 := by omega
   refine Of (Of (Of (Ou (Ou (Ou (Ou (Ou (Ou (Ou (Ou (Ou (Ou (Of (Pf ?_))))))))))))))
   refine Qn (bg rfl ?_)
   refine aY (aA (aj (aB (Mv ?_))))
   refine Vv (Gives.bM rfl rfl rfl (by omega)) (Am ?_)
   refine aP ?_
   exact aC (i + 1) ⟨rfl, rfl, trivial⟩ ⟨⟨by omega, Eo (by rw [uq, decide_eq_true hl]; simp), fun _ => by
   rcases Nat.eq_zero_or_pos i with e | e
   ·rw [e] at LZ; rw [LZ]; exact decide_eq_true hl
   exact YL e⟩, Ha⟩ (by omega)
  have JR : ¬ (97 ≤ c.toNat ∧ c.toNat ≤ 122) := by omega
  refine Of (Of (Pf ?_))
  refine Am ?_
  refine Nx (Mv ?_)
  refine Vv (Gives.not rfl) (Mv ?_)
  refine On (Mv ?_)
  refine On (Ve ?_)
  refine On (Mv ?_)
  refine aG (t := 34) rfl (fun Sf => ?_) (fun Sf => ?_)
  ·have ay := mF JR (by omega)
   refine Of (Of (Of (Ou (Ou (Ou (Ou (Ou (Ou (Of (On (Pt ?_)))))))))))
   refine Pt ?_
   refine Qn (aQ rfl ?_)
   refine Sr (Am ?_)
   refine Qn (Rb (aR (aH (aL (ak (hR := ?_))))))
   exact ⟨by rw [ay]; rfl, Ha.kept⟩
  have hi0 : ¬ i = 0 := by omega
  refine On (Mv ?_)
  refine On (Vn ?_)
  refine On (Mv ?_)
  refine aG (t := 37) rfl (fun Sg => ?_) (fun Sg => ?_)
  ·have Ux : ¬ c = 95 := fun e => Sg (by rw [e]; rfl)
   refine On (Mv ?_)
   refine On (Vl ?_)
   refine On (Mv ?_)
   refine aG (t := 40) rfl (fun Sh => ?_) (fun Sh => ?_)
   ·have ay := lu i c hc (by rw [uq, decide_eq_false JR, decide_eq_false Ux, decide_eq_false (by omega)]; rfl)
    refine Of (Of (On (Pt ?_)))
    refine On (Pt ?_)
    refine On (Pf ?_)
    refine Pt ?_
    refine Qn (aQ rfl ?_)
    refine Sr (Am ?_)
    refine Qn (Rb (aR (aH (aL (ak (hR := ?_))))))
    exact ⟨by rw [ay]; rfl, Ha.kept⟩
   refine On (Mv ?_)
   refine On (Vg ?_)
   refine On (Pf ?_)
   refine On (Pt ?_)
   refine On (Pf ?_)
   refine Pt ?_
   refine Qn (Cp rfl (fun Id => ?_) (fun Id => ?_))
   ·have ay := lu i c hc (by rw [uq, decide_eq_false JR, decide_eq_false Ux, decide_eq_false (by omega)]; rfl)
    refine Sr (Am ?_)
    refine Qn (Rb (aR (aH (aL (ak (hR := ?_))))))
    exact ⟨by rw [ay]; rfl, Ha.kept⟩
   have hn : j6 c = true := by rw [uq, decide_eq_true (show 48 ≤ c.toNat ∧ c.toNat ≤ 57 by omega)]; simp
   refine aY (aA (aj (aB (Mv ?_))))
   refine Vv (Gives.bM rfl rfl rfl (by omega)) (Am ?_)
   refine aP ?_
   exact aC (i + 1) ⟨rfl, rfl, trivial⟩ ⟨⟨by omega, Eo hn, fun _ => YL (by omega)⟩, Ha⟩ (by omega)
  have hn : j6 c = true := by rw [uq, decide_eq_true (h95.2 (by omega))]; simp
  refine Of (Of (Of (Ou (Ou (Of (On (Pf ?_)))))))
  refine On (Pf ?_)
  refine Pt ?_
  refine Qn (bg rfl ?_)
  refine aY (aA (aj (aB (Mv ?_))))
  refine Vv (Gives.bM rfl rfl rfl (by omega)) (Am ?_)
  refine aP ?_
  exact aC (i + 1) ⟨rfl, rfl, trivial⟩ ⟨⟨by omega, Eo hn, fun _ => YL (by omega)⟩, Ha⟩ (by omega)
 have jW : i = s.length := by omega
 rw [jW, List.take_length] at dJ
 refine bq (aT (aO (aV (aj (Sr (Am ?_))))))
 refine Qn (aM (ak (hR := ?_)))
 exact ⟨congrArg Value.bool (by unfold dG; rw [decide_eq_true JF, YL (by omega), dJ]; rfl), Ha.kept⟩
theorem Fh {p : cB} {v : Value} (hp : fD w v p) : bF Tryz.prog 41 [v] w fun v w' => v = .bool (jf p) ∧ Kept noB w w' := by
 obtain ⟨vw, vc, rfl, hw, r, hr, mG⟩ := hp
 obtain ⟨A, m, rfl, ⟨hm, xK⟩, hA⟩ := hr
 have AO := mG.len
 have H := Sep.bB w
 refine dP Tryz.func41 rfl rfl rfl rfl ?_
 refine Sr (dz H (cs := [vw, .slice A r.length m, I p.group]) rfl (h := fun b1 w2 H2 k1 => ?_))
 refine Am ?_
 refine Nx (Vf ?_)
 refine Ld H2 ?_
 refine Vs ?_
 refine Am ?_
 refine Qn (au (Sr (Mv ?_)))
 refine Vl ?_
 refine Mv ?_
 refine aG (t := 11) rfl (fun Sa => ?_) (fun Sa => ?_)
 ·have ay : jf p = false := mW fun h => by omega
  refine Of (Of (Pt ?_))
  refine Mv ?_
  refine Of (Of (Of (Pt ?_)))
  refine Mv ?_
  refine Of (Of (Of (Of (Pt ?_))))
  refine Qn (aQ rfl ?_)
  refine Sr (Am ?_)
  refine Qn (Rs (ak (hR := ?_)))
  exact ⟨by rw [ay]; rfl, H2.kept⟩
 refine On (Mv ?_)
 refine On (Vg ?_)
 refine Pf ?_
 refine Mv ?_
 refine aG (t := 15) rfl (fun Sb => ?_) (fun Sb => ?_)
 ·have ay : jf p = false := mW fun h => by omega
  refine Of (Of (Of (Pt ?_)))
  refine Mv ?_
  refine Of (Of (Of (Of (Pt ?_))))
  refine Qn (aQ rfl ?_)
  refine Sr (Am ?_)
  refine Qn (Rs (ak (hR := ?_)))
  exact ⟨by rw [ay]; rfl, H2.kept⟩
 refine On (Vf ?_)
 refine On (Ld H2 ?_)
 refine On (Vl ?_)
 refine Pf ?_
 refine Mv ?_
 refine aG (t := 20) rfl (fun Sc => ?_) (fun Sc => ?_)
 ·have ay : jf p = false := mW fun h => by omega
  refine Of (Of (Of (Of (Pt ?_))))
  refine Qn (aQ rfl ?_)
  refine Sr (Am ?_)
  refine Qn (Rs (ak (hR := ?_)))
  exact ⟨by rw [ay]; rfl, H2.kept⟩
 refine On (Vf ?_)
 refine On (Ld H2 ?_)
 refine On (Mv ?_)
 refine On (Vg ?_)
 refine Pf ?_
 refine Qn (Cp rfl (fun Ia => ?_) (fun Ia => ?_))
 ·have ay : jf p = false := mW fun h => by omega
  refine Sr (Am ?_)
  refine Qn (Rs (ak (hR := ?_)))
  exact ⟨by rw [ay]; rfl, H2.kept⟩
 have JF : 1 ≤ p.cols.length ∧ p.cols.length ≤ 16 ∧ -1 ≤ p.group ∧ p.group ≤ p.cols.length := by omega
 refine Sk (au (Sr (Am ?_)))
 refine Qn (aF (bA (fun i : Nat => [(1, bI b1), (3, I r.length), (4, I i)]) (fun i w' => (i ≤ p.cols.length ∧ (∀ (a : Nat) x, a < i → p.cols[a]? = some x → dG x.name = true ∧ ¬ (0 ≤ p.group ∧ x.name = eB)) ∧ ∀ (a b : Nat) x y, a < b → b < i → p.cols[a]? = some x → p.cols[b]? = some y → x.name ≠ y.name) ∧ Sep w noB [blk b1 [vw, .slice A r.length m, I p.group] 25] w') (fun i _ => p.cols.length - i) 0 ⟨rfl, rfl, rfl, trivial⟩ ⟨⟨Nat.zero_le _, fun a x h => by omega, fun a b x y _ h => by omega⟩, H2⟩ (fun i τ wa hI => ?_)))
 obtain ⟨⟨hi, hg, hd⟩, Ha⟩ := hI
 try simp only [cZ, like, bC, bZ]
 refine au (Sr (Mv ?_))
 refine Mv ?_
 refine Vl ?_
 refine Qn (Cp rfl (fun Ib => ?_) (fun Ib => ?_))
 ·have bU : i < p.cols.length := by omega
  obtain ⟨vx, hx, uG⟩ := mG.at bU
  have pq : p.cols[i]? = some p.cols[i] := List.getElem?_eq_getElem bU
  obtain ⟨o, ho⟩ : ∃ o, o = p.cols[i] := ⟨_, rfl⟩
  rw [← ho] at hx uG pq
  have YM := List.mem_of_getElem? pq
  refine Sk (au (aF (au (Sr (Vf ?_)))))
  refine Ld Ha ?_
  refine Mv ?_
  refine Vv (Gives.eT rfl rfl (by assumption) (by omega)) (Vv (Gives.fH rfl (by assumption) (by omega)) ?_)
  refine Vv (Gives.iJ rfl Ha (by assumption) (by assumption) rfl) (aN Ha (Bb o.name) (h := fun wb Hb ka => ?_))
  refine Vv (Gives.not rfl) (Mv ?_)
  refine dh (t := 39) rfl (fun Sd => ?_) (fun Sd => ?_)
  ·have ay : jf p = false := mW fun h => by rw [(h.2.1 o YM).1] at Sd; exact absurd Sd (by decide)
   refine Of (Of (Of (Of (Ou (Ou (Ou (Ou (Ou (Ou (Ou (Of (Pt ?_))))))))))))
   refine Qn (aQ rfl ?_)
   refine Sr (Am ?_)
   refine Qn (Rs (aH (aL (aR (aH (aL (ak (hR := ?_))))))))
   exact ⟨by rw [ay]; rfl, Hb.kept⟩
  have En : dG o.name = true := by simpa using Sd
  refine On (Vf ?_)
  refine On (Ld Hb ?_)
  refine On (Vv (Gives.geq rfl rfl) (On ?_))
  refine Mv ?_
  refine aG (t := 43) rfl (fun Se => ?_) (fun Se => ?_)
  ·refine On (Vf ?_)
   refine On (Ld Hb ?_)
   refine On (Mv ?_)
   refine On (Vv (Gives.eT rfl rfl (by assumption) (by omega)) (On ?_))
   refine Vv (Gives.fH rfl (by assumption) (by omega)) (On ?_)
   refine Vv (Gives.iJ rfl Hb (by assumption) (by assumption) rfl) (On ?_)
   refine Vv (Gives.iD rfl rfl) (On ?_)
   refine Pt ?_
   refine Pf ?_
   refine Qn (Cp rfl (fun Ic => ?_) (fun Ic => ?_))
   ·have ay : jf p = false := mW fun h => (h.2.1 o YM).2 ⟨by omega, Ic⟩
    refine Sr (Am ?_)
    refine Qn (Rs (aH (aL (aR (aH (aL (ak (hR := ?_))))))))
    exact ⟨by rw [ay]; rfl, Hb.kept⟩
   have Z7 : ¬ (0 ≤ p.group ∧ o.name = eB) := fun h => Ic h.2
   refine Sk (Sr (Am ?_))
   refine Qn (aF (bA (fun k : Nat => [(1, bI b1), (3, I r.length), (4, I i), (5, I k)]) (fun k w' => (k ≤ i ∧ ∀ (a : Nat) x, a < k → p.cols[a]? = some x → x.name ≠ o.name) ∧ Sep w noB [blk b1 [vw, .slice A r.length m, I p.group] 25] w') (fun k _ => i - k) 0 ⟨rfl, rfl, rfl, rfl, trivial⟩ ⟨⟨Nat.zero_le _, fun a x h => by omega⟩, Hb⟩ (fun k τ wc hI => ?_)))
   obtain ⟨⟨hk, Z8⟩, Hc⟩ := hI
   try simp only [cZ, like, bC]
   refine au (Sr (Mv ?_))
   refine Mv ?_
   refine Vl ?_
   refine Qn (Cp rfl (fun Id => ?_) (fun Id => ?_))
   ·have Gw : k < i := by omega
    obtain ⟨vy, hy, Rh⟩ := mG.at (show k < p.cols.length by omega)
    have Yc : p.cols[k]? = some (p.cols[k]'(by omega)) := List.getElem?_eq_getElem (by omega)
    obtain ⟨u, hu⟩ : ∃ u, u = p.cols[k]'(by omega) := ⟨_, rfl⟩
    rw [← hu] at hy Rh Yc
    refine Sk (au (aF (au (bG rfl Hc (h := fun Sf wd Hd => ?_)))))
    refine Gp Sf 0 rfl rfl (fun _ => (Gives.dx rfl)) (cK Sf 1 Hd (h := ?_))
    refine Gm Sf 2 ?_
    refine Gp Sf 3 rfl rfl (fun _ => (Gives.eT rfl rfl (by assumption) (by omega))) (Gp Sf 4 rfl rfl (fun _ => (Gives.fH rfl (by assumption) (by omega))) ?_)
    refine Gl Sf 5 rfl rfl (Gives.iJ (i := k) (f := 0) rfl Hd hA hy rfl) (Gp Sf 6 rfl rfl (fun _ => (Gives.dx rfl)) ?_)
    refine cK Sf 7 Hd (h := ?_)
    refine Gm Sf 8 ?_
    refine Gp Sf 9 rfl rfl (fun _ => (Gives.eT rfl rfl (by assumption) (by omega))) (Gp Sf 10 rfl rfl (fun _ => (Gives.fH rfl (by assumption) (by omega))) ?_)
    refine Gl Sf 11 rfl rfl (Gives.iJ (i := i) (f := 0) rfl Hd hA hx rfl) (Gp Sf 12 rfl rfl (fun _ => (Gives.iD rfl rfl)) ?_)
    refine bR Sf (by kernel_rfl) ?_
    refine aj (Cp rfl (fun Ie => ?_) (fun Ie => ?_))
    ·have ay : jf p = false := mW fun h => CU.1 h.2.2 k i u o Gw Yc pq Ie
     refine Sr (Am ?_)
     refine Qn (Rb (aR (aH (aH (aL (aR (aH (aL (ak (hR := ?_))))))))))
     exact ⟨by rw [ay]; rfl, Hd.kept⟩
    refine aY (aA (aj (aB (Mv ?_))))
    refine Vv (Gives.bM rfl rfl rfl (by omega)) (Am ?_)
    refine aP ?_
    exact aC (k + 1) ⟨rfl, rfl, rfl, rfl, trivial⟩ ⟨⟨by omega, fun a x ha mq => by
    rcases Nat.lt_succ_iff_lt_or_eq.1 ha with e | e
    ·exact Z8 a x e mq
    subst e; rw [Yc] at mq; injection mq with mq; rw [← mq]; assumption⟩, Hd⟩ (by omega)
   have BZ : k = i := by omega
   refine bq (aT (aO (aV (aA (aj (aB (Mv ?_)))))))
   refine Vv (Gives.bM rfl rfl rfl (by omega)) (Am ?_)
   refine aP ?_
   exact aC (i + 1) ⟨rfl, rfl, rfl, trivial⟩ ⟨⟨by omega, fun a x ha mq => by
   rcases Nat.lt_succ_iff_lt_or_eq.1 ha with e | e
   ·exact hg a x e mq
   ·subst e; rw [pq] at mq; injection mq with mq; rw [← mq]; exact ⟨En, Z7⟩, fun a b x y Ef hb mq xQ => by
   rcases Nat.lt_succ_iff_lt_or_eq.1 hb with e | e
   ·exact hd a b x y Ef e mq xQ
   subst e; rw [pq] at xQ; injection xQ with xQ; rw [← xQ]; exact Z8 a x (by omega) mq⟩, Hc⟩ (by omega)
  have Z7 : ¬ (0 ≤ p.group ∧ o.name = eB) := fun h => Se h.1
  refine Of (Of (Of (Of (Of (Of (Of (On (Pf ?_))))))))
  refine Pf ?_
  refine Qn (bg rfl ?_)
  refine Sk (Sr (Am ?_))
  refine Qn (aF (bA (fun k : Nat => [(1, bI b1), (3, I r.length), (4, I i), (5, I k)]) (fun k w' => (k ≤ i ∧ ∀ (a : Nat) x, a < k → p.cols[a]? = some x → x.name ≠ o.name) ∧ Sep w noB [blk b1 [vw, .slice A r.length m, I p.group] 25] w') (fun k _ => i - k) 0 ⟨rfl, rfl, rfl, rfl, trivial⟩ ⟨⟨Nat.zero_le _, fun a x h => by omega⟩, Hb⟩ (fun k τ we hI => ?_)))
  obtain ⟨⟨hk, Z8⟩, He⟩ := hI
  try simp only [cZ, like, bC]
  refine au (Sr (Mv ?_))
  refine Mv ?_
  refine Vl ?_
  refine Qn (Cp rfl (fun If => ?_) (fun If => ?_))
  ·have Gw : k < i := by omega
   obtain ⟨vy, hy, Rh⟩ := mG.at (show k < p.cols.length by omega)
   have Yc : p.cols[k]? = some (p.cols[k]'(by omega)) := List.getElem?_eq_getElem (by omega)
   obtain ⟨u, hu⟩ : ∃ u, u = p.cols[k]'(by omega) := ⟨_, rfl⟩
   rw [← hu] at hy Rh Yc
   refine Sk (au (aF (au (bG rfl He (h := fun Sg wf Hf => ?_)))))
   refine Gp Sg 0 rfl rfl (fun _ => (Gives.dx rfl)) (cK Sg 1 Hf (h := ?_))
   refine Gm Sg 2 ?_
   refine Gp Sg 3 rfl rfl (fun _ => (Gives.eT rfl rfl (by assumption) (by omega))) (Gp Sg 4 rfl rfl (fun _ => (Gives.fH rfl (by assumption) (by omega))) ?_)
   refine Gl Sg 5 rfl rfl (Gives.iJ (i := k) (f := 0) rfl Hf hA hy rfl) (Gp Sg 6 rfl rfl (fun _ => (Gives.dx rfl)) ?_)
   refine cK Sg 7 Hf (h := ?_)
   refine Gm Sg 8 ?_
   refine Gp Sg 9 rfl rfl (fun _ => (Gives.eT rfl rfl (by assumption) (by omega))) (Gp Sg 10 rfl rfl (fun _ => (Gives.fH rfl (by assumption) (by omega))) ?_)
   refine Gl Sg 11 rfl rfl (Gives.iJ (i := i) (f := 0) rfl Hf hA hx rfl) (Gp Sg 12 rfl rfl (fun _ => (Gives.iD rfl rfl)) ?_)
   refine bR Sg (by kernel_rfl) ?_
   refine aj (Cp rfl (fun Ig => ?_) (fun Ig => ?_))
   ·have ay : jf p = false := mW fun h => CU.1 h.2.2 k i u o Gw Yc pq Ig
    refine Sr (Am ?_)
    refine Qn (Rb (aR (aH (aH (aL (aR (aH (aL (ak (hR := ?_))))))))))
    exact ⟨by rw [ay]; rfl, Hf.kept⟩
   refine aY (aA (aj (aB (Mv ?_))))
   refine Vv (Gives.bM rfl rfl rfl (by omega)) (Am ?_)
   refine aP ?_
   exact aC (k + 1) ⟨rfl, rfl, rfl, rfl, trivial⟩ ⟨⟨by omega, fun a x ha mq => by
   rcases Nat.lt_succ_iff_lt_or_eq.1 ha with e | e
   ·exact Z8 a x e mq
   subst e; rw [Yc] at mq; injection mq with mq; rw [← mq]; assumption⟩, Hf⟩ (by omega)
  have BZ : k = i := by omega
  refine bq (aT (aO (aV (aA (aj (aB (Mv ?_)))))))
  refine Vv (Gives.bM rfl rfl rfl (by omega)) (Am ?_)
  refine aP ?_
  exact aC (i + 1) ⟨rfl, rfl, rfl, trivial⟩ ⟨⟨by omega, fun a x ha mq => by
  rcases Nat.lt_succ_iff_lt_or_eq.1 ha with e | e
  ·exact hg a x e mq
  ·subst e; rw [pq] at mq; injection mq with mq; rw [← mq]; exact ⟨En, Z7⟩, fun a b x y Ef hb mq xQ => by
  rcases Nat.lt_succ_iff_lt_or_eq.1 hb with e | e
  ·exact hd a b x y Ef e mq xQ
  subst e; rw [pq] at xQ; injection xQ with xQ; rw [← xQ]; exact Z8 a x (by omega) mq⟩, He⟩ (by omega)
 have jW : i = p.cols.length := by omega
 refine bq (aT (aO (aV (aj (Sr (Am ?_))))))
 refine Qn (aM (ak (hR := ?_)))
 exact ⟨congrArg Value.bool (Eq.symm (Fe.2 ⟨JF, fun o ho => by
 obtain ⟨a, ha⟩ := List.mem_iff_getElem?.1 ho
 exact hg a o (by have := (List.getElem?_eq_some_iff.1 ha).1; omega) ha, CU.2 fun a b x y Ef mq xQ => hd a b x y Ef (by have := (List.getElem?_eq_some_iff.1 xQ).1; omega) mq xQ⟩)), Ha.kept⟩
end
section
variable {w : World}
theorem oq (id : Int) (name : List UInt8) (t : dH) : bF Tryz.prog 71 [I id, str name, agg (aJ t)] w fun v w' => v = agg (bE (ng id name t)) ∧ Kept noB w w' := by
 have H := Sep.bB w
 refine Tm Tryz.func71 rfl rfl rfl rfl ?_
 refine Sr (dz H (cs := aJ t) rfl (h := fun b5 w2 H2 k1 => ?_))
 refine bD H2 (h := fun b6 w4 H4 k3 => ?_)
 refine Qn (au (bG rfl H4 (h := fun L8 w7 H7 => ?_)))
 refine Gm L8 0 ?_
 refine Gm L8 1 ?_
 refine dD L8 2 H7 (h := ?_)
 refine dD L8 3 H7 (h := ?_)
 refine fQ L8 4 [(2, false), (1, true), (0, true)] H7 (TH t) (h := fun wa Ha ka => ⟨(eZ rfl (by kernel_rfl) (Gives.nQ rfl (Ha.obj At1) (us := aJ t) rfl rfl) rfl (av (av (aK)))), ?_⟩)
 refine Gp L8 5 rfl rfl (fun _ => (Gives.build (out := bE (ng id name t)) (Fills.one rfl rfl rfl (by simp) rfl (Fills.one rfl rfl rfl (by simp) rfl (Fills.many rfl rfl (Nat.le_of_ble_eq_true rfl) rfl (Fills.many rfl rfl (Nat.le_of_ble_eq_true rfl) rfl Fills.nil)))))) (dF L8 6 [] Ha (h := fun wb Hb => ⟨aK, ?_⟩))
 refine bR L8 (by kernel_rfl) ?_
 refine aj (aM (aW (h := ?_)))
 exact ⟨_, gB Hb, rfl, Hb.kept⟩
theorem PE {cols : List gG} {p : cB} {vc vp : Value} (hc : dn w vc bE 7 cols) (hp : fD w vp p) :
    bF Tryz.prog 29 [vc, vp] w fun v w' => ∃ x, v = .tuple #[x, I (jN cols p).2] ∧ True ∧ Turn noB (cO 49 7 bE x (jN cols p).1) w w' := by
  have gu := hp
  obtain ⟨vw, vq, rfl, hw, r, hr, mG⟩ := hp
  obtain ⟨A, m, rfl, ⟨hm, xK⟩, hA⟩ := hr
  have AO := mG.len
  have H := Sep.bB w
  obtain ⟨res, ay⟩ : ∃ res, res = jN cols p := ⟨_, rfl⟩
  rw [← ay]
  unfold jN at ay
  obtain ⟨C, n, rfl, ⟨hwn, Z0⟩, hC⟩ := id hw
  refine eU Tryz.func29 rfl rfl rfl rfl ?_
  refine Sr (dz H (cs := [.slice C p.wh.length n, .slice A r.length m, I p.group]) rfl (h := fun b3 w2 H2 k1 => ?_))
  refine Am ?_
  refine Am ?_
  refine Qn (au (Sr (aZ H2 (h := ?_))))
  refine aN H2 (Fh (gu.keep H2.kept)) (h := fun w7 H7 k6 => ?_)
  refine Vv (Gives.not rfl) (Qn ?_)
  refine Cd rfl (fun JI => ?_) (fun JI => ?_)
  · rw [if_pos (by simpa using JI)] at ay
    refine Sr (Am ?_)
    refine Am ?_
    refine Qn (Rs (ak (hR := ?_)))
    exact ⟨_, by rw [ay]; rfl, trivial, by rw [ay]; exact (Sep.iX H7 49 7 bE).first.turn⟩
  rw [if_neg (by simpa using JI)] at ay
  have Ya : p.cols.length ≤ 16 := (mR (by simpa using JI)).1.2.1
  refine Sk (fO (fun _ : Unit => [(0, vc), (3, bI b3)]) (fun _ w' => res = uN cols p.group 0 p.cols [] ∧ Sep w noB [blk b3 [.slice C p.wh.length n, .slice A r.length m, I p.group] 25] w') ?_ ?_)
  · refine Sr (Vf ?_)
    refine Ld H7 ?_
    refine Vs ?_
    refine Vg ?_
    refine Qn (Cp rfl (fun Ia => ?_) (fun Ia => ?_))
    · have fM : p.wh ≠ [] := fun e => by rw [e] at Ia; exact absurd Ia (by decide)
      refine Sr (Mv ?_)
      refine Vf ?_
      refine Ld H7 ?_
      refine aN H7 (Ga (hc.keep H7.kept) (hw.keep H7.kept)) (h := fun wa Ha ka => ?_)
      refine Mv ?_
      refine Vx ?_
      refine Vx ?_
      refine bD Ha (h := fun b6 wb Hb kb => ?_)
      refine aD Hb (h := fun wc Hc => ?_)
      refine Am ?_
      refine Qn (au (Sr (Mv ?_)))
      refine Vn ?_
      refine Qn (Cp rfl (fun Ib => ?_) (fun Ib => ?_))
      · rw [if_pos ⟨fM, Ib⟩] at ay
        refine Sr (Mv ?_)
        refine Am ?_
        refine Am ?_
        refine Qn (Rs (gH (ak (hR := ?_))))
        exact ⟨_, by rw [ay]; rfl, trivial, by rw [ay]; exact (Sep.iX Hc 49 7 bE).first.turn⟩
      rw [if_neg (fun h => Ib h.2)] at ay
      refine Sk (Sr (Vf ?_))
      refine Ld Hc ?_
      refine Vn ?_
      refine Qn (Cp rfl (fun Ic => ?_) (fun Ic => ?_))
      · rw [if_pos ⟨fM, Ic⟩] at ay
        refine Sr (Am ?_)
        refine Am ?_
        refine Qn (aM (gH (ak (hR := ?_))))
        exact ⟨_, by rw [ay]; rfl, trivial, by rw [ay]; exact (Sep.iX Hc 49 7 bE).first.turn⟩
      rw [if_neg (fun h => Ic h.2)] at ay
      refine aY ?_
      exact aS () ⟨rfl, rfl, trivial⟩ ⟨ay, Hc.fI⟩
    have he : p.wh = [] := List.eq_nil_of_length_eq_zero (by omega)
    rw [if_neg (fun h => h.1 he), if_neg (fun h => h.1 he)] at ay
    refine aY ?_
    exact aS () ⟨rfl, rfl, trivial⟩ ⟨ay, H7⟩
  rintro _ τ wd ⟨hres2, Hd⟩
  simp only [cZ, like, bC, bZ]
  refine Sr (Vv (Gives.build (out := aJ gq) (Fills.one rfl rfl rfl (by simp) rfl Fills.nil)) (bD Hd (h := fun b8 we He kc => ?_)))
  refine aD He (h := fun wf Hf => ?_)
  refine Nx (Am ?_)
  refine Qn (au (Sr (Am ?_)))
  refine Qn (aF ?_)
  have Hg := Sep.iX Hf 49 7 bE
  refine bA (fun x : Nat × List gG × Value => [(0, vc), (3, bI b3), (8, bI b8), (9, x.2.2), (10, I x.1)]) (fun x w' => (x.1 ≤ r.length ∧ x.2.1.length ≤ 2 * x.1 ∧ uN cols p.group x.1 (p.cols.drop x.1) x.2.1 = res) ∧ Sep w noB [cO 49 7 bE x.2.2 x.2.1, blk b8 (aJ gq) 45, blk b3 [.slice C p.wh.length n, .slice A r.length m, I p.group] 25] w') (fun x _ => r.length - x.1) (0, [], .slice none 0 0) ⟨rfl, rfl, rfl, rfl, rfl, trivial⟩ ⟨⟨Nat.zero_le _, by decide, hres2.symm⟩, Hg⟩ (fun x τ wg hI => ?_)
  obtain ⟨i, acc, v0⟩ := x
  obtain ⟨⟨hi, JJ, dJ⟩, Hg⟩ := hI
  dsimp only at hi JJ dJ Hg
  try simp only [cZ, like, bC]
  refine au (Sr (Mv ?_))
  refine Vf ?_
  refine Ld Hg ?_
  refine Vs ?_
  refine Vl ?_
  refine Qn (Cp rfl (fun Id => ?_) (fun Id => ?_))
  · have bU : i < p.cols.length := by omega
    obtain ⟨vx, hx, uG⟩ := mG.at bU
    have pq : p.cols[i]? = some p.cols[i] := List.getElem?_eq_getElem bU
    obtain ⟨o, ho⟩ : ∃ o, o = p.cols[i] := ⟨_, rfl⟩
    rw [← ho] at hx uG pq
    rw [Ab pq, uN] at dJ
    refine Sk (au (aF (Sr (Mv ?_))))
    refine Vf ?_
    refine Ld Hg ?_
    refine Mv ?_
    refine Vv (Gives.eT rfl rfl (by assumption) (by omega)) (Vv (Gives.fH rfl (by assumption) (by omega)) ?_)
    refine Vv (Gives.iJ rfl Hg (by assumption) (by assumption) rfl) (aN Hg (Ga (hc.keep Hg.kept) (uG.keep Hg.kept)) (h := fun wi Hh kd => ?_))
    refine Mv ?_
    refine Vx ?_
    refine Vx ?_
    refine bD Hh (h := fun b11 wj Hi ke => ?_)
    refine aD Hi (h := fun wk Hj => ?_)
    refine Am ?_
    refine Qn (au (Sr (Mv ?_)))
    refine Vn ?_
    refine Qn (Cp rfl (fun Ie => ?_) (fun Ie => ?_))
    · rw [if_pos Ie] at dJ
      refine Sr (Mv ?_)
      refine Am ?_
      refine Am ?_
      refine Qn (Rs (aH (aL (aR (aH (aL (ak (hR := ?_))))))))
      exact ⟨_, by rw [← dJ]; rfl, trivial, by rw [← dJ]; exact (Sep.iX Hj 49 7 bE).first.turn⟩
    rw [if_neg Ie] at dJ
    refine Sk (fO (fun z : Value => [(0, vc), (3, bI b3), (8, bI b8), (9, z), (10, I i), (11, bI b11)]) (fun z w' => Sep w noB [cO 49 7 bE z (if (i : Int) = p.group then acc ++ [ng ((i : Int) + 1) eB gq] else acc), blk b11 (aJ (iT cols o.steps).1) 45, blk b8 (aJ gq) 45, blk b3 [.slice C p.wh.length n, .slice A r.length m, I p.group] 25] w') ?_ ?_)
    · refine Sr (Vf ?_)
      refine Ld Hj ?_
      refine Vv (Gives.geq rfl rfl) (Mv ?_)
      refine aG (t := 58) rfl (fun Sa => ?_) (fun Sa => ?_)
      · refine On (Mv ?_)
        refine On (Vf ?_)
        refine On (Ld Hj ?_)
        refine On (Ve ?_)
        refine Pt ?_
        refine Qn (Cp rfl (fun If => ?_) (fun If => ?_))
        · have Wu : (i : Int) = p.group := If
          refine aB (Mv ?_)
          refine Mv ?_
          refine Vv (Gives.bM (c := (i : Int) + 1) rfl rfl rfl (by omega)) (aZ Hj (h := ?_))
          refine aN Hj (oq ((i : Int) + 1) eB gq) (h := fun wl Hk kf => ?_)
          refine aX Hk (xs := [.tmp 68]) (out := [ng ((i : Int) + 1) eB gq].flatMap bE) (aU.many rfl rfl aU.nil) rfl rfl rfl (fun bs wm Hl kg => ?_)
          refine gK Hl (news := [ng ((i : Int) + 1) eB gq]) At1 (by unfold maxLen; simp; omega) (by simp; omega) (cells_one (fun _ => rfl) _) (h := ?_)
          intro v2 wn Hm
          refine Am ?_
          refine aP ?_
          exact aS v2 ⟨rfl, rfl, rfl, rfl, rfl, rfl, trivial⟩ (by rw [if_pos Wu]; exact Hm.dS)
        have Wu : ¬ (i : Int) = p.group := If
        refine aY ?_
        exact aS v0 ⟨rfl, rfl, rfl, rfl, rfl, rfl, trivial⟩ (by rw [if_neg Wu]; exact Hj.dS)
      have Wu : ¬ (i : Int) = p.group := fun e => Sa (by omega)
      refine Of (Of (Of (Of (Pf ?_))))
      refine Qn (bg rfl ?_)
      refine aY ?_
      exact aS v0 ⟨rfl, rfl, rfl, rfl, rfl, rfl, trivial⟩ (by rw [if_neg Wu]; exact Hj.dS)
    intro v1 τ wo Hn
    simp only [cZ, like, bC]
    refine au (Sr (Vf ?_))
    refine Ld Hn ?_
    refine Vl ?_
    refine Mv ?_
    refine aG (t := 74) rfl (fun Sb => ?_) (fun Sb => ?_)
    · have Ee : ¬ (0 ≤ p.group ∧ p.group ≤ i) := fun h => by omega
      rw [if_neg Ee] at dJ
      refine Of (Of (Of (Of (Pt ?_))))
      refine Qn (aQ rfl ?_)
      refine au (bG rfl Hn (h := fun Sc wp Ho => ?_))
      refine Gm Sc 0 ?_
      refine Gm Sc 1 ?_
      refine Gp Sc 2 rfl rfl (fun _ => (Gives.bM (c := (i : Int) + 1) rfl rfl rfl (by omega))) (Gp Sc 3 rfl rfl (fun _ => (Gives.dx rfl)) ?_)
      refine cK Sc 4 Ho (h := ?_)
      refine Gm Sc 5 ?_
      refine Gp Sc 6 rfl rfl (fun _ => (Gives.eT rfl rfl (by assumption) (by omega))) (Gp Sc 7 rfl rfl (fun _ => (Gives.fH rfl (by assumption) (by omega))) ?_)
      refine Gl Sc 8 rfl rfl (Gives.iJ rfl Ho (by assumption) (by assumption) rfl) (dD Sc 9 Ho (h := ?_))
      have Yd : ¬ (i : Int) = p.group := fun e => Ee ⟨by omega, by omega⟩
      rw [if_neg Yd] at Ho
      refine fQ Sc 10 [(0, true)] Ho (oq ((i : Int) + 1) o.name (iT cols o.steps).1) (h := fun wq Hp kh => ⟨av (aK), ?_⟩)
      refine eD Sc 11 [(0, true)] Hp (xs := [.tmp 90]) (out := [ng ((i : Int) + 1) o.name (iT cols o.steps).1].flatMap bE) (aU.many rfl rfl aU.nil) (h := fun bs wr Hq => ⟨av (aK), ?_⟩)
      refine jo Sc 12 [] Hq (news := [ng ((i : Int) + 1) o.name (iT cols o.steps).1]) At0 (by unfold maxLen; simp; omega) (by simp; omega) (cells_one (fun _ => rfl) _) (h := fun v3 ws Hr => ⟨aK, ?_⟩)
      refine rX Sc 13 [] (h := ⟨aK, ?_⟩)
      refine bR Sc (by kernel_rfl) ?_
      refine aj (bq (aT (aV (aj (aB (Mv ?_))))))
      refine Vv (Gives.bM rfl rfl rfl (by omega)) (Am ?_)
      refine aP ?_
      exact aC (i + 1, acc ++ [ng ((i : Int) + 1) o.name (iT cols o.steps).1], v3) ⟨rfl, rfl, rfl, rfl, rfl, trivial⟩ ⟨⟨by dsimp only; omega, by dsimp only; rw [List.length_append, List.length_singleton]; omega, dJ⟩, Hr.dS.fI⟩ (by dsimp only; omega)
    refine On (Mv ?_)
    refine On (Vf ?_)
    refine On (Ld Hn ?_)
    refine On (Vl ?_)
    refine Pf ?_
    refine Qn (Cp rfl (fun Ig => ?_) (fun Ig => ?_))
    · have Ee : ¬ (0 ≤ p.group ∧ p.group ≤ i) := fun h => by omega
      rw [if_neg Ee] at dJ
      refine au (bG rfl Hn (h := fun Sd wt Hs => ?_))
      refine Gm Sd 0 ?_
      refine Gm Sd 1 ?_
      refine Gp Sd 2 rfl rfl (fun _ => (Gives.bM (c := (i : Int) + 1) rfl rfl rfl (by omega))) (Gp Sd 3 rfl rfl (fun _ => (Gives.dx rfl)) ?_)
      refine cK Sd 4 Hs (h := ?_)
      refine Gm Sd 5 ?_
      refine Gp Sd 6 rfl rfl (fun _ => (Gives.eT rfl rfl (by assumption) (by omega))) (Gp Sd 7 rfl rfl (fun _ => (Gives.fH rfl (by assumption) (by omega))) ?_)
      refine Gl Sd 8 rfl rfl (Gives.iJ rfl Hs (by assumption) (by assumption) rfl) (dD Sd 9 Hs (h := ?_))
      have Yd : ¬ (i : Int) = p.group := fun e => Ee ⟨by omega, by omega⟩
      rw [if_neg Yd] at Hs
      refine fQ Sd 10 [(0, true)] Hs (oq ((i : Int) + 1) o.name (iT cols o.steps).1) (h := fun wu Ht ki => ⟨av (aK), ?_⟩)
      refine eD Sd 11 [(0, true)] Ht (xs := [.tmp 90]) (out := [ng ((i : Int) + 1) o.name (iT cols o.steps).1].flatMap bE) (aU.many rfl rfl aU.nil) (h := fun bs wv Hu => ⟨av (aK), ?_⟩)
      refine jo Sd 12 [] Hu (news := [ng ((i : Int) + 1) o.name (iT cols o.steps).1]) At0 (by unfold maxLen; simp; omega) (by simp; omega) (cells_one (fun _ => rfl) _) (h := fun v3 ww Hv => ⟨aK, ?_⟩)
      refine rX Sd 13 [] (h := ⟨aK, ?_⟩)
      refine bR Sd (by kernel_rfl) ?_
      refine aj (bq (aT (aV (aj (aB (Mv ?_))))))
      refine Vv (Gives.bM rfl rfl rfl (by omega)) (Am ?_)
      refine aP ?_
      exact aC (i + 1, acc ++ [ng ((i : Int) + 1) o.name (iT cols o.steps).1], v3) ⟨rfl, rfl, rfl, rfl, rfl, trivial⟩ ⟨⟨by dsimp only; omega, by dsimp only; rw [List.length_append, List.length_singleton]; omega, dJ⟩, Hv.dS.fI⟩ (by dsimp only; omega)
    have Ee : 0 ≤ p.group ∧ p.group ≤ i := by omega
    rw [if_pos Ee] at dJ
    refine Sk (au (Sr (Vf ?_)))
    refine Ld Hn ?_
    refine Vn ?_
    refine Qn (Cp rfl (fun Ih => ?_) (fun Ih => ?_))
    · rw [if_pos Ih] at dJ
      refine Sr (Am ?_)
      refine Am ?_
      refine Qn (Rs (aH (aL (aR (aH (aL (ak (hR := ?_))))))))
      exact ⟨_, by rw [← dJ]; rfl, trivial, by rw [← dJ]; exact (Sep.iX Hn 49 7 bE).first.turn⟩
    rw [if_neg Ih] at dJ
    obtain ⟨acc2, L6⟩ : ∃ acc2, acc2 = if (i : Int) = p.group then acc ++ [ng ((i : Int) + 1) eB gq] else acc := ⟨_, rfl⟩
    rw [← L6] at Hn dJ
    have abj : acc2.length ≤ 2 * i + 1 := by
      rw [L6]
      split
      · rw [List.length_append, List.length_singleton]; omega
      omega
    refine Sk (bG rfl Hn (h := fun Se wx Hw => ?_))
    refine Gm Se 0 ?_
    refine Gm Se 1 ?_
    refine Gp Se 2 rfl rfl (fun _ => (Gives.bM (c := (i : Int) + 2) rfl rfl rfl (by omega))) (Gp Se 3 rfl rfl (fun _ => (Gives.dx rfl)) ?_)
    refine cK Se 4 Hw (h := ?_)
    refine Gm Se 5 ?_
    refine Gp Se 6 rfl rfl (fun _ => (Gives.eT rfl rfl (by assumption) (by omega))) (Gp Se 7 rfl rfl (fun _ => (Gives.fH rfl (by assumption) (by omega))) ?_)
    refine Gl Se 8 rfl rfl (Gives.iJ rfl Hw (by assumption) (by assumption) rfl) (dD Se 9 Hw (h := ?_))
    refine fQ Se 10 [(0, true)] Hw (oq ((i : Int) + 2) o.name gq) (h := fun wy Hx kj => ⟨av (aK), ?_⟩)
    refine eD Se 11 [(0, true)] Hx (xs := [.tmp 106]) (out := [ng ((i : Int) + 2) o.name gq].flatMap bE) (aU.many rfl rfl aU.nil) (h := fun bs wz Hy => ⟨av (aK), ?_⟩)
    refine jo Se 12 [] Hy (news := [ng ((i : Int) + 2) o.name gq]) At0 (by unfold maxLen; simp; omega) (by simp; omega) (cells_one (fun _ => rfl) _) (h := fun v3 wA Hz => ⟨aK, ?_⟩)
    refine rX Se 13 [] (h := ⟨aK, ?_⟩)
    refine bR Se (by kernel_rfl) ?_
    refine aA (aj (aB (Mv ?_)))
    refine Vv (Gives.bM rfl rfl rfl (by omega)) (Am ?_)
    refine aP ?_
    exact aC (i + 1, acc2 ++ [ng ((i : Int) + 2) o.name gq], v3) ⟨rfl, rfl, rfl, rfl, rfl, trivial⟩ ⟨⟨by dsimp only; omega, by dsimp only; rw [List.length_append, List.length_singleton]; omega, dJ⟩, Hz.dS.fI⟩ (by dsimp only; omega)
  have jW : i = r.length := by omega
  rw [jW, AO, List.drop_length, uN] at dJ
  refine bq (aT (aO (aV (aj (au (Sr (Vf ?_)))))))
  refine Ld Hg ?_
  refine Vf ?_
  refine Ld Hg ?_
  refine Vs ?_
  refine Ve ?_
  refine Qn (Cp rfl (fun Ii => ?_) (fun Ii => ?_))
  · rw [if_pos (by omega)] at dJ
    refine aB (Mv ?_)
    refine Vf ?_
    refine Ld Hg ?_
    refine Vv (Gives.bM (c := p.group + 1) rfl rfl rfl (by omega)) (aZ Hg (h := ?_))
    refine aN Hg (oq (p.group + 1) eB gq) (h := fun wB HA kk => ?_)
    refine aX HA (xs := [.tmp 120]) (out := [ng (p.group + 1) eB gq].flatMap bE) (aU.many rfl rfl aU.nil) rfl rfl rfl (fun bs wC HB kl => ?_)
    refine gK HB (news := [ng (p.group + 1) eB gq]) At0 (by unfold maxLen; simp; omega) (by simp; omega) (cells_one (fun _ => rfl) _) (h := ?_)
    intro v2 wD HC
    refine Am ?_
    refine Nx (Mv ?_)
    refine Am ?_
    refine Am ?_
    refine Qn (aM (ak (hR := ?_)))
    exact ⟨v2, by rw [← dJ]; rfl, trivial, by rw [← dJ]; exact HC.first.turn⟩
  rw [if_neg (by omega)] at dJ
  refine Sk (Sr (Mv ?_))
  refine Am ?_
  refine Am ?_
  refine Qn (aM (ak (hR := ?_)))
  exact ⟨v0, by rw [← dJ]; rfl, trivial, by rw [← dJ]; exact Hg.first.turn⟩
end
section
variable {w : World}
end
end Go.Proofs.YtolaedhdjcnijaaGreatDoor
namespace Go.Mw
open Go.RowKit
section
variable {P : Program} {r : Option Nat} {n : Nat} {ops : Array Oper} {Q : Post} {rest : List Oper} {σ : St} {w w₀ : World} {S : Nat → Prop} {rs : List HP} {put : HP → List HP} {ty : TypeId} {pos : String} {after : Array Edge} {p q : HP}
end
end Go.Mw
namespace Go.Proofs.YtolaedhdjcnijaaGreatDoor
open Go Go.Mw Go.Lib
set_option maxRecDepth 4000
def PG (v v' : Value) : Prop := ∀ (w : World) ns, dn w v intCells 1 ns → ∃ ns', dn w v' intCells 1 ns'
theorem PG.refl (v : Value) : PG v v := fun _ ns h => ⟨ns, h⟩
theorem PG.trans {a b c : Value} (h : PG a b) (k : PG b c) : PG a c := fun w ns h1 => let ⟨ns', h2⟩ := h w ns h1; k w ns' h2
section
variable {w : World} {F : Nat → Prop} {b : Nat} {v0 : Value}
end
theorem aa2 {α : Type} {enc : α → List Value} {k bs e : Nat} [hk : jU enc k] {x : α} {w₀ w : World} {S : Nat → Prop} {rs : List HP} (H : Mw.Sep w₀ S (blk bs ([x].flatMap enc) e :: rs) w) : Mw.Sep w₀ S (cO e k enc (.slice (some ⟨bs, 0, none⟩) 1 1) [x] :: rs) w :=
 Sep.JY (n := 1) H At0 (jT hk.len [x]) (by decide)
section
variable {w : World} {F : Nat → Prop} {b : Nat} {v0 : Value}
end
theorem xU (sep : UInt8) : ∀ l : List (List UInt8), l ≠ [] → fA sep l ++ [sep] = l.flatMap (· ++ [sep])
 | [], h => absurd rfl h
 | [w], _ => by simp [fA]
 | w :: x :: l, _ => by
  have ih := xU sep (x :: l) (by simp)
  show (w ++ sep :: fA sep (x :: l)) ++ [sep] = _
  rw [List.flatMap_cons, ← ih]
  simp
theorem uR {l : List bL} (h : (eY l).2 = 0) (hf : dV l) : (eY l).1.length ≤ 400000 := by
 obtain ⟨h1, h2, h3⟩ := CP h
 rw [h3]
 have := rW 32 (k := 6146) (ws := l.map dO) fun w hw => by
  obtain ⟨x, Od, rfl⟩ := List.mem_map.1 hw
  exact vF (h2 x Od) (hf x Od)
 rw [List.length_map] at this
 show (fA 32 (l.map dO)).length ≤ _
 omega
theorem sU {o : jM} : za o = true ↔ ((eY o.steps).2 ≠ 0 ∨ (eY o.steps).1 = []) := by unfold za; rw [decide_eq_true_iff]
section
variable {w : World}
theorem OA (n : Int) (hn : fits n) (hT : je w) : bF Tryz.prog 38 [I n] w fun v w' => v = str (Lib.itoa n) ∧ Kept noB w w' :=
 Calls.mono (Tryz.strconv_Itoa n hn.1 hn.2 w hT.pow) fun e w' he => by
  obtain ⟨rfl, k, os, rfl⟩ := he
  exact ⟨rfl, Gr w k os⟩
theorem RO (sep : UInt8) {l : List (List UInt8)} {v : Value} (hr : dn w v bX 1 l) (hl : l.length ≤ 1000000) (hlen : (fA sep l).length ≤ 140737488355328) : bF Tryz.prog 39 [v, str [sep]] w fun v' w' => v' = str (fA sep l) ∧ Kept noB w w' := by
 obtain ⟨A, c, rfl, ⟨hc, hc'⟩, hR⟩ := hr
 by_cases h0 : l = []
 ·subst h0
  exact Calls.mono (Tryz.strings_Join_none A c ⟨#[sep]⟩ w) fun e w' he => by
   obtain ⟨rfl, rfl⟩ := he
   exact ⟨rfl, Kept.refl _ _⟩
 have zS : 0 < l.length := List.length_pos_iff.2 h0
 obtain ⟨ad, rfl⟩ := hR.addr zS
 obtain ⟨x0, Ye⟩ := get_some zS
 obtain ⟨ad', e0, Rn⟩ := hR.cell (f := 0) Ye rfl
 injection e0 with e0; subst e0
 have vP := World.cell?_spot Rn
 obtain ⟨bk, o, sp⟩ := ad
 have Yf : sp = none := vP
 subst Yf
 have hbk : bk < w.heap.size := by
  refine Classical.byContradiction fun hn => ?_
  unfold World.cell? at Rn
  rw [Array.getElem?_eq_none (by show w.heap.size ≤ bk; omega)] at Rn
  cases Rn
 have yV : (l.map fun s : List UInt8 => (⟨s.toArray⟩ : ByteArray)).map (·.data.toList) = l := by
  rw [List.map_map]
  exact (List.map_congr_left fun s _ => rfl).trans (List.map_id l)
 have := lU (Tryz.strings_Join bk o c (l.map fun s => ⟨s.toArray⟩) ⟨#[sep]⟩ w (fun j x hj => by
  rw [List.getElem?_map] at hj
  obtain ⟨s, hs, rfl⟩ := Option.map_eq_some_iff.1 hj
  obtain ⟨ad', e1, oK⟩ := hR.cell (f := 0) hs rfl
  injection e1 with e1; subst e1
  rw [Nat.mul_one, Nat.add_zero, Addr.add_lit] at oK
  exact oK) hbk (by rw [List.length_map]; omega) (by rw [List.length_map]; exact hc) (by rw [yV]; show (Lib.join l [sep]).length ≤ _; rw [join_eq]; exact hlen))
 rw [yV, List.length_map] at this
 have e : Lib.join l [sep] = fA sep l := join_eq sep l
 rw [← e]
 exact this
theorem Fj {p : cB} {v : Value} (hp : fD w v p) (Ws : dV p.wh) (Wt : ∀ o ∈ p.cols, dV o.steps) (hn : p.cols.length ≤ 1000000) (hT : je w) :
    bF Tryz.prog 13 [v] w fun v w' => v = .tuple #[str (nR p).1, I (nR p).2] ∧ Kept noB w w' := by
  have gu := hp
  obtain ⟨vw, vc, rfl, hw, r, hr, mG⟩ := hp
  obtain ⟨A, m, rfl, ⟨hm, xK⟩, hA⟩ := hr
  obtain ⟨C, n, rfl, ⟨hwn, Z0⟩, hC⟩ := id hw
  have AO := mG.len
  have H := Sep.bB w
  obtain ⟨res, ay⟩ : ∃ res, res = nR p := ⟨_, rfl⟩
  rw [← ay]
  unfold nR at ay
  have iY : qY p ≠ true → res = ([], 2) := fun h => by rw [ay, if_pos (by simpa using h)]
  refine dP Tryz.func13 rfl rfl rfl rfl ?_
  refine Sr (dz H (cs := [.slice C p.wh.length n, .slice A r.length m, I p.group]) rfl (h := fun b1 w2 H2 k1 => ?_))
  refine Am ?_
  refine Am ?_
  refine Qn (au (Sr (aZ H2 (h := ?_))))
  refine aN H2 (Kg (gu.keep H2.kept) hn) (h := fun w7 H7 k6 => ?_)
  refine Vv (Gives.not rfl) (Qn ?_)
  refine Cd rfl (fun JI => ?_) (fun JI => ?_)
  · have bY : res = ([], 2) := iY fun h => by have h1 := (jm.1 h).1; rw [h1] at JI; cases JI
    refine Sr (Am ?_)
    refine Am ?_
    refine Qn (Rs (ak (hR := ?_)))
    exact ⟨by rw [bY]; rfl, H7.kept⟩
  have En : jf p = true := by simpa using JI
  obtain ⟨⟨JN, Ya, hg1, ZW⟩, Uy⟩ := mR En
  refine Sk (Sr (Vf ?_))
  refine Ld H7 ?_
  refine aN H7 (Lu (hw.keep H7.kept) Ws (hT.keep H7.kept)) (h := fun wa Ha ka => ?_)
  refine Mv ?_
  refine Vx ?_
  refine Vx ?_
  refine Am ?_
  refine Am ?_
  refine Qn (au (Sr (Mv ?_)))
  refine Vn ?_
  refine Qn (Cp rfl (fun Ia => ?_) (fun Ia => ?_))
  · have bY : res = ([], 2) := iY fun h => Ia (jm.1 h).2.1
    refine Sr (Am ?_)
    refine Am ?_
    refine Qn (Rs (ak (hR := ?_)))
    exact ⟨by rw [bY]; rfl, Ha.kept⟩
  have htw : (eY p.wh).2 = 0 := by omega
  have hwl := uR htw Ws
  refine Sk (fO (fun _ : Unit => [(1, bI b1), (4, str (if p.wh = [] then iA else (eY p.wh).1))]) (fun _ w' => Sep w noB [blk b1 [.slice C p.wh.length n, .slice A r.length m, I p.group] 25] w') ?_ ?_)
  · refine Sr (Vf ?_)
    refine Ld Ha ?_
    refine Vs ?_
    refine Ve ?_
    refine Qn (Cp rfl (fun Ib => ?_) (fun Ib => ?_))
    · have he : p.wh = [] := List.eq_nil_of_length_eq_zero (by omega)
      refine aB (Am ?_)
      refine aP ?_
      exact aS () ⟨rfl, by rw [if_pos he]; rfl, trivial⟩ Ha
    have he : ¬ p.wh = [] := fun e => Ib (by rw [e]; rfl)
    refine aY ?_
    exact aS () ⟨rfl, by rw [if_neg he]; rfl, trivial⟩ Ha
  intro _ τ wb Hb
  have h4n : iA.length = 4 := rfl
  have hq4 : (if p.wh = [] then iA else (eY p.wh).1).length ≤ 400000 := by split <;> omega
  simp only [cZ, like, bC, bZ]
  refine Sr (Mv ?_)
  refine Vv (Gives.iW rfl rfl (by first | omega | (simp; done) | (simp; omega))) ?_
  refine aX Hb (xs := [.tmp 28]) (out := [om p.wh].flatMap bX) (aU.one rfl rfl aU.nil) rfl rfl rfl (fun bs wc Hc kb => ?_)
  have Hc := aa2 Hc
  refine Am ?_
  refine Qn (au (Sr (Vf ?_)))
  refine Ld Hc ?_
  refine Vs ?_
  refine Mv ?_
  refine Qn (aF ?_)
  have Hd : Mw.Sep w noB [cO 9 1 bX (.slice (some ⟨bs, 0, none⟩) 1 1) (om p.wh :: (p.cols.take 0).map nE), blk b1 [.slice C p.wh.length n, .slice A r.length m, I p.group] 25] wc := Hc
  refine bA (fun x : Nat × Value => [(1, bI b1), (6, x.2), (31, .slice A r.length m), (32, I r.length), (33, I x.1)]) (fun x w' => (x.1 ≤ r.length ∧ ∀ (j : Nat) o, j < x.1 → p.cols[j]? = some o → za o = false) ∧ Sep w noB [cO 9 1 bX x.2 (om p.wh :: (p.cols.take x.1).map nE), blk b1 [.slice C p.wh.length n, .slice A r.length m, I p.group] 25] w') (fun x _ => r.length - x.1) (0, _) ⟨rfl, rfl, rfl, rfl, rfl, trivial⟩ ⟨⟨Nat.zero_le _, fun j o hj => absurd hj (Nat.not_lt_zero j)⟩, Hd⟩ (fun x τ wd hI => ?_)
  obtain ⟨i, v0⟩ := x
  obtain ⟨⟨hi, mO⟩, Hd⟩ := hI
  dsimp only at hi mO Hd
  have yV : (om p.wh :: (p.cols.take i).map nE).length = i + 1 := by rw [List.length_cons, List.length_map, List.length_take]; omega
  try simp only [cZ, like, bC]
  refine Sr (Vl ?_)
  refine Qn (au (Cp rfl (fun Ic => ?_) (fun Ic => ?_)))
  · have bU : i < p.cols.length := by omega
    obtain ⟨vx, hx, uG⟩ := mG.at bU
    obtain ⟨Ax, cx, rfl, _⟩ := id uG
    have pq : p.cols[i]? = some p.cols[i] := List.getElem?_eq_getElem bU
    obtain ⟨o, ho⟩ : ∃ o, o = p.cols[i] := ⟨_, rfl⟩
    rw [← ho] at hx uG pq
    have Z9 := List.mem_of_getElem? pq
    have Ca : om p.wh :: (p.cols.take (i + 1)).map nE = (om p.wh :: (p.cols.take i).map nE) ++ [nE o] := by rw [List.take_add_one, pq, List.map_append]; rfl
    refine Sk (au (aF (Sr (Vv (Gives.eT rfl rfl (by assumption) (by omega)) (Vv (Gives.iM rfl Hd (by assumption) (by assumption)) ?_)))))
    refine bD Hd (h := fun b8 we He kc => ?_)
    refine aD He (h := fun wf Hf => ?_)
    refine Nx (Vf ?_)
    refine Ld Hf ?_
    refine aN Hf (Lu (uG.keep Hf.kept) (Wt o Z9) (hT.keep Hf.kept)) (h := fun wg Hg kd => ?_)
    refine Mv ?_
    refine Vx ?_
    refine Vx ?_
    refine Am ?_
    refine Am ?_
    refine Qn (au (Sr (Mv ?_)))
    refine Vn ?_
    refine Mv ?_
    refine aG (t := 45) rfl (fun Sa => ?_) (fun Sa => ?_)
    · have mF : za o = true := sU.2 (.inl Sa)
      refine Of (Of (Pt ?_))
      refine Qn (aQ rfl ?_)
      refine Sr (Am ?_)
      refine Am ?_
      refine Qn (Rs (aH (aL (aR (aH (aL (ak (hR := ?_))))))))
      have bY : res = ([], 2) := iY fun h => by have h1 := (jm.1 h).2.2 o Z9; rw [h1] at mF; cases mF
      exact ⟨by rw [bY]; rfl, Hg.kept⟩
    refine On (Mv ?_)
    refine On (Vv (Gives.iD rfl rfl) (Pf ?_))
    refine Qn (Cp rfl (fun Id => ?_) (fun Id => ?_))
    · have mF : za o = true := sU.2 (.inr Id)
      refine Sr (Am ?_)
      refine Am ?_
      refine Qn (Rs (aH (aL (aR (aH (aL (ak (hR := ?_))))))))
      have bY : res = ([], 2) := iY fun h => by have h1 := (jm.1 h).2.2 o Z9; rw [h1] at mF; cases mF
      exact ⟨by rw [bY]; rfl, Hg.kept⟩
    have fK : za o = false := by
      rw [← Bool.not_eq_true]
      intro h
      rcases sU.1 h with h | h
      · omega
      exact Id h
    have YN : (eY o.steps).2 = 0 := by omega
    have adz := uR YN (Wt o Z9)
    have JR : o.name.length ≤ 32 := by
      have h5 := Uy o Z9
      unfold dG at h5
      simp only [Bool.and_eq_true, decide_eq_true_eq] at h5
      omega
    refine Sk (aB (Mv ?_))
    refine Vf ?_
    refine Ld Hg ?_
    refine Vv (Gives.iW rfl rfl (by first | omega | (simp; done) | (simp; omega))) ?_
    refine Vv (Gives.iW rfl rfl (by first | omega | (simp; done) | (simp; omega))) ?_
    refine Mv ?_
    refine Vv (Gives.iW rfl rfl (by first | omega | (simp; done) | (simp; omega))) ?_
    refine aX Hg (xs := [.tmp 55]) (out := [nE o].flatMap bX) (aU.one rfl rfl aU.nil) rfl rfl rfl (fun bs wi Hh ke => ?_)
    refine gK Hh (news := [nE o]) At1 (by rw [yV]; unfold maxLen; simp; omega) (by rw [yV]; simp; omega) (cells_one (fun _ => rfl) _) (h := ?_)
    intro v2 wj Hi
    rw [← Ca] at Hi
    refine Am ?_
    refine aP (aA (aj (aB (Vv (Gives.bM rfl rfl rfl (by omega)) ?_))))
    refine Mv ?_
    refine aP ?_
    exact aC (i + 1, v2) ⟨rfl, rfl, rfl, rfl, rfl, trivial⟩ ⟨⟨by dsimp only; omega, fun j y hj hy => by
    by_cases e : j = i
    · subst e; rw [pq] at hy; injection hy with hy; rw [← hy]; exact fK
    exact mO j y (by dsimp only at hj; omega) hy⟩, Hi.fI⟩ (by dsimp only; omega)
  have jW : i = r.length := by omega
  rw [jW, List.take_of_length_le (by omega)] at Hd yV
  have lu : ∀ o ∈ p.cols, za o = false := fun o ho => by
    obtain ⟨j, hj⟩ := List.getElem?_of_mem ho
    exact mO j o (by have := iE hj; omega) hj
  have uy : qY p = true := jm.2 ⟨En, htw, lu⟩
  rw [if_neg (by rw [uy]; decide)] at ay
  refine bq (aT (aO (aV (aj (Sr (Am ?_))))))
  refine Qn (fO (fun _ : Unit => [(6, v0), (11, str (if p.group < 0 then iA else itoa p.group))]) (fun _ w' => Sep w noB [cO 9 1 bX v0 (om p.wh :: p.cols.map nE), blk b1 [.slice C p.wh.length n, .slice A r.length m, I p.group] 25] w') ?_ ?_)
  · refine Sr (Vf ?_)
    refine Ld Hd ?_
    refine Vv (Gives.geq rfl rfl) (Qn ?_)
    refine Cp rfl (fun Ie => ?_) (fun Ie => ?_)
    · have hg : ¬ p.group < 0 := by omega
      refine aB (Vf ?_)
      refine Ld Hd ?_
      refine aN Hd (OA p.group ⟨by omega, by omega⟩ (hT.keep Hd.kept)) (h := fun wk Hj kf => ?_)
      refine Am ?_
      refine aP ?_
      exact aS () ⟨rfl, by rw [if_neg hg]; rfl, trivial⟩ Hj
    have hg : p.group < 0 := by omega
    refine aY ?_
    exact aS () ⟨rfl, by rw [if_pos hg]; rfl, trivial⟩ Hd
  intro _ τ wl Hk
  have h6 := itoa_length_le p.group (by omega) (by omega)
  have hq6 : (if p.group < 0 then iA else itoa p.group).length ≤ 30 := by split <;> omega
  simp only [cZ, like, bC]
  refine Sr (Mv ?_)
  refine Mv ?_
  refine Vv (Gives.iW rfl rfl (by first | omega | (simp; done) | (simp; omega))) ?_
  refine aX Hk (xs := [.tmp 67]) (out := [qc p.group].flatMap bX) (aU.one rfl rfl aU.nil) rfl rfl rfl (fun bs2 wm Hl kg => ?_)
  refine gK Hl (news := [qc p.group]) At0 (by rw [yV]; unfold maxLen; simp; omega) (by rw [yV]; simp; omega) (cells_one (fun _ => rfl) _) (h := ?_)
  intro v2 wn Hm
  have hlp : (om p.wh :: p.cols.map nE) ++ [qc p.group] = iQ p := rfl
  rw [hlp] at Hm
  have Uz : (iQ p).length ≤ 1002 := by unfold iQ; rw [List.length_cons, List.length_append, List.length_map, List.length_singleton]; omega
  have hlj : (fA 10 (iQ p)).length ≤ (400100 + 1) * (iQ p).length := rW 10 (k := 400100) fun x hx => by
    unfold iQ at hx
    rcases List.mem_cons.1 hx with rfl | hx
    · unfold om uM
      rw [List.length_append]
      have h4 : iA.length = 4 := rfl
      split <;> simp only [List.length_cons, List.length_nil] <;> omega
    rcases List.mem_append.1 hx with hx | hx
    · obtain ⟨o, ho, rfl⟩ := List.mem_map.1 hx
      have h1 := lu o ho
      have h2 : (eY o.steps).2 = 0 := Classical.byContradiction fun h => by rw [sU.2 (.inl h)] at h1; cases h1
      have h3 := uR h2 (Wt o ho)
      have h5 := Uy o ho
      unfold dG at h5
      simp only [Bool.and_eq_true, decide_eq_true_eq] at h5
      unfold nE BM
      simp only [List.length_append, List.length_cons, List.length_nil]
      omega
    rw [List.mem_singleton] at hx
    subst hx
    unfold qc sP
    rw [List.length_append]
    have h4 : iA.length = 4 := rfl
    have h6 := itoa_length_le p.group (by omega) (by omega)
    split <;> simp only [List.length_cons, List.length_nil] <;> omega
  refine aN Hm (RO 10 (gQ Hm At0) (by omega) (by omega)) (h := fun wo Hn kh => ?_)
  refine Vv (Gives.iW rfl rfl (by first | omega | (simp; done) | (simp; omega))) ?_
  refine Am ?_
  refine Am ?_
  refine Qn (aM (ak (hR := ?_)))
  exact ⟨by rw [ay]; show Value.tuple #[str (fA 10 (iQ p) ++ [10]), I 0] = _; rw [xU 10 _ (by unfold iQ; simp)]; rfl, Hn.kept⟩
end
end Go.Proofs.YtolaedhdjcnijaaGreatDoor
namespace Go.Proofs.YtolaedhdjcnijaaGreatDoor
open Go Go.Lib Go.Mw
set_option maxRecDepth 4000
/-! The plans. -/
end Go.Proofs.YtolaedhdjcnijaaGreatDoor
namespace Go.Proofs.YtolaedhdjcnijaaGreatDoor
open Go Go.Lib Go.Mw
set_option maxRecDepth 8000
theorem MI : ∀ n : Fin 17, (itoa (n.val : Int)).length ≤ 2 := by decide +kernel
/-! The chapter's examples. -/
def mD : List gG := [⟨1, [], ⟨2, false⟩, cell0⟩, ⟨2, [], ⟨4, true⟩, cell0⟩, ⟨3, [], ⟨1, false⟩, cell0⟩]
def U6 : List (List UInt8) := [[119, 104, 101, 114, 101, 32, 110, 111, 110, 101, 10, 111, 117, 116, 32, 97, 32, 35, 49, 10, 111, 117, 116, 32, 98, 32, 35, 50, 32, 105, 115, 110, 117, 108, 108, 10, 103, 114, 111, 117, 112, 32, 110, 111, 110, 101, 10], [119, 104, 101, 114, 101, 32, 35, 51, 10, 111, 117, 116, 32, 115, 32, 35, 50, 10, 111, 117, 116, 32, 116, 111, 116, 97, 108, 32, 35, 49, 32, 50, 32, 42, 10, 103, 114, 111, 117, 112, 32, 49, 10], [119, 104, 101, 114, 101, 32, 35, 49, 10, 111, 117, 116, 32, 97, 32, 35, 49, 10, 103, 114, 111, 117, 112, 32, 110, 111, 110, 101, 10], [119, 104, 101, 114, 101, 32, 110, 111, 110, 101, 10, 111, 117, 116, 32, 97, 32, 35, 50, 10, 103, 114, 111, 117, 112, 32, 48, 10], [119, 104, 101, 114, 101, 32, 110, 111, 110, 101, 10, 111, 117, 116, 32, 97, 32, 35, 52, 10, 103, 114, 111, 117, 112, 32, 110, 111, 110, 101, 10]]
def uH : List cB := [⟨[], [⟨[97], [⟨1, 1, []⟩]⟩, ⟨[98], [⟨1, 2, []⟩, ⟨16, 0, []⟩]⟩], -1⟩, ⟨[⟨1, 3, []⟩], [⟨[115], [⟨1, 2, []⟩]⟩, ⟨[116, 111, 116, 97, 108], [⟨1, 1, []⟩, ⟨2, 2, []⟩, ⟨9, 0, []⟩]⟩], 1⟩,
 ⟨[⟨1, 1, []⟩], [⟨[97], [⟨1, 1, []⟩]⟩], -1⟩, ⟨[], [⟨[97], [⟨1, 2, []⟩]⟩], 0⟩, ⟨[], [⟨[97], [⟨1, 4, []⟩]⟩], -1⟩]
def Y4 : List (List gG × Int) := [([⟨1, [97], ⟨3, false⟩, cell0⟩, ⟨2, [98], ⟨1, false⟩, cell0⟩], 0), ([⟨1, [115], ⟨4, true⟩, ⟨true, 0, []⟩⟩, ⟨2, eB, ⟨3, false⟩, cell0⟩, ⟨3, [116, 111, 116, 97, 108], ⟨3, false⟩, cell0⟩], 0), ([], 230), ([], 230), ([], 220)]
theorem RP : uH.all qY = true ∧ uH.map (fun p => jJ (iQ p)) = U6 := by decide +kernel
theorem Ko : uH.map (jN mD) = Y4 ∧ jN mD ⟨[], [⟨eB, [⟨1, 1, []⟩]⟩], 0⟩ = ([], 230) := by decide +kernel
def RQ : List (List UInt8 × Int × Int) := [([119, 104, 101, 114, 101, 32, 110, 111, 110, 101, 10, 111, 117, 116, 32, 97, 32, 35, 49, 10, 111, 117, 116, 32, 97, 32, 35, 49, 10, 103, 114, 111, 117, 112, 32, 110, 111, 110, 101, 10], 0, 2), ([119, 104, 101, 114, 101, 32, 110, 111, 110, 101, 10, 103, 114, 111, 117, 112, 32, 110, 111, 110, 101, 10], 1, 4), ([119, 104, 101, 114, 101, 32, 110, 111, 110, 101, 10, 111, 117, 116, 32, 97, 32, 35, 49, 10], 2, 4), ([119, 104, 101, 114, 101, 32, 110, 111, 110, 101, 10, 111, 117, 116, 32, 97, 32, 35, 49, 10, 103, 114, 111, 117, 112, 32, 50, 10], 0, 2), ([119, 104, 101, 114, 101, 10], 0, 4), ([], 0, 4), ([119, 104, 101, 114, 101, 32, 110, 111, 110, 101, 10, 111, 117, 116, 32, 97, 32, 35, 49, 10, 103, 114, 111, 117, 112, 32, 48, 49, 10], 2, 4)]
theorem U7 : ∀ x ∈ RQ, dX x.1 = (eF, x.2.1, x.2.2) := by
 decide +kernel
end Go.Proofs.YtolaedhdjcnijaaGreatDoor
namespace Go.Proofs.YtolaedhdjcnijaaGreatDoor
open Go Go.Mw Go.Lib
set_option maxRecDepth 4000
theorem zl (l : List (List UInt8)) (x : List UInt8) : jJ (l ++ [x]) = jJ l ++ (x ++ [10]) := by unfold jJ; rw [List.flatMap_append, List.flatMap_cons, List.flatMap_nil, List.append_nil]
theorem RS {s : List UInt8} (h : dG s = true) : s.length ≤ 32 := by
 unfold dG at h
 rw [Bool.and_eq_true, Bool.and_eq_true, decide_eq_true_iff] at h
 exact h.1.1.2
theorem Kq : ∀ (n : Nat), n < 4611686018427387904 → ∀ w : World, bF Tryz.prog 42 [I n] w fun v w' => v = str (decDigits n) ∧ Kept noB w w' := by
 intro n
 induction n using Nat.strongRecOn with
 | _ n ih =>
 intro hn w
 have H := Sep.bB w
 have hd := Nat.mod_lt n (show 0 < 10 by decide)
 refine dP Tryz.func42 rfl rfl rfl rfl ?_
 refine Sr (Am ?_)
 refine Qn (au (Sr (Mv ?_)))
 refine Vl ?_
 refine Qn (Cp rfl (fun Xe => ?_) (fun Xe => ?_))
 ·have bU : n < 10 := by omega
  have bY : decDigits n = [UInt8.ofNat (48 + n)] := decDigits_one bU
  refine Sr (Mv ?_)
  refine Mv ?_
  refine Vv (Gives.bM (c := ((n + 1 : Nat) : Int)) rfl rfl (by omega) (by omega)) (Vv (Gives.fE (l := TI) (i := n) (m := n + 1) rfl rfl rfl (by omega) (by show n + 1 ≤ 10; omega)) ?_)
  rw [Ap bU]
  refine Am ?_
  refine Qn (Rs (ak (hR := ?_)))
  exact ⟨by rw [bY]; rfl, H.kept⟩
 have LU : ¬ n < 10 := by omega
 have bY : decDigits n = decDigits (n / 10) ++ [UInt8.ofNat (48 + n % 10)] := by rw [decDigits, dif_neg LU]
 have hq : n / 10 < n := by omega
 have hlq := Aq (n := n / 10) (by omega)
 refine Sk (au (bG rfl H (h := fun Sa wa Ha => ?_)))
 refine Gm Sa 0 ?_
 refine Gp Sa 1 rfl rfl (fun _ => (Gives.xO (b := 10) rfl rfl (by omega) (by omega))) (Gm Sa 3 ?_)
 refine Gp Sa 4 rfl rfl (fun _ => (Gives.oO (b := 10) rfl rfl (by omega))) (Gm Sa 5 ?_)
 refine Gp Sa 6 rfl rfl (fun _ => (Gives.oO (b := 10) rfl rfl (by omega))) (Gp Sa 7 rfl rfl (fun _ => (Gives.bM (c := ((n % 10 + 1 : Nat) : Int)) rfl rfl (by omega) (by omega))) ?_)
 refine Gp Sa 8 rfl rfl (fun _ => (Gives.fE (l := TI) (i := n % 10) (m := n % 10 + 1) rfl rfl rfl (by omega) (by show n % 10 + 1 ≤ 10; omega))) ?_
 rw [Ap hd]
 refine fQ Sa 2 [(8, true), (7, true), (6, true), (5, true), (4, true), (3, true)] Ha (ih (n / 10) hq (by omega) _) (h := fun wb Hb ka => ⟨av (av (av (av (av (av (aK)))))), ?_⟩)
 refine Gp Sa 9 rfl rfl (fun _ => (Gives.iW rfl rfl (by first | omega | (simp; done) | (simp; omega)))) ?_
 refine Gp Sa 10 rfl rfl (fun _ => Gives.assign rfl) (bR Sa (by kernel_rfl) ?_)
 refine aj (aM (ak (hR := ?_)))
 exact ⟨by rw [bY]; rfl, Hb.kept⟩
section
variable {w : World}
theorem Fp {p : cB} {v : Value} (hp : fD w v p) (Ws : dV p.wh) (Wt : ∀ o ∈ p.cols, dV o.steps) :
    bF Tryz.prog 14 [v] w fun v w' => v = .tuple #[str (nR p).1, I (nR p).2] ∧ Kept noB w w' := by
  have gu := hp
  obtain ⟨vw, vc, rfl, hw, r, hr, mG⟩ := hp
  obtain ⟨A, m, rfl, ⟨hm, xK⟩, hA⟩ := hr
  obtain ⟨W, mw, rfl, ⟨hmw, abl⟩, hW⟩ := id hw
  have AO := mG.len
  have H := Sep.bB w
  have mF : qY p = false → nR p = ([], 2) := fun h => if_pos h
  refine dP Tryz.func14 rfl rfl rfl rfl ?_
  refine Sr (dz H (cs := [.slice W p.wh.length mw, .slice A r.length m, I p.group]) rfl (h := fun b1 w2 H2 k1 => ?_))
  refine Am ?_
  refine Am ?_
  refine Nx (Vf ?_)
  refine Ld H2 ?_
  refine aN H2 (DJ (hw.keep H2.kept) Ws) (h := fun w8 H8 k7 => ?_)
  refine Mv ?_
  refine Vx ?_
  refine Vx ?_
  refine Am ?_
  refine Am ?_
  refine Qn (au (Sr (aZ H8 (h := ?_))))
  refine aN H8 (Fh (gu.keep H8.kept)) (h := fun wa Ha ka => ?_)
  refine Vv (Gives.not rfl) (Mv ?_)
  refine dh (t := 19) rfl (fun Sa => ?_) (fun Sa => ?_)
  · have ay := mF (eq_false_of_ne_true fun h => by rw [(jm.1 h).1] at Sa; exact absurd Sa (by decide))
    refine Of (Of (Pt ?_))
    refine Qn (aQ rfl ?_)
    refine Sr (Am ?_)
    refine Am ?_
    refine Qn (Rs (ak (hR := ?_)))
    exact ⟨by rw [ay]; rfl, Ha.kept⟩
  have En : jf p = true := by simpa using Sa
  obtain ⟨⟨JN, Ya, hg1, ZW⟩, Gy⟩ := mR En
  refine On (Mv ?_)
  refine On (Vn ?_)
  refine Pf ?_
  refine Qn (Cp rfl (fun Ia => ?_) (fun Ia => ?_))
  · have ay := mF (eq_false_of_ne_true fun h => Ia (jm.1 h).2.1)
    refine Sr (Am ?_)
    refine Am ?_
    refine Qn (Rs (ak (hR := ?_)))
    exact ⟨by rw [ay]; rfl, Ha.kept⟩
  have Xf : (eY p.wh).2 = 0 := by omega
  have zV := uR Xf Ws
  refine Sk (fO (fun _ : Unit => [(1, bI b1), (4, str (if p.wh = [] then iA else (eY p.wh).1))]) (fun _ w' => Sep w noB [blk b1 [.slice W p.wh.length mw, .slice A r.length m, I p.group] 25] w') ?_ ?_)
  · refine Sr (Vf ?_)
    refine Ld Ha ?_
    refine Vs ?_
    refine Ve ?_
    refine Qn (Cp rfl (fun Ib => ?_) (fun Ib => ?_))
    · have hwe : p.wh = [] := List.eq_nil_of_length_eq_zero (by omega)
      refine aB (Am ?_)
      refine aP ?_
      exact aS () ⟨rfl, by rw [if_pos hwe]; rfl, trivial⟩ Ha
    have hwe : ¬ p.wh = [] := fun e => Ib (by rw [e]; rfl)
    refine aY ?_
    exact aS () ⟨rfl, by rw [if_neg hwe]; rfl, trivial⟩ Ha
  intro _ τ wb Hb
  obtain ⟨x4, hx4⟩ : ∃ x4, x4 = if p.wh = [] then iA else (eY p.wh).1 := ⟨_, rfl⟩
  have adC : x4.length ≤ 400000 := by
    rw [hx4]
    split
    · decide
    exact zV
  rw [← hx4]
  simp only [cZ, like, bC, bZ]
  refine Sr (Mv ?_)
  refine Vv (Gives.iW rfl rfl (by first | omega | (simp; done) | (simp; omega))) ?_
  refine Vv (Gives.iW rfl rfl (by first | omega | (simp; done) | (simp; omega))) ?_
  refine Am ?_
  refine Qn (au (Sr (Am ?_)))
  refine Qn (aF (bA (fun x : Nat × List UInt8 => [(1, bI b1), (6, str x.2), (7, I x.1)]) (fun x w' => (x.1 ≤ p.cols.length ∧ x.2 = jJ (om p.wh :: (p.cols.take x.1).map nE) ∧ x.2.length ≤ 400100 + x.1 * 400100 ∧ ∀ (a : Nat) o, a < x.1 → p.cols[a]? = some o → za o = false) ∧ Sep w noB [blk b1 [.slice W p.wh.length mw, .slice A r.length m, I p.group] 25] w') (fun x _ => p.cols.length - x.1) (0, uM ++ x4 ++ [10]) ⟨rfl, rfl, rfl, trivial⟩ ⟨⟨Nat.zero_le _, by dsimp only; rw [List.take_zero, List.map_nil, hx4]; unfold jJ om; rw [List.flatMap_cons, List.flatMap_nil, List.append_nil], by simp [uM]; omega, fun a o h => by omega⟩, Hb⟩ (fun x τ wc hI => ?_)))
  obtain ⟨i, s6⟩ := x
  obtain ⟨⟨hi, YK, abo, mO⟩, Hc⟩ := hI
  dsimp only at hi YK abo mO Hc
  try simp only [cZ, like, bC]
  refine au (Sr (Mv ?_))
  refine Vf ?_
  refine Ld Hc ?_
  refine Vs ?_
  refine Vl ?_
  refine Qn (Cp rfl (fun Ic => ?_) (fun Ic => ?_))
  · have bU : i < p.cols.length := by omega
    obtain ⟨vx, hx, uG⟩ := mG.at bU
    have pq : p.cols[i]? = some p.cols[i] := List.getElem?_eq_getElem bU
    obtain ⟨o, ho⟩ : ∃ o, o = p.cols[i] := ⟨_, rfl⟩
    rw [← ho] at hx uG pq
    have YM := List.mem_of_getElem? pq
    have hof := Wt o YM
    have JR := RS (Gy o YM)
    obtain ⟨tx, Xg⟩ : ∃ tx, tx = (eY o.steps).1 := ⟨_, rfl⟩
    obtain ⟨te, YO⟩ : ∃ te, te = (eY o.steps).2 := ⟨_, rfl⟩
    have iY : za o = true → nR p = ([], 2) := fun h => mF (eq_false_of_ne_true fun hm => by rw [(jm.1 hm).2.2 o YM] at h; exact absurd h (by decide))
    have Eo : jJ (om p.wh :: (p.cols.take (i + 1)).map nE) = ((((s6 ++ BM) ++ o.name) ++ [32]) ++ tx) ++ [10] := by
      rw [List.take_add_one, pq, Option.toList_some, List.map_append, ← List.cons_append, List.map_cons, List.map_nil, zl, ← YK, Xg]
      unfold nE
      simp only [List.append_assoc]
    refine Sk (au (aF (Sr (Vf ?_))))
    refine Ld Hc ?_
    refine Mv ?_
    refine Vv (Gives.eT rfl rfl (by assumption) (by omega)) (Vv (Gives.fH rfl (by assumption) (by omega)) ?_)
    refine Vv (Gives.iJ rfl Hc (by assumption) (by assumption) rfl) (aN Hc (DJ (uG.keep Hc.kept) hof) (h := fun wd Hd kb => ?_))
    rw [← Xg, ← YO]
    refine Mv ?_
    refine Vx ?_
    refine Vx ?_
    refine Am ?_
    refine Am ?_
    refine Qn (au (Sr (Mv ?_)))
    refine Vn ?_
    refine Mv ?_
    refine aG (t := 49) rfl (fun Sb => ?_) (fun Sb => ?_)
    · have ay := iY (sU.2 (.inl (by rw [← YO]; exact Sb)))
      refine Of (Of (Pt ?_))
      refine Qn (aQ rfl ?_)
      refine Sr (Am ?_)
      refine Am ?_
      refine Qn (Rs (aH (aL (aR (aH (aL (ak (hR := ?_))))))))
      exact ⟨by rw [ay]; rfl, Hd.kept⟩
    have aac : te = 0 := by omega
    have adD : tx.length ≤ 400000 := by rw [Xg]; exact uR (by rw [← YO]; exact aac) hof
    refine On (Mv ?_)
    refine On (Vv (Gives.iD rfl rfl) (Pf ?_))
    refine Qn (Cp rfl (fun Id => ?_) (fun Id => ?_))
    · have ay := iY (sU.2 (.inr (by rw [← Xg]; exact Id)))
      refine Sr (Am ?_)
      refine Am ?_
      refine Qn (Rs (aH (aL (aR (aH (aL (ak (hR := ?_))))))))
      exact ⟨by rw [ay]; rfl, Hd.kept⟩
    have fK : za o = false := eq_false_of_ne_true fun h => by
      rcases sU.1 h with h | h
      · rw [← YO] at h; exact h aac
      rw [← Xg] at h; exact Id h
    refine Sk (aB (Mv ?_))
    refine Vv (Gives.iW rfl rfl (by first | omega | (simp; done) | (simp; omega))) ?_
    refine Vf ?_
    refine Ld Hd ?_
    refine Mv ?_
    refine Vv (Gives.eT rfl rfl (by assumption) (by omega)) (Vv (Gives.fH rfl (by assumption) (by omega)) ?_)
    refine Vv (Gives.iJ rfl Hd (by assumption) (by assumption) rfl) (Vv (Gives.iW rfl rfl (by first | omega | (simp; done) | (simp; omega))) ?_)
    refine Vv (Gives.iW rfl rfl (by first | omega | (simp; done) | (simp; omega))) ?_
    refine Mv ?_
    refine Vv (Gives.iW rfl rfl (by first | omega | (simp; done) | (simp; omega))) ?_
    refine Vv (Gives.iW rfl rfl (by first | omega | (simp; done) | (simp; omega))) ?_
    refine Am ?_
    refine aP (aA (aj (aB (Mv ?_))))
    refine Vv (Gives.bM rfl rfl rfl (by omega)) (Am ?_)
    refine aP ?_
    exact aC (i + 1, ((((s6 ++ BM) ++ o.name) ++ [32]) ++ tx) ++ [10]) ⟨rfl, rfl, rfl, trivial⟩ ⟨⟨by dsimp only; omega, Eo.symm, by simp [BM]; omega, fun a u ha hu => by
    rcases Nat.lt_succ_iff_lt_or_eq.1 ha with e | e
    · exact mO a u e hu
    subst e; rw [pq] at hu; injection hu with hu; rw [← hu]; exact fK⟩, Hd⟩ (by dsimp only; omega)
  have jW : i = p.cols.length := by omega
  rw [jW, List.take_length] at YK
  have uy : qY p = true := jm.2 ⟨En, Xf, fun o ho => by
    obtain ⟨a, ha⟩ := List.mem_iff_getElem?.1 ho
    exact mO a o (by have := (List.getElem?_eq_some_iff.1 ha).1; omega) ha⟩
  have bY : nR p = (s6 ++ (qc p.group ++ [10]), 0) := by
    unfold nR
    rw [if_neg (by rw [uy]; decide)]
    unfold iQ
    rw [← List.cons_append, zl, ← YK]
  unfold qc at bY
  refine bq (aT (aO (aV (aj (au (Sr (Vf ?_)))))))
  refine Ld Hc ?_
  refine Vl ?_
  refine Qn (Cp rfl (fun Ie => ?_) (fun Ie => ?_))
  · rw [if_pos Ie] at bY
    refine Sr (Mv ?_)
    refine Vv (Gives.iW rfl rfl (by first | omega | (simp; done) | (simp; omega))) ?_
    refine Am ?_
    refine Am ?_
    refine Qn (Rs (ak (hR := ?_)))
    exact ⟨by rw [bY]; rfl, Hc.kept⟩
  rw [if_neg Ie] at bY
  obtain ⟨g, hg⟩ : ∃ g : Nat, p.group = g := ⟨p.group.toNat, by omega⟩
  have Ee : itoa p.group = decDigits g := by rw [hg]; exact if_neg (by omega)
  have Yb := MI ⟨g, by omega⟩
  dsimp only at Yb
  rw [← hg, Ee] at Yb
  rw [Ee] at bY
  refine Sk (Sr (Mv ?_))
  refine Vv (Gives.iW rfl rfl (by first | omega | (simp; done) | (simp; omega))) ?_
  refine Vf ?_
  refine Ld Hc ?_
  rw [hg]
  refine aN Hc (Kq g (by omega) _) (h := fun we He kc => ?_)
  refine Vv (Gives.iW rfl rfl (by first | omega | (simp; done) | (simp; omega))) ?_
  refine Vv (Gives.iW rfl rfl (by first | omega | (simp; done) | (simp; omega))) ?_
  refine Am ?_
  refine Am ?_
  refine Qn (aM (ak (hR := ?_)))
  have e : s6 ++ ((sP ++ decDigits g) ++ [10]) = ((s6 ++ sP) ++ decDigits g) ++ [10] := by simp only [List.append_assoc]
  exact ⟨by rw [bY, e]; rfl, He.kept⟩
end
end Go.Proofs.YtolaedhdjcnijaaGreatDoor
