/-
 The document's Uses, walked.
-/
import Derived.Test.YtolaedhdjcnijaaGreatDoorKk5
set_option linter.unusedVariables false
set_option linter.unusedSimpArgs false
namespace Go.Proofs.YtolaedhdjcnijaaGreatDoor
open Go Go.Mw Go.Lib
set_option maxRecDepth 4000
section
variable {w : World}
theorem Nu {l : List bL} {vl : Value} (hl : dn w vl aI 3 l) (hx : ∀ x ∈ l, fits x.n) (Xr : l.length ≤ 100000) :
    bF Tryz.prog 75 [vl] w fun v w' => ∃ x, v = x ∧ True ∧ Turn noB (cO 3 1 intCells x (o7 l)) w w' := by
  obtain ⟨C, n, rfl, ⟨hn, JL⟩, hC⟩ := hl
  have H := Sep.bB w
  have ay : o7 l = l.foldl (fun a x => if x.kind = 1 then eH x.n a else a) [] := foldl_filter []
  rw [ay]
  refine dP Tryz.func75 rfl rfl rfl rfl ?_
  refine Sr (Am ?_)
  refine Nx (Am ?_)
  refine Qn (au (Sr (Am ?_)))
  refine Qn (aF ?_)
  have H5 := Sep.iX H 3 1 intCells
  refine bA (fun x : Nat × List Int × Value => [(0, .slice C l.length n), (3, x.2.2), (4, I x.1)]) (fun x w' => (x.1 ≤ l.length ∧ x.2.1.length ≤ x.1 ∧ (l.drop x.1).foldl (fun a x => if x.kind = 1 then eH x.n a else a) x.2.1 = l.foldl (fun a x => if x.kind = 1 then eH x.n a else a) []) ∧ Sep w noB [cO 3 1 intCells x.2.2 x.2.1] w') (fun x _ => l.length - x.1) (0, [], _) ⟨rfl, rfl, rfl, trivial⟩ ⟨⟨Nat.zero_le _, Nat.le_refl _, rfl⟩, H5⟩ (fun x τ w5 hI => ?_)
  obtain ⟨i, acc, v0⟩ := x
  obtain ⟨⟨hi, JJ, dJ⟩, H5⟩ := hI
  dsimp only at hi JJ dJ H5
  obtain ⟨B, cb, rfl, EP, hB⟩ := Sep.fJ H5 At0
  try simp only [cZ, like, bC, bZ]
  refine au (Sr (Mv ?_))
  refine Mv ?_
  refine Vs ?_
  refine Vl ?_
  refine Qn (Cp rfl (fun Ia => ?_) (fun Ia => ?_))
  · have bU : i < l.length := by omega
    obtain ⟨x, mq⟩ := get_some bU
    have Xq : l.drop i = x :: l.drop (i + 1) := by
      rw [List.drop_eq_getElem_cons bU]; rw [List.getElem?_eq_getElem bU] at mq; injection mq with mq; rw [mq]
    rw [Xq, List.foldl_cons] at dJ
    have JU := hx x (List.mem_of_getElem? mq)
    refine Sk (au (aF (au (Sr (Mv ?_)))))
    refine Mv ?_
    refine Vv (Gives.eT rfl rfl (by assumption) (by omega)) (Vv (Gives.fH rfl (by assumption) (by omega)) ?_)
    refine Vv (Gives.iJ rfl H5 (by assumption) (by assumption) rfl) (Vn ?_)
    refine Qn (Cp rfl (fun Ib => ?_) (fun Ib => ?_))
    · rw [if_neg Ib] at dJ
      refine bq (aT (aV (aj (aB (Mv ?_)))))
      refine Vv (Gives.bM rfl rfl rfl (by omega)) (Am ?_)
      refine aP ?_
      exact aC (i + 1, acc, .slice B acc.length cb) ⟨rfl, rfl, rfl, trivial⟩ ⟨⟨by dsimp only; omega, by dsimp only; omega, dJ⟩, H5⟩ (by dsimp only; omega)
    rw [if_pos (by omega)] at dJ
    refine Sk (Sr (Mv ?_))
    refine Mv ?_
    refine Vv (Gives.eT rfl rfl (by assumption) (by omega)) (Vv (Gives.fH rfl (by assumption) (by omega)) ?_)
    refine Vv (Gives.iJ rfl H5 (by assumption) (by assumption) rfl) (Am ?_)
    refine Nx (Am ?_)
    refine Qn (fO (fun k : Nat => [(0, .slice C l.length n), (3, .slice B acc.length cb), (4, I i), (5, I x.n), (6, I k)]) (fun k w' => (k ≤ acc.length ∧ (∀ (j : Nat) y, j < k → acc[j]? = some y → y < x.n) ∧ ∀ y, acc[k]? = some y → ¬ y < x.n) ∧ Sep w noB [cO 3 1 intCells (.slice B acc.length cb) acc] w') ?_ ?_)
    · refine aF (bA (fun k : Nat => [(0, .slice C l.length n), (3, .slice B acc.length cb), (4, I i), (5, I x.n), (6, I k)]) (fun k w' => (k ≤ acc.length ∧ ∀ (j : Nat) y, j < k → acc[j]? = some y → y < x.n) ∧ Sep w noB [cO 3 1 intCells (.slice B acc.length cb) acc] w') (fun k _ => acc.length - k) 0 ⟨rfl, rfl, rfl, rfl, rfl, trivial⟩ ⟨⟨Nat.zero_le _, fun j y hj => by omega⟩, H5⟩ (fun k τ wa hI => ?_))
      obtain ⟨⟨hk, Ei⟩, Ha⟩ := hI
      have hB := fT Ha At0
      try simp only [cZ, like, bC]
      refine au (Sr (Mv ?_))
      refine Mv ?_
      refine Vs ?_
      refine Vl ?_
      refine Mv ?_
      refine aG (t := 29) rfl (fun Sa => ?_) (fun Sa => ?_)
      · have LX : k < acc.length := by omega
        obtain ⟨y, hy⟩ := get_some LX
        refine On (Mv ?_)
        refine On (Mv ?_)
        refine On (Vv (Gives.eT rfl rfl (by assumption) (by omega)) (On ?_))
        refine Vv (Gives.o8 (f := 0) rfl hB hy rfl) (On ?_)
        refine Mv ?_
        refine On (Vl ?_)
        refine Pt ?_
        refine Qn (Cp rfl (fun Ic => ?_) (fun Ic => ?_))
        · refine Sk (aF (aB (Mv ?_)))
          refine Vv (Gives.bM rfl rfl rfl (by omega)) (Am ?_)
          refine aP (aA ?_)
          exact aC (k + 1) ⟨rfl, rfl, rfl, rfl, rfl, trivial⟩ ⟨⟨by omega, fun j y' hj xQ => by
            by_cases e : j = k
            · subst e; rw [hy] at xQ; injection xQ with xQ; omega
            exact Ei j y' (by omega) xQ⟩, Ha⟩ (by omega)
        have LU : ∀ y', acc[k]? = some y' → ¬ y' < x.n := fun y' xQ => by rw [hy] at xQ; injection xQ with xQ; omega
        refine bq (aT (aO (aV ?_)))
        exact aS k ⟨rfl, rfl, rfl, rfl, rfl, trivial⟩ ⟨⟨hk, Ei, LU⟩, Ha⟩
      have LX : k = acc.length := by omega
      have LU : ∀ y, acc[k]? = some y → ¬ y < x.n := fun y hy => by have := iE hy; omega
      refine Of (Of (Of (Of (Of (Of (Pf ?_))))))
      refine Qn (bg rfl ?_)
      refine bq (aT (aO (aV ?_)))
      exact aS k ⟨rfl, rfl, rfl, rfl, rfl, trivial⟩ ⟨⟨hk, Ei, LU⟩, Ha⟩
    rintro k τ wb ⟨⟨hk, Ei, LU⟩, Hb⟩
    have hB := fT Hb At0
    have Md := DF Ei hk LU
    simp only [cZ, like, bC]
    refine Sr (Mv ?_)
    refine Mv ?_
    refine Vs ?_
    refine Ve ?_
    refine Mv ?_
    refine aG (t := 43) rfl (fun Sb => ?_) (fun Sb => ?_)
    · have LX : k = acc.length := by omega
      rw [if_neg (by rw [List.getElem?_eq_none (by omega)]; simp)] at Md
      refine Of (Of (Of (Of (Of (Of (Pt ?_))))))
      refine Qn (aQ rfl ?_)
      refine Sr ?_
      have Hc := Sep.iX Hb 3 1 intCells
      refine Am ?_
      refine Qn (bG rfl Hc (h := fun Sc wc Hd => ?_))
      refine Gm Sc 0 ?_
      refine Gm Sc 1 ?_
      refine Gm Sc 2 ?_
      refine Gp Sc 3 rfl rfl (fun _ => (Gives.sliceTo rfl rfl (by omega))) (Gm Sc 5 ?_)
      refine Gm Sc 8 ?_
      refine Gm Sc 9 ?_
      refine Gp Sc 10 rfl rfl (fun _ => (Gives.sliceFrom rfl rfl (by omega))) (vD Sc (e1 := 4) (e2 := 6) (by kernel_rfl) ?_ ?_)
      · first
        | refine pI Sc 4 [(10, true), (9, true), (8, true), (5, true)] Hd (news := acc.take k) At0 ((fT Hd At1).cut k) (by unfold maxLen; simp; omega) (by simp; omega) (cells_one (fun _ => rfl) _) (hy := by rw [List.length_take, Nat.min_eq_left hk]; rfl) (h := fun v2 wd He => ⟨av (av (av (av (aK)))), ?_⟩)
        | refine pI Sc 4 [(10, true), (9, true), (8, true), (5, true)] Hd (news := acc.take k) At1 ((fT Hd At2).cut k) (by unfold maxLen; simp; omega) (by simp; omega) (cells_one (fun _ => rfl) _) (hy := by rw [List.length_take, Nat.min_eq_left hk]; rfl) (h := fun v2 wd He => ⟨av (av (av (av (aK)))), ?_⟩)
        refine eD Sc 6 [(10, true), (9, true), (8, true)] He (xs := [.tmp 56]) (out := [x.n].flatMap intCells) (aU.one rfl rfl aU.nil) (h := fun b we Hf => ⟨av (av (av (aK))), ?_⟩)
        refine jo Sc 7 [(10, true), (9, true), (8, true)] Hf (news := [x.n]) At0 (by unfold maxLen; simp; omega) (by simp; omega) (cells_one (fun _ => rfl) [x.n]) (h := fun v3 wf Hg => ⟨av (av (av (aK))), ?_⟩)
        refine lZ Sc 11 [] Hg (news := acc.drop k) At0 ((fT Hg At1).KY k EP) (by unfold maxLen; simp; omega) (by simp; omega) (cells_one (fun _ => rfl) _) (hy := by rw [List.length_drop]; rfl) (h := fun v4 wg Hh => ⟨aK, ?_⟩)
        refine rX Sc 12 [] (h := ⟨aK, ?_⟩)
        refine bR Sc (by kernel_rfl) ?_
        refine aA (aj (aB (Mv ?_)))
        refine Vv (Gives.bM rfl rfl rfl (by omega)) (Am ?_)
        refine aP ?_
        have Yu : [] ++ acc.take k ++ [x.n] ++ acc.drop k = eH x.n acc := by rw [Md]; simp
        rw [Yu] at Hh
        have jW := oG x.n acc
        exact aC (i + 1, eH x.n acc, v4) ⟨rfl, rfl, rfl, trivial⟩ ⟨⟨by dsimp only; omega, by dsimp only; omega, dJ⟩, Hh.firsts (l := [_])⟩ (by dsimp only; omega)
      refine uE Sc 6 [(10, true), (9, true), (8, true), (3, true), (2, true), (1, true), (0, true)] Hd (xs := [.tmp 56]) (out := [x.n].flatMap intCells) (aU.one rfl rfl aU.nil) (h := fun b wh Hi => ⟨av (av (av (av (av (av (av (aK))))))), ?_⟩)
      first
      | refine lZ Sc 4 [(10, true), (9, true), (8, true)] Hi (news := acc.take k) At0 ((fT Hi At1).cut k) (by unfold maxLen; simp; omega) (by simp; omega) (cells_one (fun _ => rfl) _) (hy := by rw [List.length_take, Nat.min_eq_left hk]; rfl) (h := fun v2 wi Hj => ⟨av (av (av (aK))), ?_⟩)
      | refine lZ Sc 4 [(10, true), (9, true), (8, true)] Hi (news := acc.take k) At1 ((fT Hi At2).cut k) (by unfold maxLen; simp; omega) (by simp; omega) (cells_one (fun _ => rfl) _) (hy := by rw [List.length_take, Nat.min_eq_left hk]; rfl) (h := fun v2 wi Hj => ⟨av (av (av (aK))), ?_⟩)
      refine jo Sc 7 [(10, true), (9, true), (8, true)] Hj (news := [x.n]) At0 (by unfold maxLen; simp; omega) (by simp; omega) (cells_one (fun _ => rfl) [x.n]) (h := fun v3 wj Hk => ⟨av (av (av (aK))), ?_⟩)
      refine lZ Sc 11 [] Hk (news := acc.drop k) At0 ((fT Hk At1).KY k EP) (by unfold maxLen; simp; omega) (by simp; omega) (cells_one (fun _ => rfl) _) (hy := by rw [List.length_drop]; rfl) (h := fun v4 wk Hl => ⟨aK, ?_⟩)
      refine rX Sc 12 [] (h := ⟨aK, ?_⟩)
      refine bR Sc (by kernel_rfl) ?_
      refine aA (aj (aB (Mv ?_)))
      refine Vv (Gives.bM rfl rfl rfl (by omega)) (Am ?_)
      refine aP ?_
      have Yu : [] ++ acc.take k ++ [x.n] ++ acc.drop k = eH x.n acc := by rw [Md]; simp
      rw [Yu] at Hl
      have jW := oG x.n acc
      exact aC (i + 1, eH x.n acc, v4) ⟨rfl, rfl, rfl, trivial⟩ ⟨⟨by dsimp only; omega, by dsimp only; omega, dJ⟩, Hl.firsts (l := [_])⟩ (by dsimp only; omega)
    have LX : k < acc.length := by omega
    obtain ⟨y, hy⟩ := get_some LX
    refine On (Mv ?_)
    refine On (Mv ?_)
    refine On (Vv (Gives.eT rfl rfl (by assumption) (by omega)) (On ?_))
    refine Vv (Gives.o8 (f := 0) rfl hB hy rfl) (On ?_)
    refine Mv ?_
    refine On (Vn ?_)
    refine Pf ?_
    refine Qn (Cp rfl (fun Id => ?_) (fun Id => ?_))
    · rw [if_neg (by rw [hy]; simp; omega)] at Md
      refine Sr ?_
      have Hm := Sep.iX Hb 3 1 intCells
      refine Am ?_
      refine Qn (bG rfl Hm (h := fun Sd wl Hn => ?_))
      refine Gm Sd 0 ?_
      refine Gm Sd 1 ?_
      refine Gm Sd 2 ?_
      refine Gp Sd 3 rfl rfl (fun _ => (Gives.sliceTo rfl rfl (by omega))) (Gm Sd 5 ?_)
      refine Gm Sd 8 ?_
      refine Gm Sd 9 ?_
      refine Gp Sd 10 rfl rfl (fun _ => (Gives.sliceFrom rfl rfl (by omega))) (vD Sd (e1 := 4) (e2 := 6) (by kernel_rfl) ?_ ?_)
      · first
        | refine pI Sd 4 [(10, true), (9, true), (8, true), (5, true)] Hn (news := acc.take k) At0 ((fT Hn At1).cut k) (by unfold maxLen; simp; omega) (by simp; omega) (cells_one (fun _ => rfl) _) (hy := by rw [List.length_take, Nat.min_eq_left hk]; rfl) (h := fun v2 wm Ho => ⟨av (av (av (av (aK)))), ?_⟩)
        | refine pI Sd 4 [(10, true), (9, true), (8, true), (5, true)] Hn (news := acc.take k) At1 ((fT Hn At2).cut k) (by unfold maxLen; simp; omega) (by simp; omega) (cells_one (fun _ => rfl) _) (hy := by rw [List.length_take, Nat.min_eq_left hk]; rfl) (h := fun v2 wm Ho => ⟨av (av (av (av (aK)))), ?_⟩)
        refine eD Sd 6 [(10, true), (9, true), (8, true)] Ho (xs := [.tmp 56]) (out := [x.n].flatMap intCells) (aU.one rfl rfl aU.nil) (h := fun b wn Hp => ⟨av (av (av (aK))), ?_⟩)
        refine jo Sd 7 [(10, true), (9, true), (8, true)] Hp (news := [x.n]) At0 (by unfold maxLen; simp; omega) (by simp; omega) (cells_one (fun _ => rfl) [x.n]) (h := fun v3 wo Hq => ⟨av (av (av (aK))), ?_⟩)
        refine lZ Sd 11 [] Hq (news := acc.drop k) At0 ((fT Hq At1).KY k EP) (by unfold maxLen; simp; omega) (by simp; omega) (cells_one (fun _ => rfl) _) (hy := by rw [List.length_drop]; rfl) (h := fun v4 wp Hr => ⟨aK, ?_⟩)
        refine rX Sd 12 [] (h := ⟨aK, ?_⟩)
        refine bR Sd (by kernel_rfl) ?_
        refine aA (aj (aB (Mv ?_)))
        refine Vv (Gives.bM rfl rfl rfl (by omega)) (Am ?_)
        refine aP ?_
        have Yu : [] ++ acc.take k ++ [x.n] ++ acc.drop k = eH x.n acc := by rw [Md]; simp
        rw [Yu] at Hr
        have jW := oG x.n acc
        exact aC (i + 1, eH x.n acc, v4) ⟨rfl, rfl, rfl, trivial⟩ ⟨⟨by dsimp only; omega, by dsimp only; omega, dJ⟩, Hr.firsts (l := [_])⟩ (by dsimp only; omega)
      refine uE Sd 6 [(10, true), (9, true), (8, true), (3, true), (2, true), (1, true), (0, true)] Hn (xs := [.tmp 56]) (out := [x.n].flatMap intCells) (aU.one rfl rfl aU.nil) (h := fun b wq Hs => ⟨av (av (av (av (av (av (av (aK))))))), ?_⟩)
      first
      | refine lZ Sd 4 [(10, true), (9, true), (8, true)] Hs (news := acc.take k) At0 ((fT Hs At1).cut k) (by unfold maxLen; simp; omega) (by simp; omega) (cells_one (fun _ => rfl) _) (hy := by rw [List.length_take, Nat.min_eq_left hk]; rfl) (h := fun v2 wr Ht => ⟨av (av (av (aK))), ?_⟩)
      | refine lZ Sd 4 [(10, true), (9, true), (8, true)] Hs (news := acc.take k) At1 ((fT Hs At2).cut k) (by unfold maxLen; simp; omega) (by simp; omega) (cells_one (fun _ => rfl) _) (hy := by rw [List.length_take, Nat.min_eq_left hk]; rfl) (h := fun v2 wr Ht => ⟨av (av (av (aK))), ?_⟩)
      refine jo Sd 7 [(10, true), (9, true), (8, true)] Ht (news := [x.n]) At0 (by unfold maxLen; simp; omega) (by simp; omega) (cells_one (fun _ => rfl) [x.n]) (h := fun v3 ws Hu => ⟨av (av (av (aK))), ?_⟩)
      refine lZ Sd 11 [] Hu (news := acc.drop k) At0 ((fT Hu At1).KY k EP) (by unfold maxLen; simp; omega) (by simp; omega) (cells_one (fun _ => rfl) _) (hy := by rw [List.length_drop]; rfl) (h := fun v4 wt Hv => ⟨aK, ?_⟩)
      refine rX Sd 12 [] (h := ⟨aK, ?_⟩)
      refine bR Sd (by kernel_rfl) ?_
      refine aA (aj (aB (Mv ?_)))
      refine Vv (Gives.bM rfl rfl rfl (by omega)) (Am ?_)
      refine aP ?_
      have Yu : [] ++ acc.take k ++ [x.n] ++ acc.drop k = eH x.n acc := by rw [Md]; simp
      rw [Yu] at Hv
      have jW := oG x.n acc
      exact aC (i + 1, eH x.n acc, v4) ⟨rfl, rfl, rfl, trivial⟩ ⟨⟨by dsimp only; omega, by dsimp only; omega, dJ⟩, Hv.firsts (l := [_])⟩ (by dsimp only; omega)
    rw [if_pos (by rw [hy]; congr 1; omega)] at Md
    refine aY (aA (aj (aB (Mv ?_))))
    refine Vv (Gives.bM rfl rfl rfl (by omega)) (Am ?_)
    refine aP ?_
    exact aC (i + 1, acc, .slice B acc.length cb) ⟨rfl, rfl, rfl, trivial⟩ ⟨⟨by dsimp only; omega, by dsimp only; omega, by rw [Md] at dJ; exact dJ⟩, Hb⟩ (by dsimp only; omega)
  have jW : i = l.length := by omega
  rw [jW, List.drop_length, List.foldl_nil] at dJ
  refine bq (aT (aO (aV (aj (Sr (Mv ?_))))))
  refine Am ?_
  refine Qn (aM (ak (hR := ?_)))
  exact ⟨_, rfl, trivial, by rw [← dJ]; exact H5.turn⟩
end
def tO (c : UInt8) : List UInt8 := if c = 32 then [92, 117, 48, 48, 50, 48] else [c]
theorem Nv {q : List UInt8} {i : Nat} {c : UInt8} (h : q[i]? = some c) : (q.take (i + 1)).flatMap tO = (q.take i).flatMap tO ++ tO c := by
 rw [List.take_add_one, h, List.flatMap_append]; simp
theorem Qy (q : List UInt8) : (q.flatMap tO).length ≤ 6 * q.length := rU (f := tO) (fun c => by unfold tO; split <;> simp) q
theorem Gb (s : List UInt8) : (iR s).length ≤ 6 * s.length + 2 := by
 have h := rU (f := eP) (k := 6) (fun c => by unfold eP; (repeat' split) <;> simp) s
 unfold iR
 simp only [List.length_cons, List.length_append, List.length_nil]
 omega
theorem Qz {q : List UInt8} {i : Nat} {c : UInt8} (h : q[i]? = some c) : (q.take (i + 1)).drop i = [c] := by
 have bU := iE h
 rw [List.take_add_one, h, List.drop_append, List.drop_of_length_le (by rw [List.length_take]; omega), List.length_take, Nat.min_eq_left (by omega), Nat.sub_self]
 rfl
theorem K3 {k : Int} (h : 7 ≤ k) (h2 : k ≤ 18) : eG[(k - 7).toNat]? = some (eG.getD (k - 7).toNat []) := by
 rw [List.getD_eq_getElem?_getD]
 have : (k - 7).toNat < eG.length := by show _ < 12; omega
 rw [List.getElem?_eq_getElem this]; rfl
section
variable {w : World}
theorem mY (x : bL) (hm : dI x = true) (hf : fits x.n) : bF Tryz.prog 86 [agg (aI x)] w fun v w' => v = str (dO x) ∧ Kept noB w w' := by
 have H := Sep.bB w
 obtain ⟨res, ay⟩ : ∃ res, res = dO x := ⟨_, rfl⟩
 rw [← ay]
 unfold dO at ay
 unfold dI at hm
 have jW := Dm hf.1 hf.2
 refine dP Tryz.func86 rfl rfl rfl rfl ?_
 refine Sr (dz H (cs := aI x) rfl (h := fun b0 w2 H2 k0 => ?_))
 refine Am ?_
 refine Qn (au (Sr (Vf ?_)))
 refine Ld H2 ?_
 refine Qn (aF (Sr (Ve ?_)))
 refine Am ?_
 refine Qn (Cp rfl (fun xL => ?_) (fun xL => ?_))
 ·rw [if_pos xL] at ay
  refine Sr (Vf ?_)
  refine Ld H2 ?_
  refine aN H2 (Dv x.n hf) (h := fun wa Ha ka => ?_)
  refine Vv (Gives.iW rfl rfl (by first | omega | (simp; done) | (simp; omega))) ?_
  refine Am ?_
  refine Qn (Rb (ak (hR := ?_)))
  exact ⟨by rw [ay]; rfl, Ha.kept⟩
 rw [if_neg xL] at ay hm
 refine Sr (Ve ?_)
 refine Am ?_
 refine Qn (Cp rfl (fun Ia => ?_) (fun Ia => ?_))
 ·rw [if_pos Ia] at ay
  refine Sr (Vf ?_)
  refine Ld H2 ?_
  refine aN H2 (Dv x.n hf) (h := fun wb Hb kb => ?_)
  refine Am ?_
  refine Qn (Rb (ak (hR := ?_)))
  exact ⟨by rw [ay]; rfl, Hb.kept⟩
 rw [if_neg Ia] at ay hm
 refine Sr (Ve ?_)
 refine Am ?_
 refine Qn (Cp rfl (fun Ib => ?_) (fun Ib => ?_))
 ·rw [if_pos Ib] at ay hm
  simp only [decide_eq_true_eq] at hm
  obtain ⟨_, YI, JN⟩ := hm
  have hg : [vk, mM][x.n.toNat]? = some res := by
   rw [ay]
   rcases (by omega : x.n = 0 ∨ x.n = 1) with e | e
   ·rw [e]; rfl
   rw [e]; rfl
  have JH : ((x.n.toNat : Nat) : Int) = x.n := Int.toNat_of_nonneg YI
  refine Sr (aX H2 (xs := [_, _]) (out := [vk, mM].flatMap bX) (aU.one rfl rfl (aU.one rfl rfl aU.nil)) rfl rfl rfl (fun b1 wc Hc kc => ?_))
  have hR : Rd wc (some ⟨b1, 0, none⟩) bX 1 [vk, mM] := Sep.gJ Hc At0 rfl
  refine Vf ?_
  refine Ld Hc ?_
  refine Vv (Gives.eT (l := [vk, mM]) (enc := bX) (i := x.n.toNat) rfl (by rw [JH]; rfl) hR (iE hg)) ?_
  refine Vv (Gives.o8 (f := 0) (i := x.n.toNat) rfl hR hg rfl) (Am ?_)
  refine Qn (Rb (ak (hR := ?_)))
  exact ⟨rfl, Hc.kept⟩
 rw [if_neg Ib] at ay hm
 refine Sr (Ve ?_)
 refine Am ?_
 refine Qn (Cp rfl (fun Ic => ?_) (fun Ic => ?_))
 ·rw [if_pos Ic] at ay hm
  simp only [decide_eq_true_eq] at hm
  obtain ⟨_, hlen, yQ⟩ := hm
  have UE := Gb x.s
  refine Sr (Vf ?_)
  refine Ld H2 ?_
  refine aN H2 (Qm x.s (by omega)) (h := fun wd Hd kd => ?_)
  rw [show oP x.s = (iR x.s, 0) by unfold oP; rw [if_pos yQ]]
  refine Mv ?_
  refine Vx ?_
  refine Vx ?_
  refine Am ?_
  refine Am ?_
  refine Nx (Am ?_)
  refine Qn (au (Sr (Am ?_)))
  refine Qn (aF (bA (fun i : Nat => [(1, .pointer (some ⟨b0, 0, none⟩)), (3, str (iR x.s)), (5, str (((iR x.s).take i).flatMap tO)), (6, I i)]) (fun i w' => i ≤ (iR x.s).length ∧ Sep w noB [blk b0 (aI x) 60] w') (fun i _ => (iR x.s).length - i) 0 ⟨rfl, rfl, rfl, rfl, trivial⟩ ⟨Nat.zero_le _, Hd⟩ (fun i τ we hI => ?_)))
  obtain ⟨hi, He⟩ := hI
  have Z5 := Qy ((iR x.s).take i)
  rw [List.length_take, Nat.min_eq_left hi] at Z5
  try simp only [cZ, like, bC, bZ]
  refine au (Sr (Mv ?_))
  refine Mv ?_
  refine Vt ?_
  refine Vl ?_
  refine Qn (Cp rfl (fun Id => ?_) (fun Id => ?_))
  ·have bU : i < (iR x.s).length := by omega
   obtain ⟨c, hc⟩ := get_some bU
   have LZ : (iR x.s).getD i 0 = c := l6 hc
   have zT := Nv hc
   refine Sk (au (aF (Sr (Mv ?_))))
   refine Mv ?_
   refine Vv (Gives.fF rfl rfl (by omega)) ?_
   rw [LZ]
   refine Ve ?_
   refine Qn (Cp rfl (fun Ie => ?_) (fun Ie => ?_))
   ·have If : c = 32 := by rw [← UInt8.toNat_inj]; show c.toNat = 32; omega
    rw [If, show tO 32 = [92, 117, 48, 48, 50, 48] from rfl] at zT
    refine aB (Mv ?_)
    refine Vv (Gives.iW rfl rfl (by simp only [List.length_cons, List.length_nil]; omega)) ?_
    refine Am ?_
    refine aP (aA (aj (aB (Mv ?_))))
    refine Vv (Gives.bM rfl rfl rfl (by omega)) (Am ?_)
    refine aP ?_
    exact aC (i + 1) ⟨rfl, rfl, by rw [zT]; rfl, rfl, trivial⟩ ⟨by omega, He⟩ (by omega)
   have If : ¬ c = 32 := fun e => by subst e; exact Ie rfl
   rw [show tO c = [c] from if_neg If] at zT
   refine aB (Mv ?_)
   refine Mv ?_
   refine Mv ?_
   refine Mv ?_
   refine Vv (Gives.bM (c := ((i + 1 : Nat) : Int)) rfl rfl (by omega) (by omega)) (Vv (Gives.fE rfl rfl rfl (by omega) (by omega)) ?_)
   rw [Qz hc]
   refine Vv (Gives.iW rfl rfl (by simp only [List.length_cons, List.length_nil]; omega)) ?_
   refine Am ?_
   refine aP (aA (aj (aB (Mv ?_))))
   refine Vv (Gives.bM rfl rfl rfl (by omega)) (Am ?_)
   refine aP ?_
   exact aC (i + 1) ⟨rfl, rfl, by rw [zT]; rfl, rfl, trivial⟩ ⟨by omega, He⟩ (by omega)
  have ab0 : i = (iR x.s).length := by omega
  rw [ab0, List.take_length]
  refine bq (aT (aO (aV (aj (Sr (Mv ?_))))))
  refine Am ?_
  refine Qn (Rb (ak (hR := ?_)))
  exact ⟨by rw [ay]; rfl, He.kept⟩
 rw [if_neg Ic] at ay hm
 refine Sr (Ve ?_)
 refine Am ?_
 refine Qn (Cp rfl (fun Ig => ?_) (fun Ig => ?_))
 ·rw [if_pos Ig] at ay hm
  simp only [decide_eq_true_eq] at hm
  obtain ⟨_, hlen⟩ := hm
  have hhl := qP x.s
  refine Sr (Vf ?_)
  refine Ld H2 ?_
  refine aN H2 (VW x.s (by omega)) (h := fun wf Hf ke => ?_)
  refine Vv (Gives.iW rfl rfl (by first | omega | (simp; done) | (simp; omega))) ?_
  refine Am ?_
  refine Qn (Rb (ak (hR := ?_)))
  exact ⟨by rw [ay]; rfl, Hf.kept⟩
 rw [if_neg Ig] at ay hm
 refine Sr (Ve ?_)
 refine Am ?_
 refine Qn (Cp rfl (fun Ih => ?_) (fun Ih => ?_))
 ·rw [if_pos Ih] at ay hm
  simp only [decide_eq_true_eq] at hm
  obtain ⟨_, hn⟩ := hm
  have JL : x.n = 1 ∨ x.n = 3 ∨ x.n = 4 ∨ x.n = 5 := by omega
  refine Sr (Vf ?_)
  refine Ld H2 ?_
  refine dY (rZ _) (h := ?_)
  refine Vv (Gives.iW rfl rfl (by unfold qQ; (repeat' split) <;> simp)) (Am ?_)
  refine Qn (Rb (ak (hR := ?_)))
  exact ⟨by rw [ay]; rcases JL with e | e | e | e <;> rw [e] <;> rfl, H2.kept⟩
 rw [if_neg Ih] at ay hm
 simp only [decide_eq_true_eq] at hm
 obtain ⟨h7, h18, _, _⟩ := hm
 have hg := K3 h7 h18
 rw [← ay] at hg
 have JH : (((x.kind - 7).toNat : Nat) : Int) = x.kind - 7 := Int.toNat_of_nonneg (by omega)
 refine aY (aA (aj (Sr (aX H2 (xs := [_, _, _, _, _, _, _, _, _, _, _, _]) (out := eG.flatMap bX) (aU.one rfl rfl (aU.one rfl rfl (aU.one rfl rfl (aU.one rfl rfl (aU.one rfl rfl (aU.one rfl rfl (aU.one rfl rfl (aU.one rfl rfl (aU.one rfl rfl (aU.one rfl rfl (aU.one rfl rfl (aU.one rfl rfl aU.nil)))))))))))) rfl rfl rfl (fun b1 wg Hg kf => ?_)))))
 have hR : Rd wg (some ⟨b1, 0, none⟩) bX 1 eG := Sep.gJ Hg At0 rfl
 refine Vf ?_
 refine Ld Hg ?_
 refine Vv (Gives.yh (c := (((x.kind - 7).toNat : Nat) : Int)) rfl rfl (by omega) (by omega)) (Vv (Gives.eT (l := eG) (enc := bX) rfl rfl hR (iE hg)) ?_)
 refine Vv (Gives.o8 (f := 0) rfl hR hg rfl) (Am ?_)
 refine Qn (aM (ak (hR := ?_)))
 exact ⟨rfl, Hg.kept⟩
end
theorem Gc (sep : UInt8) (w : List UInt8) : ∀ ws : List (List UInt8), ws ≠ [] → fA sep (ws ++ [w]) = fA sep ws ++ [sep] ++ w
 | [], h => absurd rfl h
 | [a], _ => by simp [fA]
 | a :: b :: ws, _ => by
  have ih := Gc sep w (b :: ws) (by simp)
  show a ++ sep :: fA sep (b :: ws ++ [w]) = a ++ sep :: fA sep (b :: ws) ++ [sep] ++ w
  rw [ih]; simp
theorem qR {α : Type} {l : List α} {p : α → Bool} {j : Nat} {x : α} (h : ∀ (i : Nat) y, i < j → l[i]? = some y → p y = false) (hj : l[j]? = some x) (hp : p x = true) : l.findIdx? p = some j := by
 rw [List.findIdx?_eq_some_iff_getElem]
 obtain ⟨h1, h2⟩ := List.getElem?_eq_some_iff.1 hj
 refine ⟨h1, by rw [h2]; exact hp, fun i hi => ?_⟩
 rw [h i _ hi (List.getElem?_eq_getElem (by omega))]; simp
theorem oH {α : Type} {l : List α} {p : α → Bool} (h : ∀ (i : Nat) y, l[i]? = some y → p y = false) : l.findIdx? p = none := by
 rw [List.findIdx?_eq_none_iff]
 intro x hx
 obtain ⟨i, hi⟩ := List.getElem?_of_mem hx
 exact h i x hi
theorem vF {x : bL} (h : dI x = true) (hf : fits x.n) : (dO x).length ≤ 6146 := (Dn h hf.1 hf.2).1
attribute [local irreducible] dI dO
section
variable {w : World}
theorem DJ {l : List bL} {vl : Value} (hl : dn w vl aI 3 l) (hx : ∀ x ∈ l, fits x.n) : bF Tryz.prog 40 [vl] w fun v w' => v = .tuple #[str (eY l).1, I (eY l).2] ∧ Kept noB w w' := by
  obtain ⟨C, n, rfl, ⟨hn, JL⟩, hC⟩ := hl
  have H := Sep.bB w
  obtain ⟨res, ay⟩ : ∃ res, res = eY l := ⟨_, rfl⟩
  rw [← ay]
  unfold eY at ay
  refine dP Tryz.func40 rfl rfl rfl rfl ?_
  refine Sr (Am ?_)
  refine Am ?_
  refine Qn (au (Sr (Mv ?_)))
  refine Vs ?_
  refine Vg ?_
  refine Qn (Cp rfl (fun Cr => ?_) (fun Cr => ?_))
  · rw [if_pos (by omega)] at ay
    refine Sr (Am ?_)
    refine Am ?_
    refine Qn (Rs (ak (hR := ?_)))
    exact ⟨by rw [ay]; rfl, H.kept⟩
  rw [if_neg (by omega)] at ay
  refine Sk (Sr (Am ?_))
  refine Qn (au (Sr (Am ?_)))
  refine Qn (aF (bA (fun i : Nat => [(0, .slice C l.length n), (4, str (fA 32 ((l.take i).map dO))), (5, I i)]) (fun i w' => (i ≤ l.length ∧ ∀ (j : Nat) x, j < i → l[j]? = some x → dI x = true) ∧ Sep w noB [] w') (fun i _ => l.length - i) 0 ⟨rfl, rfl, rfl, trivial⟩ ⟨⟨Nat.zero_le _, fun j x hj => by omega⟩, H⟩ (fun i τ wa hI => ?_)))
  obtain ⟨⟨hi, uy⟩, Ha⟩ := hI
  have hlen : (fA 32 ((l.take i).map dO)).length ≤ (6146 + 1) * i := by
    have := rW 32 (k := 6146) (ws := (l.take i).map dO) fun w hw => by
      obtain ⟨x, Od, rfl⟩ := List.mem_map.1 hw
      obtain ⟨j, hj⟩ := List.getElem?_of_mem Od
      rw [List.getElem?_take] at hj
      split at hj
      · exact vF (uy j x (by omega) hj) (hx x (List.mem_of_getElem? hj))
      cases hj
    rw [List.length_map, List.length_take, Nat.min_eq_left hi] at this
    exact this
  try simp only [cZ, like, bC, bZ]
  refine au (Sr (Mv ?_))
  refine Mv ?_
  refine Vs ?_
  refine Vl ?_
  refine Qn (Cp rfl (fun Ia => ?_) (fun Ia => ?_))
  · have bU : i < l.length := by omega
    obtain ⟨x, mq⟩ := get_some bU
    have JU := hx x (List.mem_of_getElem? mq)
    have Ca : (l.take (i + 1)).map dO = (l.take i).map dO ++ [dO x] := by rw [List.take_add_one, mq, List.map_append]; rfl
    refine Sk (au (aF (au (Sr (Mv ?_)))))
    refine Mv ?_
    refine Vv (Gives.eT rfl rfl (by assumption) (by omega)) (Vv (Gives.iM rfl Ha (by assumption) (by assumption)) ?_)
    refine aN Ha (xA x) (h := fun wb Hb ka => ?_)
    refine Vv (Gives.not rfl) (Qn ?_)
    refine Cd rfl (fun Ib => ?_) (fun Ib => ?_)
    · have iY : l.all dI = false := by
        rw [← Bool.not_eq_true, List.all_eq_true]
        intro h
        have := h x (List.mem_of_getElem? mq)
        rw [this] at Ib; cases Ib
      rw [if_pos iY] at ay
      refine Sr (Am ?_)
      refine Am ?_
      refine Qn (Rs (aH (aL (aR (aH (aL (ak (hR := ?_))))))))
      exact ⟨by rw [ay]; rfl, Hb.kept⟩
    have yU : dI x = true := by simpa using Ib
    refine Sk (au (Sr (Mv ?_)))
    refine Vg ?_
    refine Qn (Cp rfl (fun Ic => ?_) (fun Ic => ?_))
    · have fM : (l.take i).map dO ≠ [] := fun e => by
        have := congrArg List.length e
        rw [List.length_map, List.length_take, List.length_nil] at this
        omega
      have hj := Gc 32 (dO x) _ fM
      rw [← Ca] at hj
      refine aB (Mv ?_)
      refine Vv (Gives.iW rfl rfl (by simp only [List.length_cons, List.length_nil]; omega)) ?_
      refine Am ?_
      refine Qn (aB (Mv ?_))
      refine Mv ?_
      refine Mv ?_
      refine Vv (Gives.eT rfl rfl (by assumption) (by omega)) (Vv (Gives.iM rfl Hb (by assumption) (by assumption)) ?_)
      refine aN Hb (mY x yU JU) (h := fun wc Hc kb => ?_)
      have hwl := vF yU JU
      refine Vv (Gives.iW rfl rfl (by first | omega | (simp only [List.length_append, List.length_cons, List.length_nil]; omega))) ?_
      refine Am ?_
      refine aP (aA (aj (aB (Mv ?_))))
      refine Vv (Gives.bM rfl rfl rfl (by omega)) (Am ?_)
      refine aP ?_
      exact aC (i + 1) ⟨rfl, by rw [hj]; rfl, rfl, trivial⟩ ⟨⟨by omega, fun j y hj hy => by
      by_cases e : j = i
      · subst e; rw [mq] at hy; injection hy with hy; rw [← hy]; exact yU
      exact uy j y (by omega) hy⟩, Hc⟩ (by omega)
    have hi0 : i = 0 := by omega
    subst hi0
    have hj : fA 32 ((l.take (0 + 1)).map dO) = [] ++ dO x := by rw [Ca]; rfl
    refine Sk (aB (Mv ?_))
    refine Mv ?_
    refine Mv ?_
    refine Vv (Gives.eT rfl rfl (by assumption) (by omega)) (Vv (Gives.iM rfl Hb (by assumption) (by assumption)) ?_)
    refine aN Hb (mY x yU JU) (h := fun wd Hd kc => ?_)
    have hwl := vF yU JU
    refine Vv (Gives.iW rfl rfl (by first | omega | (simp only [List.length_append, List.length_cons, List.length_nil]; omega))) ?_
    refine Am ?_
    refine aP (aA (aj (aB (Mv ?_))))
    refine Vv (Gives.bM rfl rfl rfl (by omega)) (Am ?_)
    refine aP ?_
    exact aC 1 ⟨rfl, by rw [hj]; rfl, rfl, trivial⟩ ⟨⟨by omega, fun j y hj hy => by
    have : j = 0 := by omega
    subst this; rw [mq] at hy; injection hy with hy; rw [← hy]; exact yU⟩, Hd⟩ (by omega)
  have jW : i = l.length := by omega
  have lu : l.all dI = true := List.all_eq_true.2 fun x Od => by
    obtain ⟨j, hj⟩ := List.getElem?_of_mem Od
    exact uy j x (by have := iE hj; omega) hj
  rw [if_neg (by rw [lu]; simp)] at ay
  rw [jW, List.take_length]
  refine bq (aT (aO (aV (aj (Sr (Mv ?_))))))
  refine Am ?_
  refine Am ?_
  refine Qn (aM (ak (hR := ?_)))
  exact ⟨by rw [ay]; rfl, Ha.kept⟩
end
end Go.Proofs.YtolaedhdjcnijaaGreatDoor
namespace Go.Proofs.YtolaedhdjcnijaaGreatDoor
open Go Go.Mw Go.Lib
set_option maxRecDepth 4000
theorem jB {w : List UInt8} {c : UInt8} (h : 0 < w.length) : w.head? = some c ↔ w.getD 0 0 = c := by
 cases w with
 | nil => simp at h
 | cons a r => simp
theorem tQ {w : List UInt8} (h : ∀ k : Int, 1 ≤ k → k < 6 → gM k ≠ w) : [1, 2, 3, 4, 5].find? (fun k : Int => decide (gM k = w)) = none := by
 rw [List.find?_eq_none]
 intro k hk
 simp only [List.mem_cons, List.not_mem_nil, or_false] at hk
 have := h k (by omega) (by omega)
 simpa using this
theorem tT {w : List UInt8} {k : Int} (h1 : 1 ≤ k) (h5 : k ≤ 5) (h : ∀ j : Int, 1 ≤ j → j < k → gM j ≠ w) (hk : gM k = w) : [1, 2, 3, 4, 5].find? (fun k : Int => decide (gM k = w)) = some k := by
 have hd : ∀ j : Int, 1 ≤ j → j < k → decide (gM j = w) = false := fun j a b => decide_eq_false (h j a b)
 have hk' : decide (gM k = w) = true := decide_eq_true hk
 rcases (by omega : k = 1 ∨ k = 2 ∨ k = 3 ∨ k = 4 ∨ k = 5) with e | e | e | e | e <;> subst e
 ·simp only [List.find?_cons, hk']
 ·simp only [List.find?_cons, hd 1 (by omega) (by omega), hk']
 ·simp only [List.find?_cons, hd 1 (by omega) (by omega), hd 2 (by omega) (by omega), hk']
 ·simp only [List.find?_cons, hd 1 (by omega) (by omega), hd 2 (by omega) (by omega), hd 3 (by omega) (by omega), hk']
 simp only [List.find?_cons, hd 1 (by omega) (by omega), hd 2 (by omega) (by omega), hd 3 (by omega) (by omega), hd 4 (by omega) (by omega), hk']
theorem xB {k : Int} (h1 : 1 ≤ k) (h5 : k ≤ 5) : [110, 117, 108, 108, 58] ++ qQ k = gM k := by
 rcases (by omega : k = 1 ∨ k = 2 ∨ k = 3 ∨ k = 4 ∨ k = 5) with e | e | e | e | e <;> subst e <;> rfl
theorem xC {k : Nat} (h : k < 12) : dO ⟨7 + k, 0, []⟩ = eG.getD k [] ∧ dI ⟨7 + k, 0, []⟩ = true := by
 have key : ∀ i : Fin 12, dO ⟨7 + i.val, 0, []⟩ = eG.getD i.val [] ∧ dI ⟨7 + i.val, 0, []⟩ = true := by decide
 exact key ⟨k, h⟩
theorem Ci {k : Nat} (h : k < 12) : eG[k]? = some (eG.getD k []) := by
 rw [List.getD_eq_getElem?_getD, List.getElem?_eq_getElem (show k < eG.length from h)]; rfl
attribute [local irreducible] lG q9 gZ gM qQ dI dO
section
variable {w : World}
theorem Gd (s : List UInt8) (hl : s.length ≤ 1000000) : bF Tryz.prog 141 [str s] w fun v w' => v = agg (aI (stepW s)) ∧ Kept noB w w' := by
 have H := Sep.bB w
 obtain ⟨res, ay⟩ : ∃ res, res = stepW s := ⟨_, rfl⟩
 rw [← ay]
 unfold stepW at ay
 refine qo Tryz.func141 rfl rfl rfl rfl ?_
 refine Sr (bD H (h := fun b1 w2 H2 k1 => ?_))
 refine Qn (au (Sr (Mv ?_)))
 refine dY (F3 s (by omega)) (h := ?_)
 refine Mv ?_
 refine Vx ?_
 refine Vx ?_
 refine Am ?_
 refine Am ?_
 refine Nx (Mv ?_)
 refine Qn (Cd rfl (fun Ia => ?_) (fun Ia => ?_))
 ·rw [if_pos Ia] at ay
  refine Sr (Mv ?_)
  refine Vv (Gives.build (out := aI ⟨2, (lG s).1, []⟩) (Fills.one rfl rfl rfl (by simp) rfl (Fills.one rfl rfl rfl (by simp) rfl Fills.nil))) (aD H2 (h := fun wa Ha => ?_))
  refine Qn (Rs (aW (h := ?_)))
  exact ⟨_, gB Ha, by rw [ay]; rfl, Ha.kept⟩
 rw [if_neg (by rw [Ia]; simp)] at ay
 refine Sk (au (Sr (Mv ?_)))
 refine Vt ?_
 refine Vg ?_
 refine Mv ?_
 refine aG (t := 25) rfl (fun Sa => ?_) (fun Sa => ?_)
 ·refine On (Mv ?_)
  refine On (Vv (Gives.fF (i := 0) rfl rfl (by omega)) (On ?_))
  refine Ve ?_
  refine Pt ?_
  refine Qn (Cp rfl (fun Ib => ?_) (fun Ib => ?_))
  ·have hh := (jB (w := s) (c := 35) (by omega)).2 (UInt8.toNat_inj.1 (by show (s.getD 0 0).toNat = 35; omega))
   rw [if_pos ⟨by omega, hh⟩] at ay
   refine Sr (Mv ?_)
   refine Vv (Gives.dW (i := 1) rfl rfl (by omega)) (dY (F3 (s.drop 1) (by rw [List.length_drop]; omega)) (h := ?_))
   refine Mv ?_
   refine Vx ?_
   refine Vx ?_
   refine Am ?_
   refine Am ?_
   refine Nx (Mv ?_)
   refine Vv (Gives.build (out := aI ⟨1, (lG (s.drop 1)).1, []⟩) (Fills.one rfl rfl rfl (by simp) rfl (Fills.one rfl rfl rfl (by simp) rfl Fills.nil))) (aD H2 (h := fun wb Hb => ?_))
   refine Qn (Rs (aW (h := ?_)))
   exact ⟨_, gB Hb, by rw [ay]; rfl, Hb.kept⟩
  have hh : ¬ (1 < s.length ∧ s.head? = some 35) := fun h => by
   have := (jB (w := s) (c := 35) (by omega)).1 h.2
   rw [this] at Ib; exact Ib rfl
  rw [if_neg hh] at ay
  refine Sk (au (Sr (Mv ?_)))
  refine Vt ?_
  refine Vg ?_
  refine Mv ?_
  refine aG (t := 41) rfl (fun Sb => ?_) (fun Sb => ?_)
  ·refine On (Mv ?_)
   refine On (Vv (Gives.fF (i := 0) rfl rfl (by omega)) (On ?_))
   refine Ve ?_
   refine Pt ?_
   refine Qn (Cp rfl (fun Ic => ?_) (fun Ic => ?_))
   ·have hh := (jB (w := s) (c := 34) (by omega)).2 (UInt8.toNat_inj.1 (by show (s.getD 0 0).toNat = 34; omega))
    rw [if_pos hh] at ay
    refine Sr (Mv ?_)
    refine aN H2 (Bq s (by omega)) (h := fun wc Hc ka => ?_)
    refine Mv ?_
    refine Vx ?_
    refine Vx ?_
    refine Vx ?_
    refine Am ?_
    refine Am ?_
    refine Am ?_
    refine Nx (Mv ?_)
    refine Vv (Gives.build (out := aI ⟨4, 0, (q9 s).1⟩) (Fills.one rfl rfl rfl (by simp) rfl (Fills.one rfl rfl rfl (by simp) rfl Fills.nil))) (aD Hc (h := fun wd Hd => ?_))
    refine Qn (Rs (aW (h := ?_)))
    exact ⟨_, gB Hd, by rw [ay]; rfl, Hd.kept⟩
   have hh : ¬ (s.head? = some 34) := fun h => by
    have := (jB (w := s) (c := 34) (by omega)).1 h
    rw [this] at Ic; exact Ic rfl
   rw [if_neg hh] at ay
   refine Sk ?_
   refine fO (fun _ : Unit => [(0, str s), (2, .pointer (some ⟨b1, 0, none⟩))]) (fun _ w' => res = (match eG.findIdx? (fun x => decide (x = s)) with
   | some i => ⟨7 + i, 0, []⟩
   | none => match [1, 2, 3, 4, 5].find? (fun k : Int => decide (gM k = s)) with
    | some k => ⟨6, k, []⟩
    | none => if s = mM then ⟨3, 1, []⟩ else ⟨3, 0, []⟩) ∧ Sep w noB [blk b1 (aI ⟨0, 0, []⟩) 60] w') ?_ ?_
   ·refine Sr (Mv ?_)
    refine Vt ?_
    refine Vg ?_
    refine Mv ?_
    refine aG (t := 57) rfl (fun Sc => ?_) (fun Sc => ?_)
    ·refine On (Mv ?_)
     refine On (Vv (Gives.fF (i := 0) rfl rfl (by omega)) (On ?_))
     refine Ve ?_
     refine Pt ?_
     refine Qn (Cp rfl (fun Id => ?_) (fun Id => ?_))
     ·have hh := (jB (w := s) (c := 120) (by omega)).2 (UInt8.toNat_inj.1 (by show (s.getD 0 0).toNat = 120; omega))
      rw [if_pos hh] at ay
      refine Sr (Mv ?_)
      refine Vv (Gives.dW (i := 1) rfl rfl (by omega)) (aN H2 (xw (s.drop 1) (by rw [List.length_drop]; omega)) (h := fun we He kb => ?_))
      refine Mv ?_
      refine Vx ?_
      refine Vx ?_
      refine Am ?_
      refine Am ?_
      refine Nx (Mv ?_)
      refine Vv (Gives.build (out := aI ⟨5, 0, (gZ (s.drop 1)).getD []⟩) (Fills.one rfl rfl rfl (by simp) rfl (Fills.one rfl rfl rfl (by simp) rfl Fills.nil))) (aD He (h := fun wf Hf => ?_))
      refine Qn (aM (gH (aW (h := ?_))))
      exact ⟨_, gB Hf, by rw [ay]; rfl, Hf.kept⟩
     have hh : ¬ (s.head? = some 120) := fun h => by
      have := (jB (w := s) (c := 120) (by omega)).1 h
      rw [this] at Id; exact Id rfl
     rw [if_neg hh] at ay
     refine aY ?_
     exact aS () ⟨rfl, rfl, trivial⟩ ⟨ay, H2⟩
    have Cq : s = [] := List.eq_nil_of_length_eq_zero (by omega)
    rw [if_neg (by rw [Cq]; simp)] at ay
    refine Of (Of (Of (Pf ?_)))
    refine Qn (bg rfl ?_)
    refine aY ?_
    exact aS () ⟨rfl, rfl, trivial⟩ ⟨ay, H2⟩
   rintro _ τ wg ⟨ay, Hg⟩
   simp only [cZ, like, bC, bZ]
   refine au (Sr (Am ?_))
   refine Qn (aF (bA (fun j : Nat => [(0, str s), (2, .pointer (some ⟨b1, 0, none⟩)), (12, I ((7 + j : Nat) : Int))]) (fun j w' => (j ≤ 12 ∧ ∀ (i : Nat) y, i < j → eG[i]? = some y → decide (y = s) = false) ∧ Sep w noB [blk b1 (aI ⟨0, 0, []⟩) 60] w') (fun j _ => 12 - j) 0 ⟨rfl, rfl, rfl, trivial⟩ ⟨⟨Nat.zero_le _, fun i y hi => by omega⟩, Hg⟩ (fun j τ wh hI => ?_)))
   obtain ⟨⟨hj, vO⟩, Hh⟩ := hI
   try simp only [cZ, like, bC]
   refine au (Sr (Mv ?_))
   refine Vv (Gives.leq rfl rfl) (Qn ?_)
   refine Cp rfl (fun Ie => ?_) (fun Ie => ?_)
   ·have Ph : j < 12 := by omega
    have UK := xC Ph
    have UL := Ci Ph
    refine Sk (au (aF (Sr (Mv ?_))))
    refine Vv (Gives.build (out := aI ⟨7 + (j : Nat), 0, []⟩) (Fills.one rfl rfl rfl (by simp) rfl Fills.nil)) (aN Hh (mY ⟨7 + (j : Nat), 0, []⟩ UK.2 ⟨by dsimp only; omega, by dsimp only; omega⟩) (h := fun wi Hi kc => ?_))
    rw [UK.1]
    refine Mv ?_
    refine Vv (Gives.iD rfl rfl) (Qn ?_)
    refine Cp rfl (fun If => ?_) (fun If => ?_)
    ·rw [qR vO UL (by simpa using If)] at ay
     refine Sr (Mv ?_)
     refine Vv (Gives.build (out := aI ⟨7 + (j : Nat), 0, []⟩) (Fills.one rfl rfl rfl (by simp) rfl Fills.nil)) (aD Hi (h := fun wj Hj => ?_))
     refine Qn (Rb (aR (aH (aL (aW (h := ?_))))))
     exact ⟨_, gB Hj, by rw [ay]; rfl, Hj.kept⟩
    have Ej := decide_eq_false If
    refine aY (aA (aj (aB (Mv ?_))))
    refine Vv (Gives.bM (c := ((7 + (j + 1) : Nat) : Int)) rfl rfl (by omega) (by omega)) (Am ?_)
    refine aP ?_
    exact aC (j + 1) ⟨rfl, rfl, rfl, trivial⟩ ⟨⟨by omega, fun i y hi hy => by
    by_cases e : i = j
    ·subst e; rw [UL] at hy; injection hy with hy; rw [← hy]; exact Ej
    exact vO i y (by omega) hy⟩, Hi⟩ (by omega)
   have Oi : j = 12 := by omega
   rw [oH (fun i y hy => vO i y (by have := iE hy; rw [Oi]; exact this) hy)] at ay
   dsimp only at ay
   refine bq (aT (aO (aV (aj (au (Sr (Am ?_)))))))
   refine Qn (aF (bA (fun k : Nat => [(0, str s), (2, .pointer (some ⟨b1, 0, none⟩)), (13, I k)]) (fun k w' => (1 ≤ k ∧ k ≤ 6 ∧ ∀ j : Int, 1 ≤ j → j < k → gM j ≠ s) ∧ Sep w noB [blk b1 (aI ⟨0, 0, []⟩) 60] w') (fun k _ => 6 - k) 1 ⟨rfl, rfl, rfl, trivial⟩ ⟨⟨by omega, by omega, fun j a b => by omega⟩, Hh⟩ (fun k τ wk hI => ?_)))
   obtain ⟨⟨WI, YW, Cb⟩, Hk⟩ := hI
   try simp only [cZ, like, bC]
   refine au (Sr (Mv ?_))
   refine Vv (Gives.leq rfl rfl) (Qn ?_)
   refine Cp rfl (fun Ig => ?_) (fun Ig => ?_)
   ·have Yv := xB (k := (k : Int)) (by omega) (by omega)
    refine Sk (au (aF (Sr (Mv ?_))))
    refine Mv ?_
    refine dY (rZ _) (h := ?_)
    refine Vv (Gives.iW rfl rfl (by unfold qQ; (repeat' split) <;> simp)) ?_
    rw [Yv]
    refine Vv (Gives.iD rfl rfl) (Qn ?_)
    refine Cp rfl (fun Ih => ?_) (fun Ih => ?_)
    ·rw [tT (by omega) (by omega) Cb Ih.symm] at ay
     refine Sr (Mv ?_)
     refine Vv (Gives.build (out := aI ⟨6, (k : Int), []⟩) (Fills.one rfl rfl rfl (by simp) rfl (Fills.one rfl rfl rfl (by simp) rfl Fills.nil))) (aD Hk (h := fun wl Hl => ?_))
     refine Qn (Rb (aR (aH (aL (aW (h := ?_))))))
     exact ⟨_, gB Hl, by rw [ay]; rfl, Hl.kept⟩
    have El := Ih
    refine aY (aA (aj (aB (Mv ?_))))
    refine Vv (Gives.bM (c := ((k + 1 : Nat) : Int)) rfl rfl (by omega) (by omega)) (Am ?_)
    refine aP ?_
    exact aC (k + 1) ⟨rfl, rfl, rfl, trivial⟩ ⟨⟨by omega, by omega, fun j a b => by
    by_cases e : j = k
    ·subst e; exact fun e => El e.symm
    exact Cb j a (by omega)⟩, Hk⟩ (by omega)
   rw [tQ (fun j a b => Cb j a (by omega))] at ay
   dsimp only at ay
   refine bq (aT (aO (aV (aj (au (Sr (Mv ?_)))))))
   refine Vv (Gives.iD rfl rfl) (Qn ?_)
   refine Cp rfl (fun Ii => ?_) (fun Ii => ?_)
   ·rw [if_pos (show s = mM from Ii)] at ay
    refine Sr (Vv (Gives.build (out := aI ⟨3, 1, []⟩) (Fills.one rfl rfl rfl (by simp) rfl (Fills.one rfl rfl rfl (by simp) rfl Fills.nil))) (aD Hk (h := fun wm Hm => ?_)))
    refine Qn (Rs (aW (h := ?_)))
    exact ⟨_, gB Hm, by rw [ay]; rfl, Hm.kept⟩
   rw [if_neg (show ¬ s = mM from Ii)] at ay
   refine Sk (Sr (Vv (Gives.build (out := aI ⟨3, 0, []⟩) (Fills.one rfl rfl rfl (by simp) rfl Fills.nil)) (aD Hk (h := fun wn Hn => ?_))))
   refine Qn (aM (aW (h := ?_)))
   exact ⟨_, gB Hn, by rw [ay]; rfl, Hn.kept⟩
  have Cq : s = [] := List.eq_nil_of_length_eq_zero (by omega)
  rw [if_neg (by rw [Cq]; simp)] at ay
  refine Of (Of (Of (Pf ?_)))
  refine Qn (bg rfl ?_)
  refine Sk ?_
  refine fO (fun _ : Unit => [(0, str s), (2, .pointer (some ⟨b1, 0, none⟩))]) (fun _ w' => res = (match eG.findIdx? (fun x => decide (x = s)) with
  | some i => ⟨7 + i, 0, []⟩
  | none => match [1, 2, 3, 4, 5].find? (fun k : Int => decide (gM k = s)) with
   | some k => ⟨6, k, []⟩
   | none => if s = mM then ⟨3, 1, []⟩ else ⟨3, 0, []⟩) ∧ Sep w noB [blk b1 (aI ⟨0, 0, []⟩) 60] w') ?_ ?_
  ·refine Sr (Mv ?_)
   refine Vt ?_
   refine Vg ?_
   refine Mv ?_
   refine aG (t := 57) rfl (fun Sd => ?_) (fun Sd => ?_)
   ·refine On (Mv ?_)
    refine On (Vv (Gives.fF (i := 0) rfl rfl (by omega)) (On ?_))
    refine Ve ?_
    refine Pt ?_
    refine Qn (Cp rfl (fun Ij => ?_) (fun Ij => ?_))
    ·have hh := (jB (w := s) (c := 120) (by omega)).2 (UInt8.toNat_inj.1 (by show (s.getD 0 0).toNat = 120; omega))
     rw [if_pos hh] at ay
     refine Sr (Mv ?_)
     refine Vv (Gives.dW (i := 1) rfl rfl (by omega)) (aN H2 (xw (s.drop 1) (by rw [List.length_drop]; omega)) (h := fun wo Ho kd => ?_))
     refine Mv ?_
     refine Vx ?_
     refine Vx ?_
     refine Am ?_
     refine Am ?_
     refine Nx (Mv ?_)
     refine Vv (Gives.build (out := aI ⟨5, 0, (gZ (s.drop 1)).getD []⟩) (Fills.one rfl rfl rfl (by simp) rfl (Fills.one rfl rfl rfl (by simp) rfl Fills.nil))) (aD Ho (h := fun wp Hp => ?_))
     refine Qn (aM (gH (aW (h := ?_))))
     exact ⟨_, gB Hp, by rw [ay]; rfl, Hp.kept⟩
    have hh : ¬ (s.head? = some 120) := fun h => by
     have := (jB (w := s) (c := 120) (by omega)).1 h
     rw [this] at Ij; exact Ij rfl
    rw [if_neg hh] at ay
    refine aY ?_
    exact aS () ⟨rfl, rfl, trivial⟩ ⟨ay, H2⟩
   have Cq : s = [] := List.eq_nil_of_length_eq_zero (by omega)
   rw [if_neg (by rw [Cq]; simp)] at ay
   refine Of (Of (Of (Pf ?_)))
   refine Qn (bg rfl ?_)
   refine aY ?_
   exact aS () ⟨rfl, rfl, trivial⟩ ⟨ay, H2⟩
  rintro _ τ wq ⟨ay, Hq⟩
  simp only [cZ, like, bC, bZ]
  refine au (Sr (Am ?_))
  refine Qn (aF (bA (fun j : Nat => [(0, str s), (2, .pointer (some ⟨b1, 0, none⟩)), (12, I ((7 + j : Nat) : Int))]) (fun j w' => (j ≤ 12 ∧ ∀ (i : Nat) y, i < j → eG[i]? = some y → decide (y = s) = false) ∧ Sep w noB [blk b1 (aI ⟨0, 0, []⟩) 60] w') (fun j _ => 12 - j) 0 ⟨rfl, rfl, rfl, trivial⟩ ⟨⟨Nat.zero_le _, fun i y hi => by omega⟩, Hq⟩ (fun j τ wr hI => ?_)))
  obtain ⟨⟨hj, vO⟩, Hr⟩ := hI
  try simp only [cZ, like, bC]
  refine au (Sr (Mv ?_))
  refine Vv (Gives.leq rfl rfl) (Qn ?_)
  refine Cp rfl (fun Ik => ?_) (fun Ik => ?_)
  ·have Ph : j < 12 := by omega
   have UK := xC Ph
   have UL := Ci Ph
   refine Sk (au (aF (Sr (Mv ?_))))
   refine Vv (Gives.build (out := aI ⟨7 + (j : Nat), 0, []⟩) (Fills.one rfl rfl rfl (by simp) rfl Fills.nil)) (aN Hr (mY ⟨7 + (j : Nat), 0, []⟩ UK.2 ⟨by dsimp only; omega, by dsimp only; omega⟩) (h := fun ws Hs ke => ?_))
   rw [UK.1]
   refine Mv ?_
   refine Vv (Gives.iD rfl rfl) (Qn ?_)
   refine Cp rfl (fun Il => ?_) (fun Il => ?_)
   ·rw [qR vO UL (by simpa using Il)] at ay
    refine Sr (Mv ?_)
    refine Vv (Gives.build (out := aI ⟨7 + (j : Nat), 0, []⟩) (Fills.one rfl rfl rfl (by simp) rfl Fills.nil)) (aD Hs (h := fun wt Ht => ?_))
    refine Qn (Rb (aR (aH (aL (aW (h := ?_))))))
    exact ⟨_, gB Ht, by rw [ay]; rfl, Ht.kept⟩
   have Ej := decide_eq_false Il
   refine aY (aA (aj (aB (Mv ?_))))
   refine Vv (Gives.bM (c := ((7 + (j + 1) : Nat) : Int)) rfl rfl (by omega) (by omega)) (Am ?_)
   refine aP ?_
   exact aC (j + 1) ⟨rfl, rfl, rfl, trivial⟩ ⟨⟨by omega, fun i y hi hy => by
   by_cases e : i = j
   ·subst e; rw [UL] at hy; injection hy with hy; rw [← hy]; exact Ej
   exact vO i y (by omega) hy⟩, Hs⟩ (by omega)
  have Oi : j = 12 := by omega
  rw [oH (fun i y hy => vO i y (by have := iE hy; rw [Oi]; exact this) hy)] at ay
  dsimp only at ay
  refine bq (aT (aO (aV (aj (au (Sr (Am ?_)))))))
  refine Qn (aF (bA (fun k : Nat => [(0, str s), (2, .pointer (some ⟨b1, 0, none⟩)), (13, I k)]) (fun k w' => (1 ≤ k ∧ k ≤ 6 ∧ ∀ j : Int, 1 ≤ j → j < k → gM j ≠ s) ∧ Sep w noB [blk b1 (aI ⟨0, 0, []⟩) 60] w') (fun k _ => 6 - k) 1 ⟨rfl, rfl, rfl, trivial⟩ ⟨⟨by omega, by omega, fun j a b => by omega⟩, Hr⟩ (fun k τ wu hI => ?_)))
  obtain ⟨⟨WI, YW, Cb⟩, Hu⟩ := hI
  try simp only [cZ, like, bC]
  refine au (Sr (Mv ?_))
  refine Vv (Gives.leq rfl rfl) (Qn ?_)
  refine Cp rfl (fun Im => ?_) (fun Im => ?_)
  ·have Yv := xB (k := (k : Int)) (by omega) (by omega)
   refine Sk (au (aF (Sr (Mv ?_))))
   refine Mv ?_
   refine dY (rZ _) (h := ?_)
   refine Vv (Gives.iW rfl rfl (by unfold qQ; (repeat' split) <;> simp)) ?_
   rw [Yv]
   refine Vv (Gives.iD rfl rfl) (Qn ?_)
   refine Cp rfl (fun In => ?_) (fun In => ?_)
   ·rw [tT (by omega) (by omega) Cb In.symm] at ay
    refine Sr (Mv ?_)
    refine Vv (Gives.build (out := aI ⟨6, (k : Int), []⟩) (Fills.one rfl rfl rfl (by simp) rfl (Fills.one rfl rfl rfl (by simp) rfl Fills.nil))) (aD Hu (h := fun wv Hv => ?_))
    refine Qn (Rb (aR (aH (aL (aW (h := ?_))))))
    exact ⟨_, gB Hv, by rw [ay]; rfl, Hv.kept⟩
   have El := In
   refine aY (aA (aj (aB (Mv ?_))))
   refine Vv (Gives.bM (c := ((k + 1 : Nat) : Int)) rfl rfl (by omega) (by omega)) (Am ?_)
   refine aP ?_
   exact aC (k + 1) ⟨rfl, rfl, rfl, trivial⟩ ⟨⟨by omega, by omega, fun j a b => by
   by_cases e : j = k
   ·subst e; exact fun e => El e.symm
   exact Cb j a (by omega)⟩, Hu⟩ (by omega)
  rw [tQ (fun j a b => Cb j a (by omega))] at ay
  dsimp only at ay
  refine bq (aT (aO (aV (aj (au (Sr (Mv ?_)))))))
  refine Vv (Gives.iD rfl rfl) (Qn ?_)
  refine Cp rfl (fun Io => ?_) (fun Io => ?_)
  ·rw [if_pos (show s = mM from Io)] at ay
   refine Sr (Vv (Gives.build (out := aI ⟨3, 1, []⟩) (Fills.one rfl rfl rfl (by simp) rfl (Fills.one rfl rfl rfl (by simp) rfl Fills.nil))) (aD Hu (h := fun ww Hw => ?_)))
   refine Qn (Rs (aW (h := ?_)))
   exact ⟨_, gB Hw, by rw [ay]; rfl, Hw.kept⟩
  rw [if_neg (show ¬ s = mM from Io)] at ay
  refine Sk (Sr (Vv (Gives.build (out := aI ⟨3, 0, []⟩) (Fills.one rfl rfl rfl (by simp) rfl Fills.nil)) (aD Hu (h := fun wx Hx => ?_))))
  refine Qn (aM (aW (h := ?_)))
  exact ⟨_, gB Hx, by rw [ay]; rfl, Hx.kept⟩
 rw [if_neg (fun h => by omega)] at ay
 refine Of (Of (Of (Pf ?_)))
 refine Qn (bg rfl ?_)
 refine Sk (au (Sr (Mv ?_)))
 refine Vt ?_
 refine Vg ?_
 refine Mv ?_
 refine aG (t := 41) rfl (fun Se => ?_) (fun Se => ?_)
 ·refine On (Mv ?_)
  refine On (Vv (Gives.fF (i := 0) rfl rfl (by omega)) (On ?_))
  refine Ve ?_
  refine Pt ?_
  refine Qn (Cp rfl (fun Ip => ?_) (fun Ip => ?_))
  ·have hh := (jB (w := s) (c := 34) (by omega)).2 (UInt8.toNat_inj.1 (by show (s.getD 0 0).toNat = 34; omega))
   rw [if_pos hh] at ay
   refine Sr (Mv ?_)
   refine aN H2 (Bq s (by omega)) (h := fun wy Hy kf => ?_)
   refine Mv ?_
   refine Vx ?_
   refine Vx ?_
   refine Vx ?_
   refine Am ?_
   refine Am ?_
   refine Am ?_
   refine Nx (Mv ?_)
   refine Vv (Gives.build (out := aI ⟨4, 0, (q9 s).1⟩) (Fills.one rfl rfl rfl (by simp) rfl (Fills.one rfl rfl rfl (by simp) rfl Fills.nil))) (aD Hy (h := fun wz Hz => ?_))
   refine Qn (Rs (aW (h := ?_)))
   exact ⟨_, gB Hz, by rw [ay]; rfl, Hz.kept⟩
  have hh : ¬ (s.head? = some 34) := fun h => by
   have := (jB (w := s) (c := 34) (by omega)).1 h
   rw [this] at Ip; exact Ip rfl
  rw [if_neg hh] at ay
  refine Sk ?_
  refine fO (fun _ : Unit => [(0, str s), (2, .pointer (some ⟨b1, 0, none⟩))]) (fun _ w' => res = (match eG.findIdx? (fun x => decide (x = s)) with
  | some i => ⟨7 + i, 0, []⟩
  | none => match [1, 2, 3, 4, 5].find? (fun k : Int => decide (gM k = s)) with
   | some k => ⟨6, k, []⟩
   | none => if s = mM then ⟨3, 1, []⟩ else ⟨3, 0, []⟩) ∧ Sep w noB [blk b1 (aI ⟨0, 0, []⟩) 60] w') ?_ ?_
  ·refine Sr (Mv ?_)
   refine Vt ?_
   refine Vg ?_
   refine Mv ?_
   refine aG (t := 57) rfl (fun Sf => ?_) (fun Sf => ?_)
   ·refine On (Mv ?_)
    refine On (Vv (Gives.fF (i := 0) rfl rfl (by omega)) (On ?_))
    refine Ve ?_
    refine Pt ?_
    refine Qn (Cp rfl (fun Iq => ?_) (fun Iq => ?_))
    ·have hh := (jB (w := s) (c := 120) (by omega)).2 (UInt8.toNat_inj.1 (by show (s.getD 0 0).toNat = 120; omega))
     rw [if_pos hh] at ay
     refine Sr (Mv ?_)
     refine Vv (Gives.dW (i := 1) rfl rfl (by omega)) (aN H2 (xw (s.drop 1) (by rw [List.length_drop]; omega)) (h := fun wA HA kg => ?_))
     refine Mv ?_
     refine Vx ?_
     refine Vx ?_
     refine Am ?_
     refine Am ?_
     refine Nx (Mv ?_)
     refine Vv (Gives.build (out := aI ⟨5, 0, (gZ (s.drop 1)).getD []⟩) (Fills.one rfl rfl rfl (by simp) rfl (Fills.one rfl rfl rfl (by simp) rfl Fills.nil))) (aD HA (h := fun wB HB => ?_))
     refine Qn (aM (gH (aW (h := ?_))))
     exact ⟨_, gB HB, by rw [ay]; rfl, HB.kept⟩
    have hh : ¬ (s.head? = some 120) := fun h => by
     have := (jB (w := s) (c := 120) (by omega)).1 h
     rw [this] at Iq; exact Iq rfl
    rw [if_neg hh] at ay
    refine aY ?_
    exact aS () ⟨rfl, rfl, trivial⟩ ⟨ay, H2⟩
   have Cq : s = [] := List.eq_nil_of_length_eq_zero (by omega)
   rw [if_neg (by rw [Cq]; simp)] at ay
   refine Of (Of (Of (Pf ?_)))
   refine Qn (bg rfl ?_)
   refine aY ?_
   exact aS () ⟨rfl, rfl, trivial⟩ ⟨ay, H2⟩
  rintro _ τ wC ⟨ay, HC⟩
  simp only [cZ, like, bC, bZ]
  refine au (Sr (Am ?_))
  refine Qn (aF (bA (fun j : Nat => [(0, str s), (2, .pointer (some ⟨b1, 0, none⟩)), (12, I ((7 + j : Nat) : Int))]) (fun j w' => (j ≤ 12 ∧ ∀ (i : Nat) y, i < j → eG[i]? = some y → decide (y = s) = false) ∧ Sep w noB [blk b1 (aI ⟨0, 0, []⟩) 60] w') (fun j _ => 12 - j) 0 ⟨rfl, rfl, rfl, trivial⟩ ⟨⟨Nat.zero_le _, fun i y hi => by omega⟩, HC⟩ (fun j τ wD hI => ?_)))
  obtain ⟨⟨hj, vO⟩, HD⟩ := hI
  try simp only [cZ, like, bC]
  refine au (Sr (Mv ?_))
  refine Vv (Gives.leq rfl rfl) (Qn ?_)
  refine Cp rfl (fun Ir => ?_) (fun Ir => ?_)
  ·have Ph : j < 12 := by omega
   have UK := xC Ph
   have UL := Ci Ph
   refine Sk (au (aF (Sr (Mv ?_))))
   refine Vv (Gives.build (out := aI ⟨7 + (j : Nat), 0, []⟩) (Fills.one rfl rfl rfl (by simp) rfl Fills.nil)) (aN HD (mY ⟨7 + (j : Nat), 0, []⟩ UK.2 ⟨by dsimp only; omega, by dsimp only; omega⟩) (h := fun wE HE kh => ?_))
   rw [UK.1]
   refine Mv ?_
   refine Vv (Gives.iD rfl rfl) (Qn ?_)
   refine Cp rfl (fun Is => ?_) (fun Is => ?_)
   ·rw [qR vO UL (by simpa using Is)] at ay
    refine Sr (Mv ?_)
    refine Vv (Gives.build (out := aI ⟨7 + (j : Nat), 0, []⟩) (Fills.one rfl rfl rfl (by simp) rfl Fills.nil)) (aD HE (h := fun wF HF => ?_))
    refine Qn (Rb (aR (aH (aL (aW (h := ?_))))))
    exact ⟨_, gB HF, by rw [ay]; rfl, HF.kept⟩
   have Ej := decide_eq_false Is
   refine aY (aA (aj (aB (Mv ?_))))
   refine Vv (Gives.bM (c := ((7 + (j + 1) : Nat) : Int)) rfl rfl (by omega) (by omega)) (Am ?_)
   refine aP ?_
   exact aC (j + 1) ⟨rfl, rfl, rfl, trivial⟩ ⟨⟨by omega, fun i y hi hy => by
   by_cases e : i = j
   ·subst e; rw [UL] at hy; injection hy with hy; rw [← hy]; exact Ej
   exact vO i y (by omega) hy⟩, HE⟩ (by omega)
  have Oi : j = 12 := by omega
  rw [oH (fun i y hy => vO i y (by have := iE hy; rw [Oi]; exact this) hy)] at ay
  dsimp only at ay
  refine bq (aT (aO (aV (aj (au (Sr (Am ?_)))))))
  refine Qn (aF (bA (fun k : Nat => [(0, str s), (2, .pointer (some ⟨b1, 0, none⟩)), (13, I k)]) (fun k w' => (1 ≤ k ∧ k ≤ 6 ∧ ∀ j : Int, 1 ≤ j → j < k → gM j ≠ s) ∧ Sep w noB [blk b1 (aI ⟨0, 0, []⟩) 60] w') (fun k _ => 6 - k) 1 ⟨rfl, rfl, rfl, trivial⟩ ⟨⟨by omega, by omega, fun j a b => by omega⟩, HD⟩ (fun k τ wG hI => ?_)))
  obtain ⟨⟨WI, YW, Cb⟩, HG⟩ := hI
  try simp only [cZ, like, bC]
  refine au (Sr (Mv ?_))
  refine Vv (Gives.leq rfl rfl) (Qn ?_)
  refine Cp rfl (fun It => ?_) (fun It => ?_)
  ·have Yv := xB (k := (k : Int)) (by omega) (by omega)
   refine Sk (au (aF (Sr (Mv ?_))))
   refine Mv ?_
   refine dY (rZ _) (h := ?_)
   refine Vv (Gives.iW rfl rfl (by unfold qQ; (repeat' split) <;> simp)) ?_
   rw [Yv]
   refine Vv (Gives.iD rfl rfl) (Qn ?_)
   refine Cp rfl (fun Iu => ?_) (fun Iu => ?_)
   ·rw [tT (by omega) (by omega) Cb Iu.symm] at ay
    refine Sr (Mv ?_)
    refine Vv (Gives.build (out := aI ⟨6, (k : Int), []⟩) (Fills.one rfl rfl rfl (by simp) rfl (Fills.one rfl rfl rfl (by simp) rfl Fills.nil))) (aD HG (h := fun wH HH => ?_))
    refine Qn (Rb (aR (aH (aL (aW (h := ?_))))))
    exact ⟨_, gB HH, by rw [ay]; rfl, HH.kept⟩
   have El := Iu
   refine aY (aA (aj (aB (Mv ?_))))
   refine Vv (Gives.bM (c := ((k + 1 : Nat) : Int)) rfl rfl (by omega) (by omega)) (Am ?_)
   refine aP ?_
   exact aC (k + 1) ⟨rfl, rfl, rfl, trivial⟩ ⟨⟨by omega, by omega, fun j a b => by
   by_cases e : j = k
   ·subst e; exact fun e => El e.symm
   exact Cb j a (by omega)⟩, HG⟩ (by omega)
  rw [tQ (fun j a b => Cb j a (by omega))] at ay
  dsimp only at ay
  refine bq (aT (aO (aV (aj (au (Sr (Mv ?_)))))))
  refine Vv (Gives.iD rfl rfl) (Qn ?_)
  refine Cp rfl (fun Iv => ?_) (fun Iv => ?_)
  ·rw [if_pos (show s = mM from Iv)] at ay
   refine Sr (Vv (Gives.build (out := aI ⟨3, 1, []⟩) (Fills.one rfl rfl rfl (by simp) rfl (Fills.one rfl rfl rfl (by simp) rfl Fills.nil))) (aD HG (h := fun wI HI => ?_)))
   refine Qn (Rs (aW (h := ?_)))
   exact ⟨_, gB HI, by rw [ay]; rfl, HI.kept⟩
  rw [if_neg (show ¬ s = mM from Iv)] at ay
  refine Sk (Sr (Vv (Gives.build (out := aI ⟨3, 0, []⟩) (Fills.one rfl rfl rfl (by simp) rfl Fills.nil)) (aD HG (h := fun wJ HJ => ?_))))
  refine Qn (aM (aW (h := ?_)))
  exact ⟨_, gB HJ, by rw [ay]; rfl, HJ.kept⟩
 have Cq : s = [] := List.eq_nil_of_length_eq_zero (by omega)
 rw [if_neg (by rw [Cq]; simp)] at ay
 refine Of (Of (Of (Pf ?_)))
 refine Qn (bg rfl ?_)
 refine Sk ?_
 refine fO (fun _ : Unit => [(0, str s), (2, .pointer (some ⟨b1, 0, none⟩))]) (fun _ w' => res = (match eG.findIdx? (fun x => decide (x = s)) with
 | some i => ⟨7 + i, 0, []⟩
 | none => match [1, 2, 3, 4, 5].find? (fun k : Int => decide (gM k = s)) with
  | some k => ⟨6, k, []⟩
  | none => if s = mM then ⟨3, 1, []⟩ else ⟨3, 0, []⟩) ∧ Sep w noB [blk b1 (aI ⟨0, 0, []⟩) 60] w') ?_ ?_
 ·refine Sr (Mv ?_)
  refine Vt ?_
  refine Vg ?_
  refine Mv ?_
  refine aG (t := 57) rfl (fun Sg => ?_) (fun Sg => ?_)
  ·refine On (Mv ?_)
   refine On (Vv (Gives.fF (i := 0) rfl rfl (by omega)) (On ?_))
   refine Ve ?_
   refine Pt ?_
   refine Qn (Cp rfl (fun Iw => ?_) (fun Iw => ?_))
   ·have hh := (jB (w := s) (c := 120) (by omega)).2 (UInt8.toNat_inj.1 (by show (s.getD 0 0).toNat = 120; omega))
    rw [if_pos hh] at ay
    refine Sr (Mv ?_)
    refine Vv (Gives.dW (i := 1) rfl rfl (by omega)) (aN H2 (xw (s.drop 1) (by rw [List.length_drop]; omega)) (h := fun wK HK ki => ?_))
    refine Mv ?_
    refine Vx ?_
    refine Vx ?_
    refine Am ?_
    refine Am ?_
    refine Nx (Mv ?_)
    refine Vv (Gives.build (out := aI ⟨5, 0, (gZ (s.drop 1)).getD []⟩) (Fills.one rfl rfl rfl (by simp) rfl (Fills.one rfl rfl rfl (by simp) rfl Fills.nil))) (aD HK (h := fun wL HL => ?_))
    refine Qn (aM (gH (aW (h := ?_))))
    exact ⟨_, gB HL, by rw [ay]; rfl, HL.kept⟩
   have hh : ¬ (s.head? = some 120) := fun h => by
    have := (jB (w := s) (c := 120) (by omega)).1 h
    rw [this] at Iw; exact Iw rfl
   rw [if_neg hh] at ay
   refine aY ?_
   exact aS () ⟨rfl, rfl, trivial⟩ ⟨ay, H2⟩
  have Cq : s = [] := List.eq_nil_of_length_eq_zero (by omega)
  rw [if_neg (by rw [Cq]; simp)] at ay
  refine Of (Of (Of (Pf ?_)))
  refine Qn (bg rfl ?_)
  refine aY ?_
  exact aS () ⟨rfl, rfl, trivial⟩ ⟨ay, H2⟩
 rintro _ τ wM ⟨ay, HM⟩
 simp only [cZ, like, bC, bZ]
 refine au (Sr (Am ?_))
 refine Qn (aF (bA (fun j : Nat => [(0, str s), (2, .pointer (some ⟨b1, 0, none⟩)), (12, I ((7 + j : Nat) : Int))]) (fun j w' => (j ≤ 12 ∧ ∀ (i : Nat) y, i < j → eG[i]? = some y → decide (y = s) = false) ∧ Sep w noB [blk b1 (aI ⟨0, 0, []⟩) 60] w') (fun j _ => 12 - j) 0 ⟨rfl, rfl, rfl, trivial⟩ ⟨⟨Nat.zero_le _, fun i y hi => by omega⟩, HM⟩ (fun j τ wN hI => ?_)))
 obtain ⟨⟨hj, vO⟩, HN⟩ := hI
 try simp only [cZ, like, bC]
 refine au (Sr (Mv ?_))
 refine Vv (Gives.leq rfl rfl) (Qn ?_)
 refine Cp rfl (fun Ix => ?_) (fun Ix => ?_)
 ·have Ph : j < 12 := by omega
  have UK := xC Ph
  have UL := Ci Ph
  refine Sk (au (aF (Sr (Mv ?_))))
  refine Vv (Gives.build (out := aI ⟨7 + (j : Nat), 0, []⟩) (Fills.one rfl rfl rfl (by simp) rfl Fills.nil)) (aN HN (mY ⟨7 + (j : Nat), 0, []⟩ UK.2 ⟨by dsimp only; omega, by dsimp only; omega⟩) (h := fun wO HO kj => ?_))
  rw [UK.1]
  refine Mv ?_
  refine Vv (Gives.iD rfl rfl) (Qn ?_)
  refine Cp rfl (fun Iy => ?_) (fun Iy => ?_)
  ·rw [qR vO UL (by simpa using Iy)] at ay
   refine Sr (Mv ?_)
   refine Vv (Gives.build (out := aI ⟨7 + (j : Nat), 0, []⟩) (Fills.one rfl rfl rfl (by simp) rfl Fills.nil)) (aD HO (h := fun wP HQ => ?_))
   refine Qn (Rb (aR (aH (aL (aW (h := ?_))))))
   exact ⟨_, gB HQ, by rw [ay]; rfl, HQ.kept⟩
  have Ej := decide_eq_false Iy
  refine aY (aA (aj (aB (Mv ?_))))
  refine Vv (Gives.bM (c := ((7 + (j + 1) : Nat) : Int)) rfl rfl (by omega) (by omega)) (Am ?_)
  refine aP ?_
  exact aC (j + 1) ⟨rfl, rfl, rfl, trivial⟩ ⟨⟨by omega, fun i y hi hy => by
  by_cases e : i = j
  ·subst e; rw [UL] at hy; injection hy with hy; rw [← hy]; exact Ej
  exact vO i y (by omega) hy⟩, HO⟩ (by omega)
 have Oi : j = 12 := by omega
 rw [oH (fun i y hy => vO i y (by have := iE hy; rw [Oi]; exact this) hy)] at ay
 dsimp only at ay
 refine bq (aT (aO (aV (aj (au (Sr (Am ?_)))))))
 refine Qn (aF (bA (fun k : Nat => [(0, str s), (2, .pointer (some ⟨b1, 0, none⟩)), (13, I k)]) (fun k w' => (1 ≤ k ∧ k ≤ 6 ∧ ∀ j : Int, 1 ≤ j → j < k → gM j ≠ s) ∧ Sep w noB [blk b1 (aI ⟨0, 0, []⟩) 60] w') (fun k _ => 6 - k) 1 ⟨rfl, rfl, rfl, trivial⟩ ⟨⟨by omega, by omega, fun j a b => by omega⟩, HN⟩ (fun k τ wQ hI => ?_)))
 obtain ⟨⟨WI, YW, Cb⟩, HR⟩ := hI
 try simp only [cZ, like, bC]
 refine au (Sr (Mv ?_))
 refine Vv (Gives.leq rfl rfl) (Qn ?_)
 refine Cp rfl (fun Iz => ?_) (fun Iz => ?_)
 ·have Yv := xB (k := (k : Int)) (by omega) (by omega)
  refine Sk (au (aF (Sr (Mv ?_))))
  refine Mv ?_
  refine dY (rZ _) (h := ?_)
  refine Vv (Gives.iW rfl rfl (by unfold qQ; (repeat' split) <;> simp)) ?_
  rw [Yv]
  refine Vv (Gives.iD rfl rfl) (Qn ?_)
  refine Cp rfl (fun IA => ?_) (fun IA => ?_)
  ·rw [tT (by omega) (by omega) Cb IA.symm] at ay
   refine Sr (Mv ?_)
   refine Vv (Gives.build (out := aI ⟨6, (k : Int), []⟩) (Fills.one rfl rfl rfl (by simp) rfl (Fills.one rfl rfl rfl (by simp) rfl Fills.nil))) (aD HR (h := fun wR HS => ?_))
   refine Qn (Rb (aR (aH (aL (aW (h := ?_))))))
   exact ⟨_, gB HS, by rw [ay]; rfl, HS.kept⟩
  have El := IA
  refine aY (aA (aj (aB (Mv ?_))))
  refine Vv (Gives.bM (c := ((k + 1 : Nat) : Int)) rfl rfl (by omega) (by omega)) (Am ?_)
  refine aP ?_
  exact aC (k + 1) ⟨rfl, rfl, rfl, trivial⟩ ⟨⟨by omega, by omega, fun j a b => by
  by_cases e : j = k
  ·subst e; exact fun e => El e.symm
  exact Cb j a (by omega)⟩, HR⟩ (by omega)
 rw [tQ (fun j a b => Cb j a (by omega))] at ay
 dsimp only at ay
 refine bq (aT (aO (aV (aj (au (Sr (Mv ?_)))))))
 refine Vv (Gives.iD rfl rfl) (Qn ?_)
 refine Cp rfl (fun IB => ?_) (fun IB => ?_)
 ·rw [if_pos (show s = mM from IB)] at ay
  refine Sr (Vv (Gives.build (out := aI ⟨3, 1, []⟩) (Fills.one rfl rfl rfl (by simp) rfl (Fills.one rfl rfl rfl (by simp) rfl Fills.nil))) (aD HR (h := fun wS HT => ?_)))
  refine Qn (Rs (aW (h := ?_)))
  exact ⟨_, gB HT, by rw [ay]; rfl, HT.kept⟩
 rw [if_neg (show ¬ s = mM from IB)] at ay
 refine Sk (Sr (Vv (Gives.build (out := aI ⟨3, 0, []⟩) (Fills.one rfl rfl rfl (by simp) rfl Fills.nil)) (aD HR (h := fun wT HU => ?_))))
 refine Qn (aM (aW (h := ?_)))
 exact ⟨_, gB HU, by rw [ay]; rfl, HU.kept⟩
end
end Go.Proofs.YtolaedhdjcnijaaGreatDoor
namespace Go.Proofs.YtolaedhdjcnijaaGreatDoor
open Go Go.Mw Go.Lib
set_option maxRecDepth 4000
theorem zG (p : List UInt8) (ws : List (List UInt8)) : readAll (p :: ws) = if jR (stepW p) p = true then (readAll ws).map (stepW p :: ·) else none := by
 rw [readAll, Qg]
 by_cases h : jR (dM p) p = true
 ·rw [if_pos h, if_pos h, good_step h]
 rw [if_neg h, if_neg h]
theorem Nw {α : Type} {s : List α} {a i : Nat} (h : a ≤ i) (hi : i ≤ s.length) : s.drop a = (s.take i).drop a ++ s.drop i := by
 have e : s.drop a = (s.take i ++ s.drop i).drop a := by rw [List.take_append_drop]
 rw [e, List.drop_append_of_le_length (by rw [List.length_take]; omega)]
theorem Ny {s : List UInt8} {i : Nat} {c : UInt8} (h : s[i]? = some c) : (s.take (i + 1)).count 32 = (s.take i).count 32 + (if c = 32 then 1 else 0) := by
 rw [List.take_add_one, h, List.count_append]
 show _ + List.count 32 [c] = _
 by_cases e : c = 32
 ·subst e; simp
 rw [if_neg e, List.count_cons_of_ne e]; simp
theorem zH (s : List UInt8) (c : UInt8) : s.count c ≤ s.length := List.count_le_length
def Before (s : List UInt8) (a i : Nat) (acc : List bL) : Prop :=
 acc.length ≤ a ∧ (i ≤ s.length → a ≤ i ∧ (∀ (j : Nat) c, a ≤ j → j < i → s[j]? = some c → c ≠ 32) ∧ readAll (bT 32 s) = (readAll (bT 32 (s.drop a))).map (acc ++ ·)) ∧ (s.length < i → readAll (bT 32 s) = some acc)
theorem K4 (s : List UInt8) : Before s 0 0 [] := ⟨Nat.le_refl _, fun _ => ⟨Nat.le_refl _, fun j c _ h => by omega, by rw [List.drop_zero]; simp⟩, fun h => by omega⟩
theorem K5 {s : List UInt8} {a i : Nat} {acc : List bL} {c : UInt8} (h : Before s a i acc) (hc : s[i]? = some c) (fM : c ≠ 32) : Before s a (i + 1) acc := by
 have bU := iE hc
 obtain ⟨h0, h1, _⟩ := h
 obtain ⟨ha, hb, hr⟩ := h1 (by omega)
 refine ⟨h0, fun hi => ⟨by omega, fun j d hj Ph hd => ?_, hr⟩, fun hi => by omega⟩
 by_cases e : j = i
 ·subst e; rw [hc] at hd; injection hd with hd; rw [← hd]; exact fM
 exact hb j d hj (by omega) hd
theorem TP {s : List UInt8} {a i : Nat} (h : ∀ (j : Nat) c, a ≤ j → j < i → s[j]? = some c → c ≠ 32) : ∀ c ∈ (s.take i).drop a, c ≠ 32 := fun c hc => by
 obtain ⟨j, hj⟩ := List.getElem?_of_mem hc
 rw [List.getElem?_drop, List.getElem?_take] at hj
 split at hj
 ·exact h (a + j) c (by omega) (by omega) hj
 cases hj
theorem zI {s : List UInt8} {a i : Nat} {acc : List bL} (h : Before s a i acc) (hi : i ≤ s.length) (rF : i < s.length → s[i]? = some 32) :
    bT 32 (s.drop a) = (s.take i).drop a :: (if i < s.length then bT 32 (s.drop (i + 1)) else []) := by
  obtain ⟨ha, hb, _⟩ := h.2.1 hi
  have Cb := TP hb
  rw [Nw ha hi]
  by_cases bU : i < s.length
  · rw [if_pos bU]
    have he := rF bU
    rw [List.getElem?_eq_getElem bU] at he
    injection he with he
    rw [List.drop_eq_getElem_cons bU, he, rV Cb]
  have e : s.drop i = [] := List.drop_of_length_le (by omega)
  rw [if_neg bU, e, List.append_nil, qp Cb]
theorem tV {s : List UInt8} {a i : Nat} {acc : List bL} (h : Before s a i acc) (hi : i ≤ s.length) (rF : i < s.length → s[i]? = some 32) (hg : jR (stepW ((s.take i).drop a)) ((s.take i).drop a) ≠ true) : readAll (bT 32 s) = none := by
 obtain ⟨_, _, hr⟩ := h.2.1 hi
 rw [hr, zI h hi rF, zG, if_neg hg]; rfl
theorem Bv {s : List UInt8} {a i : Nat} {acc : List bL} (h : Before s a i acc) (hi : i ≤ s.length) (rF : i < s.length → s[i]? = some 32) (hg : jR (stepW ((s.take i).drop a)) ((s.take i).drop a) = true) :
    Before s (i + 1) (i + 1) (acc ++ [stepW ((s.take i).drop a)]) := by
  obtain ⟨ha, _, hr⟩ := h.2.1 hi
  have vP := zI h hi rF
  rw [vP, zG, if_pos hg] at hr
  refine ⟨by have := h.1; rw [List.length_append, List.length_singleton]; omega, fun h1 => ⟨Nat.le_refl _, fun j c h2 h3 => by omega, ?_⟩, fun h1 => ?_⟩
  · rw [hr, if_pos (by omega), Option.map_map]
    congr 1
    funext l
    simp
  rw [hr, if_neg (by omega)]
  rfl
attribute [local irreducible] dI dO stepW bT readAll Before
section
variable {w : World}
theorem DK (s : List UInt8) (hl : s.length ≤ 1000000) : bF Tryz.prog 95 [str s] w fun v w' => ∃ x, v = .tuple #[x, I (bN s).2] ∧ True ∧ Turn noB (cO 60 3 aI x (bN s).1) w w' := by
  have H := Sep.bB w
  obtain ⟨res, ay⟩ : ∃ res, res = bN s := ⟨_, rfl⟩
  rw [← ay]
  unfold bN at ay
  refine dP Tryz.func95 rfl rfl rfl rfl ?_
  refine Sr (Am ?_)
  refine Am ?_
  refine Qn (au (Sr (Mv ?_)))
  refine Vt ?_
  refine Vg ?_
  refine Qn (Cp rfl (fun Cr => ?_) (fun Cr => ?_))
  · exact absurd Cr (by omega)
  refine Sk (Sr (Am ?_))
  refine Qn (au (Sr (Am ?_)))
  refine Qn (aF (bA (fun i : Nat => [(0, str s), (4, I (((s.take i).count 32 : Nat) : Int)), (5, I i)]) (fun i w' => i ≤ s.length ∧ Sep w noB [] w') (fun i _ => s.length - i) 0 ⟨rfl, rfl, rfl, trivial⟩ ⟨Nat.zero_le _, H⟩ (fun i τ wa hI => ?_)))
  obtain ⟨hi, Ha⟩ := hI
  have EO := zH (s.take i) 32
  rw [List.length_take, Nat.min_eq_left hi] at EO
  try simp only [cZ, like, bC, bZ]
  refine au (Sr (Mv ?_))
  refine Mv ?_
  refine Vt ?_
  refine Vl ?_
  refine Qn (Cp rfl (fun Ia => ?_) (fun Ia => ?_))
  · have bU : i < s.length := by omega
    obtain ⟨c, hc⟩ := get_some bU
    have LZ : s.getD i 0 = c := l6 hc
    have zT := Ny hc
    refine Sk (au (aF (Sr (Mv ?_))))
    refine Mv ?_
    refine Vv (Gives.fF rfl rfl (by omega)) ?_
    rw [LZ]
    refine Ve ?_
    refine Qn (Cp rfl (fun Ib => ?_) (fun Ib => ?_))
    · have Ic : c = 32 := by rw [← UInt8.toNat_inj]; show c.toNat = 32; omega
      rw [if_pos Ic] at zT
      refine aB (Mv ?_)
      refine Vv (Gives.bM rfl rfl rfl (by omega)) (Am ?_)
      refine aP (aA (aj (aB (Mv ?_))))
      refine Vv (Gives.bM rfl rfl rfl (by omega)) (Am ?_)
      refine aP ?_
      exact aC (i + 1) ⟨rfl, by rw [zT]; rfl, rfl, trivial⟩ ⟨by omega, Ha⟩ (by omega)
    have Ic : ¬ c = 32 := fun e => by subst e; exact Ib rfl
    rw [if_neg Ic] at zT
    refine aY (aA (aj (aB (Mv ?_))))
    refine Vv (Gives.bM rfl rfl rfl (by omega)) (Am ?_)
    refine aP ?_
    exact aC (i + 1) ⟨rfl, by rw [zT]; rfl, rfl, trivial⟩ ⟨by omega, Ha⟩ (by omega)
  have jW : i = s.length := by omega
  rw [jW, List.take_length] at EO
  rw [jW, List.take_length]
  refine bq (aT (aO (aV (aj (au (Sr (Mv ?_)))))))
  refine Vv (Gives.geq rfl rfl) (Qn ?_)
  refine Cp rfl (fun Id => ?_) (fun Id => ?_)
  · rw [if_pos (.inr (by omega))] at ay
    refine Sr (Am ?_)
    refine Am ?_
    refine Qn (Rs (ak (hR := ?_)))
    exact ⟨.slice none 0 0, by rw [ay]; rfl, trivial, by rw [ay]; exact (Sep.iX Ha 60 3 aI).turn⟩
  rw [if_neg (fun h => by omega)] at ay
  refine Sk (Sr (Am ?_))
  refine Nx (Am ?_)
  refine Qn (au (Sr (Am ?_)))
  refine Qn (aF ?_)
  have Hb := Sep.iX Ha 60 3 aI
  refine bA (fun x : Nat × Nat × List bL × Value => [(0, str s), (6, x.2.2.2), (7, I x.1), (8, I x.2.1)]) (fun x w' => (x.2.1 ≤ s.length + 1 ∧ x.1 ≤ s.length + 1 ∧ Before s x.1 x.2.1 x.2.2.1 ∧ (s = [] → x.2.2.1 = [])) ∧ Sep w noB [cO 60 3 aI x.2.2.2 x.2.2.1] w') (fun x _ => s.length + 1 - x.2.1) (0, 0, [], _) ⟨rfl, rfl, rfl, rfl, trivial⟩ ⟨⟨by dsimp only; omega, by dsimp only; omega, K4 s, fun _ => rfl⟩, Hb⟩ (fun x τ wb hI => ?_)
  obtain ⟨a, i, acc, v0⟩ := x
  obtain ⟨⟨hi, ha, hB, hE⟩, Hb⟩ := hI
  dsimp only at hi ha hB hE Hb
  have JJ : acc.length ≤ a := by unfold Before at hB; exact hB.1
  obtain ⟨B, cb, rfl, EP, hRd⟩ := Sep.fJ Hb At0
  try simp only [cZ, like, bC]
  refine au (Sr (Mv ?_))
  refine Mv ?_
  refine Vt ?_
  refine Vv (Gives.leq rfl rfl) (Mv ?_)
  refine aG (t := 31) rfl (fun Sa => ?_) (fun Sa => ?_)
  · have Me : i ≤ s.length := by omega
    refine On (Mv ?_)
    refine On (Vv (Gives.EA rfl rfl) (Pt ?_))
    refine Qn (Cp rfl (fun Ie => ?_) (fun Ie => ?_))
    · rw [if_neg Ie] at ay
      refine Sk (au (aF (au (Sr (Mv ?_)))))
      refine Mv ?_
      refine Vt ?_
      refine Vl ?_
      refine Mv ?_
      refine aG (t := 41) rfl (fun Sb => ?_) (fun Sb => ?_)
      · obtain ⟨c, hc⟩ := get_some (l := s) (i := i) (by omega)
        have LZ : s.getD i 0 = c := l6 hc
        refine On (Mv ?_)
        refine On (Mv ?_)
        refine On (Vv (Gives.fF rfl rfl (by omega)) ?_)
        rw [LZ]
        refine On (Vn ?_)
        refine Pt ?_
        refine Qn (Cp rfl (fun If => ?_) (fun If => ?_))
        · have hsk := K5 hB hc (fun e => If (by rw [e]; rfl))
          refine bq (aT (aV (aj (aB (Mv ?_)))))
          refine Vv (Gives.bM rfl rfl rfl (by omega)) (Am ?_)
          refine aP ?_
          exact aC (a, i + 1, acc, .slice B acc.length cb) ⟨rfl, rfl, rfl, rfl, trivial⟩ ⟨⟨by dsimp only; omega, by dsimp only; omega, hsk, hE⟩, Hb⟩ (by dsimp only; omega)
        have Ic : c = 32 := by rw [← UInt8.toNat_inj]; show c.toNat = 32; omega
        have rF : i < s.length → s[i]? = some 32 := fun _ => by rw [hc, Ic]
        refine Sk (Sr ?_)
        have hai : a ≤ i := by unfold Before at hB; exact (hB.2.1 Me).1
        obtain ⟨q, hq⟩ : ∃ q, q = (s.take i).drop a := ⟨_, rfl⟩
        have UE : q.length ≤ 1000000 := by rw [hq, List.length_drop, List.length_take]; omega
        have JU : fits (stepW q).n := xk
        obtain ⟨x, hx⟩ : ∃ x, x = stepW q := ⟨_, rfl⟩
        rw [← hx] at JU
        refine Mv ?_
        refine Mv ?_
        refine Mv ?_
        refine Vv (Gives.fE rfl rfl rfl (by omega) (by omega)) ?_
        rw [← hq]
        refine aN Hb (Gd q UE) (h := fun wc Hc ka => ?_)
        rw [← hx]
        refine bD Hc (h := fun b87 wd Hd kb => ?_)
        refine aD Hd (h := fun we He => ?_)
        refine Qn (au (au (bG rfl He (h := fun Sc wf Hf => ?_))))
        refine dD Sc 0 Hf (h := ?_)
        refine fQ Sc 1 [] Hf (xA x) (h := fun wg Hg kc => ⟨aK, ?_⟩)
        refine Gp Sc 2 rfl rfl (fun _ => (Gives.not rfl)) (Gm Sc 3 ?_)
        refine jP (t := 55) rfl (fun Sd => ?_) (fun Sd => ?_)
        · have mF := tV hB Me rF (by
            rw [← hq, ← hx]
            intro h
            have := (jS.1 h).1
            rw [this] at Sd; cases Sd)
          rw [mF] at ay
          dsimp only at ay
          refine dL Sc 4 rfl rfl (by kernel_rfl) ?_
          refine dL Sc 6 rfl rfl (by kernel_rfl) ?_
          refine dL Sc 7 rfl rfl (by kernel_rfl) ?_
          refine dL Sc 8 rfl rfl (by kernel_rfl) ?_
          refine dL Sc 9 rfl rfl (by kernel_rfl) ?_
          refine dL Sc 5 rfl rfl (by kernel_rfl) ?_
          refine dL Sc 10 rfl rfl (by kernel_rfl) ?_
          refine Gp Sc 11 rfl rfl (fun _ => Gives.nC rfl rfl) (bR Sc (by kernel_rfl) ?_)
          refine aj (aQ rfl ?_)
          refine Sr (Am ?_)
          refine Am ?_
          refine Qn (Rs (aH (aL (aR (aH (aL (ak (hR := ?_))))))))
          exact ⟨.slice none 0 0, by rw [ay]; rfl, trivial, by rw [ay]; exact ((Sep.iX Hg 60 3 aI).firsts (l := [_])).turn⟩
        have yU : dI x = true := by simpa using Sd
        refine dD Sc 4 Hg (h := ?_)
        refine Gm Sc 6 ?_
        refine Gm Sc 7 ?_
        refine Gm Sc 8 ?_
        refine Gp Sc 9 rfl rfl (fun _ => (Gives.fE rfl rfl rfl (by omega) (by omega))) ?_
        rw [← hq]
        refine fQ Sc 5 [(9, true), (8, true), (7, true), (6, true)] Hg (mY x yU JU) (h := fun wh Hh kd => ⟨av (av (av (av (aK)))), ?_⟩)
        refine Gp Sc 10 rfl rfl (fun _ => (Gives.EA rfl rfl)) (Gp Sc 11 rfl rfl (fun _ => Gives.nP rfl rfl) ?_)
        refine bR Sc (by kernel_rfl) ?_
        refine aj (Cp rfl (fun Ig => ?_) (fun Ig => ?_))
        · have mF := tV hB Me rF (by
            rw [← hq, ← hx]
            intro h
            exact Ig (jS.1 h).2)
          rw [mF] at ay
          dsimp only at ay
          refine Sr (Am ?_)
          refine Am ?_
          refine Qn (Rs (aH (aL (aR (aH (aL (ak (hR := ?_))))))))
          exact ⟨.slice none 0 0, by rw [ay]; rfl, trivial, by rw [ay]; exact ((Sep.iX Hh 60 3 aI).firsts (l := [_])).turn⟩
        have mO := Bv hB Me rF (by
          rw [← hq, ← hx]
          exact jS.2 ⟨yU, Classical.not_not.1 Ig⟩)
        rw [← hq, ← hx] at mO
        refine Sk (Sr (Mv ?_))
        refine aZ Hh (h := ?_)
        refine aX Hh (xs := [.tmp 65]) (out := [x].flatMap aI) (aU.many rfl rfl aU.nil) rfl rfl rfl (fun b119 wi Hi ke => ?_)
        refine gK Hi (news := [x]) At1 (by unfold maxLen; simp; omega) (by simp; omega) (cells_one (fun _ => rfl) [x]) (h := ?_)
        intro v2 wj Hj
        refine Am ?_
        refine Qn (aB (Mv ?_))
        refine Vv (Gives.bM rfl rfl rfl (by omega)) (Am ?_)
        refine aP (aA (aj (aB (Mv ?_))))
        refine Vv (Gives.bM rfl rfl rfl (by omega)) (Am ?_)
        refine aP ?_
        exact aC (i + 1, i + 1, acc ++ [x], v2) ⟨rfl, rfl, rfl, rfl, trivial⟩ ⟨⟨by dsimp only; omega, by dsimp only; omega, mO, fun e => absurd e (by assumption)⟩, Hj.fI⟩ (by dsimp only; omega)
      have rF : i < s.length → s[i]? = some 32 := fun h => by omega
      refine Of (Of (Of (Of (Pf ?_))))
      refine Qn (bg rfl ?_)
      refine Sk (Sr ?_)
      have hai : a ≤ i := by unfold Before at hB; exact (hB.2.1 Me).1
      obtain ⟨q, hq⟩ : ∃ q, q = (s.take i).drop a := ⟨_, rfl⟩
      have UE : q.length ≤ 1000000 := by rw [hq, List.length_drop, List.length_take]; omega
      have JU : fits (stepW q).n := xk
      obtain ⟨x, hx⟩ : ∃ x, x = stepW q := ⟨_, rfl⟩
      rw [← hx] at JU
      refine Mv ?_
      refine Mv ?_
      refine Mv ?_
      refine Vv (Gives.fE rfl rfl rfl (by omega) (by omega)) ?_
      rw [← hq]
      refine aN Hb (Gd q UE) (h := fun wk Hk kf => ?_)
      rw [← hx]
      refine bD Hk (h := fun b139 wl Hl kg => ?_)
      refine aD Hl (h := fun wm Hm => ?_)
      refine Qn (au (au (bG rfl Hm (h := fun Se wn Hn => ?_))))
      refine dD Se 0 Hn (h := ?_)
      refine fQ Se 1 [] Hn (xA x) (h := fun wo Ho kh => ⟨aK, ?_⟩)
      refine Gp Se 2 rfl rfl (fun _ => (Gives.not rfl)) (Gm Se 3 ?_)
      refine jP (t := 55) rfl (fun Sf => ?_) (fun Sf => ?_)
      · have mF := tV hB Me rF (by
          rw [← hq, ← hx]
          intro h
          have := (jS.1 h).1
          rw [this] at Sf; cases Sf)
        rw [mF] at ay
        dsimp only at ay
        refine dL Se 4 rfl rfl (by kernel_rfl) ?_
        refine dL Se 6 rfl rfl (by kernel_rfl) ?_
        refine dL Se 7 rfl rfl (by kernel_rfl) ?_
        refine dL Se 8 rfl rfl (by kernel_rfl) ?_
        refine dL Se 9 rfl rfl (by kernel_rfl) ?_
        refine dL Se 5 rfl rfl (by kernel_rfl) ?_
        refine dL Se 10 rfl rfl (by kernel_rfl) ?_
        refine Gp Se 11 rfl rfl (fun _ => Gives.nC rfl rfl) (bR Se (by kernel_rfl) ?_)
        refine aj (aQ rfl ?_)
        refine Sr (Am ?_)
        refine Am ?_
        refine Qn (Rs (aH (aL (aR (aH (aL (ak (hR := ?_))))))))
        exact ⟨.slice none 0 0, by rw [ay]; rfl, trivial, by rw [ay]; exact ((Sep.iX Ho 60 3 aI).firsts (l := [_])).turn⟩
      have yU : dI x = true := by simpa using Sf
      refine dD Se 4 Ho (h := ?_)
      refine Gm Se 6 ?_
      refine Gm Se 7 ?_
      refine Gm Se 8 ?_
      refine Gp Se 9 rfl rfl (fun _ => (Gives.fE rfl rfl rfl (by omega) (by omega))) ?_
      rw [← hq]
      refine fQ Se 5 [(9, true), (8, true), (7, true), (6, true)] Ho (mY x yU JU) (h := fun wp Hp ki => ⟨av (av (av (av (aK)))), ?_⟩)
      refine Gp Se 10 rfl rfl (fun _ => (Gives.EA rfl rfl)) (Gp Se 11 rfl rfl (fun _ => Gives.nP rfl rfl) ?_)
      refine bR Se (by kernel_rfl) ?_
      refine aj (Cp rfl (fun Ih => ?_) (fun Ih => ?_))
      · have mF := tV hB Me rF (by
          rw [← hq, ← hx]
          intro h
          exact Ih (jS.1 h).2)
        rw [mF] at ay
        dsimp only at ay
        refine Sr (Am ?_)
        refine Am ?_
        refine Qn (Rs (aH (aL (aR (aH (aL (ak (hR := ?_))))))))
        exact ⟨.slice none 0 0, by rw [ay]; rfl, trivial, by rw [ay]; exact ((Sep.iX Hp 60 3 aI).firsts (l := [_])).turn⟩
      have mO := Bv hB Me rF (by
        rw [← hq, ← hx]
        exact jS.2 ⟨yU, Classical.not_not.1 Ih⟩)
      rw [← hq, ← hx] at mO
      refine Sk (Sr (Mv ?_))
      refine aZ Hp (h := ?_)
      refine aX Hp (xs := [.tmp 65]) (out := [x].flatMap aI) (aU.many rfl rfl aU.nil) rfl rfl rfl (fun b171 wq Hq kj => ?_)
      refine gK Hq (news := [x]) At1 (by unfold maxLen; simp; omega) (by simp; omega) (cells_one (fun _ => rfl) [x]) (h := ?_)
      intro v2 wr Hr
      refine Am ?_
      refine Qn (aB (Mv ?_))
      refine Vv (Gives.bM rfl rfl rfl (by omega)) (Am ?_)
      refine aP (aA (aj (aB (Mv ?_))))
      refine Vv (Gives.bM rfl rfl rfl (by omega)) (Am ?_)
      refine aP ?_
      exact aC (i + 1, i + 1, acc ++ [x], v2) ⟨rfl, rfl, rfl, rfl, trivial⟩ ⟨⟨by dsimp only; omega, by dsimp only; omega, mO, fun e => absurd e (by assumption)⟩, Hr.fI⟩ (by dsimp only; omega)
    have Cq : s = [] := by simpa using Ie
    have bY : res = (acc, 0) := by rw [ay, if_pos Cq, hE Cq]
    refine bq (aT (aO (aV (aj (Sr (Mv ?_))))))
    refine Am ?_
    refine Am ?_
    refine Qn (aM (ak (hR := ?_)))
    exact ⟨_, by rw [bY]; rfl, trivial, by rw [bY]; exact Hb.turn⟩
  have hr : readAll (bT 32 s) = some acc := by unfold Before at hB; exact hB.2.2 (by omega)
  have bY : res = (acc, 0) := by
    rw [ay, hr]
    by_cases e : s = []
    · rw [if_pos e, hE e]
    rw [if_neg e]
  refine Of (Of (Pf ?_))
  refine Qn (bg rfl ?_)
  refine bq (aT (aO (aV (aj (Sr (Mv ?_))))))
  refine Am ?_
  refine Am ?_
  refine Qn (aM (ak (hR := ?_)))
  exact ⟨_, by rw [bY]; rfl, trivial, by rw [bY]; exact Hb.turn⟩
end
def oQ {α : Type} (w : World) (fv : Value) (enc : α → Value) (p : α → Bool) : Prop :=
 ∃ f fs cs, fv = .func (.func f) (List.toArray fs) (List.toArray cs) ∧ Enters Tryz.prog f ∧ ∀ x w', Kept noB w w' → bF Tryz.prog f (fs ++ [enc x] ++ cs) w' fun v w'' => v = .bool (p x) ∧ Kept noB w' w''
theorem oQ.keep {α : Type} {w w' : World} {fv : Value} {enc : α → Value} {p : α → Bool} (h : oQ w fv enc p) (hk : Kept noB w w') : oQ w' fv enc p := by
 obtain ⟨f, fs, cs, h1, h2, h3⟩ := h
 exact ⟨f, fs, cs, h1, h2, fun x w'' hk' => h3 x w'' (hk.Mi hk')⟩
def Jo (o : Option Nat) : Int := match o with | none => -1 | some i => i
theorem OW {α : Type} {l : List α} {p : α → Bool} : decide (Jo (l.findIdx? p) ≥ 0) = l.any p := by
 cases h : l.findIdx? p with
 | none =>
  rw [List.findIdx?_eq_none_iff] at h
  show decide ((-1 : Int) ≥ 0) = _
  rw [eq_comm, show decide ((-1 : Int) ≥ 0) = false from rfl, List.any_eq_false]
  intro x hx
  rw [h x hx]; simp
 | some i =>
  obtain ⟨h1, h2, _⟩ := List.findIdx?_eq_some_iff_getElem.1 h
  show decide ((i : Int) ≥ 0) = _
  rw [eq_comm, decide_eq_true (show (i : Int) ≥ 0 by omega), List.any_eq_true]
  exact ⟨_, List.getElem_mem h1, h2⟩
section
variable {w : World}
theorem K6 {l : List gG} {v fv : Value} {p : gG → Bool} (hl : dn w v bE 7 l) (hp : oQ w fv (fun x => agg (bE x)) p) : bF Tryz.prog 152 [v, fv] w fun v w' => v = I (Jo (l.findIdx? p)) ∧ Kept noB w w' := by
 obtain ⟨A, m, rfl, ⟨hm, xK⟩, hA⟩ := hl
 obtain ⟨f, fs, cs, rfl, Em, Mf⟩ := hp
 have H := Sep.bB w
 refine eU Tryz.func152 rfl rfl rfl rfl ?_
 refine Sr (Am ?_)
 refine Qn (au (Sr (Mv ?_)))
 refine Vs ?_
 refine Mv ?_
 refine Qn (aF (bA (fun i : Nat => [(0, .slice A l.length m), (1, .func (.func f) fs.toArray cs.toArray), (7, I l.length), (8, I i)]) (fun i w' => (i ≤ l.length ∧ ∀ (j : Nat) y, j < i → l[j]? = some y → p y = false) ∧ Sep w noB [] w') (fun i _ => l.length - i) 0 ⟨rfl, rfl, rfl, rfl, trivial⟩ ⟨⟨Nat.zero_le _, fun j y hj => by omega⟩, H⟩ (fun i τ w6 hI => ?_)))
 obtain ⟨⟨hi, vO⟩, H6⟩ := hI
 try simp only [cZ, like, bC, bZ]
 refine Sr (Vl ?_)
 refine Qn (au (Cp rfl (fun xL => ?_) (fun xL => ?_)))
 ·have bU : i < l.length := by omega
  obtain ⟨x, hx⟩ := get_some bU
  refine Sk (au (aF (Sr (Mv ?_))))
  refine Am ?_
  refine Nx (Mv ?_)
  refine Mv ?_
  refine Mv ?_
  refine Vv (Gives.eT rfl rfl (by assumption) (by omega)) (Vv (Gives.iM rfl H6 (by assumption) (by assumption)) ?_)
  refine jr rfl (Mf x _ H6.kept) rfl rfl (fun v' wa hv => ?_)
  obtain ⟨rfl, dK⟩ := hv
  have Ha := H6.keep dK
  refine Qn (Cd rfl (fun Ia => ?_) (fun Ia => ?_))
  ·have bY : l.findIdx? p = some i := qR vO hx Ia
   refine Sr (Mv ?_)
   refine Am ?_
   refine Qn (Rb (aR (aH (aL (ak (hR := ?_))))))
   exact ⟨by rw [bY]; rfl, Ha.kept⟩
  have Yw := Ia
  refine aY (aA (aj (aB (Vv (Gives.bM rfl rfl rfl (by omega)) ?_))))
  refine Mv ?_
  refine aP ?_
  exact aC (i + 1) ⟨rfl, rfl, rfl, rfl, trivial⟩ ⟨⟨by omega, fun j y hj hy => by
  by_cases e : j = i
  ·subst e; rw [hx] at hy; injection hy with hy; rw [← hy]; exact Bool.not_eq_true _ ▸ Yw
  exact vO j y (by omega) hy⟩, Ha⟩ (by omega)
 have jW : i = l.length := by omega
 have bY : l.findIdx? p = none := oH fun j y hy => vO j y (by have := iE hy; omega) hy
 refine bq (aT (aO (aV (aj (Sr (Am ?_))))))
 refine Qn (aM (ak (hR := ?_)))
 exact ⟨by rw [bY]; rfl, H6.kept⟩
theorem QA {l : List dH} {v fv : Value} {p : dH → Bool} (hl : dn w v aJ 2 l) (hp : oQ w fv (fun x => agg (aJ x)) p) : bF Tryz.prog 154 [v, fv] w fun v w' => v = I (Jo (l.findIdx? p)) ∧ Kept noB w w' := by
 obtain ⟨A, m, rfl, ⟨hm, xK⟩, hA⟩ := hl
 obtain ⟨f, fs, cs, rfl, Em, Mf⟩ := hp
 have H := Sep.bB w
 refine eU Tryz.func154 rfl rfl rfl rfl ?_
 refine Sr (Am ?_)
 refine Qn (au (Sr (Mv ?_)))
 refine Vs ?_
 refine Mv ?_
 refine Qn (aF (bA (fun i : Nat => [(0, .slice A l.length m), (1, .func (.func f) fs.toArray cs.toArray), (7, I l.length), (8, I i)]) (fun i w' => (i ≤ l.length ∧ ∀ (j : Nat) y, j < i → l[j]? = some y → p y = false) ∧ Sep w noB [] w') (fun i _ => l.length - i) 0 ⟨rfl, rfl, rfl, rfl, trivial⟩ ⟨⟨Nat.zero_le _, fun j y hj => by omega⟩, H⟩ (fun i τ w6 hI => ?_)))
 obtain ⟨⟨hi, vO⟩, H6⟩ := hI
 try simp only [cZ, like, bC, bZ]
 refine Sr (Vl ?_)
 refine Qn (au (Cp rfl (fun xL => ?_) (fun xL => ?_)))
 ·have bU : i < l.length := by omega
  obtain ⟨x, hx⟩ := get_some bU
  refine Sk (au (aF (Sr (Mv ?_))))
  refine Am ?_
  refine Nx (Mv ?_)
  refine Mv ?_
  refine Mv ?_
  refine Vv (Gives.eT rfl rfl (by assumption) (by omega)) (Vv (Gives.iM rfl H6 (by assumption) (by assumption)) ?_)
  refine jr rfl (Mf x _ H6.kept) rfl rfl (fun v' wa hv => ?_)
  obtain ⟨rfl, dK⟩ := hv
  have Ha := H6.keep dK
  refine Qn (Cd rfl (fun Ia => ?_) (fun Ia => ?_))
  ·have bY : l.findIdx? p = some i := qR vO hx Ia
   refine Sr (Mv ?_)
   refine Am ?_
   refine Qn (Rb (aR (aH (aL (ak (hR := ?_))))))
   exact ⟨by rw [bY]; rfl, Ha.kept⟩
  have Yw := Ia
  refine aY (aA (aj (aB (Vv (Gives.bM rfl rfl rfl (by omega)) ?_))))
  refine Mv ?_
  refine aP ?_
  exact aC (i + 1) ⟨rfl, rfl, rfl, rfl, trivial⟩ ⟨⟨by omega, fun j y hj hy => by
  by_cases e : j = i
  ·subst e; rw [hx] at hy; injection hy with hy; rw [← hy]; exact Bool.not_eq_true _ ▸ Yw
  exact vO j y (by omega) hy⟩, Ha⟩ (by omega)
 have jW : i = l.length := by omega
 have bY : l.findIdx? p = none := oH fun j y hy => vO j y (by have := iE hy; omega) hy
 refine bq (aT (aO (aV (aj (Sr (Am ?_))))))
 refine Qn (aM (ak (hR := ?_)))
 exact ⟨by rw [bY]; rfl, H6.kept⟩
end
section
variable {w : World}
theorem vG {l : List dH} {v fv : Value} {p : dH → Bool} (hl : dn w v aJ 2 l) (hp : oQ w fv (fun x => agg (aJ x)) p) : bF Tryz.prog 106 [v, fv] w fun v w' => v = .bool (l.any p) ∧ Kept noB w w' := by
 have H := Sep.bB w
 refine eU Tryz.func106 rfl rfl rfl rfl ?_
 refine Sr (Am ?_)
 refine Nx (Mv ?_)
 refine Mv ?_
 refine aN H (QA (hl.keep H.kept) (hp.keep H.kept)) (h := fun w5 H5 k4 => ?_)
 refine Vv (Gives.geq rfl rfl) (Am ?_)
 refine Qn (aM (ak (hR := ?_)))
 exact ⟨by rw [← OW]; rfl, H5.kept⟩
theorem TQ {l : List (Int)} {v : Value} (x : Int) (hl : dn w v intCells 1 l) : bF Tryz.prog 155 [v, I x] w fun v w' => v = I (Jo (l.findIdx? fun y => decide (x = y))) ∧ Kept noB w w' := by
 obtain ⟨A, m, rfl, ⟨hm, xK⟩, hA⟩ := hl
 have H := Sep.bB w
 obtain ⟨p, hp⟩ : ∃ p : Int → Bool, p = fun y => decide (x = y) := ⟨_, rfl⟩
 rw [← hp]
 refine eU Tryz.func155 rfl rfl rfl rfl ?_
 refine Sr (Am ?_)
 refine Qn (au (Sr (Mv ?_)))
 refine Vs ?_
 refine Mv ?_
 refine Qn (aF (bA (fun i : Nat => [(0, .slice A l.length m), (1, I x), (7, I l.length), (8, I i)]) (fun i w' => (i ≤ l.length ∧ ∀ (j : Nat) y, j < i → l[j]? = some y → p y = false) ∧ Sep w noB [] w') (fun i _ => l.length - i) 0 ⟨rfl, rfl, rfl, rfl, trivial⟩ ⟨⟨Nat.zero_le _, fun j y hj => by omega⟩, H⟩ (fun i τ w6 hI => ?_)))
 obtain ⟨⟨hi, vO⟩, H6⟩ := hI
 try simp only [cZ, like, bC, bZ]
 refine Sr (Vl ?_)
 refine Qn (au (Cp rfl (fun xL => ?_) (fun xL => ?_)))
 ·have bU : i < l.length := by omega
  obtain ⟨y, hy⟩ := get_some bU
  refine Sk (au (aF (Sr (Mv ?_))))
  refine Am ?_
  refine Nx (Mv ?_)
  refine Mv ?_
  refine Mv ?_
  refine Vv (Gives.eT rfl rfl (by assumption) (by omega)) (Vv (Gives.Jl rfl H6 (by assumption) (by assumption) rfl) ?_)
  refine Ve ?_
  refine Qn (Cp rfl (fun Ia => ?_) (fun Ia => ?_))
  ·have bY : l.findIdx? p = some i := qR vO hy (by rw [hp]; simpa using Ia)
   refine Sr (Mv ?_)
   refine Am ?_
   refine Qn (Rb (aR (aH (aL (ak (hR := ?_))))))
   exact ⟨by rw [bY]; rfl, H6.kept⟩
  have Yw : p y = false := by rw [hp]; simpa using Ia
  refine aY (aA (aj (aB (Vv (Gives.bM rfl rfl rfl (by omega)) ?_))))
  refine Mv ?_
  refine aP ?_
  exact aC (i + 1) ⟨rfl, rfl, rfl, rfl, trivial⟩ ⟨⟨by omega, fun j z hj hz => by
  by_cases e : j = i
  ·subst e; rw [hy] at hz; injection hz with hz; rw [← hz]; exact Yw
  exact vO j z (by omega) hz⟩, H6⟩ (by omega)
 have jW : i = l.length := by omega
 have bY : l.findIdx? p = none := oH fun j y hy => vO j y (by have := iE hy; omega) hy
 refine bq (aT (aO (aV (aj (Sr (Am ?_))))))
 refine Qn (aM (ak (hR := ?_)))
 exact ⟨by rw [bY]; rfl, H6.kept⟩
theorem QB {l : List (List UInt8)} {v : Value} (x : List UInt8) (hl : dn w v bX 1 l) : bF Tryz.prog 144 [v, str x] w fun v w' => v = I (Jo (l.findIdx? fun y => decide (x = y))) ∧ Kept noB w w' := by
 obtain ⟨A, m, rfl, ⟨hm, xK⟩, hA⟩ := hl
 have H := Sep.bB w
 obtain ⟨p, hp⟩ : ∃ p : List UInt8 → Bool, p = fun y => decide (x = y) := ⟨_, rfl⟩
 rw [← hp]
 refine eU Tryz.func144 rfl rfl rfl rfl ?_
 refine Sr (Am ?_)
 refine Qn (au (Sr (Mv ?_)))
 refine Vs ?_
 refine Mv ?_
 refine Qn (aF (bA (fun i : Nat => [(0, .slice A l.length m), (1, str x), (7, I l.length), (8, I i)]) (fun i w' => (i ≤ l.length ∧ ∀ (j : Nat) y, j < i → l[j]? = some y → p y = false) ∧ Sep w noB [] w') (fun i _ => l.length - i) 0 ⟨rfl, rfl, rfl, rfl, trivial⟩ ⟨⟨Nat.zero_le _, fun j y hj => by omega⟩, H⟩ (fun i τ w6 hI => ?_)))
 obtain ⟨⟨hi, vO⟩, H6⟩ := hI
 try simp only [cZ, like, bC, bZ]
 refine Sr (Vl ?_)
 refine Qn (au (Cp rfl (fun xL => ?_) (fun xL => ?_)))
 ·have bU : i < l.length := by omega
  obtain ⟨y, hy⟩ := get_some bU
  refine Sk (au (aF (Sr (Mv ?_))))
  refine Am ?_
  refine Nx (Mv ?_)
  refine Mv ?_
  refine Mv ?_
  refine Vv (Gives.eT rfl rfl (by assumption) (by omega)) (Vv (Gives.Jl rfl H6 (by assumption) (by assumption) rfl) ?_)
  refine Vv (Gives.iD rfl rfl) (Qn ?_)
  refine Cp rfl (fun Ia => ?_) (fun Ia => ?_)
  ·have bY : l.findIdx? p = some i := qR vO hy (by rw [hp]; simpa using Ia)
   refine Sr (Mv ?_)
   refine Am ?_
   refine Qn (Rb (aR (aH (aL (ak (hR := ?_))))))
   exact ⟨by rw [bY]; rfl, H6.kept⟩
  have Yw : p y = false := by rw [hp]; simpa using Ia
  refine aY (aA (aj (aB (Vv (Gives.bM rfl rfl rfl (by omega)) ?_))))
  refine Mv ?_
  refine aP ?_
  exact aC (i + 1) ⟨rfl, rfl, rfl, rfl, trivial⟩ ⟨⟨by omega, fun j z hj hz => by
  by_cases e : j = i
  ·subst e; rw [hy] at hz; injection hz with hz; rw [← hz]; exact Yw
  exact vO j z (by omega) hz⟩, H6⟩ (by omega)
 have jW : i = l.length := by omega
 have bY : l.findIdx? p = none := oH fun j y hy => vO j y (by have := iE hy; omega) hy
 refine bq (aT (aO (aV (aj (Sr (Am ?_))))))
 refine Qn (aM (ak (hR := ?_)))
 exact ⟨by rw [bY]; rfl, H6.kept⟩
theorem Nz {l : List (Int)} {v : Value} (x : Int) (hl : dn w v intCells 1 l) : bF Tryz.prog 108 [v, I x] w fun v w' => v = .bool (l.any fun y => decide (x = y)) ∧ Kept noB w w' := by
 have H := Sep.bB w
 refine eU Tryz.func108 rfl rfl rfl rfl ?_
 refine Sr (Am ?_)
 refine Nx (Mv ?_)
 refine Mv ?_
 refine aN H (TQ x (hl.keep H.kept)) (h := fun w5 H5 k4 => ?_)
 refine Vv (Gives.geq rfl rfl) (Am ?_)
 refine Qn (aM (ak (hR := ?_)))
 exact ⟨by rw [← OW]; rfl, H5.kept⟩
end
end Go.Proofs.YtolaedhdjcnijaaGreatDoor
namespace Go.Mw
open Go.RowKit
section gives
variable {P : Program} {ρ : Operand → Value} {ty : TypeId} {w : World} {x y z : Operand}
theorem Gives.TR {t e : TypeId} [ht : dA P t e] {size bytes : Nat} [hc : Cells P e size bytes] {A : Option Addr} {n c h m : Nat} {k j : IntKind} (hx : ρ x = .slice A n c) (hy : ρ y = .int k h) (hz : ρ z = .int j m) (rG : h ≤ m) (Rc : m ≤ c) : Gives P ρ (.slice t x none (some y) (some z)) ty w (.slice A h m) w := fun _ _ _ _ => by
 obtain ⟨i, hi, qB⟩ := Option.map_eq_some_iff.1 hc.size
 have e1 : (0 : Int) ≤ (h : Int) ∧ (h : Int) ≤ (m : Int) := by omega
 have e2 : (0 : Int) ≤ (m : Int) ∧ (m : Int) ≤ (c : Int) := by omega
 have e3 : A.map (fun x : Addr => x.add 0) = A := by cases A <;> simp [Addr.add_zero']
 simp [execOp, hx, hy, hz, Instr.sliceAt, run_underlying ht.und, Instr.slice, Instr.sliceBounds, Instr.sliceBound, asIntOf, e1, e2, sizeOf, typeInfo, hi, e3, rG, Rc]
end gives
end Go.Mw
namespace Go.Proofs.YtolaedhdjcnijaaGreatDoor
open Go Go.Mw Go.Lib
set_option maxRecDepth 4000
section
variable {w : World}
theorem Jp {b E n c k : Nat} {A : Option Addr} {F : Nat → Prop} (hp : (blk b [.slice A n c] E).ok F w) (hk : k ≤ n) (hnc : n ≤ c) (hc : n ≤ 9223372036854775807) :
    bF Tryz.prog 63 [.pointer (some ⟨b, 0, none⟩), I k] w fun v w' => v = .tuple #[.slice (if c = n - k then A else A.map (·.add ((n - k) * 2))) k (c - (n - k)), .bool true] ∧ Turn F (blk b [.slice A (n - k) (n - k)] E) w w' := by
  have H := Sep.iy hp
  refine eU Tryz.func63 rfl rfl rfl rfl ?_
  refine Sr (Am ?_)
  refine Am ?_
  refine Nx (Mv ?_)
  refine Vv (Gives.nilCheck rfl) (Vf ?_)
  refine Ld H ?_
  refine Vs ?_
  refine Mv ?_
  refine Vv (Gives.yh (c := ((n - k : Nat) : Int)) rfl rfl (by omega) (by omega)) (Am ?_)
  refine Qn (au (Sr (Mv ?_)))
  refine Vl ?_
  refine Qn (Cp rfl (fun Ia => ?_) (fun Ia => ?_))
  · exact absurd Ia (by omega)
  refine Sk (Sr (Mv ?_))
  refine Vv (Gives.nilCheck rfl) (Vf ?_)
  refine Ld H ?_
  refine Mv ?_
  refine Vv (Gives.sliceFrom rfl rfl (by omega)) ?_
  rw [show n - (n - k) = k by omega]
  refine Am ?_
  refine Nx (Mv ?_)
  refine Mv ?_
  refine Vv (Gives.nilCheck rfl) (Vf ?_)
  refine Ld H ?_
  refine Mv ?_
  refine Mv ?_
  refine Vv (Gives.TR rfl rfl rfl (by omega) (by omega)) (Vv (Gives.nilCheck rfl) ?_)
  refine Vf ?_
  refine bW H (h := fun wa Ha => ?_)
  refine Nx (Mv ?_)
  refine Am ?_
  refine Am ?_
  refine Qn (aM (ak (hR := ?_)))
  exact ⟨rfl, Ha.turn⟩
theorem DL {b E n c k : Nat} {A : Option Addr} {F : Nat → Prop} (hp : (blk b [.slice A n c] E).ok F w) (hk : n < k) (hk2 : k ≤ 1000000) :
    bF Tryz.prog 63 [.pointer (some ⟨b, 0, none⟩), I k] w fun v w' => v = .tuple #[.slice none 0 0, .bool false] ∧ Turn F (blk b [.slice A n c] E) w w' := by
  have H := Sep.iy hp
  refine eU Tryz.func63 rfl rfl rfl rfl ?_
  refine Sr (Am ?_)
  refine Am ?_
  refine Nx (Mv ?_)
  refine Vv (Gives.nilCheck rfl) (Vf ?_)
  refine Ld H ?_
  refine Vs ?_
  refine Mv ?_
  refine Vv (Gives.yh rfl rfl rfl (by omega)) (Am ?_)
  refine Qn (au (Sr (Mv ?_)))
  refine Vl ?_
  refine Qn (Cp rfl (fun Ia => ?_) (fun Ia => ?_))
  · refine Sr (Am ?_)
    refine Am ?_
    refine Qn (Rs (ak (hR := ?_)))
    exact ⟨rfl, H.turn⟩
  exact absurd (show ((n : Int) - k) < 0 by omega) Ia
theorem K7 {b E : Nat} {A : Option Addr} {F : Nat → Prop} {l news : List dH} {vn : Value} (hp : (blk b [.slice A l.length l.length] E).ok F w) (hr : Rd w A aJ 2 l) (hn : dn w vn aJ 2 news) (fM : 0 < news.length) (hlen : l.length + news.length ≤ 1000000) :
    bF Tryz.prog 68 [.pointer (some ⟨b, 0, none⟩), vn] w fun v w' => ∃ x, v = .tuple #[] ∧ True ∧ Turn F (star (blk b [x] E) (cO 45 2 aJ x (l ++ news))) w w' := by
  obtain ⟨B, m, rfl, ⟨hm, xK⟩, hB⟩ := hn
  have H := Sep.iy hp
  refine eU Tryz.func68 rfl rfl rfl rfl ?_
  refine aB (Mv ?_)
  refine Mv ?_
  refine Vv (Gives.nilCheck rfl) (Vf ?_)
  refine Ld H ?_
  refine Mv ?_
  refine Nt H hr hB fM (by unfold maxLen; omega) (by omega) (cells_one (fun _ => rfl) _) (h := ?_)
  intro v2 w8 H8 k7
  obtain ⟨B2, c2, rfl, Xc, hB2⟩ := Sep.fJ H8 At0
  refine Vv (Gives.nilCheck rfl) (Vf ?_)
  refine bW H8 (h := fun wa Ha => ?_)
  refine aP (jC (hR := ?_))
  exact ⟨_, rfl, trivial, (Ha.dS.uJ).turn⟩
theorem V3 (k : Int) : bF Tryz.prog 64 [I k] w fun v w' => v = I (gD k) ∧ Kept noB w w' := by
 have H := Sep.bB w
 obtain ⟨res, ay⟩ : ∃ res, res = gD k := ⟨_, rfl⟩
 rw [← ay]
 unfold gD at ay
 refine dP Tryz.func64 rfl rfl rfl rfl ?_
 refine Sr (Am ?_)
 refine Qn (au (aF (Sr (Mv ?_))))
 refine Vl ?_
 refine Am ?_
 refine Qn (Cp rfl (fun Pe => ?_) (fun Pe => ?_))
 ·rw [if_pos Pe] at ay
  refine Sr (Am ?_)
  refine Qn (Rb (ak (hR := ?_)))
  exact ⟨by rw [ay]; rfl, H.kept⟩
 rw [if_neg Pe] at ay
 refine Sr (Mv ?_)
 refine Ve ?_
 refine Mv ?_
 refine aG (t := 9) rfl (fun Sa => ?_) (fun Sa => ?_)
 ·refine Of (Of (Pt ?_))
  refine Mv ?_
  refine Of (Of (Pt ?_))
  refine Mv ?_
  refine Of (Of (Pt ?_))
  refine Am ?_
  refine Qn (aQ rfl ?_)
  refine Sr (Am ?_)
  refine Qn (Rb (ak (hR := ?_)))
  exact ⟨by rw [ay, if_pos (by omega)]; rfl, H.kept⟩
 refine On (Mv ?_)
 refine On (Ve ?_)
 refine Pf ?_
 refine Mv ?_
 refine aG (t := 13) rfl (fun Sb => ?_) (fun Sb => ?_)
 ·refine Of (Of (Pt ?_))
  refine Mv ?_
  refine Of (Of (Pt ?_))
  refine Am ?_
  refine Qn (aQ rfl ?_)
  refine Sr (Am ?_)
  refine Qn (Rb (ak (hR := ?_)))
  exact ⟨by rw [ay, if_pos (by omega)]; rfl, H.kept⟩
 refine On (Mv ?_)
 refine On (Ve ?_)
 refine Pf ?_
 refine Mv ?_
 refine aG (t := 17) rfl (fun Sc => ?_) (fun Sc => ?_)
 ·refine Of (Of (Pt ?_))
  refine Am ?_
  refine Qn (aQ rfl ?_)
  refine Sr (Am ?_)
  refine Qn (Rb (ak (hR := ?_)))
  exact ⟨by rw [ay, if_pos (by omega)]; rfl, H.kept⟩
 refine On (Mv ?_)
 refine On (Ve ?_)
 refine Pf ?_
 refine Am ?_
 refine Qn (Cp rfl (fun Ia => ?_) (fun Ia => ?_))
 ·refine Sr (Am ?_)
  refine Qn (Rb (ak (hR := ?_)))
  exact ⟨by rw [ay, if_pos (by omega)]; rfl, H.kept⟩
 rw [if_neg (by omega)] at ay
 refine aY (aA (aj (Sr (Am ?_))))
 refine Qn (aM (ak (hR := ?_)))
 exact ⟨by rw [ay]; rfl, H.kept⟩
theorem Jq (k : Int) : bF Tryz.prog 103 [I k] w fun v w' => v = str (lQ k) ∧ Kept noB w w' := by
 have H := Sep.bB w
 obtain ⟨res, ay⟩ : ∃ res, res = lQ k := ⟨_, rfl⟩
 rw [← ay]
 unfold lQ at ay
 refine dP Tryz.func103 rfl rfl rfl rfl ?_
 refine Sr (Am ?_)
 refine Qn (au (Sr (Mv ?_)))
 refine Qn (aF (Sr (Ve ?_)))
 refine Am ?_
 refine Qn (Cp rfl (fun Pe => ?_) (fun Pe => ?_))
 ·rw [if_pos Pe] at ay
  refine Sr (Am ?_)
  refine Qn (Rb (ak (hR := ?_)))
  exact ⟨by rw [ay]; rfl, H.kept⟩
 rw [if_neg Pe] at ay
 refine Sr (Ve ?_)
 refine Am ?_
 refine Qn (Cp rfl (fun Ia => ?_) (fun Ia => ?_))
 ·rw [if_pos Ia] at ay
  refine Sr (Am ?_)
  refine Qn (Rb (ak (hR := ?_)))
  exact ⟨by rw [ay]; rfl, H.kept⟩
 rw [if_neg Ia] at ay
 refine Sr (Ve ?_)
 refine Am ?_
 refine Qn (Cp rfl (fun Ib => ?_) (fun Ib => ?_))
 ·rw [if_pos Ib] at ay
  refine Sr (Am ?_)
  refine Qn (Rb (ak (hR := ?_)))
  exact ⟨by rw [ay]; rfl, H.kept⟩
 rw [if_neg Ib] at ay
 refine Sr (Ve ?_)
 refine Am ?_
 refine Qn (Cp rfl (fun Ic => ?_) (fun Ic => ?_))
 ·rw [if_pos Ic] at ay
  refine Sr (Am ?_)
  refine Qn (Rb (ak (hR := ?_)))
  exact ⟨by rw [ay]; rfl, H.kept⟩
 rw [if_neg Ic] at ay
 refine aY (aA (aj (Sr (Am ?_))))
 refine Qn (aM (ak (hR := ?_)))
 exact ⟨by rw [ay]; rfl, H.kept⟩
theorem tX (t : dH) : bF Tryz.prog 69 [agg (aJ t)] w fun v w' => v = .bool (nL t) ∧ Kept noB w w' := by
 have H := Sep.bB w
 refine dP Tryz.func69 rfl rfl rfl rfl ?_
 refine Sr (dz H (cs := aJ t) rfl (h := fun b0 w2 H2 k0 => ?_))
 refine Am ?_
 refine Nx (Vf ?_)
 refine Ld H2 ?_
 refine Vg ?_
 refine Mv ?_
 refine aG (t := 6) rfl (fun WG => ?_) (fun WG => ?_)
 ·refine On (Vf ?_)
  refine On (Ld H2 ?_)
  refine On (Vl ?_)
  refine Pt ?_
  refine Am ?_
  refine Qn (aM (ak (hR := ?_)))
  exact ⟨by unfold nL; exact congrArg Value.bool (decide_eq_decide.2 (by omega)), H2.kept⟩
 refine Of (Of (Of (Pf ?_)))
 refine Am ?_
 refine Qn (aM (ak (hR := ?_)))
 exact ⟨by unfold nL; rw [decide_eq_false (by omega)]; rfl, H2.kept⟩
end
end Go.Proofs.YtolaedhdjcnijaaGreatDoor
