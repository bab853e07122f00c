/-
 The program's Text of a plan, walked.
-/
import Derived.Test.YtolaedhdjcnijaaGreatDoorKx25
import Derived.Test.YtolaedhdjcnijaaGreatDoorKx26
import Derived.Test.YtolaedhdjcnijaaGreatDoorKx24
import Derived.Test.YtolaedhdjcnijaaGreatDoorKx23
set_option linter.unusedVariables false
set_option linter.unusedSimpArgs false
namespace Go.Proofs.YtolaedhdjcnijaaGreatDoor
open Go Go.Mw Go.Lib
set_option maxRecDepth 4000
theorem unlines_joins (sep : UInt8) : ∀ l : List (List UInt8), l ≠ [] → joinW sep l ++ [sep] = l.flatMap (· ++ [sep])
 | [], h => absurd rfl h
 | [w], _ => by simp [joinW]
 | w :: x :: l, _ => by
  have ih := unlines_joins sep (x :: l) (by simp)
  show (w ++ sep :: joinW sep (x :: l)) ++ [sep] = _
  rw [List.flatMap_cons, ← ih]
  simp
theorem text_len {l : List StepM} (h : (textS l).2 = 0) (hf : StepsFit l) : (textS l).1.length ≤ 400000 := by
 obtain ⟨h1, h2, h3⟩ := text_may h
 rw [h3]
 have := len_join 32 (k := 6146) (ws := l.map wordS) fun w hw => by
  obtain ⟨x, hxm, rfl⟩ := List.mem_map.1 hw
  exact word_len (h2 x hxm) (hf x hxm)
 rw [List.length_map] at this
 show (joinW 32 (l.map wordS)).length ≤ _
 omega
theorem bad_iff {o : OutM} : badO o = true ↔ ((textS o.steps).2 ≠ 0 ∨ (textS o.steps).1 = []) := by unfold badO; rw [decide_eq_true_iff]
section
variable {w : World}
theorem itoa_ok (n : Int) (hn : fits n) (hT : TabsX w) : Rets Tryz.prog 38 [I n] w fun v w' => v = str (Lib.itoa n) ∧ Kept noB w w' :=
 Calls.mono (Tryz.strconv_Itoa n hn.1 hn.2 w hT.pow) fun e w' he => by
  obtain ⟨rfl, k, os, rfl⟩ := he
  exact ⟨rfl, kept_grow w k os⟩
theorem joinS_ok (sep : UInt8) {l : List (List UInt8)} {v : Value} (hr : RowIn w v textCells 1 l) (hl : l.length ≤ 1000000) (hlen : (joinW sep l).length ≤ 140737488355328) : Rets Tryz.prog 39 [v, str [sep]] w fun v' w' => v' = str (joinW sep l) ∧ Kept noB w w' := by
 obtain ⟨A, c, rfl, ⟨hc, hc'⟩, hR⟩ := hr
 by_cases h0 : l = []
 ·subst h0
  exact Calls.mono (Tryz.strings_Join_none A c ⟨#[sep]⟩ w) fun e w' he => by
   obtain ⟨rfl, rfl⟩ := he
   exact ⟨rfl, Kept.refl _ _⟩
 have hpos : 0 < l.length := List.length_pos_iff.2 h0
 obtain ⟨ad, rfl⟩ := hR.addr hpos
 obtain ⟨x0, hx0⟩ := get_some hpos
 obtain ⟨ad', e0, hc0⟩ := hR.cell (f := 0) hx0 rfl
 injection e0 with e0; subst e0
 have hsp := World.cell?_spot hc0
 obtain ⟨bk, o, sp⟩ := ad
 have hsp' : sp = none := hsp
 subst hsp'
 have hbk : bk < w.heap.size := by
  refine Classical.byContradiction fun hn => ?_
  unfold World.cell? at hc0
  rw [Array.getElem?_eq_none (by show w.heap.size ≤ bk; omega)] at hc0
  cases hc0
 have hml : (l.map fun s : List UInt8 => (⟨s.toArray⟩ : ByteArray)).map (·.data.toList) = l := by
  rw [List.map_map]
  exact (List.map_congr_left fun s _ => rfl).trans (List.map_id l)
 have := rets_below (Tryz.strings_Join bk o c (l.map fun s => ⟨s.toArray⟩) ⟨#[sep]⟩ w (fun j x hj => by
  rw [List.getElem?_map] at hj
  obtain ⟨s, hs, rfl⟩ := Option.map_eq_some_iff.1 hj
  obtain ⟨ad', e1, hcs⟩ := hR.cell (f := 0) hs rfl
  injection e1 with e1; subst e1
  rw [Nat.mul_one, Nat.add_zero, Addr.add_lit] at hcs
  exact hcs) hbk (by rw [List.length_map]; omega) (by rw [List.length_map]; exact hc) (by rw [hml]; show (Lib.join l [sep]).length ≤ _; rw [join_eq]; exact hlen))
 rw [hml, List.length_map] at this
 have e : Lib.join l [sep] = joinW sep l := join_eq sep l
 rw [← e]
 exact this
theorem textPE_ok {p : PlanM} {v : Value} (hp : PlanIn w v p) (hfw : StepsFit p.wh) (hfc : ∀ o ∈ p.cols, StepsFit o.steps) (hn : p.cols.length ≤ 1000000) (hT : TabsX w) :
    Rets Tryz.prog 13 [v] w fun v w' => v = .tuple #[str (textP p).1, I (textP p).2] ∧ Kept noB w w' := by
  have hp0 := hp
  obtain ⟨vw, vc, rfl, hw, r, hr, hraw⟩ := hp
  obtain ⟨A, m, rfl, ⟨hm, hm'⟩, hA⟩ := hr
  obtain ⟨C, n, rfl, ⟨hwn, hwn'⟩, hC⟩ := id hw
  have hrl := hraw.len
  have H := Sep.start0 w
  obtain ⟨res, hres⟩ : ∃ res, res = textP p := ⟨_, rfl⟩
  rw [← hres]
  unfold textP at hres
  have hno : mayP p ≠ true → res = ([], 2) := fun h => by rw [hres, if_pos (by simpa using h)]
  refine rets1 Tryz.func13 rfl rfl rfl rfl ?_
  refine Sr (FL_box H (cs := [.slice C p.wh.length n, .slice A r.length m, I p.group]) rfl (h := fun b1 w2 H2 k1 => ?_))
  refine Am ?_
  refine Am ?_
  refine Qn (FW_seq (Sr (FL_loadAll H2 (h := ?_))))
  refine FL_callQ H2 (named_ok (hp0.keep H2.kept) hn) (h := fun w7 H7 k6 => ?_)
  refine Vv (Gives.not rfl) (Qn ?_)
  refine Cd rfl (fun hc9 => ?_) (fun hc9 => ?_)
  · have hfin : res = ([], 2) := hno fun h => by have h1 := (may_parts.1 h).1; rw [h1] at hc9; cases hc9
    refine Sr (Am ?_)
    refine Am ?_
    refine Qn (Rs (Qfn_ret (hR := ?_)))
    exact ⟨by rw [hfin]; rfl, H7.kept⟩
  have hnm : namedP p = true := by simpa using hc9
  obtain ⟨⟨hn1, hn16, hg1, hg2⟩, hnames⟩ := named_cols hnm
  refine Sk (Sr (Vf ?_))
  refine Ld H7 ?_
  refine FL_callQ H7 (textE_ok (hw.keep H7.kept) hfw (hT.keep H7.kept)) (h := fun w18 H18 k17 => ?_)
  refine Mv ?_
  refine Vx ?_
  refine Vx ?_
  refine Am ?_
  refine Am ?_
  refine Qn (FW_seq (Sr (Mv ?_)))
  refine Vn ?_
  refine Qn (Cp rfl (fun hc26 => ?_) (fun hc26 => ?_))
  · have hfin : res = ([], 2) := hno fun h => hc26 (may_parts.1 h).2.1
    refine Sr (Am ?_)
    refine Am ?_
    refine Qn (Rs (Qfn_ret (hR := ?_)))
    exact ⟨by rw [hfin]; rfl, H18.kept⟩
  have htw : (textS p.wh).2 = 0 := by omega
  have hwl := text_len htw hfw
  refine Sk (FW_cut (fun _ : Unit => [(1, selfP b1), (4, str (if p.wh = [] then noneW else (textS p.wh).1))]) (fun _ w' => Sep w noB [blk b1 [.slice C p.wh.length n, .slice A r.length m, I p.group] 25] w') ?_ ?_)
  · refine Sr (Vf ?_)
    refine Ld H18 ?_
    refine Vs ?_
    refine Ve ?_
    refine Qn (Cp rfl (fun hc37 => ?_) (fun hc37 => ?_))
    · have he : p.wh = [] := List.eq_nil_of_length_eq_zero (by omega)
      refine FW_region (Am ?_)
      refine FL_nil ?_
      exact Qcut_normal () ⟨rfl, by rw [if_pos he]; rfl, trivial⟩ H18
    have he : ¬ p.wh = [] := fun e => hc37 (by rw [e]; rfl)
    refine FW_skip ?_
    exact Qcut_normal () ⟨rfl, by rw [if_neg he]; rfl, trivial⟩ H18
  intro _ τ w44 H44
  have h4n : noneW.length = 4 := rfl
  have hq4 : (if p.wh = [] then noneW else (textS p.wh).1).length ≤ 400000 := by split <;> omega
  simp only [upds, like, upd_ds, und_ds]
  refine Sr (Mv ?_)
  refine Vv (Gives.catT rfl rfl (by first | omega | (simp; done) | (simp; omega))) ?_
  refine FL_buildSlice H44 (xs := [.tmp 28]) (out := [lineW p.wh].flatMap textCells) (Elems.one rfl rfl Elems.nil) rfl rfl rfl (fun bs w48 H48 k47 => ?_)
  have H48 := oneD H48
  refine Am ?_
  refine Qn (FW_seq (Sr (Vf ?_)))
  refine Ld H48 ?_
  refine Vs ?_
  refine Mv ?_
  refine Qn (FW_block ?_)
  have H55 : Mw.Sep w noB [rowD 9 1 textCells (.slice (some ⟨bs, 0, none⟩) 1 1) (lineW p.wh :: (p.cols.take 0).map lineO), blk b1 [.slice C p.wh.length n, .slice A r.length m, I p.group] 25] w48 := H48
  refine FW_loop' (fun x : Nat × Value => [(1, selfP b1), (6, x.2), (31, .slice A r.length m), (32, I r.length), (33, I x.1)]) (fun x w' => (x.1 ≤ r.length ∧ ∀ (j : Nat) o, j < x.1 → p.cols[j]? = some o → badO o = false) ∧ Sep w noB [rowD 9 1 textCells x.2 (lineW p.wh :: (p.cols.take x.1).map lineO), blk b1 [.slice C p.wh.length n, .slice A r.length m, I p.group] 25] w') (fun x _ => r.length - x.1) (0, _) ⟨rfl, rfl, rfl, rfl, rfl, trivial⟩ ⟨⟨Nat.zero_le _, fun j o hj => absurd hj (Nat.not_lt_zero j)⟩, H55⟩ (fun x τ w55 hI => ?_)
  obtain ⟨i, v0⟩ := x
  obtain ⟨⟨hi, hgood⟩, H55⟩ := hI
  dsimp only at hi hgood H55
  have hml : (lineW p.wh :: (p.cols.take i).map lineO).length = i + 1 := by rw [List.length_cons, List.length_map, List.length_take]; omega
  try simp only [upds, like, upd_ds]
  refine Sr (Vl ?_)
  refine Qn (FW_seq (Cp rfl (fun hc57 => ?_) (fun hc57 => ?_)))
  · have hlt : i < p.cols.length := by omega
    obtain ⟨vx, hx, hsx⟩ := hraw.at hlt
    obtain ⟨Ax, cx, rfl, _⟩ := id hsx
    have hpc : p.cols[i]? = some p.cols[i] := List.getElem?_eq_getElem hlt
    obtain ⟨o, ho⟩ : ∃ o, o = p.cols[i] := ⟨_, rfl⟩
    rw [← ho] at hx hsx hpc
    have hmo := List.mem_of_getElem? hpc
    have htk : lineW p.wh :: (p.cols.take (i + 1)).map lineO = (lineW p.wh :: (p.cols.take i).map lineO) ++ [lineO o] := by rw [List.take_add_one, hpc, List.map_append]; rfl
    refine Sk (FW_seq (FW_block (Sr (Vv (Gives.idxR rfl rfl (by assumption) (by omega)) (Vv (Gives.loadE0 rfl H55 (by assumption) (by assumption)) ?_)))))
    refine FL_alloc H55 (h := fun b8 w62 H62 k61 => ?_)
    refine FL_storeAll H62 (h := fun w64 H64 => ?_)
    refine Nx (Vf ?_)
    refine Ld H64 ?_
    refine FL_callQ H64 (textE_ok (hsx.keep H64.kept) (hfc o hmo) (hT.keep H64.kept)) (h := fun w68 H68 k67 => ?_)
    refine Mv ?_
    refine Vx ?_
    refine Vx ?_
    refine Am ?_
    refine Am ?_
    refine Qn (FW_seq (Sr (Mv ?_)))
    refine Vn ?_
    refine Mv ?_
    refine FL_splitP (t := 45) rfl (fun hs77 => ?_) (fun hs77 => ?_)
    · have hbad : badO o = true := bad_iff.2 (.inl hs77)
      refine Of (Of (Pt ?_))
      refine Qn (FW_cond_true rfl ?_)
      refine Sr (Am ?_)
      refine Am ?_
      refine Qn (Rs (Qblk_ret (Qseq_ret (Qround_ret (Qblk_ret (Qseq_ret (Qfn_ret (hR := ?_))))))))
      have hfin : res = ([], 2) := hno fun h => by have h1 := (may_parts.1 h).2.2 o hmo; rw [h1] at hbad; cases hbad
      exact ⟨by rw [hfin]; rfl, H68.kept⟩
    refine On (Mv ?_)
    refine On (Vv (Gives.eqlT rfl rfl) (Pf ?_))
    refine Qn (Cp rfl (fun hc86 => ?_) (fun hc86 => ?_))
    · have hbad : badO o = true := bad_iff.2 (.inr hc86)
      refine Sr (Am ?_)
      refine Am ?_
      refine Qn (Rs (Qblk_ret (Qseq_ret (Qround_ret (Qblk_ret (Qseq_ret (Qfn_ret (hR := ?_))))))))
      have hfin : res = ([], 2) := hno fun h => by have h1 := (may_parts.1 h).2.2 o hmo; rw [h1] at hbad; cases hbad
      exact ⟨by rw [hfin]; rfl, H68.kept⟩
    have hok : badO o = false := by
      rw [← Bool.not_eq_true]
      intro h
      rcases bad_iff.1 h with h | h
      · omega
      exact hc86 h
    have hts : (textS o.steps).2 = 0 := by omega
    have htl2 := text_len hts (hfc o hmo)
    have hnl : o.name.length ≤ 32 := by
      have h5 := hnames o hmo
      unfold isNameS at h5
      simp only [Bool.and_eq_true, decide_eq_true_eq] at h5
      omega
    refine Sk (FW_region (Mv ?_))
    refine Vf ?_
    refine Ld H68 ?_
    refine Vv (Gives.catT rfl rfl (by first | omega | (simp; done) | (simp; omega))) ?_
    refine Vv (Gives.catT rfl rfl (by first | omega | (simp; done) | (simp; omega))) ?_
    refine Mv ?_
    refine Vv (Gives.catT rfl rfl (by first | omega | (simp; done) | (simp; omega))) ?_
    refine FL_buildSlice H68 (xs := [.tmp 55]) (out := [lineO o].flatMap textCells) (Elems.one rfl rfl Elems.nil) rfl rfl rfl (fun bs w100 H100 k99 => ?_)
    refine FL_appendD H100 (news := [lineO o]) At1 (by rw [hml]; unfold maxLen; simp; omega) (by rw [hml]; simp; omega) (cells_one (fun _ => rfl) _) (h := ?_)
    intro v2 w102 H102
    rw [← htk] at H102
    refine Am ?_
    refine FL_nil (Qblk_normal (Qseq_normal (FW_region (Vv (Gives.addI rfl rfl rfl (by omega)) ?_))))
    refine Mv ?_
    refine FL_nil ?_
    exact Qround_normal (i + 1, v2) ⟨rfl, rfl, rfl, rfl, rfl, trivial⟩ ⟨⟨by dsimp only; omega, fun j y hj hy => by
    by_cases e : j = i
    · subst e; rw [hpc] at hy; injection hy with hy; rw [← hy]; exact hok
    exact hgood j y (by dsimp only at hj; omega) hy⟩, H102.drop0⟩ (by dsimp only; omega)
  have hil : i = r.length := by omega
  rw [hil, List.take_of_length_le (by omega)] at H55 hml
  have hall : ∀ o ∈ p.cols, badO o = false := fun o ho => by
    obtain ⟨j, hj⟩ := List.getElem?_of_mem ho
    exact hgood j o (by have := get_lt hj; omega) hj
  have hmay : mayP p = true := may_parts.2 ⟨hnm, htw, hall⟩
  rw [if_neg (by rw [hmay]; decide)] at hres
  refine FW_exit (Qseq_exit (Qround_exit (Qblk_exit (Qseq_normal (Sr (Am ?_))))))
  refine Qn (FW_cut (fun _ : Unit => [(6, v0), (11, str (if p.group < 0 then noneW else itoa p.group))]) (fun _ w' => Sep w noB [rowD 9 1 textCells v0 (lineW p.wh :: p.cols.map lineO), blk b1 [.slice C p.wh.length n, .slice A r.length m, I p.group] 25] w') ?_ ?_)
  · refine Sr (Vf ?_)
    refine Ld H55 ?_
    refine Vv (Gives.geq rfl rfl) (Qn ?_)
    refine Cp rfl (fun hc113 => ?_) (fun hc113 => ?_)
    · have hg : ¬ p.group < 0 := by omega
      refine FW_region (Vf ?_)
      refine Ld H55 ?_
      refine FL_callQ H55 (itoa_ok p.group ⟨by omega, by omega⟩ (hT.keep H55.kept)) (h := fun w118 H118 k117 => ?_)
      refine Am ?_
      refine FL_nil ?_
      exact Qcut_normal () ⟨rfl, by rw [if_neg hg]; rfl, trivial⟩ H118
    have hg : p.group < 0 := by omega
    refine FW_skip ?_
    exact Qcut_normal () ⟨rfl, by rw [if_pos hg]; rfl, trivial⟩ H55
  intro _ τ w124 H124
  have h6 := itoa_length_le p.group (by omega) (by omega)
  have hq6 : (if p.group < 0 then noneW else itoa p.group).length ≤ 30 := by split <;> omega
  simp only [upds, like, upd_ds]
  refine Sr (Mv ?_)
  refine Mv ?_
  refine Vv (Gives.catT rfl rfl (by first | omega | (simp; done) | (simp; omega))) ?_
  refine FL_buildSlice H124 (xs := [.tmp 67]) (out := [lineG p.group].flatMap textCells) (Elems.one rfl rfl Elems.nil) rfl rfl rfl (fun bs2 w129 H129 k128 => ?_)
  refine FL_appendD H129 (news := [lineG p.group]) At0 (by rw [hml]; unfold maxLen; simp; omega) (by rw [hml]; simp; omega) (cells_one (fun _ => rfl) _) (h := ?_)
  intro v2 w131 H131
  have hlp : (lineW p.wh :: p.cols.map lineO) ++ [lineG p.group] = linesP p := rfl
  rw [hlp] at H131
  have hll : (linesP p).length ≤ 1002 := by unfold linesP; rw [List.length_cons, List.length_append, List.length_map, List.length_singleton]; omega
  have hlj : (joinW 10 (linesP p)).length ≤ (400100 + 1) * (linesP p).length := len_join 10 (k := 400100) fun x hx => by
    unfold linesP at hx
    rcases List.mem_cons.1 hx with rfl | hx
    · unfold lineW whereW
      rw [List.length_append]
      have h4 : noneW.length = 4 := rfl
      split <;> simp only [List.length_cons, List.length_nil] <;> omega
    rcases List.mem_append.1 hx with hx | hx
    · obtain ⟨o, ho, rfl⟩ := List.mem_map.1 hx
      have h1 := hall o ho
      have h2 : (textS o.steps).2 = 0 := Classical.byContradiction fun h => by rw [bad_iff.2 (.inl h)] at h1; cases h1
      have h3 := text_len h2 (hfc o ho)
      have h5 := hnames o ho
      unfold isNameS at h5
      simp only [Bool.and_eq_true, decide_eq_true_eq] at h5
      unfold lineO outW
      simp only [List.length_append, List.length_cons, List.length_nil]
      omega
    rw [List.mem_singleton] at hx
    subst hx
    unfold lineG groupW
    rw [List.length_append]
    have h4 : noneW.length = 4 := rfl
    have h6 := itoa_length_le p.group (by omega) (by omega)
    split <;> simp only [List.length_cons, List.length_nil] <;> omega
  refine FL_callQ H131 (joinS_ok 10 (Sep_in H131 At0) (by omega) (by omega)) (h := fun w133 H133 k132 => ?_)
  refine Vv (Gives.catT rfl rfl (by first | omega | (simp; done) | (simp; omega))) ?_
  refine Am ?_
  refine Am ?_
  refine Qn (FW_ret (Qfn_ret (hR := ?_)))
  exact ⟨by rw [hres]; show Value.tuple #[str (joinW 10 (linesP p) ++ [10]), I 0] = _; rw [unlines_joins 10 _ (by unfold linesP; simp)]; rfl, H133.kept⟩
end
end Go.Proofs.YtolaedhdjcnijaaGreatDoor
namespace Go.Proofs.YtolaedhdjcnijaaGreatDoor
open Go Go.Lib Go.Mw
set_option maxRecDepth 4000
/-! The plans. -/
end Go.Proofs.YtolaedhdjcnijaaGreatDoor
namespace Go.Proofs.YtolaedhdjcnijaaGreatDoor
open Go Go.Lib Go.Mw
set_option maxRecDepth 8000
theorem itoa_small : ∀ n : Fin 17, (itoa (n.val : Int)).length ≤ 2 := by decide +kernel
/-! The chapter's examples. -/
def smallP : List ColM := [⟨1, [], ⟨2, false⟩, cell0⟩, ⟨2, [], ⟨4, true⟩, cell0⟩, ⟨3, [], ⟨1, false⟩, cell0⟩]
def exTx : List (List UInt8) := [[119, 104, 101, 114, 101, 32, 110, 111, 110, 101, 10, 111, 117, 116, 32, 97, 32, 35, 49, 10, 111, 117, 116, 32, 98, 32, 35, 50, 32, 105, 115, 110, 117, 108, 108, 10, 103, 114, 111, 117, 112, 32, 110, 111, 110, 101, 10], [119, 104, 101, 114, 101, 32, 35, 51, 10, 111, 117, 116, 32, 115, 32, 35, 50, 10, 111, 117, 116, 32, 116, 111, 116, 97, 108, 32, 35, 49, 32, 50, 32, 42, 10, 103, 114, 111, 117, 112, 32, 49, 10], [119, 104, 101, 114, 101, 32, 35, 49, 10, 111, 117, 116, 32, 97, 32, 35, 49, 10, 103, 114, 111, 117, 112, 32, 110, 111, 110, 101, 10], [119, 104, 101, 114, 101, 32, 110, 111, 110, 101, 10, 111, 117, 116, 32, 97, 32, 35, 50, 10, 103, 114, 111, 117, 112, 32, 48, 10], [119, 104, 101, 114, 101, 32, 110, 111, 110, 101, 10, 111, 117, 116, 32, 97, 32, 35, 52, 10, 103, 114, 111, 117, 112, 32, 110, 111, 110, 101, 10]]
def exPl : List PlanM := [⟨[], [⟨[97], [⟨1, 1, []⟩]⟩, ⟨[98], [⟨1, 2, []⟩, ⟨16, 0, []⟩]⟩], -1⟩, ⟨[⟨1, 3, []⟩], [⟨[115], [⟨1, 2, []⟩]⟩, ⟨[116, 111, 116, 97, 108], [⟨1, 1, []⟩, ⟨2, 2, []⟩, ⟨9, 0, []⟩]⟩], 1⟩,
 ⟨[⟨1, 1, []⟩], [⟨[97], [⟨1, 1, []⟩]⟩], -1⟩, ⟨[], [⟨[97], [⟨1, 2, []⟩]⟩], 0⟩, ⟨[], [⟨[97], [⟨1, 4, []⟩]⟩], -1⟩]
def exCh : List (List ColM × Int) := [([⟨1, [97], ⟨3, false⟩, cell0⟩, ⟨2, [98], ⟨1, false⟩, cell0⟩], 0), ([⟨1, [115], ⟨4, true⟩, ⟨true, 0, []⟩⟩, ⟨2, countW, ⟨3, false⟩, cell0⟩, ⟨3, [116, 111, 116, 97, 108], ⟨3, false⟩, cell0⟩], 0), ([], 230), ([], 230), ([], 220)]
theorem ex_may : exPl.all mayP = true ∧ exPl.map (fun p => unlines (linesP p)) = exTx := by decide +kernel
theorem ex_check : exPl.map (checkP smallP) = exCh ∧ checkP smallP ⟨[], [⟨countW, [⟨1, 1, []⟩]⟩], 0⟩ = ([], 230) := by decide +kernel
def noTx : List (List UInt8 × Int × Int) := [([119, 104, 101, 114, 101, 32, 110, 111, 110, 101, 10, 111, 117, 116, 32, 97, 32, 35, 49, 10, 111, 117, 116, 32, 97, 32, 35, 49, 10, 103, 114, 111, 117, 112, 32, 110, 111, 110, 101, 10], 0, 2), ([119, 104, 101, 114, 101, 32, 110, 111, 110, 101, 10, 103, 114, 111, 117, 112, 32, 110, 111, 110, 101, 10], 1, 4), ([119, 104, 101, 114, 101, 32, 110, 111, 110, 101, 10, 111, 117, 116, 32, 97, 32, 35, 49, 10], 2, 4), ([119, 104, 101, 114, 101, 32, 110, 111, 110, 101, 10, 111, 117, 116, 32, 97, 32, 35, 49, 10, 103, 114, 111, 117, 112, 32, 50, 10], 0, 2), ([119, 104, 101, 114, 101, 10], 0, 4), ([], 0, 4), ([119, 104, 101, 114, 101, 32, 110, 111, 110, 101, 10, 111, 117, 116, 32, 97, 32, 35, 49, 10, 103, 114, 111, 117, 112, 32, 48, 49, 10], 2, 4)]
theorem ex_none : ∀ x ∈ noTx, parseP x.1 = (plan0, x.2.1, x.2.2) := by
 decide +kernel
end Go.Proofs.YtolaedhdjcnijaaGreatDoor
namespace Go.Proofs.YtolaedhdjcnijaaGreatDoor
open Go Go.Mw Go.Lib
set_option maxRecDepth 4000
theorem unlines_snoc (l : List (List UInt8)) (x : List UInt8) : unlines (l ++ [x]) = unlines l ++ (x ++ [10]) := by unfold unlines; rw [List.flatMap_append, List.flatMap_cons, List.flatMap_nil, List.append_nil]
theorem name_len {s : List UInt8} (h : isNameS s = true) : s.length ≤ 32 := by
 unfold isNameS at h
 rw [Bool.and_eq_true, Bool.and_eq_true, decide_eq_true_iff] at h
 exact h.1.1.2
theorem digits_ok11 : ∀ (n : Nat), n < 4611686018427387904 → ∀ w : World, Rets Tryz.prog 42 [I n] w fun v w' => v = str (decDigits n) ∧ Kept noB w w' := by
 intro n
 induction n using Nat.strongRecOn with
 | _ n ih =>
 intro hn w
 have H := Sep.start0 w
 have hd := Nat.mod_lt n (show 0 < 10 by decide)
 refine rets1 Tryz.func42 rfl rfl rfl rfl ?_
 refine Sr (Am ?_)
 refine Qn (FW_seq (Sr (Mv ?_)))
 refine Vl ?_
 refine Qn (Cp rfl (fun hc4 => ?_) (fun hc4 => ?_))
 ·have hlt : n < 10 := by omega
  have hfin : decDigits n = [UInt8.ofNat (48 + n)] := decDigits_one hlt
  refine Sr (Mv ?_)
  refine Mv ?_
  refine Vv (Gives.addI (c := ((n + 1 : Nat) : Int)) rfl rfl (by omega) (by omega)) (Vv (Gives.sliceBothT (l := decS) (i := n) (m := n + 1) rfl rfl rfl (by omega) (by show n + 1 ≤ 10; omega)) ?_)
  rw [dec_piece hlt]
  refine Am ?_
  refine Qn (Rs (Qfn_ret (hR := ?_)))
  exact ⟨by rw [hfin]; rfl, H.kept⟩
 have hge : ¬ n < 10 := by omega
 have hfin : decDigits n = decDigits (n / 10) ++ [UInt8.ofNat (48 + n % 10)] := by rw [decDigits, dif_neg hge]
 have hq : n / 10 < n := by omega
 have hlq := dec_len64 (n := n / 10) (by omega)
 refine Sk (FW_seq (FW_drawS rfl H (h := fun hok13 w15 H15 => ?_)))
 refine Gm hok13 0 ?_
 refine Gp hok13 1 rfl rfl (fun _ => (Gives.quoN (b := 10) rfl rfl (by omega) (by omega))) (Gm hok13 3 ?_)
 refine Gp hok13 4 rfl rfl (fun _ => (Gives.remN (b := 10) rfl rfl (by omega))) (Gm hok13 5 ?_)
 refine Gp hok13 6 rfl rfl (fun _ => (Gives.remN (b := 10) rfl rfl (by omega))) (Gp hok13 7 rfl rfl (fun _ => (Gives.addI (c := ((n % 10 + 1 : Nat) : Int)) rfl rfl (by omega) (by omega))) ?_)
 refine Gp hok13 8 rfl rfl (fun _ => (Gives.sliceBothT (l := decS) (i := n % 10) (m := n % 10 + 1) rfl rfl rfl (by omega) (by show n % 10 + 1 ≤ 10; omega))) ?_
 rw [dec_piece hd]
 refine FGcallQ hok13 2 [(8, true), (7, true), (6, true), (5, true), (4, true), (3, true)] H15 (ih (n / 10) hq (by omega) _) (h := fun w22 H22 k21 => ⟨Stab_pure (Stab_pure (Stab_pure (Stab_pure (Stab_pure (Stab_pure (Stab_nil)))))), ?_⟩)
 refine Gp hok13 9 rfl rfl (fun _ => (Gives.catT rfl rfl (by first | omega | (simp; done) | (simp; omega)))) ?_
 refine Gp hok13 10 rfl rfl (fun _ => Gives.assign rfl) (FG_end hok13 (by kernel_rfl) ?_)
 refine Qseq_normal (FW_ret (Qfn_ret (hR := ?_)))
 exact ⟨by rw [hfin]; rfl, H22.kept⟩
section
variable {w : World}
theorem textPR_ok {p : PlanM} {v : Value} (hp : PlanIn w v p) (hfw : StepsFit p.wh) (hfc : ∀ o ∈ p.cols, StepsFit o.steps) :
    Rets Tryz.prog 14 [v] w fun v w' => v = .tuple #[str (textP p).1, I (textP p).2] ∧ Kept noB w w' := by
  have hp0 := hp
  obtain ⟨vw, vc, rfl, hw, r, hr, hraw⟩ := hp
  obtain ⟨A, m, rfl, ⟨hm, hm'⟩, hA⟩ := hr
  obtain ⟨W, mw, rfl, ⟨hmw, hmw'⟩, hW⟩ := id hw
  have hrl := hraw.len
  have H := Sep.start0 w
  have hbad : mayP p = false → textP p = ([], 2) := fun h => if_pos h
  refine rets1 Tryz.func14 rfl rfl rfl rfl ?_
  refine Sr (FL_box H (cs := [.slice W p.wh.length mw, .slice A r.length m, I p.group]) rfl (h := fun b1 w2 H2 k1 => ?_))
  refine Am ?_
  refine Am ?_
  refine Nx (Vf ?_)
  refine Ld H2 ?_
  refine FL_callQ H2 (textR_ok22 (hw.keep H2.kept) hfw) (h := fun w8 H8 k7 => ?_)
  refine Mv ?_
  refine Vx ?_
  refine Vx ?_
  refine Am ?_
  refine Am ?_
  refine Qn (FW_seq (Sr (FL_loadAll H8 (h := ?_))))
  refine FL_callQ H8 (namedR_ok (hp0.keep H8.kept)) (h := fun w16 H16 k15 => ?_)
  refine Vv (Gives.not rfl) (Mv ?_)
  refine FL_split (t := 19) rfl (fun hs19 => ?_) (fun hs19 => ?_)
  · have hres := hbad (eq_false_of_ne_true fun h => by rw [(may_parts.1 h).1] at hs19; exact absurd hs19 (by decide))
    refine Of (Of (Pt ?_))
    refine Qn (FW_cond_true rfl ?_)
    refine Sr (Am ?_)
    refine Am ?_
    refine Qn (Rs (Qfn_ret (hR := ?_)))
    exact ⟨by rw [hres]; rfl, H16.kept⟩
  have hnm : namedP p = true := by simpa using hs19
  obtain ⟨⟨hn1, hn16, hg1, hg2⟩, hnn⟩ := named_cols hnm
  refine On (Mv ?_)
  refine On (Vn ?_)
  refine Pf ?_
  refine Qn (Cp rfl (fun hc29 => ?_) (fun hc29 => ?_))
  · have hres := hbad (eq_false_of_ne_true fun h => hc29 (may_parts.1 h).2.1)
    refine Sr (Am ?_)
    refine Am ?_
    refine Qn (Rs (Qfn_ret (hR := ?_)))
    exact ⟨by rw [hres]; rfl, H16.kept⟩
  have he0 : (textS p.wh).2 = 0 := by omega
  have htl := text_len he0 hfw
  refine Sk (FW_cut (fun _ : Unit => [(1, selfP b1), (4, str (if p.wh = [] then noneW else (textS p.wh).1))]) (fun _ w' => Sep w noB [blk b1 [.slice W p.wh.length mw, .slice A r.length m, I p.group] 25] w') ?_ ?_)
  · refine Sr (Vf ?_)
    refine Ld H16 ?_
    refine Vs ?_
    refine Ve ?_
    refine Qn (Cp rfl (fun hc40 => ?_) (fun hc40 => ?_))
    · have hwe : p.wh = [] := List.eq_nil_of_length_eq_zero (by omega)
      refine FW_region (Am ?_)
      refine FL_nil ?_
      exact Qcut_normal () ⟨rfl, by rw [if_pos hwe]; rfl, trivial⟩ H16
    have hwe : ¬ p.wh = [] := fun e => hc40 (by rw [e]; rfl)
    refine FW_skip ?_
    exact Qcut_normal () ⟨rfl, by rw [if_neg hwe]; rfl, trivial⟩ H16
  intro _ τ w47 H47
  obtain ⟨x4, hx4⟩ : ∃ x4, x4 = if p.wh = [] then noneW else (textS p.wh).1 := ⟨_, rfl⟩
  have hx4l : x4.length ≤ 400000 := by
    rw [hx4]
    split
    · decide
    exact htl
  rw [← hx4]
  simp only [upds, like, upd_ds, und_ds]
  refine Sr (Mv ?_)
  refine Vv (Gives.catT rfl rfl (by first | omega | (simp; done) | (simp; omega))) ?_
  refine Vv (Gives.catT rfl rfl (by first | omega | (simp; done) | (simp; omega))) ?_
  refine Am ?_
  refine Qn (FW_seq (Sr (Am ?_)))
  refine Qn (FW_block (FW_loop' (fun x : Nat × List UInt8 => [(1, selfP b1), (6, str x.2), (7, I x.1)]) (fun x w' => (x.1 ≤ p.cols.length ∧ x.2 = unlines (lineW p.wh :: (p.cols.take x.1).map lineO) ∧ x.2.length ≤ 400100 + x.1 * 400100 ∧ ∀ (a : Nat) o, a < x.1 → p.cols[a]? = some o → badO o = false) ∧ Sep w noB [blk b1 [.slice W p.wh.length mw, .slice A r.length m, I p.group] 25] w') (fun x _ => p.cols.length - x.1) (0, whereW ++ x4 ++ [10]) ⟨rfl, rfl, rfl, trivial⟩ ⟨⟨Nat.zero_le _, by dsimp only; rw [List.take_zero, List.map_nil, hx4]; unfold unlines lineW; rw [List.flatMap_cons, List.flatMap_nil, List.append_nil], by simp [whereW]; omega, fun a o h => by omega⟩, H47⟩ (fun x τ w54 hI => ?_)))
  obtain ⟨i, s6⟩ := x
  obtain ⟨⟨hi, hs6, hs6l, hgood⟩, H54⟩ := hI
  dsimp only at hi hs6 hs6l hgood H54
  try simp only [upds, like, upd_ds]
  refine FW_seq (Sr (Mv ?_))
  refine Vf ?_
  refine Ld H54 ?_
  refine Vs ?_
  refine Vl ?_
  refine Qn (Cp rfl (fun hc60 => ?_) (fun hc60 => ?_))
  · have hlt : i < p.cols.length := by omega
    obtain ⟨vx, hx, hsx⟩ := hraw.at hlt
    have hpc : p.cols[i]? = some p.cols[i] := List.getElem?_eq_getElem hlt
    obtain ⟨o, ho⟩ : ∃ o, o = p.cols[i] := ⟨_, rfl⟩
    rw [← ho] at hx hsx hpc
    have hom := List.mem_of_getElem? hpc
    have hof := hfc o hom
    have hnl := name_len (hnn o hom)
    obtain ⟨tx, htx⟩ : ∃ tx, tx = (textS o.steps).1 := ⟨_, rfl⟩
    obtain ⟨te, hte⟩ : ∃ te, te = (textS o.steps).2 := ⟨_, rfl⟩
    have hno : badO o = true → textP p = ([], 2) := fun h => hbad (eq_false_of_ne_true fun hm => by rw [(may_parts.1 hm).2.2 o hom] at h; exact absurd h (by decide))
    have hnx : unlines (lineW p.wh :: (p.cols.take (i + 1)).map lineO) = ((((s6 ++ outW) ++ o.name) ++ [32]) ++ tx) ++ [10] := by
      rw [List.take_add_one, hpc, Option.toList_some, List.map_append, ← List.cons_append, List.map_cons, List.map_nil, unlines_snoc, ← hs6, htx]
      unfold lineO
      simp only [List.append_assoc]
    refine Sk (FW_seq (FW_block (Sr (Vf ?_))))
    refine Ld H54 ?_
    refine Mv ?_
    refine Vv (Gives.idxR rfl rfl (by assumption) (by omega)) (Vv (Gives.fieldR rfl (by assumption) (by omega)) ?_)
    refine Vv (Gives.loadE rfl H54 (by assumption) (by assumption) rfl) (FL_callQ H54 (textR_ok22 (hsx.keep H54.kept) hof) (h := fun w69 H69 k68 => ?_))
    rw [← htx, ← hte]
    refine Mv ?_
    refine Vx ?_
    refine Vx ?_
    refine Am ?_
    refine Am ?_
    refine Qn (FW_seq (Sr (Mv ?_)))
    refine Vn ?_
    refine Mv ?_
    refine FL_splitP (t := 49) rfl (fun hs78 => ?_) (fun hs78 => ?_)
    · have hres := hno (bad_iff.2 (.inl (by rw [← hte]; exact hs78)))
      refine Of (Of (Pt ?_))
      refine Qn (FW_cond_true rfl ?_)
      refine Sr (Am ?_)
      refine Am ?_
      refine Qn (Rs (Qblk_ret (Qseq_ret (Qround_ret (Qblk_ret (Qseq_ret (Qfn_ret (hR := ?_))))))))
      exact ⟨by rw [hres]; rfl, H69.kept⟩
    have hte0 : te = 0 := by omega
    have htxl : tx.length ≤ 400000 := by rw [htx]; exact text_len (by rw [← hte]; exact hte0) hof
    refine On (Mv ?_)
    refine On (Vv (Gives.eqlT rfl rfl) (Pf ?_))
    refine Qn (Cp rfl (fun hc88 => ?_) (fun hc88 => ?_))
    · have hres := hno (bad_iff.2 (.inr (by rw [← htx]; exact hc88)))
      refine Sr (Am ?_)
      refine Am ?_
      refine Qn (Rs (Qblk_ret (Qseq_ret (Qround_ret (Qblk_ret (Qseq_ret (Qfn_ret (hR := ?_))))))))
      exact ⟨by rw [hres]; rfl, H69.kept⟩
    have hok : badO o = false := eq_false_of_ne_true fun h => by
      rcases bad_iff.1 h with h | h
      · rw [← hte] at h; exact h hte0
      rw [← htx] at h; exact hc88 h
    refine Sk (FW_region (Mv ?_))
    refine Vv (Gives.catT rfl rfl (by first | omega | (simp; done) | (simp; omega))) ?_
    refine Vf ?_
    refine Ld H69 ?_
    refine Mv ?_
    refine Vv (Gives.idxR rfl rfl (by assumption) (by omega)) (Vv (Gives.fieldR rfl (by assumption) (by omega)) ?_)
    refine Vv (Gives.loadE rfl H69 (by assumption) (by assumption) rfl) (Vv (Gives.catT rfl rfl (by first | omega | (simp; done) | (simp; omega))) ?_)
    refine Vv (Gives.catT rfl rfl (by first | omega | (simp; done) | (simp; omega))) ?_
    refine Mv ?_
    refine Vv (Gives.catT rfl rfl (by first | omega | (simp; done) | (simp; omega))) ?_
    refine Vv (Gives.catT rfl rfl (by first | omega | (simp; done) | (simp; omega))) ?_
    refine Am ?_
    refine FL_nil (Qblk_normal (Qseq_normal (FW_region (Mv ?_))))
    refine Vv (Gives.addI rfl rfl rfl (by omega)) (Am ?_)
    refine FL_nil ?_
    exact Qround_normal (i + 1, ((((s6 ++ outW) ++ o.name) ++ [32]) ++ tx) ++ [10]) ⟨rfl, rfl, rfl, trivial⟩ ⟨⟨by dsimp only; omega, hnx.symm, by simp [outW]; omega, fun a u ha hu => by
    rcases Nat.lt_succ_iff_lt_or_eq.1 ha with e | e
    · exact hgood a u e hu
    subst e; rw [hpc] at hu; injection hu with hu; rw [← hu]; exact hok⟩, H69⟩ (by dsimp only; omega)
  have hil : i = p.cols.length := by omega
  rw [hil, List.take_length] at hs6
  have hmay : mayP p = true := may_parts.2 ⟨hnm, he0, fun o ho => by
    obtain ⟨a, ha⟩ := List.mem_iff_getElem?.1 ho
    exact hgood a o (by have := (List.getElem?_eq_some_iff.1 ha).1; omega) ha⟩
  have hfin : textP p = (s6 ++ (lineG p.group ++ [10]), 0) := by
    unfold textP
    rw [if_neg (by rw [hmay]; decide)]
    unfold linesP
    rw [← List.cons_append, unlines_snoc, ← hs6]
  unfold lineG at hfin
  refine FW_exit (Qseq_exit (Qround_exit (Qblk_exit (Qseq_normal (FW_seq (Sr (Vf ?_)))))))
  refine Ld H54 ?_
  refine Vl ?_
  refine Qn (Cp rfl (fun hc116 => ?_) (fun hc116 => ?_))
  · rw [if_pos hc116] at hfin
    refine Sr (Mv ?_)
    refine Vv (Gives.catT rfl rfl (by first | omega | (simp; done) | (simp; omega))) ?_
    refine Am ?_
    refine Am ?_
    refine Qn (Rs (Qfn_ret (hR := ?_)))
    exact ⟨by rw [hfin]; rfl, H54.kept⟩
  rw [if_neg hc116] at hfin
  obtain ⟨g, hg⟩ : ∃ g : Nat, p.group = g := ⟨p.group.toNat, by omega⟩
  have hgi : itoa p.group = decDigits g := by rw [hg]; exact if_neg (by omega)
  have hgl := itoa_small ⟨g, by omega⟩
  dsimp only at hgl
  rw [← hg, hgi] at hgl
  rw [hgi] at hfin
  refine Sk (Sr (Mv ?_))
  refine Vv (Gives.catT rfl rfl (by first | omega | (simp; done) | (simp; omega))) ?_
  refine Vf ?_
  refine Ld H54 ?_
  rw [hg]
  refine FL_callQ H54 (digits_ok11 g (by omega) _) (h := fun w129 H129 k128 => ?_)
  refine Vv (Gives.catT rfl rfl (by first | omega | (simp; done) | (simp; omega))) ?_
  refine Vv (Gives.catT rfl rfl (by first | omega | (simp; done) | (simp; omega))) ?_
  refine Am ?_
  refine Am ?_
  refine Qn (FW_ret (Qfn_ret (hR := ?_)))
  have e : s6 ++ ((groupW ++ decDigits g) ++ [10]) = ((s6 ++ groupW) ++ decDigits g) ++ [10] := by simp only [List.append_assoc]
  exact ⟨by rw [hfin, e]; rfl, H129.kept⟩
end
end Go.Proofs.YtolaedhdjcnijaaGreatDoor
