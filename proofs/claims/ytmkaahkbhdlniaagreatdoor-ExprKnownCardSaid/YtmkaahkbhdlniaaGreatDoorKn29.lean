/-
 The library's pieces of a text, one behind the other, walked.
-/
import Derived.Test.YtmkaahkbhdlniaaGreatDoorKn28
set_option linter.unusedVariables false
set_option linter.unusedSimpArgs false
namespace Go.Proofs.YtmkaahkbhdlniaaGreatDoor
open Go Go.Mw Go.Lib
set_option maxRecDepth 4000
theorem split_index_none {l : List UInt8} (h : Lib.indexByte l 32 = -1) : splitW 32 l = [l] :=
 split_word fun c hc e => by
  obtain ⟨k, hk⟩ := List.getElem?_of_mem hc
  exact Lib.indexByte_none h k (by rw [hk, e])
theorem split_index_some {l : List UInt8} {o : Nat} (h : Lib.indexByte l 32 = o) : o < l.length ∧ splitW 32 l = l.take o :: splitW 32 (l.drop (o + 1)) := by
 obtain ⟨h1, h2⟩ := Lib.indexByte_some h
 have hlt := (List.getElem?_eq_some_iff.1 h1).1
 have e : l = l.take o ++ 32 :: l.drop (o + 1) := by
  have e1 : l.drop o = 32 :: l.drop (o + 1) := by
   rw [List.drop_eq_getElem_cons hlt]
   congr 1
   rw [List.getElem?_eq_getElem hlt] at h1
   injection h1
  conv => lhs; rw [← List.take_append_drop o l, e1]
 refine ⟨hlt, ?_⟩
 have := split_app (sep := 32) (w := l.take o) (l := l.drop (o + 1)) fun c hc e => by
  obtain ⟨k, hk⟩ := List.getElem?_of_mem hc
  rw [List.getElem?_take] at hk
  split at hk
  ·exact h2 k (by omega) (by rw [hk, e])
  cases hk
 rw [← this, ← e]
section
variable {w : World}
theorem indexOne_ok (l : List UInt8) : Rets Tryz.prog 74 [str l, str [32]] w fun v w' => v = I (Lib.indexByte l 32) ∧ w = w' :=
 rets_same (Tryz.strings_Index_one ⟨l.toArray⟩ 32 w)
theorem split_iter {S : Nat → Prop} {w₀ : World} {J : List (List UInt8) → HP} {L : List (List UInt8) → List UInt8 → HP} {l D : Nat} {ro rj : Obj} {bP bS bV : Nat} {s : List UInt8} (hl : s.length ≤ 1000000)
    (HW : Sep w₀ S [obj l ro, obj D (.deferred (some [])), J [], blk bP [str [32]] 9, blk bS [str s] 9, blk bV [I 0] 3] w)
    (hy : ∀ (pre : List (List UInt8)) (x : List UInt8) (Fr : List HP) (W : World), pre ++ [x] <+: splitW 32 s → Sep w₀ S (obj l ro :: obj D (.deferred (some [])) :: J pre :: Fr) W → YieldB Tryz.prog l [str x] W fun b W' => if b = true then Sep w₀ S (obj l ro :: obj D (.deferred (some [])) :: J (pre ++ [x]) :: Fr) W' else Sep w₀ S [obj l rj, obj D (.deferred (some [])), L pre x] W') :
    Rets Tryz.prog 185 [.func (.yield l) #[] #[], selfP bP, selfP bS, selfP bV] w fun _ W' => Sep w₀ S [obj l ro, obj D (.deferred (some [])), J (splitW 32 s)] W' ∨ ∃ pre x, pre ++ [x] <+: splitW 32 s ∧ Sep w₀ S [obj l rj, obj D (.deferred (some [])), L pre x] W' := by
  have H := HW
  refine rets4 Tryz.func185 rfl rfl rfl rfl ?_
  refine FW_seq (Sr (Ld H ?_))
  refine Vt ?_
  refine Ve ?_
  refine Qn (Cp rfl (fun hc4 => ?_) (fun hc4 => ?_))
  · exact absurd hc4 (by decide)
  refine Sk (FW_seq (FW_block (FW_loop' (fun _ : List (List UInt8) × List UInt8 => [(0, .func (.yield l) #[] #[]), (1, selfP bP), (2, selfP bS), (3, selfP bV)]) (fun x w' => (x.1 ++ splitW 32 x.2 = splitW 32 s ∧ x.2.length ≤ s.length) ∧ Sep w₀ S [obj l ro, obj D (.deferred (some [])), J x.1, blk bP [str [32]] 9, blk bS [str x.2] 9, blk bV [I 0] 3] w') (fun x _ => x.2.length) ([], s) ⟨rfl, rfl, rfl, rfl, trivial⟩ ⟨⟨rfl, Nat.le_refl _⟩, H⟩ (fun x τ w7 hI => ?_))))
  obtain ⟨pre, t⟩ := x
  obtain ⟨⟨hsp, htl⟩, H7⟩ := hI
  dsimp only at hsp htl H7
  try simp only [upds, like, upd_ds, und_ds]
  refine FW_block (Sr (Ld H7 ?_))
  refine Ld H7 ?_
  refine FL_callS (indexOne_ok t) (h := ?_)
  refine Am ?_
  refine Qn (FW_seq (Sr (Mv ?_)))
  refine Vl ?_
  refine Qn (Cp rfl (fun hc14 => ?_) (fun hc14 => ?_))
  · have hneg : Lib.indexByte t 32 = -1 := by have h1 := hc14; have h2 := Lib.indexByte_ge t 32; omega
    have hpre : pre ++ [t] <+: splitW 32 s := by rw [← hsp, split_index_none hneg]; exact List.prefix_refl _
    have hall : pre ++ [t] = splitW 32 s := by rw [← hsp, split_index_none hneg]
    refine FW_exit (Qseq_exit (Qblk_exit_ne rfl (Qround_exit (Qblk_exit (Qseq_normal ?_)))))
    refine FW_region (Mv ?_)
    refine Ld H7 ?_
    refine FL_yieldB rfl (hy pre t _ _ hpre H7) rfl rfl (fun b8 w19 hyv => ?_)
    refine FL_nil (Qfn_normal (hR := ?_))
    cases b8 with
    | true => rw [if_pos rfl] at hyv; rw [← hall]; exact .inl (hyv.firsts (l := [_, _, _]))
    | false => rw [if_neg (by decide)] at hyv; exact .inr ⟨pre, t, hpre, hyv⟩
  obtain ⟨o, ho⟩ : ∃ o : Nat, Lib.indexByte t 32 = o := ⟨(Lib.indexByte t 32).toNat, by have h1 := hc14; omega⟩
  obtain ⟨holt, hot⟩ := split_index_some ho
  have hpre : pre ++ [t.take o] <+: splitW 32 s := by
    rw [← hsp, hot]
    exact ⟨splitW 32 (t.drop (o + 1)), by simp⟩
  rw [ho]
  refine Sk (Sr (Ld H7 ?_))
  refine Mv ?_
  refine Ld H7 ?_
  refine Vv (Gives.addI (c := (o : Int)) rfl rfl (by omega) (by omega)) (Vv (Gives.sliceToT (i := o) rfl rfl (by omega)) ?_)
  refine Am ?_
  refine Qn (FW_seq (Sr (Mv ?_)))
  refine Mv ?_
  refine FL_yieldB rfl (hy pre (t.take o) _ _ hpre H7) rfl rfl (fun b8 w31 hyv => ?_)
  refine Vv (Gives.not rfl) (Qn ?_)
  refine Cd rfl (fun hc33 => ?_) (fun hc33 => ?_)
  · have hb : b8 = false := by have h1 := hc33; revert h1; cases b8 <;> simp
    rw [hb, if_neg (by decide)] at hyv
    refine Rs (Qblk_ret (Qround_ret (Qblk_ret (Qseq_ret (Qfn_ret (hR := ?_))))))
    exact .inr ⟨pre, t.take o, hpre, hyv⟩
  have hb : b8 = true := by have h1 := hc33; revert h1; cases b8 <;> simp
  rw [hb, if_pos rfl] at hyv
  have H37 := hyv
  refine Sk (FW_region (Ld H37 ?_))
  refine Mv ?_
  refine Ld H37 ?_
  refine Vt ?_
  refine Vv (Gives.addI (c := ((o + 1 : Nat) : Int)) rfl rfl (by show (o : Int) + 1 = _; omega) (by omega)) (Vv (Gives.sliceFromT (i := o + 1) rfl rfl (by omega)) ?_)
  refine FL_store H37 (h := fun w45 H45 => ?_)
  refine FL_nil (Qblk_normal ?_)
  exact Qround_normal (pre ++ [t.take o], t.drop (o + 1)) ⟨rfl, rfl, rfl, rfl, trivial⟩ ⟨⟨by dsimp only; rw [← hsp, hot]; simp, by dsimp only; rw [List.length_drop]; omega⟩, H45⟩ (by dsimp only; rw [List.length_drop]; omega)
end
end Go.Proofs.YtmkaahkbhdlniaaGreatDoor
namespace Go.Mw
open Go.RowKit
theorem load_one {P : Program} {T : TypeId} [h1 : OneCell P T] {w : World} {b : Nat} {v : Value} {E : TypeId} (hb : w.heap[b]? = some (.cells [v].toArray E (0, 0))) : (loadVar T ⟨b, 0, none⟩).run P w = .ok v w := by
 have hc : w.cell? ⟨b, 0, none⟩ = some v := cell_blk hb 0
 simp [loadVar, h1.agg, hc]
theorem resCC {P : Program} {T U : TypeId} [OneCell P T] [OneCell P U] {σ : St} {w : World} {a b x y : Nat} {v u : Value} {E F : TypeId} (hx : w.heap[x]? = some (.cells [v].toArray E (0, 0))) (hy : w.heap[y]? = some (.cells [u].toArray F (0, 0)))
    (ha : σ a = .pointer (some ⟨x, 0, none⟩) := by exact rfl) (hb : σ b = .pointer (some ⟨y, 0, none⟩) := by exact rfl) : ResAll P σ w [.cell a T, .cell b U] [v, u] :=
  ⟨v, [u], ⟨x, 0, none⟩, rfl, ha, load_one hx, u, [], ⟨y, 0, none⟩, rfl, hb, load_one hy, rfl⟩
end Go.Mw
namespace Go.Proofs.YtmkaahkbhdlniaaGreatDoor
open Go Go.Mw Go.Lib
set_option maxRecDepth 4000
theorem split_le : ∀ (l : List UInt8), ∀ w ∈ splitW 32 l, w.length ≤ l.length
 | [], w, h => by
  have : w = [] := by simpa [splitW] using h
  rw [this]; simp
 | c :: l, w, h => by
  have ih := split_le l
  by_cases hc : c = 32
  ·rw [splitW, if_pos hc] at h
   rcases List.mem_cons.1 h with rfl | h
   ·simp
   have := ih w h; simp only [List.length_cons]; omega
  obtain ⟨w1, ws, e1, e2⟩ := split_cons (sep := 32) (l := l) hc
  rw [e2] at h
  rw [e1] at ih
  rcases List.mem_cons.1 h with rfl | h
  ·have := ih w1 (by simp)
   simp only [List.length_cons]; omega
  have := ih w (List.mem_cons_of_mem _ h)
  simp only [List.length_cons]; omega
theorem meant_fitsA (w : List UInt8) : fits (meantS w).n := by
 unfold meantS fits
 split
 ·dsimp only; omega
 split
 ·rename_i k hk
  have := List.mem_of_find?_eq_some hk
  simp at this
  dsimp only
  omega
 repeat' split
 all_goals first | exact parseN_fits _ | (dsimp only; omega)
theorem readAll_all : ∀ {ws : List (List UInt8)}, (∀ y ∈ ws, goodW (meantS y) y = true) → readAll ws = some (ws.map meantS)
 | [], _ => rfl
 | w :: ws, h => by
  rw [readAll, if_pos (h w (by simp)), readAll_all fun y hy => h y (List.mem_cons_of_mem _ hy)]
  rfl
theorem readAll_bad : ∀ {ws : List (List UInt8)} {x : List UInt8}, x ∈ ws → goodW (meantS x) x = false → readAll ws = none
 | w :: ws, x, hm, hb => by
  rw [readAll]
  split
  ·rename_i hg
   rcases List.mem_cons.1 hm with rfl | hm
   ·rw [hb] at hg; cases hg
   rw [readAll_bad hm hb]; rfl
  rfl
def rowCellH (b : Nat) (l : List StepM) : HP := exH fun v => star (blk b [v] 23) (rowD 57 3 stepCells v l)
def parJ (b2 b3 b4 : Nat) (pre : List (List UInt8)) : HP := starL [pureH (∀ y ∈ pre, goodW (meantS y) y = true), blk b2 [.slice none 0 0] 23, blk b3 [I 0] 30, rowCellH b4 (pre.map meantS)]
def parL (b2 b3 : Nat) (_ : List (List UInt8)) (x : List UInt8) : HP := starL [pureH (goodW (meantS x) x = false), blk b2 [.slice none 0 0] 23, blk b3 [I 4] 30]
section
variable {w : World}
theorem splitSeq_ok (s : List UInt8) : Rets Tryz.prog 140 [str s, str [32], I 0] w fun v w' => ∃ x : Nat × Nat × Nat, v = .func (.func 185) #[] #[selfP x.1, selfP x.2.1, selfP x.2.2] ∧ True ∧ Turn noB (star (blk x.1 [str [32]] 9) (star (blk x.2.1 [str s] 9) (blk x.2.2 [I 0] 3))) w w' := by
 have H := Sep.start0 w
 refine rets3 Tryz.func140 rfl rfl rfl rfl ?_
 refine Sr (FL_box H (h := fun b1 w2 H2 k1 => ?_))
 refine FL_box H2 (h := fun b3 w4 H4 k3 => ?_)
 refine FL_box H4 (h := fun b5 w6 H6 k5 => ?_)
 refine Am ?_
 refine Nx (Vv (Gives.makeFunc (fs := []) (us := []) (cs := [.tmp 4, .tmp 3, .tmp 5]) rfl rfl) (Am ?_))
 refine Qn (FW_ret (Qfn_ret (hR := ?_)))
 exact ⟨(b3, b1, b5), rfl, trivial, (Sep.join0 (Sep.front1 (Sep.join0 H6.front2))).turn⟩
theorem SplitSeq_ok (s : List UInt8) : Rets Tryz.prog 69 [str s, str [32]] w fun v w' => ∃ x : Nat × Nat × Nat, v = .func (.func 185) #[] #[selfP x.1, selfP x.2.1, selfP x.2.2] ∧ True ∧ Turn noB (star (blk x.1 [str [32]] 9) (star (blk x.2.1 [str s] 9) (blk x.2.2 [I 0] 3))) w w' := by
 have H := Sep.start0 w
 refine rets2 Tryz.func69 rfl rfl rfl rfl ?_
 refine Sr (Am ?_)
 refine Nx (Mv ?_)
 refine Mv ?_
 refine FL_call (splitSeq_ok s) rfl rfl (fun v' w5 hv => ?_)
 obtain ⟨x, rfl, _, hkk, F1, hq, hsub⟩ := hv
 have H5 := H.new hkk hq (fun b hb => (hsub b hb).resolve_left id)
 refine Am ?_
 refine Qn (FW_ret (Qfn_ret (hR := ?_)))
 exact ⟨x, rfl, trivial, H5.turn⟩
theorem countOne_ok (l : List UInt8) : Rets Tryz.prog 38 [str l, str [32]] w fun v w' => v = I ((l.count 32 : Nat) : Int) ∧ w = w' :=
 rets_same (Tryz.strings_Count_one ⟨l.toArray⟩ 32 w)
theorem parseE_ok (s : List UInt8) (hl : s.length ≤ 1000000 ∨ 1048576 < s.length) (hmx : s.length ≤ 1000000000) (hT : TabsX w) : Rets Tryz.prog 36 [str s] w fun v w' => ∃ x, v = .tuple #[x, I (parseS s).2] ∧ True ∧ Turn noB (rowD 57 3 stepCells x (parseS s).1) w w' := by
  have H := Sep.start0 w
  obtain ⟨res, hres⟩ : ∃ res, res = parseS s := ⟨_, rfl⟩
  rw [← hres]
  unfold parseS at hres
  refine retsD1 Tryz.func36 rfl rfl rfl rfl ?_
  refine Sr (FL_alloc H (h := fun b1 w2 H2 k1 => ?_))
  refine FL_alloc H2 (h := fun b3 w4 H4 k3 => ?_)
  refine Qn (FW_seq (Sr (Mv ?_)))
  refine Vt ?_
  refine Vg ?_
  refine Mv ?_
  refine FL_splitP (t := 10) rfl (fun hs9 => ?_) (fun hs9 => ?_)
  · rw [if_pos (.inl (by omega))] at hres
    refine Of (Of (Of (Pt ?_)))
    refine Qn (FW_cond_true rfl ?_)
    refine Sr (FL_store H4 (h := fun w13 H13 => ?_))
    refine FL_store H13 (h := fun w15 H15 => ?_)
    refine Qn (Rs (QfnD_ret (h := ?_)))
    exact ⟨[.slice none 0 0, I 5], resCC (H15.obj At1) (H15.obj At0), .slice none 0 0, by rw [hres]; rfl, trivial, by rw [hres]; exact (Sep.nilD H15 57 3 stepCells).first.turn⟩
  have hle : s.length ≤ 1000000 := by omega
  have hcl := count_le_len s 32
  refine On (Mv ?_)
  refine On (FL_callS (countOne_ok s) (h := ?_))
  refine On (Vv (Gives.geq rfl rfl) (Pf ?_))
  refine Qn (Cp rfl (fun hc22 => ?_) (fun hc22 => ?_))
  · rw [if_pos (.inr (by omega))] at hres
    refine Sr (FL_store H4 (h := fun w25 H25 => ?_))
    refine FL_store H25 (h := fun w27 H27 => ?_)
    refine Qn (Rs (QfnD_ret (h := ?_)))
    exact ⟨[.slice none 0 0, I 5], resCC (H27.obj At1) (H27.obj At0), .slice none 0 0, by rw [hres]; rfl, trivial, by rw [hres]; exact (Sep.nilD H27 57 3 stepCells).first.turn⟩
  have hc64 : s.count 32 < 64 := by omega
  rw [if_neg (by omega)] at hres
  refine Sk (FW_seq (Sr (Mv ?_)))
  refine Vv (Gives.eqlT rfl rfl) (Qn ?_)
  refine Cp rfl (fun hc32 => ?_) (fun hc32 => ?_)
  · rw [if_pos hc32] at hres
    refine Sr (FL_store H4 (h := fun w35 H35 => ?_))
    refine FL_store H35 (h := fun w37 H37 => ?_)
    refine Qn (Rs (QfnD_ret (h := ?_)))
    exact ⟨[.slice none 0 0, I 0], resCC (H37.obj At1) (H37.obj At0), .slice none 0 0, by rw [hres]; rfl, trivial, by rw [hres]; exact (Sep.nilD H37 57 3 stepCells).first.turn⟩
  rw [if_neg hc32] at hres
  refine Sk (Sr (FL_alloc H4 (h := fun b4 w41 H41 k40 => ?_)))
  refine Qn (FW_seq (Sr (Mv ?_)))
  refine FL_call (SplitSeq_ok s) rfl rfl (fun v' w44 hv => ?_)
  obtain ⟨⟨bP, bS, bV⟩, rfl, _, hkk, F1, hq, hsub⟩ := hv
  dsimp only at hq
  have H44 := H41.new hkk hq (fun b hb => (hsub b hb).resolve_left id)
  refine Qn (FW_block ?_)
  have hcs := count_split 32 s
  have HJ : Mw.Sep w noB (parJ b1 b3 b4 [] :: [blk bP [str [32]] 9, blk bS [str s] 9, blk bV [I 0] 3]) w44 := by
    have h1 := (Sep.nilD H44 57 3 stepCells).front2
    have h4 := Sep.pack0 (p := fun v => star (blk b4 [v] 23) (rowD 57 3 stepCells v [])) (.slice none 0 0) (Sep.join0 h1)
    have h7 := Sep.bundle (l := [pureH (∀ y ∈ ([] : List (List UInt8)), goodW (meantS y) y = true), _, _, _]) (rs := [_]) (Sep.addPure (fun y hy => absurd hy List.not_mem_nil) h4.front2.front3)
    exact h7.front1.star0.front1.star0.front3.front3.back1
  refine FW_rangeF (gf := 185) (lb := [selfP bP, selfP bS, selfP bV]) str (splitW 32 s) (parJ b1 b3 b4) (parL b1 b3) _ HJ rfl rfl ?_ ?_ ?_ ?_
  · intro l D ro rb pre x Fr W hpre HW
    have hxm : x ∈ splitW 32 s := hpre.subset (List.mem_append_right pre (List.mem_singleton.2 rfl))
    have hxl : x.length ≤ 1000000 := Nat.le_trans (split_le s x hxm) hle
    have hpl : pre.length + 1 ≤ 64 := by have := hpre.length_le; rw [List.length_append, List.length_singleton] at this; omega
    have hml : (pre.map meantS).length = pre.length := List.length_map _
    have hmp : (pre ++ [x]).map meantS = pre.map meantS ++ [meantS x] := by rw [List.map_append]; rfl
    refine FW_region (Am ?_)
    refine FL_nil (Qassign_normal ?_)
    refine ⟨[], HW, fun WB HB => ?_⟩
    have HB2 : Mw.Sep w noB (obj l rb :: obj D (.deferred (some [])) :: parJ b1 b3 b4 pre :: Fr) WB := HB
    replace HB2 := (HB2.front2).parts
    obtain ⟨hgood, HB3⟩ := HB2.pure0
    obtain ⟨v4, HB4⟩ := (Sep.front2 HB3).ex0
    replace HB := HB4.star0
    obtain ⟨B4, cb, rfl, hcb, hB4⟩ := Sep.formD HB At1
    refine FW_block (Sr (Mv ?_))
    refine FL_callQ HB (meantE_ok x hxl (hT.keep HB.kept)) (h := fun w52 H52 k51 => ?_)
    refine FL_alloc H52 (h := fun b6 w54 H54 k53 => ?_)
    refine FL_storeAll H54 (h := fun w56 H56 => ?_)
    refine Qn (FW_seq (Sr (FL_loadAll H56 (h := ?_))))
    refine FL_callQ H56 (may_ok (meantS x) (meant_fitsA x) (hT.keep H56.kept).utf) (h := fun w59 H59 k58 => ?_)
    refine Vv (Gives.not rfl) (Mv ?_)
    refine FL_split (t := 25) rfl (fun hs62 => ?_) (fun hs62 => ?_)
    · have hbad : goodW (meantS x) x = false := by
        have h1 := hs62
        unfold goodW
        revert h1
        cases mayS (meantS x) <;> simp
      refine Of (Of (Of (Of (Pt ?_))))
      refine Qn (FW_cond_true rfl ?_)
      refine Sr (FL_store H59 (h := fun w66 H66 => ?_))
      refine FL_store H66 (h := fun w68 H68 => ?_)
      refine Qn (Rs (Qblk_ret (Qleave_ret ?_)))
      exact (Sep.bundle (l := [pureH (goodW (meantS x) x = false), _, _]) (rs := [_, _]) (Sep.addPure hbad ((H68.front6.front6.front6.front6).firsts (l := [_, _, _, _])))).back2
    have hmx : mayS (meantS x) = true := by have h1 := hs62; revert h1; cases mayS (meantS x) <;> simp
    refine On (FL_loadAll H59 (h := ?_))
    refine On (FL_callQ H59 (wordE_ok (meantS x) hmx (meant_fitsA x) (hT.keep H59.kept)) (h := fun w73 H73 k72 => ?_))
    refine On (Mv ?_)
    refine On (Vv (Gives.neqT rfl rfl) (Pf ?_))
    refine Qn (Cp rfl (fun hc77 => ?_) (fun hc77 => ?_))
    · have hbad : goodW (meantS x) x = false := by
        unfold goodW
        rw [hmx, decide_eq_false (show ¬ wordS (meantS x) = x from hc77)]; rfl
      refine Sr (FL_store H73 (h := fun w80 H80 => ?_))
      refine FL_store H80 (h := fun w82 H82 => ?_)
      refine Qn (Rs (Qblk_ret (Qleave_ret ?_)))
      exact (Sep.bundle (l := [pureH (goodW (meantS x) x = false), _, _]) (rs := [_, _]) (Sep.addPure hbad ((H82.front6.front6.front6.front6).firsts (l := [_, _, _, _])))).back2
    have hgx : goodW (meantS x) x = true := goodW_iff.2 ⟨hmx, Classical.not_not.1 hc77⟩
    refine Sk (FW_region (Ld H73 ?_))
    refine FL_loadAll H73 (h := ?_)
    refine FL_buildSlice H73 (xs := [.tmp 32]) (out := [meantS x].flatMap stepCells) (Elems.many rfl rfl Elems.nil) rfl rfl rfl (fun bs w88 H88 k87 => ?_)
    refine FL_appendD H88 (news := [meantS x]) At2 (by rw [hml]; unfold maxLen; simp; omega) (by rw [hml]; show (pre.length + 1) * 32 ≤ _; omega) (by intro u hu; simp only [List.flatMap_cons, List.flatMap_nil, stepCells, List.append_nil, List.mem_cons, List.not_mem_nil, or_false] at hu; rcases hu with rfl | rfl | rfl <;> rfl) (h := ?_)
    intro v2 w90 H90
    rw [← hmp] at H90
    obtain ⟨B2, c2, rfl, hc2, hB2⟩ := Sep.formD H90 At2
    refine FL_store H90 (h := fun w92 H92 => ?_)
    refine FL_nil (Qblk_normal (Qleave_normal ?_))
    have h2 := Sep.pack0 (p := fun v => star (blk b4 [v] 23) (rowD 57 3 stepCells v ((pre ++ [x]).map meantS))) _ (Sep.join0 H92.drop0)
    have hg2 : ∀ y ∈ pre ++ [x], goodW (meantS y) y = true := by
      intro y hy
      rcases List.mem_append.1 hy with h | h
      · exact hgood y h
      rw [List.mem_singleton.1 h]; exact hgx
    exact (Sep.bundle (l := [pureH (∀ y ∈ pre ++ [x], goodW (meantS y) y = true), _, _, _]) (Sep.addPure hg2 h2.back2)).back2
  · intro l D ro rj W HW hy
    exact split_iter hle HW hy
  rotate_left 1
  · intro D W pre x hpre HD
    obtain ⟨hbad, HD2⟩ := ((HD.front1).parts).pure0
    have hr := readAll_bad (hpre.subset (List.mem_append_right pre (List.mem_singleton.2 rfl))) hbad
    rw [hr] at hres
    exact Qblk_ret (Qseq_ret (QfnD_one HD2 At2 (fun w1 H1 => ⟨[.slice none 0 0, I 4], resCC (H1.obj At0) (H1.obj At1), .slice none 0 0, by rw [hres]; rfl, trivial, by rw [hres]; exact (Sep.nilD H1 57 3 stepCells).first.turn⟩)))
  intro D w95 H95
  have H95 := (H95.front1).parts
  obtain ⟨hgood, H95⟩ := H95.pure0
  obtain ⟨v4, H95⟩ := (Sep.front2 H95).ex0
  have H95 := H95.star0
  obtain ⟨B4, cb, rfl, hcb, hB4⟩ := Sep.formD H95 At1
  rw [readAll_all hgood] at hres --on
  refine Qblk_normal (Qseq_normal (Sr (Ld H95 ?_)))
  refine FL_store H95 (h := fun w98 H98 => ?_)
  refine FL_store H98 (h := fun w100 H100 => ?_)
  refine Qn (FW_ret (QfnD_one H100 At4 (hR := fun w102 H102 => ?_)))
  exact ⟨[_, I 0], resCC (H102.obj At2) (H102.obj At3), _, by rw [hres]; rfl, trivial, by rw [hres]; exact H102.front1.first.turn⟩
end
end Go.Proofs.YtmkaahkbhdlniaaGreatDoor
namespace Go.Proofs.YtmkaahkbhdlniaaGreatDoor
open Go Go.Lib
set_option maxRecDepth 4000
def decF : Nat → Nat → List UInt8
 | 0, _ => []
 | f + 1, u => if u < 10 then [UInt8.ofNat (48 + u)] else decF f (u / 10) ++ [UInt8.ofNat (48 + u % 10)]
theorem decF_eq : ∀ (f u : Nat), u < 10 ^ f → 0 < f → decF f u = decDigits u
 | 0, u, _, h0 => absurd h0 (by decide)
 | f + 1, u, h, _ => by
  rw [decF, decDigits]
  by_cases hu : u < 10
  ·rw [if_pos hu, dif_pos hu]
  rw [if_neg hu, dif_neg hu]
  have h1 : u / 10 < 10 ^ f := by rw [Nat.pow_succ] at h; omega
  have h2 : 0 < f := by
   cases f with
   | zero => simp at h1; omega
   | succ f => exact Nat.succ_pos f
  rw [decF_eq f (u / 10) h1 h2]
def itoaF (n : Int) : List UInt8 := if n < 0 then 45 :: decF 20 n.natAbs else decF 20 n.toNat
theorem itoaF_eq {n : Int} (h : fits n) : itoaF n = itoa n := by
 unfold fits at h
 unfold itoaF itoa
 rw [decF_eq 20 n.natAbs (by omega) (by decide), decF_eq 20 n.toNat (by omega) (by decide)]
def wordF (x : StepM) : List UInt8 :=
 if x.kind = 1 then 35 :: itoaF x.n
 else if x.kind = 2 then itoaF x.n
 else if x.kind = 3 then (if x.n = 1 then [116, 114, 117, 101] else [102, 97, 108, 115, 101])
 else if x.kind = 4 then textW x.s
 else if x.kind = 5 then 120 :: hexL x.s
 else if x.kind = 6 then nullW x.n
 else signsW.getD (x.kind - 7).toNat []
theorem wordF_eq {x : StepM} (h : fits x.n) : wordF x = wordS x := by
 unfold wordF wordS
 rw [itoaF_eq h]
def readF : List (List UInt8) → Option (List StepM)
 | [] => some []
 | w :: l => if (mayS (meantS w) && decide (wordF (meantS w) = w)) = true then (readF l).map (meantS w :: ·) else none
theorem readF_eq : ∀ l, readF l = readAll l
 | [] => rfl
 | w :: l => by
  rw [readF, readAll, wordF_eq (meant_fitsA w), readF_eq l]
  rfl
def parseF (s : List UInt8) : List StepM × Int :=
 if 1048576 < s.length ∨ 64 ≤ s.count 32 then ([], 5) else if s = [] then ([], 0) else match readF (splitW 32 s) with
  | some l => (l, 0)
  | none => ([], 4)
theorem parseF_eq (s : List UInt8) : parseF s = parseS s := by
 unfold parseF parseS
 rw [readF_eq]
 cases readAll (splitW 32 s) <;> rfl
def smallC : List ColM := [⟨1, [], ⟨2, false⟩, cell0⟩, ⟨2, [], ⟨4, true⟩, cell0⟩, ⟨3, [], ⟨1, false⟩, cell0⟩]
def smallR : List CellM := [⟨false, 5, []⟩, ⟨true, 0, []⟩, ⟨false, 1, []⟩]
def givesP (s : List UInt8) : Int × (TypeM × Int) × (CellM × Int) := ((parseS s).2, typeS smallC (parseS s).1, evalS smallC (parseS s).1 smallR)
def givesF (s : List UInt8) : Int × (TypeM × Int) × (CellM × Int) := ((parseF s).2, typeS smallC (parseF s).1, evalS smallC (parseF s).1 smallR)
theorem givesF_eq (s : List UInt8) : givesF s = givesP s := by unfold givesF givesP; rw [parseF_eq]
def tx1 : List UInt8 := [35, 49, 32, 50, 32, 42, 32, 51, 32, 45]
theorem gives1 : givesP tx1 = (0, (⟨3, false⟩, 0), (⟨false, 7, []⟩, 0)) := by rw [← givesF_eq]; decide +kernel
def tx2 : List UInt8 := [35, 50, 32, 34, 97, 34, 32, 61]
theorem gives2 : givesP tx2 = (0, (⟨1, true⟩, 0), (⟨true, 0, []⟩, 0)) := by rw [← givesF_eq]; decide +kernel
def tx3 : List UInt8 := [35, 50, 32, 105, 115, 110, 117, 108, 108]
theorem gives3 : givesP tx3 = (0, (⟨1, false⟩, 0), (⟨false, 1, []⟩, 0)) := by rw [← givesF_eq]; decide +kernel
def tx4 : List UInt8 := [35, 50, 32, 34, 97, 34, 32, 61, 32, 35, 51, 32, 111, 114]
theorem gives4 : givesP tx4 = (0, (⟨1, true⟩, 0), (⟨false, 1, []⟩, 0)) := by rw [← givesF_eq]; decide +kernel
def tx5 : List UInt8 := [35, 50, 32, 34, 97, 34, 32, 61, 32, 35, 51, 32, 110, 111, 116, 32, 97, 110, 100]
theorem gives5 : givesP tx5 = (0, (⟨1, true⟩, 0), (⟨false, 0, []⟩, 0)) := by rw [← givesF_eq]; decide +kernel
def tx6 : List UInt8 := [35, 50, 32, 34, 92, 117, 48, 48, 50, 48, 98, 34, 32, 101, 108, 115, 101, 32, 108, 101, 110]
theorem gives6 : givesP tx6 = (0, (⟨3, false⟩, 0), (⟨false, 2, []⟩, 0)) := by rw [← givesF_eq]; decide +kernel
def tx7 : List UInt8 := [35, 49, 32, 57, 50, 50, 51, 51, 55, 50, 48, 51, 54, 56, 53, 52, 55, 55, 53, 56, 48, 55, 32, 43]
theorem gives7 : givesP tx7 = (0, (⟨3, false⟩, 0), (⟨false, 0, []⟩, 50)) := by rw [← givesF_eq]; decide +kernel
def tx8 : List UInt8 := [35, 49, 32, 57, 50, 50, 51, 51, 55, 50, 48, 51, 54, 56, 53, 52, 55, 55, 53, 56, 48, 55, 32, 43, 32, 105, 115, 110, 117, 108, 108]
theorem gives8 : givesP tx8 = (0, (⟨1, false⟩, 0), (⟨false, 0, []⟩, 50)) := by rw [← givesF_eq]; decide +kernel
def nx1 : List UInt8 := [35, 49, 32, 35, 51, 32, 43]
theorem none1 : givesP nx1 = (0, (type0, 220), (cell0, 220)) := by rw [← givesF_eq]; decide +kernel
def nx2 : List UInt8 := [35, 52]
theorem none2 : givesP nx2 = (0, (type0, 220), (cell0, 220)) := by rw [← givesF_eq]; decide +kernel
def nx3 : List UInt8 := [43]
theorem none3 : givesP nx3 = (0, (type0, 220), (cell0, 220)) := by rw [← givesF_eq]; decide +kernel
def nx4 : List UInt8 := []
theorem none4 : givesP nx4 = (0, (type0, 220), (cell0, 220)) := by rw [← givesF_eq]; decide +kernel
def nx5 : List UInt8 := [35, 49, 32, 35, 49]
theorem none5 : givesP nx5 = (0, (type0, 220), (cell0, 220)) := by rw [← givesF_eq]; decide +kernel
def badW : List (List UInt8) := [[48, 53], [35, 48], [120, 48, 70], [110, 117, 108, 108, 58, 105, 110, 116, 51, 50], [32], [34, 97, 32, 98, 34]]
theorem bad_parse : ∀ w ∈ badW, parseS w = ([], 4) ∧ w.length ≤ 100 := by
 intro w hw
 have key : ∀ w ∈ badW, parseF w = ([], 4) ∧ w.length ≤ 100 := by decide +kernel
 rw [← parseF_eq]
 exact key w hw
def useL : List StepM := [⟨1, 3, []⟩, ⟨1, 1, []⟩, ⟨1, 1, []⟩, ⟨7, 0, []⟩, ⟨1, 9, []⟩]
theorem use_eq : usesS useL = [1, 3, 9] := by decide +kernel
end Go.Proofs.YtmkaahkbhdlniaaGreatDoor
namespace Go.Proofs.YtmkaahkbhdlniaaGreatDoor
open Go Go.Mw Go.Lib
set_option maxRecDepth 4000
theorem parse_fits (s : List UInt8) : ∀ x ∈ (parseS s).1, fits x.n := by
 have key : ∀ (ws : List (List UInt8)) (l : List StepM), readAll ws = some l → ∀ x ∈ l, fits x.n := by
  intro ws
  induction ws with
  | nil => intro l h x hx; injection h with h; subst h; cases hx
  | cons w ws ih =>
   intro l h x hx
   rw [readAll] at h
   split at h
   ·obtain ⟨l', h1, h2⟩ := Option.map_eq_some_iff.1 h
    subst h2
    rcases List.mem_cons.1 hx with rfl | hx
    ·exact meant_fitsA w
    exact ih l' h1 x hx
   cases h
 intro x hx
 unfold parseS at hx
 split at hx
 ·cases hx
 split at hx
 ·cases hx
 split at hx
 ·rename_i l h; exact key _ l h x hx
 cases hx
theorem smallR_fits : RowFits smallR := by
 intro c hc
 simp only [smallR, List.mem_cons, List.not_mem_nil, or_false] at hc
 rcases hc with rfl | rfl | rfl <;> exact ⟨by decide, by decide⟩
section
variable {w : World}
theorem small_ok : Rets Tryz.prog 106 [] w fun v w' => ∃ x : Nat × Nat, v = .tuple #[.slice (some ⟨x.1, 0, none⟩) 3 3, .slice (some ⟨x.2, 0, none⟩) 3 3] ∧ True ∧ Turn noB (star (blk x.1 (smallC.flatMap colCells) 74) (blk x.2 (smallR.flatMap cellCells) 34)) w w' := by
 have H := Sep.start0 w
 refine rets0 Tryz.func106 rfl rfl rfl ?_
 refine Sr (Am ?_)
 refine Am ?_
 refine Nx (Vv (Gives.build (out := typeCells ⟨2, false⟩) (Fills.one rfl rfl rfl (by simp) rfl Fills.nil)) (Vv (Gives.build (out := colCells ⟨1, [], ⟨2, false⟩, cell0⟩) (Fills.one rfl rfl rfl (by simp) rfl (Fills.many rfl rfl (Nat.le_of_ble_eq_true rfl) rfl Fills.nil))) ?_))
 refine Vv (Gives.build (out := typeCells ⟨4, true⟩) (Fills.one rfl rfl rfl (by simp) rfl (Fills.one rfl rfl rfl (by simp) rfl Fills.nil))) (Vv (Gives.build (out := colCells ⟨2, [], ⟨4, true⟩, cell0⟩) (Fills.one rfl rfl rfl (by simp) rfl (Fills.many rfl rfl (Nat.le_of_ble_eq_true rfl) rfl Fills.nil))) ?_)
 refine Vv (Gives.build (out := typeCells ⟨1, false⟩) (Fills.one rfl rfl rfl (by simp) rfl Fills.nil)) (Vv (Gives.build (out := colCells ⟨3, [], ⟨1, false⟩, cell0⟩) (Fills.one rfl rfl rfl (by simp) rfl (Fills.many rfl rfl (Nat.le_of_ble_eq_true rfl) rfl Fills.nil))) ?_)
 refine FL_buildSlice H (xs := [.tmp 3, .tmp 5, .tmp 7]) (out := smallC.flatMap colCells) (Elems.many rfl rfl (Elems.many rfl rfl (Elems.many rfl rfl Elems.nil))) rfl rfl rfl (fun ba w10 H10 k9 => ?_)
 refine Vv (Gives.build (out := cellCells ⟨false, 5, []⟩) (Fills.one rfl rfl rfl (by simp) rfl Fills.nil)) (Vv (Gives.build (out := cellCells ⟨true, 0, []⟩) (Fills.one rfl rfl rfl (by simp) rfl Fills.nil)) ?_)
 refine Vv (Gives.build (out := cellCells ⟨false, 1, []⟩) (Fills.one rfl rfl rfl (by simp) rfl Fills.nil)) (FL_buildSlice H10 (xs := [.tmp 9, .tmp 10, .tmp 11]) (out := smallR.flatMap cellCells) (Elems.many rfl rfl (Elems.many rfl rfl (Elems.many rfl rfl Elems.nil))) rfl rfl rfl (fun bb w15 H15 k14 => ?_))
 refine Am ?_
 refine Am ?_
 refine Qn (FW_ret (Qfn_ret (hR := ?_)))
 exact ⟨(ba, bb), rfl, trivial, (Sep.join0 H15.front1).turn⟩
theorem gives_ok (s : List UInt8) (k : Int) (nl : Bool) (c : CellM) (e : Int) (hs : s.length ≤ 1000) (hg : givesP s = (0, (⟨k, nl⟩, 0), (c, e))) (hT : TabsX w) : Rets Tryz.prog 60 [str s, I k, .bool nl, agg (cellCells c), I e] w fun v w' => v = .bool true ∧ Kept noB w w' := by
 have H := Sep.start0 w
 have hg1 : (parseS s).2 = 0 := congrArg (fun x => x.1) hg
 have hg2 : typeS smallC (parseS s).1 = (⟨k, nl⟩, 0) := congrArg (fun x => x.2.1) hg
 have hg3 : evalS smallC (parseS s).1 smallR = (c, e) := congrArg (fun x => x.2.2) hg
 refine rets5 Tryz.func60 rfl rfl rfl rfl ?_
 refine Sr (FL_box H (cs := cellCells c) rfl (h := fun b8 w2 H2 k0 => ?_))
 refine Am ?_
 refine Nx (FL_call (small_ok) rfl rfl (fun v' w5 hv => ?_))
 obtain ⟨⟨ba, bb⟩, rfl, _, hkk, F1, hq, hsub⟩ := hv
 dsimp only at hq
 have H5 := (H2.new hkk hq (fun b hb => (hsub b hb).resolve_left id)).star0
 refine Mv ?_
 refine Vx ?_
 refine Vx ?_
 refine Am ?_
 refine Am ?_
 refine Nx (Mv ?_)
 refine FL_call (parseE_ok s (.inl (by omega)) (by omega) (hT.keep H5.kept)) rfl rfl (fun v' w13 hv => ?_)
 obtain ⟨x, rfl, _, hkk, F1, hq, hsub⟩ := hv
 have H13 := H5.new hkk hq (fun b hb => (hsub b hb).resolve_left id)
 obtain ⟨B, cb, rfl, hcb, hB⟩ := Sep.formD H13 At0
 refine Mv ?_
 refine Vx ?_
 refine Vx ?_
 refine Am ?_
 refine Am ?_
 refine Nx (Mv ?_)
 refine Mv ?_
 refine FL_callQ H13 (typeE_ok (cols := smallC) (l := (parseS s).1) ⟨some ⟨ba, 0, none⟩, 3, rfl, ⟨Nat.le_refl _, by decide⟩, Sep.blkRow H13 At1 rfl⟩ ⟨B, cb, rfl, ⟨hcb, Sep.capD H13 At0⟩, Sep_rdD H13 At0⟩ (parse_fits s) (hT.keep H13.kept).utf) (h := fun w22 H22 k21 => ?_)
 rw [hg2]
 refine Mv ?_
 refine Vx ?_
 refine Vx ?_
 refine FL_alloc H22 (h := fun b26 w27 H27 k26 => ?_)
 refine FL_storeAll H27 (h := fun w29 H29 => ?_)
 refine Am ?_
 refine Nx (Mv ?_)
 refine Mv ?_
 refine Mv ?_
 refine FL_callQ H29 (evalE_ok (cols := smallC) (l := (parseS s).1) (r := smallR) ⟨some ⟨ba, 0, none⟩, 3, rfl, ⟨Nat.le_refl _, by decide⟩, Sep.blkRow H29 At2 rfl⟩ ⟨B, cb, rfl, ⟨hcb, Sep.capD H29 At1⟩, Sep_rdD H29 At1⟩ ⟨some ⟨bb, 0, none⟩, 3, rfl, ⟨Nat.le_refl _, by decide⟩, Sep.blkRow H29 At3 rfl⟩ smallR_fits (parse_fits s) (hT.keep H29.kept).utf) (h := fun w35 H35 k34 => ?_)
 rw [hg3]
 refine Mv ?_
 refine Vx ?_
 refine Vx ?_
 refine FL_alloc H35 (h := fun b39 w40 H40 k39 => ?_)
 refine FL_storeAll H40 (h := fun w42 H42 => ?_)
 refine Am ?_
 refine Nx ?_
 rw [hg1]
 refine Mv ?_
 refine Ve ?_
 refine Mv ?_
 refine FL_splitP (t := 43) rfl (fun hs47 => ?_) (fun hs47 => ?_)
 ·refine On (Mv ?_)
  refine On (Ve ?_)
  refine Pt ?_
  refine Mv ?_
  refine FL_splitP (t := 47) rfl (fun hs52 => ?_) (fun hs52 => ?_)
  ·refine On (FL_loadAll H42 (h := ?_))
   refine On (Mv ?_)
   refine On (Mv ?_)
   refine On (Vv (Gives.build (out := typeCells ⟨k, nl⟩) (Fills.one rfl rfl rfl (by simp) rfl (Fills.one rfl rfl rfl (by simp) rfl Fills.nil))) (On ?_))
   refine Vv (Gives.eqlG (enc := typeCells) _ _ rfl rfl) (Pt ?_)
   refine Mv ?_
   refine FL_splitP (t := 54) rfl (fun hs60 => ?_) (fun hs60 => ?_)
   ·refine On (FL_loadAll H42 (h := ?_))
    refine On (FL_loadAll H42 (h := ?_))
    refine On (Vv (Gives.eqlG (enc := cellCells) _ _ rfl rfl) (Pt ?_))
    refine Mv ?_
    refine FL_splitP (t := 59) rfl (fun hs66 => ?_) (fun hs66 => ?_)
    ·refine On (Mv ?_)
     refine On (Mv ?_)
     refine On (Ve ?_)
     refine Pt ?_
     refine Am ?_
     refine Qn (FW_ret (Qfn_ret (hR := ?_)))
     exact ⟨by simp [resPack], H42.kept⟩
    exact (hs66 (by first | trivial | rfl)).elim
   exact (hs60 (by first | trivial | rfl)).elim
  exact (hs52 (by first | trivial | rfl)).elim
 exact (hs47 (by first | trivial | rfl)).elim
theorem none_ok (s : List UInt8) (hs : s.length ≤ 1000) (hg : givesP s = (0, (type0, 220), (cell0, 220))) (hT : TabsX w) : Rets Tryz.prog 61 [str s] w fun v w' => v = .bool true ∧ Kept noB w w' := by
 have H := Sep.start0 w
 have hg1 : (parseS s).2 = 0 := congrArg (fun x => x.1) hg
 have hg2 : typeS smallC (parseS s).1 = (type0, 220) := congrArg (fun x => x.2.1) hg
 have hg3 : evalS smallC (parseS s).1 smallR = (cell0, 220) := congrArg (fun x => x.2.2) hg
 refine rets1 Tryz.func61 rfl rfl rfl rfl ?_
 refine Sr (Am ?_)
 refine Nx (FL_call (small_ok) rfl rfl (fun v' w3 hv => ?_))
 obtain ⟨⟨ba, bb⟩, rfl, _, hkk, F1, hq, hsub⟩ := hv
 dsimp only at hq
 have H3 := (H.new hkk hq (fun b hb => (hsub b hb).resolve_left id)).star0
 refine Mv ?_
 refine Vx ?_
 refine Vx ?_
 refine Am ?_
 refine Am ?_
 refine Nx (Mv ?_)
 refine FL_call (parseE_ok s (.inl (by omega)) (by omega) (hT.keep H3.kept)) rfl rfl (fun v' w11 hv => ?_)
 obtain ⟨x, rfl, _, hkk, F1, hq, hsub⟩ := hv
 have H11 := H3.new hkk hq (fun b hb => (hsub b hb).resolve_left id)
 obtain ⟨B, cb, rfl, hcb, hB⟩ := Sep.formD H11 At0
 refine Mv ?_
 refine Vx ?_
 refine Vx ?_
 refine Am ?_
 refine Am ?_
 refine Nx (Mv ?_)
 refine Mv ?_
 refine FL_callQ H11 (typeE_ok (cols := smallC) (l := (parseS s).1) ⟨some ⟨ba, 0, none⟩, 3, rfl, ⟨Nat.le_refl _, by decide⟩, Sep.blkRow H11 At1 rfl⟩ ⟨B, cb, rfl, ⟨hcb, Sep.capD H11 At0⟩, Sep_rdD H11 At0⟩ (parse_fits s) (hT.keep H11.kept).utf) (h := fun w20 H20 k19 => ?_)
 rw [hg2]
 refine Mv ?_
 refine Vx ?_
 refine Vx ?_
 refine FL_alloc H20 (h := fun b24 w25 H25 k24 => ?_)
 refine FL_storeAll H25 (h := fun w27 H27 => ?_)
 refine Am ?_
 refine Nx (Mv ?_)
 refine Mv ?_
 refine Mv ?_
 refine FL_callQ H27 (evalE_ok (cols := smallC) (l := (parseS s).1) (r := smallR) ⟨some ⟨ba, 0, none⟩, 3, rfl, ⟨Nat.le_refl _, by decide⟩, Sep.blkRow H27 At2 rfl⟩ ⟨B, cb, rfl, ⟨hcb, Sep.capD H27 At1⟩, Sep_rdD H27 At1⟩ ⟨some ⟨bb, 0, none⟩, 3, rfl, ⟨Nat.le_refl _, by decide⟩, Sep.blkRow H27 At3 rfl⟩ smallR_fits (parse_fits s) (hT.keep H27.kept).utf) (h := fun w33 H33 k32 => ?_)
 rw [hg3]
 refine Mv ?_
 refine Vx ?_
 refine Vx ?_
 refine FL_alloc H33 (h := fun b37 w38 H38 k37 => ?_)
 refine FL_storeAll H38 (h := fun w40 H40 => ?_)
 refine Am ?_
 refine Nx ?_
 rw [hg1]
 refine Mv ?_
 refine Ve ?_
 refine Mv ?_
 refine FL_splitP (t := 35) rfl (fun hs45 => ?_) (fun hs45 => ?_)
 ·refine On (Mv ?_)
  refine On (Ve ?_)
  refine Pt ?_
  refine Mv ?_
  refine FL_splitP (t := 39) rfl (fun hs50 => ?_) (fun hs50 => ?_)
  ·refine On (FL_loadAll H40 (h := ?_))
   refine On (Vv (Gives.build (out := typeCells type0) Fills.nil) (On ?_))
   refine Vv (Gives.eqlG (enc := typeCells) _ _ rfl rfl) (Pt ?_)
   refine Mv ?_
   refine FL_splitP (t := 44) rfl (fun hs56 => ?_) (fun hs56 => ?_)
   ·refine On (FL_loadAll H40 (h := ?_))
    refine On (Vv (Gives.build (out := cellCells cell0) Fills.nil) (On ?_))
    refine Vv (Gives.eqlG (enc := cellCells) _ _ rfl rfl) (Pt ?_)
    refine Mv ?_
    refine FL_splitP (t := 49) rfl (fun hs62 => ?_) (fun hs62 => ?_)
    ·refine On (Mv ?_)
     refine On (Ve ?_)
     refine Pt ?_
     refine Am ?_
     refine Qn (FW_ret (Qfn_ret (hR := ?_)))
     exact ⟨by simp [resPack], H40.kept⟩
    exact (hs62 (by first | trivial | rfl)).elim
   exact (hs56 (by first | trivial | rfl)).elim
  exact (hs50 (by first | trivial | rfl)).elim
 exact (hs45 (by first | trivial | rfl)).elim
end
section
variable {w : World}
theorem works_ok (hT : TabsX w) : Rets Tryz.prog 27 [] w fun v w' => v = .bool true ∧ Kept noB w w' := by
 have H := Sep.start0 w
 refine rets0 Tryz.func27 rfl rfl rfl ?_
 refine Sr (Am ?_)
 refine Nx (Vv (Gives.build (out := cellCells cellNull) (Fills.one rfl rfl rfl (by simp) rfl Fills.nil)) (FL_alloc H (h := fun b1 w4 H4 k3 => ?_)))
 refine FL_storeAll H4 (h := fun w6 H6 => ?_)
 refine Qn (FW_seq (Sr (Vv (Gives.build (out := cellCells ⟨false, 7, []⟩) (Fills.one rfl rfl rfl (by simp) rfl Fills.nil)) (FL_callQ H6 (gives_ok tx1 3 false ⟨false, 7, []⟩ 0 (by decide) gives1 (hT.keep H6.kept)) (h := fun w9 H9 k8 => ?_)))))
 refine Vv (Gives.not rfl) (Mv ?_)
 refine FL_split (t := 10) rfl (fun hs12 => ?_) (fun hs12 => ?_)
 ·exact Bool.noConfusion hs12
 refine On (FL_loadAll H9 (h := ?_))
 refine On (FL_callQ H9 (gives_ok tx2 1 true cellNull 0 (by decide) gives2 (hT.keep H9.kept)) (h := fun w16 H16 k15 => ?_))
 refine On (Vv (Gives.not rfl) (Pf ?_))
 refine Mv ?_
 refine FL_split (t := 15) rfl (fun hs20 => ?_) (fun hs20 => ?_)
 ·exact Bool.noConfusion hs20
 refine On (Vv (Gives.build (out := cellCells ⟨false, 1, []⟩) (Fills.one rfl rfl rfl (by simp) rfl Fills.nil)) (On ?_))
 refine FL_callQ H16 (gives_ok tx3 1 false ⟨false, 1, []⟩ 0 (by decide) gives3 (hT.keep H16.kept)) (h := fun w24 H24 k23 => ?_)
 refine On (Vv (Gives.not rfl) (Pf ?_))
 refine Mv ?_
 refine FL_split (t := 20) rfl (fun hs28 => ?_) (fun hs28 => ?_)
 ·exact Bool.noConfusion hs28
 refine On (Vv (Gives.build (out := cellCells ⟨false, 1, []⟩) (Fills.one rfl rfl rfl (by simp) rfl Fills.nil)) (On ?_))
 refine FL_callQ H24 (gives_ok tx4 1 true ⟨false, 1, []⟩ 0 (by decide) gives4 (hT.keep H24.kept)) (h := fun w32 H32 k31 => ?_)
 refine On (Vv (Gives.not rfl) (Pf ?_))
 refine Mv ?_
 refine FL_split (t := 25) rfl (fun hs36 => ?_) (fun hs36 => ?_)
 ·exact Bool.noConfusion hs36
 refine On (Vv (Gives.build (out := cellCells ⟨false, 0, []⟩) Fills.nil) (On ?_))
 refine FL_callQ H32 (gives_ok tx5 1 true ⟨false, 0, []⟩ 0 (by decide) gives5 (hT.keep H32.kept)) (h := fun w40 H40 k39 => ?_)
 refine On (Vv (Gives.not rfl) (Pf ?_))
 refine Mv ?_
 refine FL_split (t := 30) rfl (fun hs44 => ?_) (fun hs44 => ?_)
 ·exact Bool.noConfusion hs44
 refine On (Vv (Gives.build (out := cellCells ⟨false, 2, []⟩) (Fills.one rfl rfl rfl (by simp) rfl Fills.nil)) (On ?_))
 refine FL_callQ H40 (gives_ok tx6 3 false ⟨false, 2, []⟩ 0 (by decide) gives6 (hT.keep H40.kept)) (h := fun w48 H48 k47 => ?_)
 refine On (Vv (Gives.not rfl) (Pf ?_))
 refine Mv ?_
 refine FL_split (t := 35) rfl (fun hs52 => ?_) (fun hs52 => ?_)
 ·exact Bool.noConfusion hs52
 refine On (Vv (Gives.build (out := cellCells ⟨false, 0, []⟩) Fills.nil) (On ?_))
 refine FL_callQ H48 (gives_ok tx7 3 false ⟨false, 0, []⟩ 50 (by decide) gives7 (hT.keep H48.kept)) (h := fun w56 H56 k55 => ?_)
 refine On (Vv (Gives.not rfl) (Pf ?_))
 refine Mv ?_
 refine FL_split (t := 40) rfl (fun hs60 => ?_) (fun hs60 => ?_)
 ·exact Bool.noConfusion hs60
 refine On (Vv (Gives.build (out := cellCells ⟨false, 0, []⟩) Fills.nil) (On ?_))
 refine FL_callQ H56 (gives_ok tx8 1 false ⟨false, 0, []⟩ 50 (by decide) gives8 (hT.keep H56.kept)) (h := fun w64 H64 k63 => ?_)
 refine On (Vv (Gives.not rfl) (Pf ?_))
 refine Qn (Cd rfl (fun hc67 => ?_) (fun hc67 => ?_))
 ·exact Bool.noConfusion hc67
 refine Sk (FW_seq (Sr (FL_callQ H64 (none_ok nx1 (by decide) none1 (hT.keep H64.kept)) (h := fun w70 H70 k69 => ?_))))
 refine Vv (Gives.not rfl) (Mv ?_)
 refine FL_split (t := 47) rfl (fun hs73 => ?_) (fun hs73 => ?_)
 ·exact Bool.noConfusion hs73
 refine On (FL_callQ H70 (none_ok nx2 (by decide) none2 (hT.keep H70.kept)) (h := fun w76 H76 k75 => ?_))
 refine On (Vv (Gives.not rfl) (Pf ?_))
 refine Mv ?_
 refine FL_split (t := 51) rfl (fun hs80 => ?_) (fun hs80 => ?_)
 ·exact Bool.noConfusion hs80
 refine On (FL_callQ H76 (none_ok nx3 (by decide) none3 (hT.keep H76.kept)) (h := fun w83 H83 k82 => ?_))
 refine On (Vv (Gives.not rfl) (Pf ?_))
 refine Mv ?_
 refine FL_split (t := 55) rfl (fun hs87 => ?_) (fun hs87 => ?_)
 ·exact Bool.noConfusion hs87
 refine On (FL_callQ H83 (none_ok nx4 (by decide) none4 (hT.keep H83.kept)) (h := fun w90 H90 k89 => ?_))
 refine On (Vv (Gives.not rfl) (Pf ?_))
 refine Mv ?_
 refine FL_split (t := 59) rfl (fun hs94 => ?_) (fun hs94 => ?_)
 ·exact Bool.noConfusion hs94
 refine On (FL_callQ H90 (none_ok nx5 (by decide) none5 (hT.keep H90.kept)) (h := fun w97 H97 k96 => ?_))
 refine On (Vv (Gives.not rfl) (Pf ?_))
 refine Mv ?_
 refine FL_split (t := 63) rfl (fun hs101 => ?_) (fun hs101 => ?_)
 ·exact Bool.noConfusion hs101
 refine On (Vv (Gives.build (out := stepCells ⟨1, 3, []⟩) (Fills.one rfl rfl rfl (by simp) rfl (Fills.one rfl rfl rfl (by simp) rfl Fills.nil))) (On ?_))
 refine Vv (Gives.build (out := stepCells ⟨1, 1, []⟩) (Fills.one rfl rfl rfl (by simp) rfl (Fills.one rfl rfl rfl (by simp) rfl Fills.nil))) (On ?_)
 refine Vv (Gives.build (out := stepCells ⟨1, 1, []⟩) (Fills.one rfl rfl rfl (by simp) rfl (Fills.one rfl rfl rfl (by simp) rfl Fills.nil))) (On ?_)
 refine Vv (Gives.build (out := stepCells ⟨7, 0, []⟩) (Fills.one rfl rfl rfl (by simp) rfl Fills.nil)) (On ?_)
 refine Vv (Gives.build (out := stepCells ⟨1, 9, []⟩) (Fills.one rfl rfl rfl (by simp) rfl (Fills.one rfl rfl rfl (by simp) rfl Fills.nil))) (On ?_)
 refine FL_buildSlice H97 (xs := [.tmp 64, .tmp 65, .tmp 66, .tmp 67, .tmp 68]) (out := useL.flatMap stepCells) (Elems.many rfl rfl (Elems.many rfl rfl (Elems.many rfl rfl (Elems.many rfl rfl (Elems.many rfl rfl Elems.nil))))) rfl rfl rfl (fun ba w109 H109 k108 => ?_)
 refine On (FL_call (usesE_ok (l := useL) ⟨some ⟨ba, 0, none⟩, 5, rfl, ⟨Nat.le_refl _, by decide⟩, Sep.blkRow H109 At0 rfl⟩ (by decide)) rfl rfl (fun v' w111 hv => ?_))
 obtain ⟨x, rfl, _, hkk, F1, hq, hsub⟩ := hv
 have H111 := H109.new hkk hq (fun b hb => (hsub b hb).resolve_left id)
 obtain ⟨B, cb, rfl, hcb, hB⟩ := Sep.formD H111 At0
 refine On (FL_buildSlice H111 (xs := [_, _, _]) (out := [1, 3, 9].flatMap intCells) (Elems.one rfl rfl (Elems.one rfl rfl (Elems.one rfl rfl Elems.nil))) rfl rfl rfl (fun bb w113 H113 k112 => ?_))
 refine On (FL_callQ H113 (intsEq_ok (a := usesS useL) (b := [1, 3, 9]) ⟨B, cb, rfl, ⟨hcb, Sep.capD H113 At1⟩, Sep_rdD H113 At1⟩ ⟨some ⟨bb, 0, none⟩, 3, rfl, ⟨Nat.le_refl _, by decide⟩, Sep.blkRow H113 At0 rfl⟩) (h := fun w115 H115 k114 => ?_))
 rw [decide_eq_true use_eq]
 refine On (Vv (Gives.not rfl) (Pf ?_))
 refine Qn (Cd rfl (fun hc118 => ?_) (fun hc118 => ?_))
 ·exact Bool.noConfusion hc118
 refine Sk (Sr (FL_buildSlice H115 (xs := [_, _, _, _, _, _]) (out := badW.flatMap textCells) (Elems.one rfl rfl (Elems.one rfl rfl (Elems.one rfl rfl (Elems.one rfl rfl (Elems.one rfl rfl (Elems.one rfl rfl Elems.nil)))))) rfl rfl rfl (fun bd w121 H121 k120 => ?_)))
 refine Am ?_
 refine Qn (FW_seq (Sr (Am ?_)))
 refine Qn (FW_block (FW_loop' (fun i : Nat => [(2, .slice (some ⟨bd, 0, none⟩) 6 6), (3, I i)]) (fun i w' => i ≤ 6 ∧ Sep w noB [blk bd (badW.flatMap textCells) 9] w') (fun i _ => 6 - i) 0 ⟨rfl, rfl, trivial⟩ ⟨Nat.zero_le _, H121.first⟩ (fun i τ w125 hI => ?_)))
 obtain ⟨hi, H125⟩ := hI
 try simp only [upds, like, upd_ds, und_ds]
 refine FW_seq (Sr (Mv ?_))
 refine Mv ?_
 refine Vs ?_
 refine Vl ?_
 refine Qn (Cp rfl (fun hc130 => ?_) (fun hc130 => ?_))
 ·have hlt : i < badW.length := by show i < 6; omega
  obtain ⟨x, hx⟩ := get_some hlt
  obtain ⟨hpx, hxl⟩ := bad_parse x (List.mem_of_getElem? hx)
  have hRb : Rd w125 (some ⟨bd, 0, none⟩) textCells 1 badW := Sep.blkRow H125 At0 rfl
  refine Sk (FW_seq (FW_block (Sr (Mv ?_))))
  refine Mv ?_
  refine Vv (Gives.idxR (l := badW) (enc := textCells) rfl rfl hRb hlt) (Vv (Gives.loadW (f := 0) rfl hRb hx rfl) ?_)
  refine FL_call (parseE_ok x (.inl (by omega)) (by omega) (hT.keep H125.kept)) rfl rfl (fun v' w137 hv => ?_)
  obtain ⟨y, rfl, _, hkk, F1, hq, hsub⟩ := hv
  have H137 := H125.new hkk hq (fun b hb => (hsub b hb).resolve_left id)
  rw [hpx] at H137
  obtain ⟨B2, cb2, rfl, hcb2, hB2⟩ := Sep.formD H137 At0
  rw [hpx]
  refine Mv ?_
  refine Vx ?_
  refine Vx ?_
  refine Am ?_
  refine Am ?_
  refine Nx (Mv ?_)
  refine Vn ?_
  refine Mv ?_
  refine FL_splitP (t := 92) rfl (fun hs146 => ?_) (fun hs146 => ?_)
  ·exact (hs146 (by first | trivial | rfl)).elim
  refine On (Mv ?_)
  refine On (Vs ?_)
  refine On (Vn ?_)
  refine Pf ?_
  refine Qn (Cp rfl (fun hc152 => ?_) (fun hc152 => ?_))
  ·exact (hc152 (by first | trivial | rfl)).elim
  refine FW_skip (Qblk_normal (Qseq_normal (FW_region (Mv ?_))))
  refine Vv (Gives.addI (c := ((i + 1 : Nat) : Int)) rfl rfl (by omega) (by omega)) (Am ?_)
  refine FL_nil ?_
  exact Qround_normal (i + 1) ⟨rfl, rfl, trivial⟩ ⟨by omega, H137.front1.first⟩ (by omega)
 refine FW_exit (Qseq_exit (Qround_exit (Qblk_exit (Qseq_normal (Sr (Am ?_))))))
 refine Qn (FW_ret (Qfn_ret (hR := ?_)))
 exact ⟨rfl, H125.kept⟩
end
end Go.Proofs.YtmkaahkbhdlniaaGreatDoor
