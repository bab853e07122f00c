/-
 What the law asks of its examples, walked.
-/
import Derived.Test.YtolaedhdjcnijaaGreatDoorKs23
set_option linter.unusedVariables false
set_option linter.unusedSimpArgs false
namespace Go.Proofs.YtolaedhdjcnijaaGreatDoor
open Go Go.Mw Go.Lib
set_option maxRecDepth 4000
theorem plan_form {w : World} {v : Value} {p : PlanM} (h : PlanIn w v p) : ∃ A a B b, v = agg [.slice A p.wh.length a, .slice B p.cols.length b, I p.group] := by
 obtain ⟨vw, vc, rfl, ⟨A, a, rfl, _⟩, r, ⟨B, b, rfl, _⟩, hr⟩ := h
 exact ⟨A, a, B, b, by rw [hr.len]⟩
section
variable {w : World}
theorem replaceSl_ok (l : List UInt8) (hl : l.length ≤ 10000000) (hT : TabsX w) : Rets Tryz.prog 98 [str l, str [47], str [10]] w fun v w' => v = str (slash l) ∧ Kept noB w w' := by
 obtain ⟨m, hm⟩ := hT.len
 have h1 := Lib.countB_le ⟨#[47]⟩ (by decide) l.length ⟨l.toArray⟩ (by rw [Mw.size_mk]; exact Nat.le_refl _)
 rw [Mw.size_mk] at h1
 have := rets_below (Tryz.strings_ReplaceAll ⟨l.toArray⟩ ⟨#[47]⟩ ⟨#[10]⟩ m w (by rw [Mw.size_mk]; omega) hm (by decide) (by
  rw [Mw.size_mk]
  show l.length + Lib.countB ⟨l.toArray⟩ ⟨#[47]⟩ * 1 ≤ _
  omega))
 have e : Lib.replaceAll l [47] [10] = slash l := replaceAll_one 47 _ l (by decide)
 rw [← e]
 exact this
theorem read_ok (s : List UInt8) {p : PlanM} (hs : s.length ≤ 1000) (hp : parseP (slash s) = (p, 0, 0)) (hT : TabsX w) : Rets Tryz.prog 97 [str s] w fun v w' => ∃ x, v = .tuple #[x, .bool true] ∧ True ∧ Turn noB (planH x p) w w' := by
 have H := Sep.start0 w
 have hsl := slash_len s
 refine retsC1 Tryz.func97 rfl rfl rfl rfl ?_
 refine Sr (FL_alloc H (h := fun b2 w2 H2 k1 => ?_))
 refine Am ?_
 refine Nx (Mv ?_)
 refine FL_callQ H2 (replaceSl_ok s (by omega) (hT.keep H2.kept)) (h := fun w6 H6 k5 => ?_)
 refine FL_callN H6 (parsePE_ok (slash s) (.inl (by omega)) (by omega) (hT.keep H6.kept)) (h := fun x w8 _ H8 k7 => ?_)
 rw [hp] at H8 ⊢
 dsimp only at H8 ⊢
 obtain ⟨A, a, B, b, rfl⟩ := plan_form (Sep.sees H8 At0)
 refine Mv ?_
 refine Vx ?_
 refine Vx ?_
 refine Vx ?_
 refine FL_alloc H8 (h := fun b4 w14 H14 k13 => ?_)
 refine FL_storeAll H14 (h := fun w16 H16 => ?_)
 refine Am ?_
 refine Am ?_
 refine Nx (FL_loadAll H16 (h := ?_))
 refine Mv ?_
 refine Ve ?_
 refine Mv ?_
 refine FL_splitP (t := 17) rfl (fun hs23 => ?_) (fun hs23 => ?_)
 ·refine On (Mv ?_)
  refine On (Ve ?_)
  refine Pt ?_
  refine FL_storeAll H16 (h := fun w28 H28 => ?_)
  refine Am ?_
  refine Qn (FW_ret (QfnC_ret (h := ?_)))
  exact ⟨_, resC2 H28, _, rfl, trivial, H28.front1.first.turn⟩
 exact (hs23 trivial).elim
theorem smallC_ok : Rets Tryz.prog 53 [] w fun v w' => ∃ x : Nat, v = .slice (some ⟨x, 0, none⟩) 3 3 ∧ True ∧ Turn noB (blk x (smallP.flatMap colCells) 49) w w' := by
 have H := Sep.start0 w
 refine rets0 Tryz.func53 rfl rfl rfl ?_
 refine Sr (Am ?_)
 refine Nx (Vv (Gives.build (out := typeCells ⟨2, false⟩) (Fills.one rfl rfl rfl (by simp) rfl Fills.nil)) (Vv (Gives.build (out := colCells ⟨1, [], ⟨2, false⟩, cell0⟩) (Fills.one rfl rfl rfl (by simp) rfl (Fills.many rfl rfl (Nat.le_of_ble_eq_true rfl) rfl Fills.nil))) ?_))
 refine Vv (Gives.build (out := typeCells ⟨4, true⟩) (Fills.one rfl rfl rfl (by simp) rfl (Fills.one rfl rfl rfl (by simp) rfl Fills.nil))) (Vv (Gives.build (out := colCells ⟨2, [], ⟨4, true⟩, cell0⟩) (Fills.one rfl rfl rfl (by simp) rfl (Fills.many rfl rfl (Nat.le_of_ble_eq_true rfl) rfl Fills.nil))) ?_)
 refine Vv (Gives.build (out := typeCells ⟨1, false⟩) (Fills.one rfl rfl rfl (by simp) rfl Fills.nil)) (Vv (Gives.build (out := colCells ⟨3, [], ⟨1, false⟩, cell0⟩) (Fills.one rfl rfl rfl (by simp) rfl (Fills.many rfl rfl (Nat.le_of_ble_eq_true rfl) rfl Fills.nil))) ?_)
 refine FL_buildSlice H (xs := [.tmp 2, .tmp 4, .tmp 6]) (out := smallP.flatMap colCells) (Elems.many rfl rfl (Elems.many rfl rfl (Elems.many rfl rfl Elems.nil))) rfl rfl rfl (fun ba w9 H9 k8 => ?_)
 refine Am ?_
 refine Qn (FW_ret (Qfn_ret (hR := ?_)))
 exact ⟨ba, rfl, trivial, H9.turn⟩
theorem comes_ok (s : List UInt8) {p : PlanM} {cols : List ColM} {vw : Value} (hs : s.length ≤ 1000) (hp : parseP (slash s) = (p, 0, 0)) (hc : checkP smallP p = (cols, 0)) (hw : RowIn w vw colCells 7 cols) (hT : TabsX w) : Rets Tryz.prog 51 [str s, vw] w fun v w' => v = .bool true ∧ Kept noB w w' := by
 have H := Sep.start0 w
 obtain ⟨hfit, hn⟩ := parse_small (slash s)
 rw [hp] at hfit hn
 dsimp only at hfit hn
 refine rets2 Tryz.func51 rfl rfl rfl rfl ?_
 refine Sr (Am ?_)
 refine Nx (Mv ?_)
 refine FL_callN H (read_ok s hs hp (hT.keep H.kept)) (h := fun x w4 _ H4 k3 => ?_)
 obtain ⟨A, a, B, b, rfl⟩ := plan_form (Sep.sees H4 At0)
 refine Mv ?_
 refine Vx ?_
 refine Vx ?_
 refine FL_alloc H4 (h := fun b5 w9 H9 k8 => ?_)
 refine FL_storeAll H9 (h := fun w11 H11 => ?_)
 refine Am ?_
 refine Qn (FW_seq (FW_drawS rfl H11 (h := fun hok13 w15 H15 => ?_)))
 refine FGloadAll hok13 1 H15 (h := ?_)
 refine FGcallN hok13 0 [(1, false)] H15 smallC_ok (h := fun bs w18 _ H18 k17 => ⟨(Stab_cons rfl (by kernel_rfl) (Gives.loadN rfl (H18.obj At1) (us := [.slice A p.wh.length a, .slice B p.cols.length b, I p.group]) rfl rfl) rfl (Stab_nil)), ?_⟩)
 refine FGcallN hok13 2 [] H18 (checkE_ok (cols := smallP) ⟨some ⟨bs, 0, none⟩, 3, rfl, ⟨Nat.le_refl _, by decide⟩, Sep.blkRow H18 At0 rfl⟩ (Sep.sees H18 At2) hfit.1 hfit.2 (by omega) (hT.keep H18.kept)) (h := fun vo w20 _ H20 k19 => ?_)
 rw [hc] at H20 ⊢
 dsimp only at H20 ⊢
 refine ⟨Stab_nil, ?_⟩
 refine Gm hok13 3 ?_
 refine Gp hok13 4 rfl rfl (fun _ => (Gives.extract rfl rfl)) (Gp hok13 5 rfl rfl (fun _ => (Gives.extract rfl rfl)) ?_)
 refine Gp hok13 6 rfl rfl (fun _ => Gives.assign rfl) (Gp hok13 7 rfl rfl (fun _ => Gives.assign rfl) ?_)
 refine FG_end hok13 (by kernel_rfl) ?_
 refine Qseq_normal (Sr (Mv ?_))
 refine Mv ?_
 refine FL_split (t := 21) rfl (fun hs27 => ?_) (fun hs27 => ?_)
 ·refine On (Mv ?_)
  refine On (Ve ?_)
  refine Pt ?_
  refine Mv ?_
  refine FL_splitP (t := 25) rfl (fun hs32 => ?_) (fun hs32 => ?_)
  ·refine On (Mv ?_)
   refine On (Mv ?_)
   refine On (FL_callQ H20 (colsEq_ok (a := cols) (b := cols) (Sep_in H20 At0) (hw.keep H20.kept)) (h := fun w36 H36 k35 => ?_))
   refine Pt ?_
   refine Am ?_
   refine Qn (FW_ret (Qfn_ret (hR := ?_)))
   exact ⟨by simp [resPack], H36.kept⟩
  exact (hs32 trivial).elim
 exact absurd hs27 (by decide)
theorem fits_ok (s : List UInt8) {p : PlanM} {e : Int} (hs : s.length ≤ 1000) (hp : parseP (slash s) = (p, 0, 0)) (hc : checkP smallP p = ([], e)) (hT : TabsX w) : Rets Tryz.prog 52 [str s, I e] w fun v w' => v = .bool true ∧ Kept noB w w' := by
 have H := Sep.start0 w
 obtain ⟨hfit, hn⟩ := parse_small (slash s)
 rw [hp] at hfit hn
 dsimp only at hfit hn
 refine rets2 Tryz.func52 rfl rfl rfl rfl ?_
 refine Sr (Am ?_)
 refine Nx (Mv ?_)
 refine FL_callN H (read_ok s hs hp (hT.keep H.kept)) (h := fun x w4 _ H4 k3 => ?_)
 obtain ⟨A, a, B, b, rfl⟩ := plan_form (Sep.sees H4 At0)
 refine Mv ?_
 refine Vx ?_
 refine Vx ?_
 refine FL_alloc H4 (h := fun b5 w9 H9 k8 => ?_)
 refine FL_storeAll H9 (h := fun w11 H11 => ?_)
 refine Am ?_
 refine Qn (FW_seq (FW_drawS rfl H11 (h := fun hok13 w15 H15 => ?_)))
 refine FGloadAll hok13 1 H15 (h := ?_)
 refine FGcallN hok13 0 [(1, false)] H15 smallC_ok (h := fun bs w18 _ H18 k17 => ⟨(Stab_cons rfl (by kernel_rfl) (Gives.loadN rfl (H18.obj At1) (us := [.slice A p.wh.length a, .slice B p.cols.length b, I p.group]) rfl rfl) rfl (Stab_nil)), ?_⟩)
 refine FGcallN hok13 2 [] H18 (checkE_ok (cols := smallP) ⟨some ⟨bs, 0, none⟩, 3, rfl, ⟨Nat.le_refl _, by decide⟩, Sep.blkRow H18 At0 rfl⟩ (Sep.sees H18 At2) hfit.1 hfit.2 (by omega) (hT.keep H18.kept)) (h := fun vo w20 _ H20 k19 => ?_)
 rw [hc] at H20 ⊢
 dsimp only at H20 ⊢
 obtain ⟨Ao, co, rfl, _, _⟩ := Sep.formD H20 At0
 refine ⟨Stab_nil, ?_⟩
 refine Gm hok13 3 ?_
 refine Gp hok13 4 rfl rfl (fun _ => (Gives.extract rfl rfl)) (Gp hok13 5 rfl rfl (fun _ => (Gives.extract rfl rfl)) ?_)
 refine Gp hok13 6 rfl rfl (fun _ => Gives.assign rfl) (Gp hok13 7 rfl rfl (fun _ => Gives.assign rfl) ?_)
 refine FG_end hok13 (by kernel_rfl) ?_
 refine Qseq_normal (Sr (Mv ?_))
 refine Mv ?_
 refine FL_split (t := 21) rfl (fun hs27 => ?_) (fun hs27 => ?_)
 ·refine On (Mv ?_)
  refine On (Mv ?_)
  refine On (Ve ?_)
  refine Pt ?_
  refine Mv ?_
  refine FL_splitP (t := 26) rfl (fun hs33 => ?_) (fun hs33 => ?_)
  ·refine On (Mv ?_)
   refine On (Vs ?_)
   refine On (Ve ?_)
   refine Pt ?_
   refine Am ?_
   refine Qn (FW_ret (Qfn_ret (hR := ?_)))
   exact ⟨rfl, H20.kept⟩
  exact (hs33 trivial).elim
 exact absurd hs27 (by decide)
theorem fails_ok (s : List UInt8) {n e : Int} (hs : s.length ≤ 1000) (hp : parseP (slash s) = (plan0, n, e)) (hT : TabsX w) : Rets Tryz.prog 54 [str s, I n, I e] w fun v w' => v = .bool true ∧ Kept noB w w' := by
 have H := Sep.start0 w
 have hsl := slash_len s
 refine rets3 Tryz.func54 rfl rfl rfl rfl ?_
 refine Sr (Am ?_)
 refine Nx (Mv ?_)
 refine FL_callQ H (replaceSl_ok s (by omega) (hT.keep H.kept)) (h := fun w4 H4 k3 => ?_)
 refine FL_callN H4 (parsePE_ok (slash s) (.inl (by omega)) (by omega) (hT.keep H4.kept)) (h := fun x w6 _ H6 k5 => ?_)
 rw [hp] at H6 ⊢
 dsimp only at H6 ⊢
 obtain ⟨A, a, B, b, rfl⟩ := plan_form (Sep.sees H6 At0)
 refine Mv ?_
 refine Vx ?_
 refine Vx ?_
 refine Vx ?_
 refine FL_alloc H6 (h := fun b7 w12 H12 k11 => ?_)
 refine FL_storeAll H12 (h := fun w14 H14 => ?_)
 refine Am ?_
 refine Am ?_
 refine Nx (Mv ?_)
 refine Mv ?_
 refine Ve ?_
 refine Mv ?_
 refine FL_splitP (t := 20) rfl (fun hs21 => ?_) (fun hs21 => ?_)
 ·refine On (Mv ?_)
  refine On (Mv ?_)
  refine On (Ve ?_)
  refine Pt ?_
  refine Mv ?_
  refine FL_splitP (t := 25) rfl (fun hs27 => ?_) (fun hs27 => ?_)
  ·refine On (FL_loadAll H14 (h := ?_))
   refine On (Vv (Gives.build (out := [.slice none 0 0, .slice none 0 0, I 0]) Fills.nil) (On ?_))
   refine FL_callQ H14 (sameE_ok (p := plan0) (q := plan0) (Sep.sees H14 At1) (plan0_in _)) (h := fun w31 H31 k30 => ?_)
   refine Pt ?_
   refine Am ?_
   refine Qn (FW_ret (Qfn_ret (hR := ?_)))
   exact ⟨by simp [resPack], H31.kept⟩
  exact (hs27 trivial).elim
 exact (hs21 trivial).elim
end
def wq0 : List UInt8 := [119, 104, 101, 114, 101, 32, 110, 111, 110, 101, 47, 111, 117, 116, 32, 97, 32, 35, 49, 47, 111, 117, 116, 32, 98, 32, 35, 50, 32, 105, 115, 110, 117, 108, 108, 47, 103, 114, 111, 117, 112, 32, 110, 111, 110, 101, 47]
def wq1 : List UInt8 := [119, 104, 101, 114, 101, 32, 35, 51, 47, 111, 117, 116, 32, 115, 32, 35, 50, 47, 111, 117, 116, 32, 116, 111, 116, 97, 108, 32, 35, 49, 32, 50, 32, 42, 47, 103, 114, 111, 117, 112, 32, 49, 47]
def wq2 : List UInt8 := [119, 104, 101, 114, 101, 32, 35, 49, 47, 111, 117, 116, 32, 97, 32, 35, 49, 47, 103, 114, 111, 117, 112, 32, 110, 111, 110, 101, 47]
def wq3 : List UInt8 := [119, 104, 101, 114, 101, 32, 110, 111, 110, 101, 47, 111, 117, 116, 32, 97, 32, 35, 50, 47, 103, 114, 111, 117, 112, 32, 48, 47]
def wq4 : List UInt8 := [119, 104, 101, 114, 101, 32, 110, 111, 110, 101, 47, 111, 117, 116, 32, 97, 32, 35, 52, 47, 103, 114, 111, 117, 112, 32, 110, 111, 110, 101, 47]
def wn0 : List UInt8 := [119, 104, 101, 114, 101, 32, 110, 111, 110, 101, 47, 111, 117, 116, 32, 97, 32, 35, 49, 47, 111, 117, 116, 32, 97, 32, 35, 49, 47, 103, 114, 111, 117, 112, 32, 110, 111, 110, 101, 47]
def wn1 : List UInt8 := [119, 104, 101, 114, 101, 32, 110, 111, 110, 101, 47, 103, 114, 111, 117, 112, 32, 110, 111, 110, 101, 47]
def wn2 : List UInt8 := [119, 104, 101, 114, 101, 32, 110, 111, 110, 101, 47, 111, 117, 116, 32, 97, 32, 35, 49, 47]
def wn3 : List UInt8 := [119, 104, 101, 114, 101, 32, 110, 111, 110, 101, 47, 111, 117, 116, 32, 97, 32, 35, 49, 47, 103, 114, 111, 117, 112, 32, 50, 47]
def wn4 : List UInt8 := [119, 104, 101, 114, 101, 47]
def wn5 : List UInt8 := []
def wn6 : List UInt8 := [119, 104, 101, 114, 101, 32, 110, 111, 110, 101, 47, 111, 117, 116, 32, 97, 32, 35, 49, 47, 103, 114, 111, 117, 112, 32, 48, 49, 47]
theorem wq_ex : slTx = [wq0, wq1, wq2, wq3, wq4] ∧ slNo = [wn0, wn1, wn2, wn3, wn4, wn5, wn6] := by decide +kernel
theorem wq0_p : parseP (slash wq0) = (exPl.getD 0 plan0, 0, 0) := ex_parse 0 (by rw [wq_ex.1]; rfl) rfl
theorem wq1_p : parseP (slash wq1) = (exPl.getD 1 plan0, 0, 0) := ex_parse 1 (by rw [wq_ex.1]; rfl) rfl
theorem wq2_p : parseP (slash wq2) = (exPl.getD 2 plan0, 0, 0) := ex_parse 2 (by rw [wq_ex.1]; rfl) rfl
theorem wq3_p : parseP (slash wq3) = (exPl.getD 3 plan0, 0, 0) := ex_parse 3 (by rw [wq_ex.1]; rfl) rfl
theorem wq4_p : parseP (slash wq4) = (exPl.getD 4 plan0, 0, 0) := ex_parse 4 (by rw [wq_ex.1]; rfl) rfl
theorem wn0_p : parseP (slash wn0) = (plan0, 0, 2) := no_parse 0 (by rw [wq_ex.2]; rfl) rfl
theorem wn1_p : parseP (slash wn1) = (plan0, 1, 4) := no_parse 1 (by rw [wq_ex.2]; rfl) rfl
theorem wn2_p : parseP (slash wn2) = (plan0, 2, 4) := no_parse 2 (by rw [wq_ex.2]; rfl) rfl
theorem wn3_p : parseP (slash wn3) = (plan0, 0, 2) := no_parse 3 (by rw [wq_ex.2]; rfl) rfl
theorem wn4_p : parseP (slash wn4) = (plan0, 0, 4) := no_parse 4 (by rw [wq_ex.2]; rfl) rfl
theorem wn5_p : parseP (slash wn5) = (plan0, 0, 4) := no_parse 5 (by rw [wq_ex.2]; rfl) rfl
theorem wn6_p : parseP (slash wn6) = (plan0, 2, 4) := no_parse 6 (by rw [wq_ex.2]; rfl) rfl
def cw0 : List ColM := [⟨1, [97], ⟨3, false⟩, cell0⟩, ⟨2, [98], ⟨1, false⟩, cell0⟩]
def cw1 : List ColM := [⟨1, [115], ⟨4, true⟩, ⟨true, 0, []⟩⟩, ⟨2, countW, ⟨3, false⟩, cell0⟩, ⟨3, [116, 111, 116, 97, 108], ⟨3, false⟩, cell0⟩]
theorem exc (i : Nat) {p : PlanM} {x : List ColM × Int} (hp : exPl[i]? = some p) (hx : exCh[i]? = some x) : checkP smallP p = x := by
 rw [← ex_check.1, List.getElem?_map, hp] at hx
 injection hx
theorem wq0_c : checkP smallP (exPl.getD 0 plan0) = (cw0, 0) := exc 0 rfl rfl
theorem wq1_c : checkP smallP (exPl.getD 1 plan0) = (cw1, 0) := exc 1 rfl rfl
theorem wq2_c : checkP smallP (exPl.getD 2 plan0) = ([], 230) := exc 2 rfl rfl
theorem wq3_c : checkP smallP (exPl.getD 3 plan0) = ([], 230) := exc 3 rfl rfl
theorem wq4_c : checkP smallP (exPl.getD 4 plan0) = ([], 220) := exc 4 rfl rfl
def cntP : PlanM := ⟨[], [⟨countW, [⟨1, 1, []⟩]⟩], 0⟩
theorem cntP_fit : AllFit cntP := ⟨fun x hx => absurd hx List.not_mem_nil, fun o ho x hx => by
 have ho' := List.mem_singleton.1 ho
 subst ho'
 have hx' := List.mem_singleton.1 hx
 subst hx'
 unfold fits; decide⟩
section
variable {w : World}
theorem worksP_ok (hT : TabsX w) : Rets Tryz.prog 18 [] w fun v w' => v = .bool true ∧ Kept noB w w' := by
 have H := Sep.start0 w
 refine rets0 Tryz.func18 rfl rfl rfl ?_
 refine Sr (Am ?_)
 refine Nx (Vv (Gives.build (out := typeCells wholeT) (Fills.one rfl rfl rfl (by simp) rfl Fills.nil)) (FL_alloc H (h := fun b1 w4 H4 k3 => ?_)))
 refine FL_storeAll H4 (h := fun w6 H6 => ?_)
 refine Qn (FW_seq (Sr (FL_loadAll H6 (h := ?_))))
 refine Vv (Gives.build (out := colCells ⟨1, [97], ⟨3, false⟩, cell0⟩) (Fills.one rfl rfl rfl (by simp) rfl (Fills.one rfl rfl rfl (by simp) rfl (Fills.many rfl rfl (Nat.le_of_ble_eq_true rfl) rfl Fills.nil)))) (Vv (Gives.build (out := typeCells ⟨1, false⟩) (Fills.one rfl rfl rfl (by simp) rfl Fills.nil)) ?_)
 refine Vv (Gives.build (out := colCells ⟨2, [98], ⟨1, false⟩, cell0⟩) (Fills.one rfl rfl rfl (by simp) rfl (Fills.one rfl rfl rfl (by simp) rfl (Fills.many rfl rfl (Nat.le_of_ble_eq_true rfl) rfl Fills.nil)))) (FL_buildSlice H6 (xs := [.tmp 6, .tmp 8]) (out := cw0.flatMap colCells) (Elems.many rfl rfl (Elems.many rfl rfl Elems.nil)) rfl rfl rfl (fun ba w12 H12 k11 => ?_))
 refine FL_callQ H12 (comes_ok wq0 (by decide) wq0_p wq0_c ⟨some ⟨ba, 0, none⟩, 2, rfl, ⟨Nat.le_refl _, by decide⟩, Sep.blkRow H12 At0 rfl⟩ (hT.keep H12.kept)) (h := fun w14 H14 k13 => ?_)
 refine Vv (Gives.not rfl) (Mv ?_)
 refine FL_split (t := 12) rfl (fun hs17 => ?_) (fun hs17 => ?_)
 ·exact Bool.noConfusion hs17
 refine On (Vv (Gives.build (out := typeCells ⟨4, true⟩) (Fills.one rfl rfl rfl (by simp) rfl (Fills.one rfl rfl rfl (by simp) rfl Fills.nil))) (On ?_))
 refine Vv (Gives.build (out := cellCells ⟨true, 0, []⟩) (Fills.one rfl rfl rfl (by simp) rfl Fills.nil)) (On ?_)
 refine Vv (Gives.build (out := colCells ⟨1, [115], ⟨4, true⟩, ⟨true, 0, []⟩⟩) (Fills.one rfl rfl rfl (by simp) rfl (Fills.one rfl rfl rfl (by simp) rfl (Fills.many rfl rfl (Nat.le_of_ble_eq_true rfl) rfl (Fills.many rfl rfl (Nat.le_of_ble_eq_true rfl) rfl Fills.nil))))) (On ?_)
 refine FL_loadAll H14 (h := ?_)
 refine On (Vv (Gives.build (out := colCells ⟨2, countW, ⟨3, false⟩, cell0⟩) (Fills.one rfl rfl rfl (by simp) rfl (Fills.one rfl rfl rfl (by simp) rfl (Fills.many rfl rfl (Nat.le_of_ble_eq_true rfl) rfl Fills.nil)))) (On ?_))
 refine FL_loadAll H14 (h := ?_)
 refine On (Vv (Gives.build (out := colCells ⟨3, [116, 111, 116, 97, 108], ⟨3, false⟩, cell0⟩) (Fills.one rfl rfl rfl (by simp) rfl (Fills.one rfl rfl rfl (by simp) rfl (Fills.many rfl rfl (Nat.le_of_ble_eq_true rfl) rfl Fills.nil)))) (On ?_))
 refine FL_buildSlice H14 (xs := [.tmp 15, .tmp 17, .tmp 19]) (out := cw1.flatMap colCells) (Elems.many rfl rfl (Elems.many rfl rfl (Elems.many rfl rfl Elems.nil))) rfl rfl rfl (fun bb w27 H27 k26 => ?_)
 refine On (FL_callQ H27 (comes_ok wq1 (by decide) wq1_p wq1_c ⟨some ⟨bb, 0, none⟩, 3, rfl, ⟨Nat.le_refl _, by decide⟩, Sep.blkRow H27 At0 rfl⟩ (hT.keep H27.kept)) (h := fun w29 H29 k28 => ?_))
 refine On (Vv (Gives.not rfl) (Pf ?_))
 refine Qn (Cd rfl (fun hc32 => ?_) (fun hc32 => ?_))
 ·exact Bool.noConfusion hc32
 refine Sk (FW_seq (Sr (FL_callQ H29 (fits_ok wq2 (by decide) wq2_p wq2_c (hT.keep H29.kept)) (h := fun w35 H35 k34 => ?_))))
 refine Vv (Gives.not rfl) (Mv ?_)
 refine FL_split (t := 26) rfl (fun hs38 => ?_) (fun hs38 => ?_)
 ·exact Bool.noConfusion hs38
 refine On (FL_callQ H35 (fits_ok wq3 (by decide) wq3_p wq3_c (hT.keep H35.kept)) (h := fun w41 H41 k40 => ?_))
 refine On (Vv (Gives.not rfl) (Pf ?_))
 refine Mv ?_
 refine FL_split (t := 30) rfl (fun hs45 => ?_) (fun hs45 => ?_)
 ·exact Bool.noConfusion hs45
 refine On (FL_callQ H41 (fits_ok wq4 (by decide) wq4_p wq4_c (hT.keep H41.kept)) (h := fun w48 H48 k47 => ?_))
 refine On (Vv (Gives.not rfl) (Pf ?_))
 refine Qn (Cd rfl (fun hc51 => ?_) (fun hc51 => ?_))
 ·exact Bool.noConfusion hc51
 refine Sk (Sr (FL_callN H48 smallC_ok (h := fun bc w54 _ H54 k53 => ?_)))
 refine Vv (Gives.build (out := stepCells ⟨1, 1, []⟩) (Fills.one rfl rfl rfl (by simp) rfl (Fills.one rfl rfl rfl (by simp) rfl Fills.nil))) (FL_buildSlice H54 (xs := [.tmp 36]) (out := [(⟨1, 1, []⟩ : StepM)].flatMap stepCells) (Elems.many rfl rfl Elems.nil) rfl rfl rfl (fun bs w57 H57 k56 => ?_))
 refine Vv (Gives.build (out := outCells (countW, .slice (some ⟨bs, 0, none⟩) 1 1)) (Fills.one rfl rfl rfl (by simp) rfl (Fills.one rfl rfl rfl (by simp) rfl Fills.nil))) (FL_buildSlice H57 (xs := [.tmp 38]) (out := [(countW, Value.slice (some ⟨bs, 0, none⟩) 1 1)].flatMap outCells) (Elems.many rfl rfl Elems.nil) rfl rfl rfl (fun bo w60 H60 k59 => ?_))
 refine Vv (Gives.build (out := [.slice none 0 0, .slice (some ⟨bo, 0, none⟩) 1 1, I 0]) (Fills.one rfl rfl rfl (by simp) rfl Fills.nil)) ?_
 have hin : PlanIn _ (agg [.slice none 0 0, .slice (some ⟨bo, 0, none⟩) 1 1, I 0]) cntP := ⟨_, _, rfl, rowIn_none, [(countW, .slice (some ⟨bs, 0, none⟩) 1 1)], ⟨some ⟨bo, 0, none⟩, 1, rfl, ⟨Nat.le_refl _, by decide⟩, Sep.blkRow H60 At0 rfl⟩, (RawOf.nil).push (n := countW) ⟨some ⟨bs, 0, none⟩, 1, rfl, ⟨Nat.le_refl _, by decide⟩, Sep.blkRow H60 At1 rfl⟩⟩
 refine FL_callN H60 (checkE_ok (cols := smallP) (p := cntP) ⟨some ⟨bc, 0, none⟩, 3, rfl, ⟨Nat.le_refl _, by decide⟩, Sep.blkRow H60 At2 rfl⟩ hin cntP_fit.1 cntP_fit.2 (by decide) (hT.keep H60.kept)) (h := fun vo w63 _ H63 k62 => ?_)
 rw [show checkP smallP cntP = ([], 230) from ex_check.2]
 refine Mv ?_
 refine Vx ?_
 refine Vx ?_
 refine Am ?_
 refine Am ?_
 refine Qn (FW_seq (Sr (Mv ?_)))
 refine Vn ?_
 refine Mv ?_
 refine FL_splitP (t := 46) rfl (fun hs72 => ?_) (fun hs72 => ?_)
 ·exact (hs72 trivial).elim
 refine On (FL_callQ H63 (fails_ok wn0 (by decide) wn0_p (hT.keep H63.kept)) (h := fun w75 H75 k74 => ?_))
 refine On (Vv (Gives.not rfl) (Pf ?_))
 refine Mv ?_
 refine FL_split (t := 50) rfl (fun hs79 => ?_) (fun hs79 => ?_)
 ·exact Bool.noConfusion hs79
 refine On (FL_callQ H75 (fails_ok wn1 (by decide) wn1_p (hT.keep H75.kept)) (h := fun w82 H82 k81 => ?_))
 refine On (Vv (Gives.not rfl) (Pf ?_))
 refine Mv ?_
 refine FL_split (t := 54) rfl (fun hs86 => ?_) (fun hs86 => ?_)
 ·exact Bool.noConfusion hs86
 refine On (FL_callQ H82 (fails_ok wn2 (by decide) wn2_p (hT.keep H82.kept)) (h := fun w89 H89 k88 => ?_))
 refine On (Vv (Gives.not rfl) (Pf ?_))
 refine Mv ?_
 refine FL_split (t := 58) rfl (fun hs93 => ?_) (fun hs93 => ?_)
 ·exact Bool.noConfusion hs93
 refine On (FL_callQ H89 (fails_ok wn3 (by decide) wn3_p (hT.keep H89.kept)) (h := fun w96 H96 k95 => ?_))
 refine On (Vv (Gives.not rfl) (Pf ?_))
 refine Qn (Cd rfl (fun hc99 => ?_) (fun hc99 => ?_))
 ·exact Bool.noConfusion hc99
 refine Sk (Sr (FL_callQ H96 (fails_ok wn4 (by decide) wn4_p (hT.keep H96.kept)) (h := fun w102 H102 k101 => ?_)))
 refine Mv ?_
 refine FL_split (t := 63) rfl (fun hs104 => ?_) (fun hs104 => ?_)
 ·refine On (FL_callQ H102 (fails_ok wn5 (by decide) wn5_p (hT.keep H102.kept)) (h := fun w106 H106 k105 => ?_))
  refine Pt ?_
  refine Mv ?_
  refine FL_split (t := 66) rfl (fun hs109 => ?_) (fun hs109 => ?_)
  ·refine On (FL_callQ H106 (fails_ok wn6 (by decide) wn6_p (hT.keep H106.kept)) (h := fun w111 H111 k110 => ?_))
   refine Pt ?_
   refine Am ?_
   refine Qn (FW_ret (Qfn_ret (hR := ?_)))
   exact ⟨rfl, H111.kept⟩
  exact absurd hs109 (by decide)
 exact absurd hs104 (by decide)
end
end Go.Proofs.YtolaedhdjcnijaaGreatDoor
namespace Go.Mw
open Go.RowKit
section
variable {P : Program} {ρ : Operand → Value} {ty : TypeId} {w w₀ : World} {x y : Operand} {α : Type} {enc : α → List Value} {k : Nat} {l : List α} {A : Option Addr}
theorem Gives.buildArr {T e m size bytes : Nat} [ht : IsArray P T m e] [hc : Cells P e size bytes] {z : Value} [hz : Zero P T z] {zs : List Value} {parts : List (Nat × Operand)} {out : List Value} (hzs : z.cells = zs.toArray) (h : Fills (fun i : Nat => some (i * size, size)) ρ parts zs out) : Gives P ρ (.build T parts.toArray) ty w (.agg out.toArray) w := fun _ _ _ _ => by
 obtain ⟨i, hi, hsb⟩ := Option.map_eq_some_iff.1 hc.size
 simp only [Prod.mk.injEq] at hsb
 have hf := fill_of h
 simp only [execOp, Instr.build, Sem.run_bind, hz.run, Result.andThen_ok, run_underlying ht.und, hzs, List.map_toArray, sizeOf, typeInfo, run_program, hi, Sem.run_pure, hsb.1, hf]
theorem Gives.idxArrR {t e m : TypeId} [ht : IsArray P t m e] {size bytes : Nat} [hc : Cells P e size bytes] {i o : Nat} {kd : IntKind} (hx : ρ x = adr A o) (hy : ρ y = .int kd i) (hr : Rd w₀ A enc k l) (hn : 0 < l.length) (hlt : i < m) : Gives P ρ (.indexAddr t x y) ty w (adr A (o + i * size)) w := by
 obtain ⟨ad, rfl⟩ := hr.addr hn
 have := Gives.idxArr (P := P) (ty := ty) (w := w) (ht := ht) (hc := hc) (ad := ad.add o) hx hy hlt
 rw [add_add] at this
 exact this
end
end Go.Mw
namespace Go.Proofs.YtolaedhdjcnijaaGreatDoor
open Go Go.Mw Go.Lib
set_option maxRecDepth 4000
def pairCells (x : Int × Int) : List Value := [I x.1, I x.2]
instance : EncK pairCells 2 := ⟨fun _ => rfl⟩
theorem expr_tlen : ∀ y ∈ exprTx ++ whereTx, y.length ≤ 100 := by decide
theorem expr_at {q : Nat} {y : List UInt8} (h : exprTx[q]? = some y) : parseS y = (exprL.getD q [], 0) := by
 have h1 := congrArg (fun l => l[q]?) expr_parse
 simp only [List.getElem?_map, h, Option.map_some] at h1
 have hq : q < exprL.length := by have := get_lt h; exact this
 rw [List.getElem?_eq_getElem hq] at h1
 injection h1 with h1
 rw [h1, List.getD_eq_getElem?_getD, List.getElem?_eq_getElem hq]; rfl
theorem where_at {q : Nat} {y : List UInt8} (h : whereTx[q]? = some y) : parseS y = (whereE.getD q [], 0) := by
 have h1 := congrArg (fun l => l[q]?) where_parse
 simp only [List.getElem?_map, h, Option.map_some] at h1
 have hq : q < whereE.length := by have := get_lt h; exact this
 rw [List.getElem?_eq_getElem hq] at h1
 injection h1 with h1
 rw [h1, List.getD_eq_getElem?_getD, List.getElem?_eq_getElem hq]; rfl
section
variable {w : World}
theorem expressionP_ok (n : Int) (num : Bool) (hT : TabsX w) : Rets Tryz.prog 27 [I n, .bool num] w fun v w' => ∃ x, v = x ∧ True ∧ Turn noB (rowD 60 3 stepCells x (exprP n num)) w w' := by
 have H := Sep.start0 w
 refine rets2 Tryz.func27 rfl rfl rfl rfl ?_
 refine Sr (Am ?_)
 refine Nx (FL_buildSlice H (xs := [_, _, _, _, _, _, _, _, _, _, _, _]) (out := exprTx.flatMap textCells) (Elems.one rfl rfl (Elems.one rfl rfl (Elems.one rfl rfl (Elems.one rfl rfl (Elems.one rfl rfl (Elems.one rfl rfl (Elems.one rfl rfl (Elems.one rfl rfl (Elems.one rfl rfl (Elems.one rfl rfl (Elems.one rfl rfl (Elems.one rfl rfl Elems.nil)))))))))))) rfl rfl rfl (fun be w3 H3 k2 => ?_))
 refine Am ?_
 refine Qn (FW_cut (fun _ : Unit => [(0, I n), (5, .slice (some ⟨be, 0, none⟩) (exprTx.take (if num = true then 6 else 12)).length 12)]) (fun _ w' => Sep w noB [blk be (exprTx.flatMap textCells) 9] w') ?_ ?_)
 ·refine Sr (Mv ?_)
  refine Qn (Cd rfl (fun hc7 => ?_) (fun hc7 => ?_))
  ·have hnum : num = true := hc7
   refine FW_region (Mv ?_)
   refine Vv (Gives.sliceTo (h := 6) rfl rfl (by decide)) (Am ?_)
   refine FL_nil ?_
   exact Qcut_normal () ⟨rfl, by rw [hnum]; rfl, trivial⟩ H3
  have hnum : num = false := hc7
  refine FW_skip ?_
  exact Qcut_normal () ⟨rfl, by rw [hnum]; rfl, trivial⟩ H3
 intro _ τ w16 H16
 obtain ⟨m, hm⟩ : ∃ m : Nat, m = if num = true then 6 else 12 := ⟨_, rfl⟩
 have hm12 : m = 6 ∨ m = 12 := by rw [hm]; cases num <;> simp
 rw [← hm]
 have hml : (exprTx.take m).length = m := by rw [List.length_take]; show Min.min m 12 = m; omega
 have hm0 := Int.emod_nonneg n (show (m : Int) ≠ 0 by omega)
 have hm1 := Int.emod_lt_of_pos n (show 0 < (m : Int) by omega)
 obtain ⟨q, hq⟩ : ∃ q : Nat, n % m = q := ⟨(n % m).toNat, by omega⟩
 have hqm : q < m := by omega
 obtain ⟨y, hy⟩ := get_some (l := exprTx.take m) (i := q) (by omega)
 have hy2 : exprTx[q]? = some y := by rw [List.getElem?_take, if_pos hqm] at hy; exact hy
 have hpy := expr_at hy2
 have hyl := expr_tlen y (List.mem_append_left _ (List.mem_of_getElem? hy2))
 have hexp : exprP n num = exprL.getD q [] := by
  unfold exprP
  rw [show ((if num = true then 6 else 12 : Int)) = (m : Int) by rw [hm]; cases num <;> rfl, hq]; rfl
 have hRb : Rd w16 (some ⟨be, 0, none⟩) textCells 1 (exprTx.take m) := (show Rd _ (some ⟨be, 0, none⟩) textCells 1 exprTx from Sep.blkRow H16 At0 rfl).cut m
 simp only [upds, like, upd_ds, und_ds]
 refine Sr (Mv ?_)
 refine Mv ?_
 refine Mv ?_
 refine Vs ?_
 rw [hml]
 refine FL_callQ H16 (bring_ok (k := n) (m := m) (by omega) (by omega)) (h := fun w22 H22 kq => ?_)
 rw [hq]
 refine Vv (Gives.idxN (l := exprTx.take m) (enc := textCells) hml.symm rfl rfl hRb (by omega)) (Vv (Gives.loadW (f := 0) rfl (hRb.keep kq) hy rfl) ?_)
 refine FL_callN H22 (parseE_ok y (.inl (by omega)) (by omega) (hT.keep H22.kept)) (h := fun x w26 _ H26 k25 => ?_)
 rw [hpy, ← hexp] at H26 ⊢
 dsimp only at H26 ⊢
 refine Mv ?_
 refine Vx ?_
 refine Vx ?_
 refine Am ?_
 refine Am ?_
 refine Nx (Mv ?_)
 refine Am ?_
 refine Qn (FW_ret (Qfn_ret (hR := ?_)))
 exact ⟨_, rfl, trivial, H26.first.turn⟩
theorem columnsP_ok (b : Bool) : Rets Tryz.prog 23 [.bool b] w fun v w' => ∃ x, v = x ∧ True ∧ Turn noB (rowD 49 7 colCells x (colsP b)) w w' := by
 have H := Sep.start0 w
 refine rets1 Tryz.func23 rfl rfl rfl rfl ?_
 refine Sr (Am ?_)
 refine Nx (Am ?_)
 refine Qn (FW_cut (fun _ : Unit => [(3, I (if b then 3 else 2))]) (fun _ w' => Sep w noB [] w') ?_ ?_)
 ·refine Sr (Mv ?_)
  refine Qn (Cd rfl (fun hc5 => ?_) (fun hc5 => ?_))
  ·subst hc5
   refine FW_region (Am ?_)
   refine FL_nil ?_
   exact Qcut_normal () ⟨rfl, trivial⟩ H
  subst hc5
  refine FW_skip ?_
  exact Qcut_normal () ⟨rfl, trivial⟩ H
 intro _ τ w12 H12
 obtain ⟨kk, hkk⟩ : ∃ kk : Int, kk = if b then 3 else 2 := ⟨_, rfl⟩
 rw [← hkk]
 have hcp : colsP b = [⟨1, [97], ⟨kk, false⟩, cell0⟩, ⟨3, [98], ⟨kk, true⟩, cell0⟩, ⟨4, [99], ⟨1, true⟩, cell0⟩, ⟨9, [100], ⟨4, false⟩, cell0⟩, ⟨12, [101], ⟨5, true⟩, cell0⟩] := by rw [hkk]; rfl
 simp only [upds, like, upd_ds, und_ds]
 refine Sr (Mv ?_)
 refine Vv (Gives.build (out := typeCells ⟨kk, false⟩) (Fills.one rfl rfl rfl (by simp) rfl Fills.nil)) (Vv (Gives.build (out := colCells ⟨1, [97], ⟨kk, false⟩, cell0⟩) (Fills.one rfl rfl rfl (by simp) rfl (Fills.one rfl rfl rfl (by simp) rfl (Fills.many rfl rfl (Nat.le_of_ble_eq_true rfl) rfl Fills.nil)))) ?_)
 refine Mv ?_
 refine Vv (Gives.build (out := typeCells ⟨kk, true⟩) (Fills.one rfl rfl rfl (by simp) rfl (Fills.one rfl rfl rfl (by simp) rfl Fills.nil))) (Vv (Gives.build (out := colCells ⟨3, [98], ⟨kk, true⟩, cell0⟩) (Fills.one rfl rfl rfl (by simp) rfl (Fills.one rfl rfl rfl (by simp) rfl (Fills.many rfl rfl (Nat.le_of_ble_eq_true rfl) rfl Fills.nil)))) ?_)
 refine Vv (Gives.build (out := typeCells ⟨1, true⟩) (Fills.one rfl rfl rfl (by simp) rfl (Fills.one rfl rfl rfl (by simp) rfl Fills.nil))) (Vv (Gives.build (out := colCells ⟨4, [99], ⟨1, true⟩, cell0⟩) (Fills.one rfl rfl rfl (by simp) rfl (Fills.one rfl rfl rfl (by simp) rfl (Fills.many rfl rfl (Nat.le_of_ble_eq_true rfl) rfl Fills.nil)))) ?_)
 refine Vv (Gives.build (out := typeCells ⟨4, false⟩) (Fills.one rfl rfl rfl (by simp) rfl Fills.nil)) (Vv (Gives.build (out := colCells ⟨9, [100], ⟨4, false⟩, cell0⟩) (Fills.one rfl rfl rfl (by simp) rfl (Fills.one rfl rfl rfl (by simp) rfl (Fills.many rfl rfl (Nat.le_of_ble_eq_true rfl) rfl Fills.nil)))) ?_)
 refine Vv (Gives.build (out := typeCells ⟨5, true⟩) (Fills.one rfl rfl rfl (by simp) rfl (Fills.one rfl rfl rfl (by simp) rfl Fills.nil))) (Vv (Gives.build (out := colCells ⟨12, [101], ⟨5, true⟩, cell0⟩) (Fills.one rfl rfl rfl (by simp) rfl (Fills.one rfl rfl rfl (by simp) rfl (Fills.many rfl rfl (Nat.le_of_ble_eq_true rfl) rfl Fills.nil)))) ?_)
 refine FL_buildSlice H12 (xs := [.tmp 7, .tmp 10, .tmp 12, .tmp 14, .tmp 16]) (out := (colsP b).flatMap colCells) (by rw [hcp]; exact Elems.many rfl rfl (Elems.many rfl rfl (Elems.many rfl rfl (Elems.many rfl rfl (Elems.many rfl rfl Elems.nil))))) rfl rfl rfl (fun bs w26 H26 k25 => ?_)
 have H26 : Mw.Sep w noB (rowD 49 7 colCells (.slice (some ⟨bs, 0, none⟩) 5 5) (colsP b) :: _) w26 := Sep.asRow H26 At0 (n := 5) (by rw [hcp]; rfl) (by decide)
 refine Am ?_
 refine Qn (FW_ret (Qfn_ret (hR := ?_)))
 exact ⟨_, rfl, trivial, H26.first.turn⟩
end
end Go.Proofs.YtolaedhdjcnijaaGreatDoor
