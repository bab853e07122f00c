/-
 The type of what a step makes of some, walked.
-/
import Derived.Test.YtolaedhdjcnijaaGreatDoorKs10
import Derived.Test.YtolaedhdjcnijaaGreatDoorShelf
set_option linter.unusedVariables false
set_option linter.unusedSimpArgs false
namespace Go.Proofs.YtolaedhdjcnijaaGreatDoor
open Go Go.Mw Go.Lib
set_option maxRecDepth 4000
theorem Some2.all {k : Int} {l : List TypeM} {a b : TypeM} (h : Some2 k l a b) (want : List Int) : (!(l.any fun t => !within want t)) = (within want a && within want b) := by
 rw [h.any]
 cases within want a <;> cases within want b <;> rfl
theorem typed_out {res : Option TypeM} {t : TypeM} {ok : Bool} (h1 : ok = res.isSome) (h2 : ∀ y, res = some y → t = y) : ∃ t', Value.tuple #[agg (typeCells t), .bool ok] = .tuple #[agg (typeCells t'), .bool res.isSome] ∧ ∀ x, res = some x → t' = x :=
 ⟨t, by rw [h1], h2⟩
theorem typed_if {P : Prop} [Decidable P] {t u : TypeM} {ok : Bool} (h1 : ok = decide P) (h2 : t = u) : ∃ t', Value.tuple #[agg (typeCells t), .bool ok] = .tuple #[agg (typeCells t'), .bool (if P then some u else none).isSome] ∧ ∀ x, (if P then some u else none) = some x → t' = x := by
 refine typed_out ?_ fun y hy => ?_
 ·rw [h1]; by_cases hp : P
  ·rw [if_pos hp, decide_eq_true hp]; rfl
  rw [if_neg hp, decide_eq_false hp]; rfl
 by_cases hp : P
 ·rw [if_pos hp] at hy; injection hy with hy; rw [h2, hy]
 rw [if_neg hp] at hy; cases hy
theorem within_one (k : Int) (t : TypeM) : within [k] t = decide (t.kind = k) := by simp [within]
theorem within_two (j k : Int) (t : TypeM) : within [j, k] t = decide (t.kind = j ∨ t.kind = k) := by simp [within]
theorem and_dec (P Q : Prop) [Decidable P] [Decidable Q] : (decide P && decide Q) = decide (P ∧ Q) := by
 by_cases h1 : P <;> by_cases h2 : Q <;> simp [h1, h2]
section
variable {w : World}
theorem typed_ok {k : Int} {l : List TypeM} {a b : TypeM} {vl : Value} (hl : RowIn w vl typeCells 2 l) (hs : Some2 k l a b) (h7 : 7 ≤ k) (h18 : k ≤ 18) : Rets Tryz.prog 67 [I k, vl] w fun v w' => (∃ t, v = .tuple #[agg (typeCells t), .bool (madeT k a b).isSome] ∧ ∀ x, madeT k a b = some x → t = x) ∧ Kept noB w w' := by
 have hll := hl
 obtain ⟨A, m, rfl, ⟨hm, hm'⟩, hA⟩ := hl
 have H := Sep.start0 w
 obtain ⟨hga, _, hl0⟩ := hs.get
 obtain ⟨res, hres⟩ : ∃ res, res = madeT k a b := ⟨_, rfl⟩
 rw [← hres]
 unfold madeT at hres
 have hany := hs.any fun t => t.null
 have hevery : (!(l.any fun t => !t.null)) = (a.null && b.null) := by
  rw [hs.any]; cases a.null <;> cases b.null <;> rfl
 refine retsC2 Tryz.func67 rfl rfl rfl rfl ?_
 refine Sr (FL_box H (cs := [.slice A l.length m]) rfl (h := fun b0 w2 H2 k0 => ?_))
 refine FL_alloc H2 (h := fun b1 w4 H4 k3 => ?_)
 refine Am ?_
 refine Nx (Vv (Gives.makeFunc rfl rfl) (Am ?_))
 refine Nx (Ld H4 ?_)
 refine FL_callQ H4 (typesAny_ok (p := fun t => t.null) (hll.keep H4.kept) ⟨109, [], [], rfl, inferInstance, fun t w'' _ => typed2_ok t⟩) (h := fun w10 H10 k9 => ?_)
 rw [hany]
 refine Am ?_
 refine Nx (Ld H10 ?_)
 refine FL_callQ H10 (typesAny_ok (p := fun t => !t.null) (hll.keep H10.kept) ⟨110, [], [], rfl, inferInstance, fun t w'' _ => typed3_ok t⟩) (h := fun w14 H14 k13 => ?_)
 refine Vv (Gives.not rfl) ?_
 rw [hevery]
 refine Am ?_
 refine Qn (FW_seq (Sr (Mv ?_)))
 refine Qn (FW_block (FW_cut (fun _ : Unit => [(0, I k), (3, .pointer (some ⟨b0, 0, none⟩)), (4, .pointer (some ⟨b1, 0, none⟩)), (6, .func (.func 105) #[] #[.pointer (some ⟨b0, 0, none⟩)]), (7, .bool (a.null || b.null)), (8, .bool (a.null && b.null)), (15, I k), (16, .bool (decide (k = 7 ∨ k = 8 ∨ k = 9 ∨ k = 10)))]) (fun _ w' => Sep w noB [blk b1 [.int .i64 0, .bool false] 45, blk b0 [.slice A l.length m] 101] w') ?_ ?_))
 ·refine Sr (Ve ?_)
  refine Am ?_
  refine Qn (Cp rfl (fun hc21 => ?_) (fun hc21 => ?_))
  ·refine FW_skip ?_
   exact Qcut_normal () ⟨rfl, rfl, rfl, rfl, rfl, rfl, rfl, congrArg Value.bool (decide_eq_decide.2 (by omega)), trivial⟩ H14
  refine Sr (Ve ?_)
  refine Am ?_
  refine Qn (Cp rfl (fun hc27 => ?_) (fun hc27 => ?_))
  ·refine FW_skip ?_
   exact Qcut_normal () ⟨rfl, rfl, rfl, rfl, rfl, rfl, rfl, congrArg Value.bool (decide_eq_decide.2 (by omega)), trivial⟩ H14
  refine Sr (Ve ?_)
  refine Am ?_
  refine Qn (Cp rfl (fun hc33 => ?_) (fun hc33 => ?_))
  ·refine FW_skip ?_
   exact Qcut_normal () ⟨rfl, rfl, rfl, rfl, rfl, rfl, rfl, congrArg Value.bool (decide_eq_decide.2 (by omega)), trivial⟩ H14
  refine FW_region (Ve ?_)
  refine Am ?_
  refine FL_nil ?_
  exact Qcut_normal () ⟨rfl, rfl, rfl, rfl, rfl, rfl, rfl, congrArg Value.bool (decide_eq_decide.2 (by omega)), trivial⟩ H14
 intro _ τ w41 H41
 simp only [upds, like, upd_ds, und_ds]
 refine Cp rfl (fun hc42 => ?_) (fun hc42 => ?_)
 ·rw [if_pos hc42] at hres
  refine Sr (Mv ?_)
  refine Vv (Gives.build (out := typeCells ⟨3, a.null || b.null⟩) (Fills.one rfl rfl rfl (by simp) rfl (Fills.one rfl rfl rfl (by simp) rfl Fills.nil))) (Mv ?_)
  refine FL_buildSlice H41 (xs := [_]) (out := ([3] : List Int).flatMap intCells) ((Elems.one rfl rfl Elems.nil)) rfl rfl rfl (fun bw w48 H48 k47 => ?_)
  have hb0 := H48.obj At2
  have hw0 : RowIn _ (.slice (some ⟨bw, 0, none⟩) 1 1) intCells 1 [3] := ⟨some ⟨bw, 0, none⟩, 1, rfl, ⟨by simp, by omega⟩, Sep.blkRow H48 At0 rfl⟩
  refine FL_callV (vals := [_]) rfl (typed1_ok hb0 (hll.keep H48.kept) hw0) rfl rfl (fun v' w50 hv => ?_)
  obtain ⟨rfl, hkk⟩ := hv
  have H50 := H48.keep hkk
  rw [hs.all]
  refine FL_storeAll H50 (h := fun w52 H52 => ?_)
  refine Am ?_
  refine Qn (Rb (QfnC_ret (h := ?_)))
  exact ⟨_, resC2 H52, by rw [hres]; exact typed_if (by rw [within_one, within_one, and_dec]) rfl, H52.kept⟩
 rw [if_neg hc42] at hres
 refine FW_cut (fun _ : Unit => [(0, I k), (3, .pointer (some ⟨b0, 0, none⟩)), (4, .pointer (some ⟨b1, 0, none⟩)), (6, .func (.func 105) #[] #[.pointer (some ⟨b0, 0, none⟩)]), (7, .bool (a.null || b.null)), (8, .bool (a.null && b.null)), (15, I k), (26, .bool (decide (k = 11 ∨ k = 12)))]) (fun _ w' => Sep w noB [blk b1 [.int .i64 0, .bool false] 45, blk b0 [.slice A l.length m] 101] w') ?_ ?_
 ·refine Sr (Ve ?_)
  refine Am ?_
  refine Qn (Cp rfl (fun hc59 => ?_) (fun hc59 => ?_))
  ·refine FW_skip ?_
   exact Qcut_normal () ⟨rfl, rfl, rfl, rfl, rfl, rfl, rfl, congrArg Value.bool (decide_eq_decide.2 (by omega)), trivial⟩ H41
  refine FW_region (Ve ?_)
  refine Am ?_
  refine FL_nil ?_
  exact Qcut_normal () ⟨rfl, rfl, rfl, rfl, rfl, rfl, rfl, congrArg Value.bool (decide_eq_decide.2 (by omega)), trivial⟩ H41
 intro _ τ w67 H67
 simp only [upds, like, upd_ds]
 refine Cp rfl (fun hc68 => ?_) (fun hc68 => ?_)
 ·rw [if_pos hc68] at hres
  refine Sr (Mv ?_)
  refine Vv (Gives.build (out := typeCells ⟨1, a.null || b.null⟩) (Fills.one rfl rfl rfl (by simp) rfl (Fills.one rfl rfl rfl (by simp) rfl Fills.nil))) (Mv ?_)
  refine Ld H67 ?_
  refine Vv (Gives.idxR (i := 0) rfl rfl hA hl0) (Vv (Gives.fieldR rfl (by assumption) (by omega)) ?_)
  refine Vv (Gives.loadE (i := 0) (f := 0) rfl H67 hA hga rfl) (FL_buildSlice H67 (xs := [_]) (out := ([a.kind] : List Int).flatMap intCells) ((Elems.one rfl rfl Elems.nil)) rfl rfl rfl (fun bw w78 H78 k77 => ?_))
  have hb0 := H78.obj At2
  have hw0 : RowIn _ (.slice (some ⟨bw, 0, none⟩) 1 1) intCells 1 [a.kind] := ⟨some ⟨bw, 0, none⟩, 1, rfl, ⟨by simp, by omega⟩, Sep.blkRow H78 At0 rfl⟩
  refine FL_callV (vals := [_]) rfl (typed1_ok hb0 (hll.keep H78.kept) hw0) rfl rfl (fun v' w80 hv => ?_)
  obtain ⟨rfl, hkk⟩ := hv
  have H80 := H78.keep hkk
  rw [hs.all]
  refine FL_storeAll H80 (h := fun w82 H82 => ?_)
  refine Am ?_
  refine Qn (Rb (QfnC_ret (h := ?_)))
  exact ⟨_, resC2 H82, by rw [hres]; exact typed_if (by rw [within_one, within_one, and_dec]; exact decide_eq_decide.2 ⟨fun h => h.2.symm, fun h => ⟨rfl, h.symm⟩⟩) rfl, H82.kept⟩
 rw [if_neg hc68] at hres
 refine FW_cut (fun _ : Unit => [(0, I k), (3, .pointer (some ⟨b0, 0, none⟩)), (4, .pointer (some ⟨b1, 0, none⟩)), (6, .func (.func 105) #[] #[.pointer (some ⟨b0, 0, none⟩)]), (7, .bool (a.null || b.null)), (8, .bool (a.null && b.null)), (15, I k), (38, .bool (decide (k = 13 ∨ k = 14 ∨ k = 15)))]) (fun _ w' => Sep w noB [blk b1 [.int .i64 0, .bool false] 45, blk b0 [.slice A l.length m] 101] w') ?_ ?_
 ·refine Sr (Ve ?_)
  refine Am ?_
  refine Qn (Cp rfl (fun hc89 => ?_) (fun hc89 => ?_))
  ·refine FW_skip ?_
   exact Qcut_normal () ⟨rfl, rfl, rfl, rfl, rfl, rfl, rfl, congrArg Value.bool (decide_eq_decide.2 (by omega)), trivial⟩ H67
  refine Sr (Ve ?_)
  refine Am ?_
  refine Qn (Cp rfl (fun hc95 => ?_) (fun hc95 => ?_))
  ·refine FW_skip ?_
   exact Qcut_normal () ⟨rfl, rfl, rfl, rfl, rfl, rfl, rfl, congrArg Value.bool (decide_eq_decide.2 (by omega)), trivial⟩ H67
  refine FW_region (Ve ?_)
  refine Am ?_
  refine FL_nil ?_
  exact Qcut_normal () ⟨rfl, rfl, rfl, rfl, rfl, rfl, rfl, congrArg Value.bool (decide_eq_decide.2 (by omega)), trivial⟩ H67
 intro _ τ w103 H103
 simp only [upds, like, upd_ds]
 refine Cp rfl (fun hc104 => ?_) (fun hc104 => ?_)
 ·rw [if_pos hc104] at hres
  refine Sr (Mv ?_)
  refine Vv (Gives.build (out := typeCells ⟨1, a.null || b.null⟩) (Fills.one rfl rfl rfl (by simp) rfl (Fills.one rfl rfl rfl (by simp) rfl Fills.nil))) (Mv ?_)
  refine FL_buildSlice H103 (xs := [_]) (out := ([1] : List Int).flatMap intCells) ((Elems.one rfl rfl Elems.nil)) rfl rfl rfl (fun bw w110 H110 k109 => ?_)
  have hb0 := H110.obj At2
  have hw0 : RowIn _ (.slice (some ⟨bw, 0, none⟩) 1 1) intCells 1 [1] := ⟨some ⟨bw, 0, none⟩, 1, rfl, ⟨by simp, by omega⟩, Sep.blkRow H110 At0 rfl⟩
  refine FL_callV (vals := [_]) rfl (typed1_ok hb0 (hll.keep H110.kept) hw0) rfl rfl (fun v' w112 hv => ?_)
  obtain ⟨rfl, hkk⟩ := hv
  have H112 := H110.keep hkk
  rw [hs.all]
  refine FL_storeAll H112 (h := fun w114 H114 => ?_)
  refine Am ?_
  refine Qn (Rb (QfnC_ret (h := ?_)))
  exact ⟨_, resC2 H114, by rw [hres]; exact typed_if (by rw [within_one, within_one, and_dec]) rfl, H114.kept⟩
 rw [if_neg hc104] at hres
 refine Sr (Ve ?_)
 refine Am ?_
 refine Qn (Cp rfl (fun hc120 => ?_) (fun hc120 => ?_))
 ·rw [if_pos hc120] at hres
  refine Sr (Vv (Gives.build (out := typeCells ⟨1, false⟩) (Fills.one rfl rfl rfl (by simp) rfl Fills.nil)) (FL_storeAll H103 (h := fun w124 H124 => ?_)))
  refine Am ?_
  refine Qn (Rb (QfnC_ret (h := ?_)))
  exact ⟨_, resC2 H124, by rw [hres]; exact typed_out rfl (fun y hy => by injection hy), H124.kept⟩
 rw [if_neg hc120] at hres
 refine Sr (Ve ?_)
 refine Am ?_
 refine Qn (Cp rfl (fun hc130 => ?_) (fun hc130 => ?_))
 ·rw [if_pos hc130] at hres
  refine FW_seq (FW_drawS rfl H103 (h := fun hok132 w134 H134 => ?_))
  refine FGload hok132 0 H134 (h := ?_)
  refine Gp hok132 1 rfl rfl (fun _ => (Gives.idxR rfl rfl (by assumption) (by omega))) (Gp hok132 2 rfl rfl (fun _ => (Gives.fieldR rfl (by assumption) (by omega))) ?_)
  refine Gl hok132 3 rfl rfl (Gives.loadE rfl H134 (by assumption) (by assumption) rfl) (Gm hok132 4 ?_)
  refine Gp hok132 5 rfl rfl (fun _ => (Gives.build (out := typeCells ⟨a.kind, a.null && b.null⟩) (Fills.one rfl rfl rfl (by simp) rfl (Fills.one rfl rfl rfl (by simp) rfl Fills.nil)))) (Gm hok132 6 ?_)
  refine FGload hok132 7 H134 (h := ?_)
  refine Gp hok132 8 rfl rfl (fun _ => (Gives.idxR rfl rfl (by assumption) (by omega))) (Gp hok132 9 rfl rfl (fun _ => (Gives.fieldR rfl (by assumption) (by omega))) ?_)
  refine Gl hok132 10 rfl rfl (Gives.loadE rfl H134 (by assumption) (by assumption) rfl) (FGbuildSlice hok132 11 [(6, true), (5, true), (4, true), (3, false), (2, true), (1, true), (0, false)] H134 (xs := [.tmp 62]) (out := [a.kind].flatMap intCells) (Elems.one rfl rfl Elems.nil) (h := fun bw w145 H145 => ⟨Stab_pure (Stab_pure (Stab_pure ((Stab_cons rfl (by kernel_rfl) (Gives.loadE (i := 0) (f := 0) rfl H145 hA hga rfl) rfl (Stab_pure (Stab_pure (Stab_load H145 (h := Stab_nil)))))))), ?_⟩))
  have hb0 := H145.obj At2
  have hw0 : RowIn _ (.slice (some ⟨bw, 0, none⟩) 1 1) intCells 1 [a.kind] := ⟨some ⟨bw, 0, none⟩, 1, rfl, ⟨by simp, by omega⟩, Sep.blkRow H145 At0 rfl⟩
  refine FGcallV hok132 12 [(5, true), (4, true), (3, false), (2, true), (1, true), (0, false)] (y := .tmp 58) (f := 105) (fs := []) (cs := [.pointer (some ⟨b0, 0, none⟩)]) (vals := [.slice (some ⟨bw, 0, none⟩) 1 1]) rfl (typed1_ok hb0 (hll.keep H145.kept) hw0) (h := fun v' w147 hv => ?_)
  obtain ⟨rfl, hkk⟩ := hv
  have H147 := H145.keep hkk
  rw [hs.all]
  refine ⟨Stab_pure (Stab_pure ((Stab_cons rfl (by kernel_rfl) (Gives.loadE (i := 0) (f := 0) rfl H147 hA hga rfl) rfl (Stab_pure (Stab_pure (Stab_load H147 (h := Stab_nil))))))), ?_⟩
  refine FGstoreAll hok132 13 [] H147 (h := fun w149 H149 => ⟨Stab_nil, ?_⟩)
  refine Gp hok132 14 rfl rfl (fun _ => Gives.assign rfl) (FG_end hok132 (by kernel_rfl) ?_)
  refine Qseq_normal (Rb (QfnC_ret (h := ?_)))
  exact ⟨_, resC2 H149, by rw [hres]; exact typed_if (by rw [within_one, within_one, and_dec]; exact decide_eq_decide.2 ⟨fun h => h.2.symm, fun h => ⟨rfl, h.symm⟩⟩) rfl, H149.kept⟩
 rw [if_neg hc130] at hres
 refine FW_skip (Qblk_normal (Qseq_normal (Sr (Mv ?_))))
 refine Vv (Gives.build (out := typeCells ⟨3, a.null || b.null⟩) (Fills.one rfl rfl rfl (by simp) rfl (Fills.one rfl rfl rfl (by simp) rfl Fills.nil))) (Mv ?_)
 refine FL_buildSlice H103 (xs := [_, _]) (out := ([4, 5] : List Int).flatMap intCells) ((Elems.one rfl rfl (Elems.one rfl rfl Elems.nil))) rfl rfl rfl (fun bw w157 H157 k156 => ?_)
 have hb0 := H157.obj At2
 have hw0 : RowIn _ (.slice (some ⟨bw, 0, none⟩) 2 2) intCells 1 [4, 5] := ⟨some ⟨bw, 0, none⟩, 2, rfl, ⟨by simp, by omega⟩, Sep.blkRow H157 At0 rfl⟩
 refine FL_callV (vals := [_]) rfl (typed1_ok hb0 (hll.keep H157.kept) hw0) rfl rfl (fun v' w159 hv => ?_)
 obtain ⟨rfl, hkk⟩ := hv
 have H159 := H157.keep hkk
 rw [hs.all]
 refine FL_storeAll H159 (h := fun w161 H161 => ?_)
 refine Am ?_
 refine Qn (FW_ret (QfnC_ret (h := ?_)))
 have hab : a = b := by
  rcases hs with ⟨_, h, _⟩ | ⟨_, h⟩
  ·exact h
  omega
 exact ⟨_, resC2 H161, by rw [hres]; exact typed_if (by rw [within_two, within_two, and_dec]; exact decide_eq_decide.2 (by rw [← hab]; simp)) rfl, H161.kept⟩
end
theorem rets_below {P : Program} {f : FuncId} {args : List Value} {w : World} {v : Value} (h : Calls P f args.toArray w fun e w' => e = .returned v ∧ RowKit.Below w.heap.size w w') : Rets P f args w fun v' w' => v' = v ∧ Kept noB w w' :=
 Calls.mono h fun e w' he => by
  obtain ⟨rfl, hb⟩ := he
  exact ⟨rfl, Kept.of_below hb⟩
theorem rets_same {P : Program} {f : FuncId} {args : List Value} {w : World} {v : Value} (h : Calls P f args.toArray w fun e w' => e = .returned v ∧ w' = w) : Rets P f args w fun v' w' => v' = v ∧ w = w' :=
 Calls.mono h fun e w' he => by
  obtain ⟨rfl, hb⟩ := he
  exact ⟨rfl, hb.symm⟩
def TabsU (w : World) : Prop := Lib.Utf8Tabs 4 5 w
theorem TabsU.keep {w w' : World} (h : TabsU w) (hk : Kept noB w w') : TabsU w' := Utf8Tabs_below h hk.below
def isP (k : Int) (c : CellM) : Bool :=
 if k = 1 then decide (c.s = [] ∧ 0 ≤ c.n ∧ c.n ≤ 1)
 else if k = 2 then decide (c.s = [] ∧ -2147483648 ≤ c.n ∧ c.n ≤ 2147483647)
 else if k = 3 then decide (c.s = [] ∧ -9223372036854775808 ≤ c.n ∧ c.n ≤ 9223372036854775807)
 else if k = 4 then decide (c.n = 0 ∧ c.s.length ≤ 1024) && validD c.s
 else decide (c.n = 0 ∧ c.s.length ≤ 1024)
theorem isP_eq {k : Int} {c : CellM} (hf : fits c.n) : isP k c = isC k c := by
 unfold isP isC
 split
 ·rfl
 split
 ·rfl
 split
 ·exact decide_eq_decide.2 ⟨fun h => h.1, fun h => ⟨h, hf.1, hf.2⟩⟩
 split
 ·by_cases h1 : c.n = 0 ∧ c.s.length ≤ 1024
  ·rw [decide_eq_true h1, Bool.true_and]
   cases hv : validD c.s <;> simp [h1]
  rw [decide_eq_false h1, Bool.false_and, eq_comm, decide_eq_false_iff_not]
  exact fun h => h1 ⟨h.1, h.2.1⟩
 rfl
def funcV (f : FuncId) : Value := .func (.func f) #[] #[]
def kF1 : List Value := [funcV 209, funcV 210, funcV 211, funcV 212]
def kF2 : List Value := [funcV 213, funcV 214, funcV 215, funcV 216]
def kF4 : List Value := [funcV 218, funcV 219, funcV 220, funcV 221]
def kF5 : List Value := [funcV 222, funcV 223, funcV 220, funcV 221]
def kindF (k : Int) : List Value := if k = 1 then kF1 else if k = 2 ∨ k = 3 then kF2 else if k = 4 then kF4 else kF5
section
variable {w : World}
theorem utfValid_ok (l : List UInt8) (hl : l.length ≤ 9223372036854775807) (hT : TabsU w) : Rets Tryz.prog 180 [str l] w fun v w' => v = .bool (validD l) ∧ Kept noB w w' := by
 have H := Sep.start0 w
 refine rets1 Tryz.func180 rfl rfl rfl rfl ?_
 refine Sr (Am ?_)
 refine Nx (Mv ?_)
 refine FL_callQ H (rets_below (Tryz.utf8_ValidString ⟨l.toArray⟩ _ (by rw [Mw.size_mk]; exact hl) hT)) (h := fun w4 H4 k3 => ?_)
 refine Am ?_
 refine Qn (FW_ret (Qfn_ret (hR := ?_)))
 exact ⟨rfl, H4.kept⟩
theorem size_ok (c : CellM) : Rets Tryz.prog 208 [agg (cellCells c)] w fun v w' => v = .bool (decide (c.n = 0 ∧ c.s.length ≤ 1024)) ∧ Kept noB w w' := by
 have H := Sep.start0 w
 refine rets1 Tryz.func208 rfl rfl rfl rfl ?_
 refine Sr (FL_box H (cs := cellCells c) rfl (h := fun b0 w2 H2 k0 => ?_))
 refine Am ?_
 refine Nx (Vf ?_)
 refine Ld H2 ?_
 refine Ve ?_
 refine Mv ?_
 refine FL_splitP (t := 6) rfl (fun hs8 => ?_) (fun hs8 => ?_)
 ·refine On (Vf ?_)
  refine On (Ld H2 ?_)
  refine On (Vt ?_)
  refine On (Vv (Gives.leq rfl rfl) (Pt ?_))
  refine Am ?_
  refine Qn (FW_ret (Qfn_ret (hR := ?_)))
  exact ⟨congrArg Value.bool (decide_eq_decide.2 (by omega)), H2.kept⟩
 refine Of (Of (Of (Of (Pf ?_))))
 refine Am ?_
 refine Qn (FW_ret (Qfn_ret (hR := ?_)))
 exact ⟨congrArg Value.bool (by rw [eq_comm, decide_eq_false_iff_not]; omega), H2.kept⟩
theorem plain1_ok {b1 b2 : Nat} {E1 E2 : TypeId} {lo hi : Int} (c : CellM) (h1 : w.heap[b1]? = some (.cells #[I lo] E1 (0, 0))) (h2 : w.heap[b2]? = some (.cells #[I hi] E2 (0, 0))) : Rets Tryz.prog 207 [agg (cellCells c), .pointer (some ⟨b1, 0, none⟩), .pointer (some ⟨b2, 0, none⟩)] w fun v w' => v = .bool (decide (c.s = [] ∧ lo ≤ c.n ∧ c.n ≤ hi)) ∧ Kept noB w w' := by
 have H := Sep.start0 w
 refine rets3 Tryz.func207 rfl rfl rfl rfl ?_
 refine Sr (FL_box H (cs := cellCells c) rfl (h := fun b0 w2 H2 k0 => ?_))
 refine Am ?_
 refine Nx (Vf ?_)
 refine Ld H2 ?_
 refine Vv (Gives.eqlT rfl rfl) (Mv ?_)
 refine FL_splitP (t := 8) rfl (fun hs8 => ?_) (fun hs8 => ?_)
 ·have hs := hs8
  refine On (Vf ?_)
  refine On (Ld H2 ?_)
  refine On (FL_loadB (cs := [I lo]) (H2.kept.get h1 id) (h := ?_))
  refine On (Vv (Gives.geq rfl rfl) (Pt ?_))
  refine Mv ?_
  refine FL_splitP (t := 14) rfl (fun hs16 => ?_) (fun hs16 => ?_)
  ·have hn := hs16
   refine On (Vf ?_)
   refine On (Ld H2 ?_)
   refine On (FL_loadB (cs := [I hi]) (H2.kept.get h2 id) (h := ?_))
   refine On (Vv (Gives.leq rfl rfl) (Pt ?_))
   refine Am ?_
   refine Qn (FW_ret (Qfn_ret (hR := ?_)))
   exact ⟨congrArg Value.bool (decide_eq_decide.2 ⟨fun h => ⟨hs, hn, h⟩, fun h => h.2.2⟩), H2.kept⟩
  have hn := hs16
  refine Of (Of (Of (Of (Pf ?_))))
  refine Am ?_
  refine Qn (FW_ret (Qfn_ret (hR := ?_)))
  exact ⟨congrArg Value.bool (Eq.symm (decide_eq_false fun h => hn h.2.1)), H2.kept⟩
 have hs := hs8
 refine Of (Of (Of (Of (Pf ?_))))
 refine Mv ?_
 refine Of (Of (Of (Of (Pf ?_))))
 refine Am ?_
 refine Qn (FW_ret (Qfn_ret (hR := ?_)))
 exact ⟨congrArg Value.bool (Eq.symm (decide_eq_false fun h => hs h.1)), H2.kept⟩
theorem plain_ok (lo hi : Int) : Rets Tryz.prog 206 [I lo, I hi] w fun v w' => ∃ p q : Nat, v = .func (.func 207) #[] #[.pointer (some ⟨p, 0, none⟩), .pointer (some ⟨q, 0, none⟩)] ∧ Turn noB (star (blk p [I lo] 2) (blk q [I hi] 2)) w w' := by
 have H := Sep.start0 w
 refine rets2 Tryz.func206 rfl rfl rfl rfl ?_
 refine Sr (FL_box H (cs := [I lo]) rfl (h := fun b0 w2 H2 k0 => ?_))
 refine FL_box H2 (cs := [I hi]) rfl (h := fun b1 w4 H4 k1 => ?_)
 refine Am ?_
 refine Nx (Vv (Gives.makeFunc rfl rfl) (Am ?_))
 refine Qn (FW_ret (Qfn_ret (hR := ?_)))
 exact ⟨b0, b1, rfl, (H4.front1.join0).turn⟩
theorem textIs_ok {b : Nat} {E : TypeId} (c : CellM) (hb : w.heap[b]? = some (.cells #[funcV 208] E (0, 0))) (hT : TabsU w) : Rets Tryz.prog 217 [agg (cellCells c), .pointer (some ⟨b, 0, none⟩)] w fun v w' => v = .bool (decide (c.n = 0 ∧ c.s.length ≤ 1024) && validD c.s) ∧ Kept noB w w' := by
 have H := Sep.start0 w
 refine rets2 Tryz.func217 rfl rfl rfl rfl ?_
 refine Sr (FL_box H (cs := cellCells c) rfl (h := fun b0 w2 H2 k0 => ?_))
 refine Am ?_
 refine Nx (FL_loadB (cs := [funcV 208]) (H2.kept.get hb id) (h := ?_))
 refine FL_loadAll H2 (h := ?_)
 refine FL_callV (f := 208) (fs := []) (cs := []) (vals := [agg (cellCells c)]) rfl (size_ok c) rfl rfl (fun v' w7 hv => ?_)
 obtain ⟨rfl, hkk⟩ := hv
 have H7 := H2.keep hkk
 refine Mv ?_
 refine FL_splitP (t := 7) rfl (fun hs9 => ?_) (fun hs9 => ?_)
 ·have hs := hs9
  refine On (Vf ?_)
  refine On (Ld H7 ?_)
  refine On (FL_callQ H7 (utfValid_ok c.s (by omega) (hT.keep H7.kept)) (h := fun w14 H14 k13 => ?_))
  refine Pt ?_
  refine Am ?_
  refine Qn (FW_ret (Qfn_ret (hR := ?_)))
  exact ⟨congrArg Value.bool (by rw [decide_eq_true hs, Bool.true_and]), H14.kept⟩
 have hs := hs9
 refine Of (Of (Of (Pf ?_)))
 refine Am ?_
 refine Qn (FW_ret (Qfn_ret (hR := ?_)))
 exact ⟨congrArg Value.bool (by rw [decide_eq_false hs, Bool.false_and]), H7.kept⟩
end
section
variable {w : World}
def plainV (p q : Nat) : Value := .func (.func 207) #[] #[.pointer (some ⟨p, 0, none⟩), .pointer (some ⟨q, 0, none⟩)]
theorem five {α : Type} {l : List α} (h : l.length = 5) : ∃ a b c d e, l = [a, b, c, d, e] := by
 match l, h with
 | [a, b, c, d, e], _ => exact ⟨a, b, c, d, e, rfl⟩
theorem kind_fill {ρ : Operand → Value} {x1 x2 x3 x4 x5 : Operand} {r1 r2 r3 r4 r5 : List Value} (l1 : r1.length = 5) (l2 : r2.length = 5) (l3 : r3.length = 5) (l4 : r4.length = 5) (l5 : r5.length = 5)
    (h1 : ρ x1 = .agg r1.toArray) (h2 : ρ x2 = .agg r2.toArray) (h3 : ρ x3 = .agg r3.toArray) (h4 : ρ x4 = .agg r4.toArray) (h5 : ρ x5 = .agg r5.toArray) :
    Fills (fun i : Nat => some (i * 5, 5)) ρ [(1, x1), (2, x2), (3, x3), (4, x4), (5, x5)] (List.replicate 30 .nilFunc) (List.replicate 5 .nilFunc ++ r1 ++ r2 ++ r3 ++ r4 ++ r5) := by
  obtain ⟨a1, b1, c1, d1, e1, rfl⟩ := five l1
  obtain ⟨a2, b2, c2, d2, e2, rfl⟩ := five l2
  obtain ⟨a3, b3, c3, d3, e3, rfl⟩ := five l3
  obtain ⟨a4, b4, c4, d4, e4, rfl⟩ := five l4
  obtain ⟨a5, b5, c5, d5, e5, rfl⟩ := five l5
  refine Fills.many rfl h1 (Nat.le_of_ble_eq_true rfl) rfl ?_
  refine Fills.many rfl h2 (Nat.le_of_ble_eq_true rfl) rfl ?_
  refine Fills.many rfl h3 (Nat.le_of_ble_eq_true rfl) rfl ?_
  refine Fills.many rfl h4 (Nat.le_of_ble_eq_true rfl) rfl ?_
  refine Fills.many rfl h5 (Nat.le_of_ble_eq_true rfl) rfl ?_
  rfl
def kindRows (p1 q1 p2 q2 p3 q3 b2 : Nat) : List Value := List.replicate 5 .nilFunc ++ (plainV p1 q1 :: kF1) ++ (plainV p2 q2 :: kF2) ++ (plainV p3 q3 :: kF2) ++ (Value.func (.func 217) #[] #[.pointer (some ⟨b2, 0, none⟩)] :: kF4) ++ (funcV 208 :: kF5)
theorem pred_plain {k lo hi : Int} {p q : Nat} (h1 : w.heap[p]? = some (.cells #[I lo] 2 (0, 0))) (h2 : w.heap[q]? = some (.cells #[I hi] 2 (0, 0))) (hp : ∀ c, isP k c = decide (c.s = [] ∧ lo ≤ c.n ∧ c.n ≤ hi)) : PredIn w (plainV p q) (fun c => agg (cellCells c)) (isP k) :=
 ⟨207, [], [_, _], rfl, inferInstance, fun c w'' hk => by rw [hp]; exact plain1_ok c (hk.get h1 id) (hk.get h2 id)⟩
theorem pred_text {b : Nat} {E : TypeId} (hb : w.heap[b]? = some (.cells #[funcV 208] E (0, 0))) (hT : TabsU w) : PredIn w (.func (.func 217) #[] #[.pointer (some ⟨b, 0, none⟩)]) (fun c => agg (cellCells c)) (isP 4) :=
 ⟨217, [], [_], rfl, inferInstance, fun c w'' hk => textIs_ok c (hk.get hb id) (hT.keep hk)⟩
theorem pred_size : PredIn w (funcV 208) (fun c => agg (cellCells c)) (isP 5) :=
 ⟨208, [], [], rfl, inferInstance, fun c w'' _ => size_ok c⟩
theorem kindF_len (k : Int) : (kindF k).length = 4 := by unfold kindF; (repeat' split) <;> rfl
theorem kindF_one (k : Int) : (kindF k).all Value.oneCell' = true := by unfold kindF; (repeat' split) <;> rfl
theorem of_ok (t : TypeM) (h1 : 1 ≤ t.kind) (h5 : t.kind ≤ 5) (hT : TabsU w) : Rets Tryz.prog 151 [agg (typeCells t)] w fun v w' => (∃ isF, v = agg (isF :: kindF t.kind) ∧ PredIn w' isF (fun c => agg (cellCells c)) (isP t.kind)) ∧ Kept noB w w' := by
 have H := Sep.start0 w
 refine retsC1 Tryz.func151 rfl rfl rfl rfl ?_
 refine Sr (FL_box H (cs := typeCells t) rfl (h := fun b0 w2 H2 k0 => ?_))
 refine FL_alloc H2 (h := fun b1 w4 H4 k3 => ?_)
 refine Nx (Am ?_)
 refine Nx (FL_alloc H4 (h := fun b2 w7 H7 k6 => ?_))
 refine FL_store H7 (h := fun w9 H9 => ?_)
 refine Qn (FW_seq (FW_drawS rfl H9 (h := fun hok10 w12 H12 => ?_)))
 refine Gm hok10 0 ?_
 refine Gm hok10 3 ?_
 refine Gm hok10 6 ?_
 refine Gp hok10 9 rfl rfl (fun _ => (Gives.makeFunc rfl rfl)) (Gp hok10 10 rfl rfl (fun _ => (Gives.build (out := (Value.func (.func 217) #[] #[.pointer (some ⟨b2, 0, none⟩)]) :: kF4) (Fills.one rfl rfl rfl (by simp) rfl (Fills.one rfl rfl rfl (by simp) rfl (Fills.one rfl rfl rfl (by simp) rfl (Fills.one rfl rfl rfl (by simp) rfl (Fills.one rfl rfl rfl (by simp) rfl Fills.nil))))))) ?_)
 refine FGload hok10 11 H12 (h := ?_)
 refine Gp hok10 12 rfl rfl (fun _ => (Gives.build (out := (funcV 208) :: kF5) (Fills.one rfl rfl rfl (by simp) rfl (Fills.one rfl rfl rfl (by simp) rfl (Fills.one rfl rfl rfl (by simp) rfl (Fills.one rfl rfl rfl (by simp) rfl (Fills.one rfl rfl rfl (by simp) rfl Fills.nil))))))) (FG_two hok10 (e1 := 1) (e2 := 14) (by kernel_rfl) ?_ ?_)
 ·refine step_callV hok10 1 [(12, true), (11, false), (10, true), (9, true), (6, true), (3, true)] (y := .tmp 6) (f := 206) (fs := []) (cs := []) (vals := [I 0, I 1]) rfl (plain_ok 0 1) (h := fun v' w18 hv => ?_)
  obtain ⟨p1, q1, rfl, hkk, F', hq, hsub⟩ := hv
  have H18 := (H12.new hkk hq fun b hb => (hsub b hb).resolve_left id).star0
  refine ⟨Stab_pure (Stab_load H18 (h := Stab_pure (Stab_pure (Stab_pure (Stab_pure (Stab_nil)))))), ?_⟩
  refine Gp hok10 2 rfl rfl (fun _ => (Gives.build (out := (plainV p1 q1) :: kF1) (Fills.one rfl rfl rfl (by simp) rfl (Fills.one rfl rfl rfl (by simp) rfl (Fills.one rfl rfl rfl (by simp) rfl (Fills.one rfl rfl rfl (by simp) rfl (Fills.one rfl rfl rfl (by simp) rfl Fills.nil))))))) (FG_two hok10 (e1 := 4) (e2 := 14) (by kernel_rfl) ?_ ?_)
  ·refine step_callV hok10 4 [(2, true), (12, true), (11, false), (10, true), (9, true), (6, true)] (y := .tmp 9) (f := 206) (fs := []) (cs := []) (vals := [I (-2147483648), I 2147483647]) rfl (plain_ok (-2147483648) 2147483647) (h := fun v' w21 hv => ?_)
   obtain ⟨p2, q2, rfl, hkk, F', hq, hsub⟩ := hv
   have H21 := (H18.new hkk hq fun b hb => (hsub b hb).resolve_left id).star0
   refine ⟨Stab_pure (Stab_pure (Stab_load H21 (h := Stab_pure (Stab_pure (Stab_pure (Stab_nil)))))), ?_⟩
   refine Gp hok10 5 rfl rfl (fun _ => (Gives.build (out := (plainV p2 q2) :: kF2) (Fills.one rfl rfl rfl (by simp) rfl (Fills.one rfl rfl rfl (by simp) rfl (Fills.one rfl rfl rfl (by simp) rfl (Fills.one rfl rfl rfl (by simp) rfl (Fills.one rfl rfl rfl (by simp) rfl Fills.nil))))))) (FG_two hok10 (e1 := 7) (e2 := 14) (by kernel_rfl) ?_ ?_)
   ·refine step_callV hok10 7 [(5, true), (2, true), (12, true), (11, false), (10, true), (9, true)] (y := .tmp 12) (f := 206) (fs := []) (cs := []) (vals := [I (-9223372036854775808), I 9223372036854775807]) rfl (plain_ok (-9223372036854775808) 9223372036854775807) (h := fun v' w24 hv => ?_)
    obtain ⟨p3, q3, rfl, hkk, F', hq, hsub⟩ := hv
    have H24 := (H21.new hkk hq fun b hb => (hsub b hb).resolve_left id).star0
    refine ⟨Stab_pure (Stab_pure (Stab_pure (Stab_load H24 (h := Stab_pure (Stab_pure (Stab_nil)))))), ?_⟩
    refine Gp hok10 8 rfl rfl (fun _ => (Gives.build (out := (plainV p3 q3) :: kF2) (Fills.one rfl rfl rfl (by simp) rfl (Fills.one rfl rfl rfl (by simp) rfl (Fills.one rfl rfl rfl (by simp) rfl (Fills.one rfl rfl rfl (by simp) rfl (Fills.one rfl rfl rfl (by simp) rfl Fills.nil))))))) (Gp hok10 13 rfl rfl (fun _ => (Gives.buildA (out := kindRows p1 q1 p2 q2 p3 q3 b2) rfl (kind_fill rfl rfl rfl rfl rfl rfl rfl rfl rfl rfl))) ?_)
    refine FGalloc hok10 14 [(13, true), (8, true), (5, true), (2, true), (12, true), (11, false), (10, true), (9, true)] H24 (h := fun b5 w28 H28 => ⟨Stab_pure (Stab_pure (Stab_pure (Stab_pure (Stab_pure (Stab_load H28 (h := Stab_pure (Stab_pure (Stab_nil)))))))), ?_⟩)
    refine FGstoreAll hok10 15 [] H28 (h := fun w30 H30 => ⟨Stab_nil, ?_⟩)
    refine FG_end hok10 (by kernel_rfl) ?_
    refine Qseq_normal (Sr ?_)
    have htn : ((t.kind.toNat : Nat) : Int) = t.kind := Int.toNat_of_nonneg (by omega)
    obtain ⟨isV, hval, hone, hrow⟩ : ∃ isV : Value, ((t.kind = 1 ∧ isV = plainV p1 q1) ∨ (t.kind = 2 ∧ isV = plainV p2 q2) ∨ (t.kind = 3 ∧ isV = plainV p3 q3) ∨ (t.kind = 4 ∧ isV = Value.func (.func 217) #[] #[.pointer (some ⟨b2, 0, none⟩)]) ∨ (t.kind = 5 ∧ isV = funcV 208)) ∧ isV.oneCell' = true ∧ ((kindRows p1 q1 p2 q2 p3 q3 b2).drop (0 + t.kind.toNat * 5)).take 5 = isV :: kindF t.kind := by
     rcases (by omega : t.kind = 1 ∨ t.kind = 2 ∨ t.kind = 3 ∨ t.kind = 4 ∨ t.kind = 5) with e | e | e | e | e <;> rw [e]
     ·exact ⟨_, .inl ⟨rfl, rfl⟩, rfl, rfl⟩
     ·exact ⟨_, .inr (.inl ⟨rfl, rfl⟩), rfl, rfl⟩
     ·exact ⟨_, .inr (.inr (.inl ⟨rfl, rfl⟩)), rfl, rfl⟩
     ·exact ⟨_, .inr (.inr (.inr (.inl ⟨rfl, rfl⟩))), rfl, rfl⟩
     exact ⟨_, .inr (.inr (.inr (.inr ⟨rfl, rfl⟩))), rfl, rfl⟩
    refine Vf ?_
    refine Ld H30 ?_
    refine Vv (Gives.idxArr (i := t.kind.toNat) rfl (by rw [htn]; rfl) (by omega)) ?_
    refine FL_loadN (us := isV :: kindF t.kind) (o := 0 + t.kind.toNat * 5) (b := b5) H30 (hx := by rw [← Addr.add_lit]; rfl) (hat := by first | exact At0 | exact At1 | exact At2 | exact At3 | exact At4 | exact At5 | exact At6 | exact At7 | exact At8 | exact At9) (hu := hrow) (hk := by rw [List.length_cons, kindF_len]) (h := ?_)
    refine FL_storeAll H30 (us := isV :: kindF t.kind) (hk := by rw [List.length_cons, kindF_len]) (hv := by rw [List.all_cons, hone, kindF_one]; rfl) (h := fun w36 H36 => ?_)
    refine Qn (FW_ret (QfnC_ret (h := ?_)))
    refine ⟨_, resC1 H36 (hk := by rw [List.length_cons, kindF_len]), ⟨isV, rfl, ?_⟩, H36.kept⟩
    rcases hval with ⟨e, rfl⟩ | ⟨e, rfl⟩ | ⟨e, rfl⟩ | ⟨e, rfl⟩ | ⟨e, rfl⟩ <;> rw [e]
    ·exact pred_plain (by first | exact H36.obj At0 | exact H36.obj At2 | exact H36.obj At4 | exact H36.obj At1 | exact H36.obj At3 | exact H36.obj At5 | exact H36.obj At6 | exact H36.obj At7) (by first | exact H36.obj At0 | exact H36.obj At2 | exact H36.obj At4 | exact H36.obj At1 | exact H36.obj At3 | exact H36.obj At5 | exact H36.obj At6 | exact H36.obj At7) (fun c => rfl)
    ·exact pred_plain (by first | exact H36.obj At0 | exact H36.obj At2 | exact H36.obj At4 | exact H36.obj At1 | exact H36.obj At3 | exact H36.obj At5 | exact H36.obj At6 | exact H36.obj At7) (by first | exact H36.obj At0 | exact H36.obj At2 | exact H36.obj At4 | exact H36.obj At1 | exact H36.obj At3 | exact H36.obj At5 | exact H36.obj At6 | exact H36.obj At7) (fun c => rfl)
    ·exact pred_plain (by first | exact H36.obj At0 | exact H36.obj At2 | exact H36.obj At4 | exact H36.obj At1 | exact H36.obj At3 | exact H36.obj At5 | exact H36.obj At6 | exact H36.obj At7) (by first | exact H36.obj At0 | exact H36.obj At2 | exact H36.obj At4 | exact H36.obj At1 | exact H36.obj At3 | exact H36.obj At5 | exact H36.obj At6 | exact H36.obj At7) (fun c => rfl)
    ·exact pred_text (by first | exact H36.obj At7 | exact H36.obj At6 | exact H36.obj At5 | exact H36.obj At4) (hT.keep H36.kept)
    exact pred_size
   refine step_alloc hok10 14 [(5, true), (2, true), (12, true), (11, false), (10, true), (9, true), (6, true)] H21 (h := fun b5 w39 H39 => ⟨Stab_pure (Stab_pure (Stab_pure (Stab_load H39 (h := Stab_pure (Stab_pure (Stab_pure (Stab_nil))))))), ?_⟩)
   refine FGcallV hok10 7 [(5, true), (2, true), (12, true), (11, false), (10, true), (9, true)] (y := .tmp 12) (f := 206) (fs := []) (cs := []) (vals := [I (-9223372036854775808), I 9223372036854775807]) rfl (plain_ok (-9223372036854775808) 9223372036854775807) (h := fun v' w41 hv => ?_)
   obtain ⟨p3, q3, rfl, hkk, F', hq, hsub⟩ := hv
   have H41 := (H39.new hkk hq fun b hb => (hsub b hb).resolve_left id).star0
   refine ⟨Stab_pure (Stab_pure (Stab_pure (Stab_load H41 (h := Stab_pure (Stab_pure (Stab_nil)))))), ?_⟩
   refine Gp hok10 8 rfl rfl (fun _ => (Gives.build (out := (plainV p3 q3) :: kF2) (Fills.one rfl rfl rfl (by simp) rfl (Fills.one rfl rfl rfl (by simp) rfl (Fills.one rfl rfl rfl (by simp) rfl (Fills.one rfl rfl rfl (by simp) rfl (Fills.one rfl rfl rfl (by simp) rfl Fills.nil))))))) (Gp hok10 13 rfl rfl (fun _ => (Gives.buildA (out := kindRows p1 q1 p2 q2 p3 q3 b2) rfl (kind_fill rfl rfl rfl rfl rfl rfl rfl rfl rfl rfl))) ?_)
   refine FGstoreAll hok10 15 [] H41 (h := fun w45 H45 => ⟨Stab_nil, ?_⟩)
   refine FG_end hok10 (by kernel_rfl) ?_
   refine Qseq_normal (Sr ?_)
   have htn : ((t.kind.toNat : Nat) : Int) = t.kind := Int.toNat_of_nonneg (by omega)
   obtain ⟨isV, hval, hone, hrow⟩ : ∃ isV : Value, ((t.kind = 1 ∧ isV = plainV p1 q1) ∨ (t.kind = 2 ∧ isV = plainV p2 q2) ∨ (t.kind = 3 ∧ isV = plainV p3 q3) ∨ (t.kind = 4 ∧ isV = Value.func (.func 217) #[] #[.pointer (some ⟨b2, 0, none⟩)]) ∨ (t.kind = 5 ∧ isV = funcV 208)) ∧ isV.oneCell' = true ∧ ((kindRows p1 q1 p2 q2 p3 q3 b2).drop (0 + t.kind.toNat * 5)).take 5 = isV :: kindF t.kind := by
    rcases (by omega : t.kind = 1 ∨ t.kind = 2 ∨ t.kind = 3 ∨ t.kind = 4 ∨ t.kind = 5) with e | e | e | e | e <;> rw [e]
    ·exact ⟨_, .inl ⟨rfl, rfl⟩, rfl, rfl⟩
    ·exact ⟨_, .inr (.inl ⟨rfl, rfl⟩), rfl, rfl⟩
    ·exact ⟨_, .inr (.inr (.inl ⟨rfl, rfl⟩)), rfl, rfl⟩
    ·exact ⟨_, .inr (.inr (.inr (.inl ⟨rfl, rfl⟩))), rfl, rfl⟩
    exact ⟨_, .inr (.inr (.inr (.inr ⟨rfl, rfl⟩))), rfl, rfl⟩
   refine Vf ?_
   refine Ld H45 ?_
   refine Vv (Gives.idxArr (i := t.kind.toNat) rfl (by rw [htn]; rfl) (by omega)) ?_
   refine FL_loadN (us := isV :: kindF t.kind) (o := 0 + t.kind.toNat * 5) (b := b5) H45 (hx := by rw [← Addr.add_lit]; rfl) (hat := by first | exact At0 | exact At1 | exact At2 | exact At3 | exact At4 | exact At5 | exact At6 | exact At7 | exact At8 | exact At9) (hu := hrow) (hk := by rw [List.length_cons, kindF_len]) (h := ?_)
   refine FL_storeAll H45 (us := isV :: kindF t.kind) (hk := by rw [List.length_cons, kindF_len]) (hv := by rw [List.all_cons, hone, kindF_one]; rfl) (h := fun w51 H51 => ?_)
   refine Qn (FW_ret (QfnC_ret (h := ?_)))
   refine ⟨_, resC1 H51 (hk := by rw [List.length_cons, kindF_len]), ⟨isV, rfl, ?_⟩, H51.kept⟩
   rcases hval with ⟨e, rfl⟩ | ⟨e, rfl⟩ | ⟨e, rfl⟩ | ⟨e, rfl⟩ | ⟨e, rfl⟩ <;> rw [e]
   ·exact pred_plain (by first | exact H51.obj At0 | exact H51.obj At2 | exact H51.obj At4 | exact H51.obj At1 | exact H51.obj At3 | exact H51.obj At5 | exact H51.obj At6 | exact H51.obj At7) (by first | exact H51.obj At0 | exact H51.obj At2 | exact H51.obj At4 | exact H51.obj At1 | exact H51.obj At3 | exact H51.obj At5 | exact H51.obj At6 | exact H51.obj At7) (fun c => rfl)
   ·exact pred_plain (by first | exact H51.obj At0 | exact H51.obj At2 | exact H51.obj At4 | exact H51.obj At1 | exact H51.obj At3 | exact H51.obj At5 | exact H51.obj At6 | exact H51.obj At7) (by first | exact H51.obj At0 | exact H51.obj At2 | exact H51.obj At4 | exact H51.obj At1 | exact H51.obj At3 | exact H51.obj At5 | exact H51.obj At6 | exact H51.obj At7) (fun c => rfl)
   ·exact pred_plain (by first | exact H51.obj At0 | exact H51.obj At2 | exact H51.obj At4 | exact H51.obj At1 | exact H51.obj At3 | exact H51.obj At5 | exact H51.obj At6 | exact H51.obj At7) (by first | exact H51.obj At0 | exact H51.obj At2 | exact H51.obj At4 | exact H51.obj At1 | exact H51.obj At3 | exact H51.obj At5 | exact H51.obj At6 | exact H51.obj At7) (fun c => rfl)
   ·exact pred_text (by first | exact H51.obj At7 | exact H51.obj At6 | exact H51.obj At5 | exact H51.obj At4) (hT.keep H51.kept)
   exact pred_size
  refine step_alloc hok10 14 [(2, true), (12, true), (11, false), (10, true), (9, true), (6, true), (3, true)] H18 (h := fun b5 w54 H54 => ⟨Stab_pure (Stab_pure (Stab_load H54 (h := Stab_pure (Stab_pure (Stab_pure (Stab_pure (Stab_nil))))))), ?_⟩)
  refine FGcallV hok10 4 [(2, true), (12, true), (11, false), (10, true), (9, true), (6, true)] (y := .tmp 9) (f := 206) (fs := []) (cs := []) (vals := [I (-2147483648), I 2147483647]) rfl (plain_ok (-2147483648) 2147483647) (h := fun v' w56 hv => ?_)
  obtain ⟨p2, q2, rfl, hkk, F', hq, hsub⟩ := hv
  have H56 := (H54.new hkk hq fun b hb => (hsub b hb).resolve_left id).star0
  refine ⟨Stab_pure (Stab_pure (Stab_load H56 (h := Stab_pure (Stab_pure (Stab_pure (Stab_nil)))))), ?_⟩
  refine Gp hok10 5 rfl rfl (fun _ => (Gives.build (out := (plainV p2 q2) :: kF2) (Fills.one rfl rfl rfl (by simp) rfl (Fills.one rfl rfl rfl (by simp) rfl (Fills.one rfl rfl rfl (by simp) rfl (Fills.one rfl rfl rfl (by simp) rfl (Fills.one rfl rfl rfl (by simp) rfl Fills.nil))))))) (FGcallV hok10 7 [(5, true), (2, true), (12, true), (11, false), (10, true), (9, true)] (y := .tmp 12) (f := 206) (fs := []) (cs := []) (vals := [I (-9223372036854775808), I 9223372036854775807]) rfl (plain_ok (-9223372036854775808) 9223372036854775807) (h := fun v' w59 hv => ?_))
  obtain ⟨p3, q3, rfl, hkk, F', hq, hsub⟩ := hv
  have H59 := (H56.new hkk hq fun b hb => (hsub b hb).resolve_left id).star0
  refine ⟨Stab_pure (Stab_pure (Stab_pure (Stab_load H59 (h := Stab_pure (Stab_pure (Stab_nil)))))), ?_⟩
  refine Gp hok10 8 rfl rfl (fun _ => (Gives.build (out := (plainV p3 q3) :: kF2) (Fills.one rfl rfl rfl (by simp) rfl (Fills.one rfl rfl rfl (by simp) rfl (Fills.one rfl rfl rfl (by simp) rfl (Fills.one rfl rfl rfl (by simp) rfl (Fills.one rfl rfl rfl (by simp) rfl Fills.nil))))))) (Gp hok10 13 rfl rfl (fun _ => (Gives.buildA (out := kindRows p1 q1 p2 q2 p3 q3 b2) rfl (kind_fill rfl rfl rfl rfl rfl rfl rfl rfl rfl rfl))) ?_)
  refine FGstoreAll hok10 15 [] H59 (h := fun w63 H63 => ⟨Stab_nil, ?_⟩)
  refine FG_end hok10 (by kernel_rfl) ?_
  refine Qseq_normal (Sr ?_)
  have htn : ((t.kind.toNat : Nat) : Int) = t.kind := Int.toNat_of_nonneg (by omega)
  obtain ⟨isV, hval, hone, hrow⟩ : ∃ isV : Value, ((t.kind = 1 ∧ isV = plainV p1 q1) ∨ (t.kind = 2 ∧ isV = plainV p2 q2) ∨ (t.kind = 3 ∧ isV = plainV p3 q3) ∨ (t.kind = 4 ∧ isV = Value.func (.func 217) #[] #[.pointer (some ⟨b2, 0, none⟩)]) ∨ (t.kind = 5 ∧ isV = funcV 208)) ∧ isV.oneCell' = true ∧ ((kindRows p1 q1 p2 q2 p3 q3 b2).drop (0 + t.kind.toNat * 5)).take 5 = isV :: kindF t.kind := by
   rcases (by omega : t.kind = 1 ∨ t.kind = 2 ∨ t.kind = 3 ∨ t.kind = 4 ∨ t.kind = 5) with e | e | e | e | e <;> rw [e]
   ·exact ⟨_, .inl ⟨rfl, rfl⟩, rfl, rfl⟩
   ·exact ⟨_, .inr (.inl ⟨rfl, rfl⟩), rfl, rfl⟩
   ·exact ⟨_, .inr (.inr (.inl ⟨rfl, rfl⟩)), rfl, rfl⟩
   ·exact ⟨_, .inr (.inr (.inr (.inl ⟨rfl, rfl⟩))), rfl, rfl⟩
   exact ⟨_, .inr (.inr (.inr (.inr ⟨rfl, rfl⟩))), rfl, rfl⟩
  refine Vf ?_
  refine Ld H63 ?_
  refine Vv (Gives.idxArr (i := t.kind.toNat) rfl (by rw [htn]; rfl) (by omega)) ?_
  refine FL_loadN (us := isV :: kindF t.kind) (o := 0 + t.kind.toNat * 5) (b := b5) H63 (hx := by rw [← Addr.add_lit]; rfl) (hat := by first | exact At0 | exact At1 | exact At2 | exact At3 | exact At4 | exact At5 | exact At6 | exact At7 | exact At8 | exact At9) (hu := hrow) (hk := by rw [List.length_cons, kindF_len]) (h := ?_)
  refine FL_storeAll H63 (us := isV :: kindF t.kind) (hk := by rw [List.length_cons, kindF_len]) (hv := by rw [List.all_cons, hone, kindF_one]; rfl) (h := fun w69 H69 => ?_)
  refine Qn (FW_ret (QfnC_ret (h := ?_)))
  refine ⟨_, resC1 H69 (hk := by rw [List.length_cons, kindF_len]), ⟨isV, rfl, ?_⟩, H69.kept⟩
  rcases hval with ⟨e, rfl⟩ | ⟨e, rfl⟩ | ⟨e, rfl⟩ | ⟨e, rfl⟩ | ⟨e, rfl⟩ <;> rw [e]
  ·exact pred_plain (by first | exact H69.obj At0 | exact H69.obj At2 | exact H69.obj At4 | exact H69.obj At1 | exact H69.obj At3 | exact H69.obj At5 | exact H69.obj At6 | exact H69.obj At7) (by first | exact H69.obj At0 | exact H69.obj At2 | exact H69.obj At4 | exact H69.obj At1 | exact H69.obj At3 | exact H69.obj At5 | exact H69.obj At6 | exact H69.obj At7) (fun c => rfl)
  ·exact pred_plain (by first | exact H69.obj At0 | exact H69.obj At2 | exact H69.obj At4 | exact H69.obj At1 | exact H69.obj At3 | exact H69.obj At5 | exact H69.obj At6 | exact H69.obj At7) (by first | exact H69.obj At0 | exact H69.obj At2 | exact H69.obj At4 | exact H69.obj At1 | exact H69.obj At3 | exact H69.obj At5 | exact H69.obj At6 | exact H69.obj At7) (fun c => rfl)
  ·exact pred_plain (by first | exact H69.obj At0 | exact H69.obj At2 | exact H69.obj At4 | exact H69.obj At1 | exact H69.obj At3 | exact H69.obj At5 | exact H69.obj At6 | exact H69.obj At7) (by first | exact H69.obj At0 | exact H69.obj At2 | exact H69.obj At4 | exact H69.obj At1 | exact H69.obj At3 | exact H69.obj At5 | exact H69.obj At6 | exact H69.obj At7) (fun c => rfl)
  ·exact pred_text (by first | exact H69.obj At7 | exact H69.obj At6 | exact H69.obj At5 | exact H69.obj At4) (hT.keep H69.kept)
  exact pred_size
 refine step_alloc hok10 14 [(12, true), (11, false), (10, true), (9, true), (6, true), (3, true), (0, true)] H12 (h := fun b5 w72 H72 => ⟨Stab_pure (Stab_load H72 (h := Stab_pure (Stab_pure (Stab_pure (Stab_pure (Stab_pure (Stab_nil))))))), ?_⟩)
 refine FGcallV hok10 1 [(12, true), (11, false), (10, true), (9, true), (6, true), (3, true)] (y := .tmp 6) (f := 206) (fs := []) (cs := []) (vals := [I 0, I 1]) rfl (plain_ok 0 1) (h := fun v' w74 hv => ?_)
 obtain ⟨p1, q1, rfl, hkk, F', hq, hsub⟩ := hv
 have H74 := (H72.new hkk hq fun b hb => (hsub b hb).resolve_left id).star0
 refine ⟨Stab_pure (Stab_load H74 (h := Stab_pure (Stab_pure (Stab_pure (Stab_pure (Stab_nil)))))), ?_⟩
 refine Gp hok10 2 rfl rfl (fun _ => (Gives.build (out := (plainV p1 q1) :: kF1) (Fills.one rfl rfl rfl (by simp) rfl (Fills.one rfl rfl rfl (by simp) rfl (Fills.one rfl rfl rfl (by simp) rfl (Fills.one rfl rfl rfl (by simp) rfl (Fills.one rfl rfl rfl (by simp) rfl Fills.nil))))))) (FGcallV hok10 4 [(2, true), (12, true), (11, false), (10, true), (9, true), (6, true)] (y := .tmp 9) (f := 206) (fs := []) (cs := []) (vals := [I (-2147483648), I 2147483647]) rfl (plain_ok (-2147483648) 2147483647) (h := fun v' w77 hv => ?_))
 obtain ⟨p2, q2, rfl, hkk, F', hq, hsub⟩ := hv
 have H77 := (H74.new hkk hq fun b hb => (hsub b hb).resolve_left id).star0
 refine ⟨Stab_pure (Stab_pure (Stab_load H77 (h := Stab_pure (Stab_pure (Stab_pure (Stab_nil)))))), ?_⟩
 refine Gp hok10 5 rfl rfl (fun _ => (Gives.build (out := (plainV p2 q2) :: kF2) (Fills.one rfl rfl rfl (by simp) rfl (Fills.one rfl rfl rfl (by simp) rfl (Fills.one rfl rfl rfl (by simp) rfl (Fills.one rfl rfl rfl (by simp) rfl (Fills.one rfl rfl rfl (by simp) rfl Fills.nil))))))) (FGcallV hok10 7 [(5, true), (2, true), (12, true), (11, false), (10, true), (9, true)] (y := .tmp 12) (f := 206) (fs := []) (cs := []) (vals := [I (-9223372036854775808), I 9223372036854775807]) rfl (plain_ok (-9223372036854775808) 9223372036854775807) (h := fun v' w80 hv => ?_))
 obtain ⟨p3, q3, rfl, hkk, F', hq, hsub⟩ := hv
 have H80 := (H77.new hkk hq fun b hb => (hsub b hb).resolve_left id).star0
 refine ⟨Stab_pure (Stab_pure (Stab_pure (Stab_load H80 (h := Stab_pure (Stab_pure (Stab_nil)))))), ?_⟩
 refine Gp hok10 8 rfl rfl (fun _ => (Gives.build (out := (plainV p3 q3) :: kF2) (Fills.one rfl rfl rfl (by simp) rfl (Fills.one rfl rfl rfl (by simp) rfl (Fills.one rfl rfl rfl (by simp) rfl (Fills.one rfl rfl rfl (by simp) rfl (Fills.one rfl rfl rfl (by simp) rfl Fills.nil))))))) (Gp hok10 13 rfl rfl (fun _ => (Gives.buildA (out := kindRows p1 q1 p2 q2 p3 q3 b2) rfl (kind_fill rfl rfl rfl rfl rfl rfl rfl rfl rfl rfl))) ?_)
 refine FGstoreAll hok10 15 [] H80 (h := fun w84 H84 => ⟨Stab_nil, ?_⟩)
 refine FG_end hok10 (by kernel_rfl) ?_
 refine Qseq_normal (Sr ?_)
 have htn : ((t.kind.toNat : Nat) : Int) = t.kind := Int.toNat_of_nonneg (by omega)
 obtain ⟨isV, hval, hone, hrow⟩ : ∃ isV : Value, ((t.kind = 1 ∧ isV = plainV p1 q1) ∨ (t.kind = 2 ∧ isV = plainV p2 q2) ∨ (t.kind = 3 ∧ isV = plainV p3 q3) ∨ (t.kind = 4 ∧ isV = Value.func (.func 217) #[] #[.pointer (some ⟨b2, 0, none⟩)]) ∨ (t.kind = 5 ∧ isV = funcV 208)) ∧ isV.oneCell' = true ∧ ((kindRows p1 q1 p2 q2 p3 q3 b2).drop (0 + t.kind.toNat * 5)).take 5 = isV :: kindF t.kind := by
  rcases (by omega : t.kind = 1 ∨ t.kind = 2 ∨ t.kind = 3 ∨ t.kind = 4 ∨ t.kind = 5) with e | e | e | e | e <;> rw [e]
  ·exact ⟨_, .inl ⟨rfl, rfl⟩, rfl, rfl⟩
  ·exact ⟨_, .inr (.inl ⟨rfl, rfl⟩), rfl, rfl⟩
  ·exact ⟨_, .inr (.inr (.inl ⟨rfl, rfl⟩)), rfl, rfl⟩
  ·exact ⟨_, .inr (.inr (.inr (.inl ⟨rfl, rfl⟩))), rfl, rfl⟩
  exact ⟨_, .inr (.inr (.inr (.inr ⟨rfl, rfl⟩))), rfl, rfl⟩
 refine Vf ?_
 refine Ld H84 ?_
 refine Vv (Gives.idxArr (i := t.kind.toNat) rfl (by rw [htn]; rfl) (by omega)) ?_
 refine FL_loadN (us := isV :: kindF t.kind) (o := 0 + t.kind.toNat * 5) (b := b5) H84 (hx := by rw [← Addr.add_lit]; rfl) (hat := by first | exact At0 | exact At1 | exact At2 | exact At3 | exact At4 | exact At5 | exact At6 | exact At7 | exact At8 | exact At9) (hu := hrow) (hk := by rw [List.length_cons, kindF_len]) (h := ?_)
 refine FL_storeAll H84 (us := isV :: kindF t.kind) (hk := by rw [List.length_cons, kindF_len]) (hv := by rw [List.all_cons, hone, kindF_one]; rfl) (h := fun w90 H90 => ?_)
 refine Qn (FW_ret (QfnC_ret (h := ?_)))
 refine ⟨_, resC1 H90 (hk := by rw [List.length_cons, kindF_len]), ⟨isV, rfl, ?_⟩, H90.kept⟩
 rcases hval with ⟨e, rfl⟩ | ⟨e, rfl⟩ | ⟨e, rfl⟩ | ⟨e, rfl⟩ | ⟨e, rfl⟩ <;> rw [e]
 ·exact pred_plain (by first | exact H90.obj At0 | exact H90.obj At2 | exact H90.obj At4 | exact H90.obj At1 | exact H90.obj At3 | exact H90.obj At5 | exact H90.obj At6 | exact H90.obj At7) (by first | exact H90.obj At0 | exact H90.obj At2 | exact H90.obj At4 | exact H90.obj At1 | exact H90.obj At3 | exact H90.obj At5 | exact H90.obj At6 | exact H90.obj At7) (fun c => rfl)
 ·exact pred_plain (by first | exact H90.obj At0 | exact H90.obj At2 | exact H90.obj At4 | exact H90.obj At1 | exact H90.obj At3 | exact H90.obj At5 | exact H90.obj At6 | exact H90.obj At7) (by first | exact H90.obj At0 | exact H90.obj At2 | exact H90.obj At4 | exact H90.obj At1 | exact H90.obj At3 | exact H90.obj At5 | exact H90.obj At6 | exact H90.obj At7) (fun c => rfl)
 ·exact pred_plain (by first | exact H90.obj At0 | exact H90.obj At2 | exact H90.obj At4 | exact H90.obj At1 | exact H90.obj At3 | exact H90.obj At5 | exact H90.obj At6 | exact H90.obj At7) (by first | exact H90.obj At0 | exact H90.obj At2 | exact H90.obj At4 | exact H90.obj At1 | exact H90.obj At3 | exact H90.obj At5 | exact H90.obj At6 | exact H90.obj At7) (fun c => rfl)
 ·exact pred_text (by first | exact H90.obj At7 | exact H90.obj At6 | exact H90.obj At5 | exact H90.obj At4) (hT.keep H90.kept)
 exact pred_size
end
end Go.Proofs.YtolaedhdjcnijaaGreatDoor
