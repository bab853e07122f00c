/-
 The document's Uses, walked.
-/
import Derived.Test.YtmkaahkbhdlniaaGreatDoorKn14
import Derived.Test.YtmkaahkbhdlniaaGreatDoorKn15
set_option linter.unusedVariables false
set_option linter.unusedSimpArgs false
namespace Go.Proofs.YtmkaahkbhdlniaaGreatDoor
open Go Go.Mw Go.Lib
set_option maxRecDepth 4000
section
variable {w : World}
theorem usesR_ok22 {l : List StepM} {vl : Value} (hl : RowIn w vl stepCells 3 l) (hx : ∀ x ∈ l, fits x.n) (h1000 : l.length ≤ 1000) :
    Rets Tryz.prog 23 [vl] w fun v w' => ∃ x, v = x ∧ True ∧ Turn noB (rowD 3 1 intCells x (usesS l)) w w' := by
  obtain ⟨C, n, rfl, ⟨hn, hn'⟩, hC⟩ := hl
  have H := Sep.start0 w
  have hres : usesS l = l.foldl (fun a x => if x.kind = 1 then insertI x.n a else a) [] := foldl_filter []
  rw [hres]
  refine rets1 Tryz.func23 rfl rfl rfl rfl ?_
  refine Sr (Am ?_)
  refine Nx (Am ?_)
  refine Qn (FW_seq (Sr (Am ?_)))
  refine Qn (FW_block ?_)
  have H5 := Sep.nilD H 3 1 intCells
  refine FW_loop' (fun x : Nat × List Int × Value => [(0, .slice C l.length n), (3, x.2.2), (4, I x.1)]) (fun x w' => (x.1 ≤ l.length ∧ x.2.1.length ≤ x.1 ∧ (l.drop x.1).foldl (fun a x => if x.kind = 1 then insertI x.n a else a) x.2.1 = l.foldl (fun a x => if x.kind = 1 then insertI x.n a else a) []) ∧ Sep w noB [rowD 3 1 intCells x.2.2 x.2.1] w') (fun x _ => l.length - x.1) (0, [], _) ⟨rfl, rfl, rfl, trivial⟩ ⟨⟨Nat.zero_le _, Nat.le_refl _, rfl⟩, H5⟩ (fun x τ w5 hI => ?_)
  obtain ⟨i, acc, v0⟩ := x
  obtain ⟨⟨hi, hal, hst⟩, H5⟩ := hI
  dsimp only at hi hal hst H5
  obtain ⟨B, cb, rfl, hcb, hB⟩ := Sep.formD H5 At0
  try simp only [upds, like, upd_ds, und_ds]
  refine FW_seq (Sr (Mv ?_))
  refine Mv ?_
  refine Vs ?_
  refine Vl ?_
  refine Qn (Cp rfl (fun hc10 => ?_) (fun hc10 => ?_))
  · have hlt : i < l.length := by omega
    obtain ⟨x, hx'⟩ := get_some hlt
    have hdr : l.drop i = x :: l.drop (i + 1) := by
      rw [List.drop_eq_getElem_cons hlt]; rw [List.getElem?_eq_getElem hlt] at hx'; injection hx' with hx'; rw [hx']
    rw [hdr, List.foldl_cons] at hst
    have hfx := hx x (List.mem_of_getElem? hx')
    refine Sk (FW_seq (FW_block (FW_seq (Sr (Mv ?_)))))
    refine Mv ?_
    refine Vv (Gives.idxR rfl rfl (by assumption) (by omega)) (Vv (Gives.fieldR rfl (by assumption) (by omega)) ?_)
    refine Vv (Gives.loadE rfl H5 (by assumption) (by assumption) rfl) (Vn ?_)
    refine Qn (Cp rfl (fun hc18 => ?_) (fun hc18 => ?_))
    · rw [if_neg hc18] at hst
      refine FW_exit (Qseq_exit (Qblk_exit (Qseq_normal (FW_region (Mv ?_)))))
      refine Vv (Gives.addI rfl rfl rfl (by omega)) (Am ?_)
      refine FL_nil ?_
      exact Qround_normal (i + 1, acc, .slice B acc.length cb) ⟨rfl, rfl, rfl, trivial⟩ ⟨⟨by dsimp only; omega, by dsimp only; omega, hst⟩, H5⟩ (by dsimp only; omega)
    rw [if_pos (by omega)] at hst
    refine Sk (Sr (Mv ?_))
    refine Mv ?_
    refine Vv (Gives.idxR rfl rfl (by assumption) (by omega)) (Vv (Gives.fieldR rfl (by assumption) (by omega)) ?_)
    refine Vv (Gives.loadE rfl H5 (by assumption) (by assumption) rfl) (Am ?_)
    refine Nx (Am ?_)
    refine Qn (FW_cut (fun k : Nat => [(0, .slice C l.length n), (3, .slice B acc.length cb), (4, I i), (5, I x.n), (6, I k)]) (fun k w' => (k ≤ acc.length ∧ (∀ (j : Nat) y, j < k → acc[j]? = some y → y < x.n) ∧ ∀ y, acc[k]? = some y → ¬ y < x.n) ∧ Sep w noB [rowD 3 1 intCells (.slice B acc.length cb) acc] w') ?_ ?_)
    · refine FW_block (FW_loop' (fun k : Nat => [(0, .slice C l.length n), (3, .slice B acc.length cb), (4, I i), (5, I x.n), (6, I k)]) (fun k w' => (k ≤ acc.length ∧ ∀ (j : Nat) y, j < k → acc[j]? = some y → y < x.n) ∧ Sep w noB [rowD 3 1 intCells (.slice B acc.length cb) acc] w') (fun k _ => acc.length - k) 0 ⟨rfl, rfl, rfl, rfl, rfl, trivial⟩ ⟨⟨Nat.zero_le _, fun j y hj => by omega⟩, H5⟩ (fun k τ w34 hI => ?_))
      obtain ⟨⟨hk, hbelow⟩, H34⟩ := hI
      have hB := Sep_rdD H34 At0
      try simp only [upds, like, upd_ds]
      refine FW_seq (Sr (Mv ?_))
      refine Mv ?_
      refine Vs ?_
      refine Vl ?_
      refine Mv ?_
      refine FL_splitP (t := 29) rfl (fun hs40 => ?_) (fun hs40 => ?_)
      · have hka : k < acc.length := by omega
        obtain ⟨y, hy⟩ := get_some hka
        refine On (Mv ?_)
        refine On (Mv ?_)
        refine On (Vv (Gives.idxR rfl rfl (by assumption) (by omega)) (On ?_))
        refine Vv (Gives.loadW (f := 0) rfl hB hy rfl) (On ?_)
        refine Mv ?_
        refine On (Vl ?_)
        refine Pt ?_
        refine Qn (Cp rfl (fun hc49 => ?_) (fun hc49 => ?_))
        · refine Sk (FW_block (FW_region (Mv ?_)))
          refine Vv (Gives.addI rfl rfl rfl (by omega)) (Am ?_)
          refine FL_nil (Qblk_normal ?_)
          exact Qround_normal (k + 1) ⟨rfl, rfl, rfl, rfl, rfl, trivial⟩ ⟨⟨by omega, fun j y' hj hy' => by
            by_cases e : j = k
            · subst e; rw [hy] at hy'; injection hy' with hy'; omega
            exact hbelow j y' (by omega) hy'⟩, H34⟩ (by omega)
        have hge : ∀ y', acc[k]? = some y' → ¬ y' < x.n := fun y' hy' => by rw [hy] at hy'; injection hy' with hy'; omega
        refine FW_exit (Qseq_exit (Qround_exit (Qblk_exit ?_)))
        exact Qcut_normal k ⟨rfl, rfl, rfl, rfl, rfl, trivial⟩ ⟨⟨hk, hbelow, hge⟩, H34⟩
      have hka : k = acc.length := by omega
      have hge : ∀ y, acc[k]? = some y → ¬ y < x.n := fun y hy => by have := get_lt hy; omega
      refine Of (Of (Of (Of (Of (Of (Pf ?_))))))
      refine Qn (FW_cond_false rfl ?_)
      refine FW_exit (Qseq_exit (Qround_exit (Qblk_exit ?_)))
      exact Qcut_normal k ⟨rfl, rfl, rfl, rfl, rfl, trivial⟩ ⟨⟨hk, hbelow, hge⟩, H34⟩
    rintro k τ w60 ⟨⟨hk, hbelow, hge⟩, H60⟩
    have hB := Sep_rdD H60 At0
    have hins := insertI_at hbelow hk hge
    simp only [upds, like, upd_ds]
    refine Sr (Mv ?_)
    refine Mv ?_
    refine Vs ?_
    refine Ve ?_
    refine Mv ?_
    refine FL_splitP (t := 43) rfl (fun hs66 => ?_) (fun hs66 => ?_)
    · have hka : k = acc.length := by omega
      rw [if_neg (by rw [List.getElem?_eq_none (by omega)]; simp)] at hins
      refine Of (Of (Of (Of (Of (Of (Pt ?_))))))
      refine Qn (FW_cond_true rfl ?_)
      refine Sr ?_
      have H70 := Sep.nilD H60 3 1 intCells
      refine Am ?_
      refine Qn (FW_drawS rfl H70 (h := fun hok71 w73 H73 => ?_))
      refine Gm hok71 0 ?_
      refine Gm hok71 1 ?_
      refine Gm hok71 2 ?_
      refine Gp hok71 3 rfl rfl (fun _ => (Gives.sliceTo rfl rfl (by omega))) (Gm hok71 5 ?_)
      refine Gm hok71 8 ?_
      refine Gm hok71 9 ?_
      refine Gp hok71 10 rfl rfl (fun _ => (Gives.sliceFrom rfl rfl (by omega))) (FG_two hok71 (e1 := 4) (e2 := 6) (by kernel_rfl) ?_ ?_)
      · first
        | refine step_appendO hok71 4 [(10, true), (9, true), (8, true), (5, true)] H73 (news := acc.take k) At0 ((Sep_rdD H73 At1).cut k) (by unfold maxLen; simp; omega) (by simp; omega) (cells_one (fun _ => rfl) _) (hy := by rw [List.length_take, Nat.min_eq_left hk]; rfl) (h := fun v2 w77 H77 => ⟨Stab_pure (Stab_pure (Stab_pure (Stab_pure (Stab_nil)))), ?_⟩)
        | refine step_appendO hok71 4 [(10, true), (9, true), (8, true), (5, true)] H73 (news := acc.take k) At1 ((Sep_rdD H73 At2).cut k) (by unfold maxLen; simp; omega) (by simp; omega) (cells_one (fun _ => rfl) _) (hy := by rw [List.length_take, Nat.min_eq_left hk]; rfl) (h := fun v2 w77 H77 => ⟨Stab_pure (Stab_pure (Stab_pure (Stab_pure (Stab_nil)))), ?_⟩)
        refine FGbuildSlice hok71 6 [(10, true), (9, true), (8, true)] H77 (xs := [.tmp 56]) (out := [x.n].flatMap intCells) (Elems.one rfl rfl Elems.nil) (h := fun b w79 H79 => ⟨Stab_pure (Stab_pure (Stab_pure (Stab_nil))), ?_⟩)
        refine FGappendD hok71 7 [(10, true), (9, true), (8, true)] H79 (news := [x.n]) At0 (by unfold maxLen; simp; omega) (by simp; omega) (cells_one (fun _ => rfl) [x.n]) (h := fun v3 w81 H81 => ⟨Stab_pure (Stab_pure (Stab_pure (Stab_nil))), ?_⟩)
        refine FGappendO hok71 11 [] H81 (news := acc.drop k) At0 ((Sep_rdD H81 At1).fromC k hcb) (by unfold maxLen; simp; omega) (by simp; omega) (cells_one (fun _ => rfl) _) (hy := by rw [List.length_drop]; rfl) (h := fun v4 w83 H83 => ⟨Stab_nil, ?_⟩)
        refine FGset hok71 12 [] (h := ⟨Stab_nil, ?_⟩)
        refine FG_end hok71 (by kernel_rfl) ?_
        refine Qblk_normal (Qseq_normal (FW_region (Mv ?_)))
        refine Vv (Gives.addI rfl rfl rfl (by omega)) (Am ?_)
        refine FL_nil ?_
        have hap : [] ++ acc.take k ++ [x.n] ++ acc.drop k = insertI x.n acc := by rw [hins]; simp
        rw [hap] at H83
        have hil := insertI_len x.n acc
        exact Qround_normal (i + 1, insertI x.n acc, v4) ⟨rfl, rfl, rfl, trivial⟩ ⟨⟨by dsimp only; omega, by dsimp only; omega, hst⟩, H83.firsts (l := [_])⟩ (by dsimp only; omega)
      refine step_buildSlice hok71 6 [(10, true), (9, true), (8, true), (3, true), (2, true), (1, true), (0, true)] H73 (xs := [.tmp 56]) (out := [x.n].flatMap intCells) (Elems.one rfl rfl Elems.nil) (h := fun b w90 H90 => ⟨Stab_pure (Stab_pure (Stab_pure (Stab_pure (Stab_pure (Stab_pure (Stab_pure (Stab_nil))))))), ?_⟩)
      first
      | refine FGappendO hok71 4 [(10, true), (9, true), (8, true)] H90 (news := acc.take k) At0 ((Sep_rdD H90 At1).cut k) (by unfold maxLen; simp; omega) (by simp; omega) (cells_one (fun _ => rfl) _) (hy := by rw [List.length_take, Nat.min_eq_left hk]; rfl) (h := fun v2 w92 H92 => ⟨Stab_pure (Stab_pure (Stab_pure (Stab_nil))), ?_⟩)
      | refine FGappendO hok71 4 [(10, true), (9, true), (8, true)] H90 (news := acc.take k) At1 ((Sep_rdD H90 At2).cut k) (by unfold maxLen; simp; omega) (by simp; omega) (cells_one (fun _ => rfl) _) (hy := by rw [List.length_take, Nat.min_eq_left hk]; rfl) (h := fun v2 w92 H92 => ⟨Stab_pure (Stab_pure (Stab_pure (Stab_nil))), ?_⟩)
      refine FGappendD hok71 7 [(10, true), (9, true), (8, true)] H92 (news := [x.n]) At0 (by unfold maxLen; simp; omega) (by simp; omega) (cells_one (fun _ => rfl) [x.n]) (h := fun v3 w94 H94 => ⟨Stab_pure (Stab_pure (Stab_pure (Stab_nil))), ?_⟩)
      refine FGappendO hok71 11 [] H94 (news := acc.drop k) At0 ((Sep_rdD H94 At1).fromC k hcb) (by unfold maxLen; simp; omega) (by simp; omega) (cells_one (fun _ => rfl) _) (hy := by rw [List.length_drop]; rfl) (h := fun v4 w96 H96 => ⟨Stab_nil, ?_⟩)
      refine FGset hok71 12 [] (h := ⟨Stab_nil, ?_⟩)
      refine FG_end hok71 (by kernel_rfl) ?_
      refine Qblk_normal (Qseq_normal (FW_region (Mv ?_)))
      refine Vv (Gives.addI rfl rfl rfl (by omega)) (Am ?_)
      refine FL_nil ?_
      have hap : [] ++ acc.take k ++ [x.n] ++ acc.drop k = insertI x.n acc := by rw [hins]; simp
      rw [hap] at H96
      have hil := insertI_len x.n acc
      exact Qround_normal (i + 1, insertI x.n acc, v4) ⟨rfl, rfl, rfl, trivial⟩ ⟨⟨by dsimp only; omega, by dsimp only; omega, hst⟩, H96.firsts (l := [_])⟩ (by dsimp only; omega)
    have hka : k < acc.length := by omega
    obtain ⟨y, hy⟩ := get_some hka
    refine On (Mv ?_)
    refine On (Mv ?_)
    refine On (Vv (Gives.idxR rfl rfl (by assumption) (by omega)) (On ?_))
    refine Vv (Gives.loadW (f := 0) rfl hB hy rfl) (On ?_)
    refine Mv ?_
    refine On (Vn ?_)
    refine Pf ?_
    refine Qn (Cp rfl (fun hc110 => ?_) (fun hc110 => ?_))
    · rw [if_neg (by rw [hy]; simp; omega)] at hins
      refine Sr ?_
      have H113 := Sep.nilD H60 3 1 intCells
      refine Am ?_
      refine Qn (FW_drawS rfl H113 (h := fun hok114 w116 H116 => ?_))
      refine Gm hok114 0 ?_
      refine Gm hok114 1 ?_
      refine Gm hok114 2 ?_
      refine Gp hok114 3 rfl rfl (fun _ => (Gives.sliceTo rfl rfl (by omega))) (Gm hok114 5 ?_)
      refine Gm hok114 8 ?_
      refine Gm hok114 9 ?_
      refine Gp hok114 10 rfl rfl (fun _ => (Gives.sliceFrom rfl rfl (by omega))) (FG_two hok114 (e1 := 4) (e2 := 6) (by kernel_rfl) ?_ ?_)
      · first
        | refine step_appendO hok114 4 [(10, true), (9, true), (8, true), (5, true)] H116 (news := acc.take k) At0 ((Sep_rdD H116 At1).cut k) (by unfold maxLen; simp; omega) (by simp; omega) (cells_one (fun _ => rfl) _) (hy := by rw [List.length_take, Nat.min_eq_left hk]; rfl) (h := fun v2 w120 H120 => ⟨Stab_pure (Stab_pure (Stab_pure (Stab_pure (Stab_nil)))), ?_⟩)
        | refine step_appendO hok114 4 [(10, true), (9, true), (8, true), (5, true)] H116 (news := acc.take k) At1 ((Sep_rdD H116 At2).cut k) (by unfold maxLen; simp; omega) (by simp; omega) (cells_one (fun _ => rfl) _) (hy := by rw [List.length_take, Nat.min_eq_left hk]; rfl) (h := fun v2 w120 H120 => ⟨Stab_pure (Stab_pure (Stab_pure (Stab_pure (Stab_nil)))), ?_⟩)
        refine FGbuildSlice hok114 6 [(10, true), (9, true), (8, true)] H120 (xs := [.tmp 56]) (out := [x.n].flatMap intCells) (Elems.one rfl rfl Elems.nil) (h := fun b w122 H122 => ⟨Stab_pure (Stab_pure (Stab_pure (Stab_nil))), ?_⟩)
        refine FGappendD hok114 7 [(10, true), (9, true), (8, true)] H122 (news := [x.n]) At0 (by unfold maxLen; simp; omega) (by simp; omega) (cells_one (fun _ => rfl) [x.n]) (h := fun v3 w124 H124 => ⟨Stab_pure (Stab_pure (Stab_pure (Stab_nil))), ?_⟩)
        refine FGappendO hok114 11 [] H124 (news := acc.drop k) At0 ((Sep_rdD H124 At1).fromC k hcb) (by unfold maxLen; simp; omega) (by simp; omega) (cells_one (fun _ => rfl) _) (hy := by rw [List.length_drop]; rfl) (h := fun v4 w126 H126 => ⟨Stab_nil, ?_⟩)
        refine FGset hok114 12 [] (h := ⟨Stab_nil, ?_⟩)
        refine FG_end hok114 (by kernel_rfl) ?_
        refine Qblk_normal (Qseq_normal (FW_region (Mv ?_)))
        refine Vv (Gives.addI rfl rfl rfl (by omega)) (Am ?_)
        refine FL_nil ?_
        have hap : [] ++ acc.take k ++ [x.n] ++ acc.drop k = insertI x.n acc := by rw [hins]; simp
        rw [hap] at H126
        have hil := insertI_len x.n acc
        exact Qround_normal (i + 1, insertI x.n acc, v4) ⟨rfl, rfl, rfl, trivial⟩ ⟨⟨by dsimp only; omega, by dsimp only; omega, hst⟩, H126.firsts (l := [_])⟩ (by dsimp only; omega)
      refine step_buildSlice hok114 6 [(10, true), (9, true), (8, true), (3, true), (2, true), (1, true), (0, true)] H116 (xs := [.tmp 56]) (out := [x.n].flatMap intCells) (Elems.one rfl rfl Elems.nil) (h := fun b w133 H133 => ⟨Stab_pure (Stab_pure (Stab_pure (Stab_pure (Stab_pure (Stab_pure (Stab_pure (Stab_nil))))))), ?_⟩)
      first
      | refine FGappendO hok114 4 [(10, true), (9, true), (8, true)] H133 (news := acc.take k) At0 ((Sep_rdD H133 At1).cut k) (by unfold maxLen; simp; omega) (by simp; omega) (cells_one (fun _ => rfl) _) (hy := by rw [List.length_take, Nat.min_eq_left hk]; rfl) (h := fun v2 w135 H135 => ⟨Stab_pure (Stab_pure (Stab_pure (Stab_nil))), ?_⟩)
      | refine FGappendO hok114 4 [(10, true), (9, true), (8, true)] H133 (news := acc.take k) At1 ((Sep_rdD H133 At2).cut k) (by unfold maxLen; simp; omega) (by simp; omega) (cells_one (fun _ => rfl) _) (hy := by rw [List.length_take, Nat.min_eq_left hk]; rfl) (h := fun v2 w135 H135 => ⟨Stab_pure (Stab_pure (Stab_pure (Stab_nil))), ?_⟩)
      refine FGappendD hok114 7 [(10, true), (9, true), (8, true)] H135 (news := [x.n]) At0 (by unfold maxLen; simp; omega) (by simp; omega) (cells_one (fun _ => rfl) [x.n]) (h := fun v3 w137 H137 => ⟨Stab_pure (Stab_pure (Stab_pure (Stab_nil))), ?_⟩)
      refine FGappendO hok114 11 [] H137 (news := acc.drop k) At0 ((Sep_rdD H137 At1).fromC k hcb) (by unfold maxLen; simp; omega) (by simp; omega) (cells_one (fun _ => rfl) _) (hy := by rw [List.length_drop]; rfl) (h := fun v4 w139 H139 => ⟨Stab_nil, ?_⟩)
      refine FGset hok114 12 [] (h := ⟨Stab_nil, ?_⟩)
      refine FG_end hok114 (by kernel_rfl) ?_
      refine Qblk_normal (Qseq_normal (FW_region (Mv ?_)))
      refine Vv (Gives.addI rfl rfl rfl (by omega)) (Am ?_)
      refine FL_nil ?_
      have hap : [] ++ acc.take k ++ [x.n] ++ acc.drop k = insertI x.n acc := by rw [hins]; simp
      rw [hap] at H139
      have hil := insertI_len x.n acc
      exact Qround_normal (i + 1, insertI x.n acc, v4) ⟨rfl, rfl, rfl, trivial⟩ ⟨⟨by dsimp only; omega, by dsimp only; omega, hst⟩, H139.firsts (l := [_])⟩ (by dsimp only; omega)
    rw [if_pos (by rw [hy]; congr 1; omega)] at hins
    refine FW_skip (Qblk_normal (Qseq_normal (FW_region (Mv ?_))))
    refine Vv (Gives.addI rfl rfl rfl (by omega)) (Am ?_)
    refine FL_nil ?_
    exact Qround_normal (i + 1, acc, .slice B acc.length cb) ⟨rfl, rfl, rfl, trivial⟩ ⟨⟨by dsimp only; omega, by dsimp only; omega, by rw [hins] at hst; exact hst⟩, H60⟩ (by dsimp only; omega)
  have hil : i = l.length := by omega
  rw [hil, List.drop_length, List.foldl_nil] at hst
  refine FW_exit (Qseq_exit (Qround_exit (Qblk_exit (Qseq_normal (Sr (Mv ?_))))))
  refine Am ?_
  refine Qn (FW_ret (Qfn_ret (hR := ?_)))
  exact ⟨_, rfl, trivial, by rw [← hst]; exact H5.turn⟩
end
def blankB (c : UInt8) : List UInt8 := if c = 32 then [92, 117, 48, 48, 50, 48] else [c]
theorem blank_succ {q : List UInt8} {i : Nat} {c : UInt8} (h : q[i]? = some c) : (q.take (i + 1)).flatMap blankB = (q.take i).flatMap blankB ++ blankB c := by
 rw [List.take_add_one, h, List.flatMap_append]; simp
theorem blank_len (q : List UInt8) : (q.flatMap blankB).length ≤ 6 * q.length := len_flat (f := blankB) (fun c => by unfold blankB; split <;> simp) q
theorem quote_len (s : List UInt8) : (quoteL s).length ≤ 6 * s.length + 2 := by
  have h := len_flat (f := quoteB) (k := 6) (fun c => by unfold quoteB; repeat' split
                                                         all_goals simp) s
  unfold quoteL
  simp only [List.length_cons, List.length_append, List.length_nil]
  omega
theorem piece_one {q : List UInt8} {i : Nat} {c : UInt8} (h : q[i]? = some c) : (q.take (i + 1)).drop i = [c] := by
 have hlt := get_lt h
 rw [List.take_add_one, h, List.drop_append, List.drop_of_length_le (by rw [List.length_take]; omega), List.length_take, Nat.min_eq_left (by omega), Nat.sub_self]
 rfl
theorem sign_get {k : Int} (h : 7 ≤ k) (h2 : k ≤ 18) : signsW[(k - 7).toNat]? = some (signsW.getD (k - 7).toNat []) := by
 rw [List.getD_eq_getElem?_getD]
 have : (k - 7).toNat < signsW.length := by show _ < 12; omega
 rw [List.getElem?_eq_getElem this]; rfl
section
variable {w : World}
theorem word_ok22 (x : StepM) (hm : mayS x = true) (hf : fits x.n) : Rets Tryz.prog 68 [agg (stepCells x)] w fun v w' => v = str (wordS x) ∧ Kept noB w w' := by
 have H := Sep.start0 w
 obtain ⟨res, hres⟩ : ∃ res, res = wordS x := ⟨_, rfl⟩
 rw [← hres]
 unfold wordS at hres
 unfold mayS at hm
 have hil := itoa_len hf.1 hf.2
 refine rets1 Tryz.func68 rfl rfl rfl rfl ?_
 refine Sr (FL_box H (cs := stepCells x) rfl (h := fun b0 w2 H2 k0 => ?_))
 refine Am ?_
 refine Qn (FW_seq (Sr (Vf ?_)))
 refine Ld H2 ?_
 refine Qn (FW_block (Sr (Ve ?_)))
 refine Am ?_
 refine Qn (Cp rfl (fun hc8 => ?_) (fun hc8 => ?_))
 ·rw [if_pos hc8] at hres
  refine Sr (Vf ?_)
  refine Ld H2 ?_
  refine FL_callQ H2 (digits_ok9 x.n hf) (h := fun w13 H13 k12 => ?_)
  refine Vv (Gives.catT rfl rfl (by first | omega | (simp; done) | (simp; omega))) ?_
  refine Am ?_
  refine Qn (Rb (Qfn_ret (hR := ?_)))
  exact ⟨by rw [hres]; rfl, H13.kept⟩
 rw [if_neg hc8] at hres hm
 refine Sr (Ve ?_)
 refine Am ?_
 refine Qn (Cp rfl (fun hc20 => ?_) (fun hc20 => ?_))
 ·rw [if_pos hc20] at hres
  refine Sr (Vf ?_)
  refine Ld H2 ?_
  refine FL_callQ H2 (digits_ok9 x.n hf) (h := fun w25 H25 k24 => ?_)
  refine Am ?_
  refine Qn (Rb (Qfn_ret (hR := ?_)))
  exact ⟨by rw [hres]; rfl, H25.kept⟩
 rw [if_neg hc20] at hres hm
 refine Sr (Ve ?_)
 refine Am ?_
 refine Qn (Cp rfl (fun hc31 => ?_) (fun hc31 => ?_))
 ·rw [if_pos hc31] at hres hm
  simp only [decide_eq_true_eq] at hm
  obtain ⟨_, hn0, hn1⟩ := hm
  have hg : [falseW, trueW][x.n.toNat]? = some res := by
   rw [hres]
   rcases (by omega : x.n = 0 ∨ x.n = 1) with e | e
   ·rw [e]; rfl
   rw [e]; rfl
  have htn : ((x.n.toNat : Nat) : Int) = x.n := Int.toNat_of_nonneg hn0
  refine Sr (FL_buildSlice H2 (xs := [_, _]) (out := [falseW, trueW].flatMap textCells) (Elems.one rfl rfl (Elems.one rfl rfl Elems.nil)) rfl rfl rfl (fun b1 w34 H34 k33 => ?_))
  have hR : Rd w34 (some ⟨b1, 0, none⟩) textCells 1 [falseW, trueW] := Sep.blkRow H34 At0 rfl
  refine Vf ?_
  refine Ld H34 ?_
  refine Vv (Gives.idxR (l := [falseW, trueW]) (enc := textCells) (i := x.n.toNat) rfl (by rw [htn]; rfl) hR (get_lt hg)) ?_
  refine Vv (Gives.loadW (f := 0) (i := x.n.toNat) rfl hR hg rfl) (Am ?_)
  refine Qn (Rb (Qfn_ret (hR := ?_)))
  exact ⟨rfl, H34.kept⟩
 rw [if_neg hc31] at hres hm
 refine Sr (Ve ?_)
 refine Am ?_
 refine Qn (Cp rfl (fun hc44 => ?_) (fun hc44 => ?_))
 ·rw [if_pos hc44] at hres hm
  simp only [decide_eq_true_eq] at hm
  obtain ⟨_, hlen, hval⟩ := hm
  have hql := quote_len x.s
  refine Sr (Vf ?_)
  refine Ld H2 ?_
  refine FL_callQ H2 (quote_ok4 x.s (by omega)) (h := fun w49 H49 k48 => ?_)
  rw [show quoteP x.s = (quoteL x.s, 0) by unfold quoteP; rw [if_pos hval]]
  refine Mv ?_
  refine Vx ?_
  refine Vx ?_
  refine Am ?_
  refine Am ?_
  refine Nx (Am ?_)
  refine Qn (FW_seq (Sr (Am ?_)))
  refine Qn (FW_block (FW_loop' (fun i : Nat => [(1, .pointer (some ⟨b0, 0, none⟩)), (3, str (quoteL x.s)), (5, str (((quoteL x.s).take i).flatMap blankB)), (6, I i)]) (fun i w' => i ≤ (quoteL x.s).length ∧ Sep w noB [blk b0 (stepCells x) 57] w') (fun i _ => (quoteL x.s).length - i) 0 ⟨rfl, rfl, rfl, rfl, trivial⟩ ⟨Nat.zero_le _, H49⟩ (fun i τ w58 hI => ?_)))
  obtain ⟨hi, H58⟩ := hI
  have hbl := blank_len ((quoteL x.s).take i)
  rw [List.length_take, Nat.min_eq_left hi] at hbl
  try simp only [upds, like, upd_ds, und_ds]
  refine FW_seq (Sr (Mv ?_))
  refine Mv ?_
  refine Vt ?_
  refine Vl ?_
  refine Qn (Cp rfl (fun hc63 => ?_) (fun hc63 => ?_))
  ·have hlt : i < (quoteL x.s).length := by omega
   obtain ⟨c, hc⟩ := get_some hlt
   have hcd : (quoteL x.s).getD i 0 = c := getD_of hc
   have hsucc := blank_succ hc
   refine Sk (FW_seq (FW_block (Sr (Mv ?_))))
   refine Mv ?_
   refine Vv (Gives.idxD rfl rfl (by omega)) ?_
   rw [hcd]
   refine Ve ?_
   refine Qn (Cp rfl (fun hc69 => ?_) (fun hc69 => ?_))
   ·have hc32 : c = 32 := by rw [← UInt8.toNat_inj]; show c.toNat = 32; omega
    rw [hc32, show blankB 32 = [92, 117, 48, 48, 50, 48] from rfl] at hsucc
    refine FW_region (Mv ?_)
    refine Vv (Gives.catT rfl rfl (by simp only [List.length_cons, List.length_nil]; omega)) ?_
    refine Am ?_
    refine FL_nil (Qblk_normal (Qseq_normal (FW_region (Mv ?_))))
    refine Vv (Gives.addI rfl rfl rfl (by omega)) (Am ?_)
    refine FL_nil ?_
    exact Qround_normal (i + 1) ⟨rfl, rfl, by rw [hsucc]; rfl, rfl, trivial⟩ ⟨by omega, H58⟩ (by omega)
   have hc32 : ¬ c = 32 := fun e => by subst e; exact hc69 rfl
   rw [show blankB c = [c] from if_neg hc32] at hsucc
   refine FW_region (Mv ?_)
   refine Mv ?_
   refine Mv ?_
   refine Mv ?_
   refine Vv (Gives.addI (c := ((i + 1 : Nat) : Int)) rfl rfl (by omega) (by omega)) (Vv (Gives.sliceBothT rfl rfl rfl (by omega) (by omega)) ?_)
   rw [piece_one hc]
   refine Vv (Gives.catT rfl rfl (by simp only [List.length_cons, List.length_nil]; omega)) ?_
   refine Am ?_
   refine FL_nil (Qblk_normal (Qseq_normal (FW_region (Mv ?_))))
   refine Vv (Gives.addI rfl rfl rfl (by omega)) (Am ?_)
   refine FL_nil ?_
   exact Qround_normal (i + 1) ⟨rfl, rfl, by rw [hsucc]; rfl, rfl, trivial⟩ ⟨by omega, H58⟩ (by omega)
  have hil2 : i = (quoteL x.s).length := by omega
  rw [hil2, List.take_length]
  refine FW_exit (Qseq_exit (Qround_exit (Qblk_exit (Qseq_normal (Sr (Mv ?_))))))
  refine Am ?_
  refine Qn (Rb (Qfn_ret (hR := ?_)))
  exact ⟨by rw [hres]; rfl, H58.kept⟩
 rw [if_neg hc44] at hres hm
 refine Sr (Ve ?_)
 refine Am ?_
 refine Qn (Cp rfl (fun hc98 => ?_) (fun hc98 => ?_))
 ·rw [if_pos hc98] at hres hm
  simp only [decide_eq_true_eq] at hm
  obtain ⟨_, hlen⟩ := hm
  have hhl := hexL_length x.s
  refine Sr (Vf ?_)
  refine Ld H2 ?_
  refine FL_callQ H2 (hex_ok9 x.s (by omega)) (h := fun w103 H103 k102 => ?_)
  refine Vv (Gives.catT rfl rfl (by first | omega | (simp; done) | (simp; omega))) ?_
  refine Am ?_
  refine Qn (Rb (Qfn_ret (hR := ?_)))
  exact ⟨by rw [hres]; rfl, H103.kept⟩
 rw [if_neg hc98] at hres hm
 refine Sr (Ve ?_)
 refine Am ?_
 refine Qn (Cp rfl (fun hc110 => ?_) (fun hc110 => ?_))
 ·rw [if_pos hc110] at hres hm
  simp only [decide_eq_true_eq] at hm
  obtain ⟨_, hn⟩ := hm
  have hn' : x.n = 1 ∨ x.n = 3 ∨ x.n = 4 ∨ x.n = 5 := by omega
  refine Sr (Vf ?_)
  refine Ld H2 ?_
  refine FL_callS (word_ok11 _) (h := ?_)
  refine Vv (Gives.catT rfl rfl (by unfold kindW; (repeat' split) <;> simp)) (Am ?_)
  refine Qn (Rb (Qfn_ret (hR := ?_)))
  exact ⟨by rw [hres]; rcases hn' with e | e | e | e <;> rw [e] <;> rfl, H2.kept⟩
 rw [if_neg hc110] at hres hm
 simp only [decide_eq_true_eq] at hm
 obtain ⟨h7, h18, _, _⟩ := hm
 have hg := sign_get h7 h18
 rw [← hres] at hg
 have htn : (((x.kind - 7).toNat : Nat) : Int) = x.kind - 7 := Int.toNat_of_nonneg (by omega)
 refine FW_skip (Qblk_normal (Qseq_normal (Sr (FL_buildSlice H2 (xs := [_, _, _, _, _, _, _, _, _, _, _, _]) (out := signsW.flatMap textCells) (Elems.one rfl rfl (Elems.one rfl rfl (Elems.one rfl rfl (Elems.one rfl rfl (Elems.one rfl rfl (Elems.one rfl rfl (Elems.one rfl rfl (Elems.one rfl rfl (Elems.one rfl rfl (Elems.one rfl rfl (Elems.one rfl rfl (Elems.one rfl rfl Elems.nil)))))))))))) rfl rfl rfl (fun b1 w120 H120 k119 => ?_)))))
 have hR : Rd w120 (some ⟨b1, 0, none⟩) textCells 1 signsW := Sep.blkRow H120 At0 rfl
 refine Vf ?_
 refine Ld H120 ?_
 refine Vv (Gives.subI (c := (((x.kind - 7).toNat : Nat) : Int)) rfl rfl (by omega) (by omega)) (Vv (Gives.idxR (l := signsW) (enc := textCells) rfl rfl hR (get_lt hg)) ?_)
 refine Vv (Gives.loadW (f := 0) rfl hR hg rfl) (Am ?_)
 refine Qn (FW_ret (Qfn_ret (hR := ?_)))
 exact ⟨rfl, H120.kept⟩
end
theorem join_snoc (sep : UInt8) (w : List UInt8) : ∀ ws : List (List UInt8), ws ≠ [] → joinW sep (ws ++ [w]) = joinW sep ws ++ [sep] ++ w
 | [], h => absurd rfl h
 | [a], _ => by simp [joinW]
 | a :: b :: ws, _ => by
  have ih := join_snoc sep w (b :: ws) (by simp)
  show a ++ sep :: joinW sep (b :: ws ++ [w]) = a ++ sep :: joinW sep (b :: ws) ++ [sep] ++ w
  rw [ih]; simp
theorem find_at {α : Type} {l : List α} {p : α → Bool} {j : Nat} {x : α} (h : ∀ (i : Nat) y, i < j → l[i]? = some y → p y = false) (hj : l[j]? = some x) (hp : p x = true) : l.findIdx? p = some j := by
 rw [List.findIdx?_eq_some_iff_getElem]
 obtain ⟨h1, h2⟩ := List.getElem?_eq_some_iff.1 hj
 refine ⟨h1, by rw [h2]; exact hp, fun i hi => ?_⟩
 rw [h i _ hi (List.getElem?_eq_getElem (by omega))]; simp
theorem findNone {α : Type} {l : List α} {p : α → Bool} (h : ∀ (i : Nat) y, l[i]? = some y → p y = false) : l.findIdx? p = none := by
 rw [List.findIdx?_eq_none_iff]
 intro x hx
 obtain ⟨i, hi⟩ := List.getElem?_of_mem hx
 exact h i x hi
theorem word_len {x : StepM} (h : mayS x = true) (hf : fits x.n) : (wordS x).length ≤ 6146 := (len_word h hf.1 hf.2).1
attribute [local irreducible] mayS wordS
section
variable {w : World}
theorem textR_ok22 {l : List StepM} {vl : Value} (hl : RowIn w vl stepCells 3 l) (hx : ∀ x ∈ l, fits x.n) : Rets Tryz.prog 35 [vl] w fun v w' => v = .tuple #[str (textS l).1, I (textS l).2] ∧ Kept noB w w' := by
  obtain ⟨C, n, rfl, ⟨hn, hn'⟩, hC⟩ := hl
  have H := Sep.start0 w
  obtain ⟨res, hres⟩ : ∃ res, res = textS l := ⟨_, rfl⟩
  rw [← hres]
  unfold textS at hres
  refine rets1 Tryz.func35 rfl rfl rfl rfl ?_
  refine Sr (Am ?_)
  refine Am ?_
  refine Qn (FW_seq (Sr (Mv ?_)))
  refine Vs ?_
  refine Vg ?_
  refine Qn (Cp rfl (fun hc6 => ?_) (fun hc6 => ?_))
  · rw [if_pos (by omega)] at hres
    refine Sr (Am ?_)
    refine Am ?_
    refine Qn (Rs (Qfn_ret (hR := ?_)))
    exact ⟨by rw [hres]; rfl, H.kept⟩
  rw [if_neg (by omega)] at hres
  refine Sk (Sr (Am ?_))
  refine Qn (FW_seq (Sr (Am ?_)))
  refine Qn (FW_block (FW_loop' (fun i : Nat => [(0, .slice C l.length n), (4, str (joinW 32 ((l.take i).map wordS))), (5, I i)]) (fun i w' => (i ≤ l.length ∧ ∀ (j : Nat) x, j < i → l[j]? = some x → mayS x = true) ∧ Sep w noB [] w') (fun i _ => l.length - i) 0 ⟨rfl, rfl, rfl, trivial⟩ ⟨⟨Nat.zero_le _, fun j x hj => by omega⟩, H⟩ (fun i τ w15 hI => ?_)))
  obtain ⟨⟨hi, hmay⟩, H15⟩ := hI
  have hlen : (joinW 32 ((l.take i).map wordS)).length ≤ (6146 + 1) * i := by
    have := len_join 32 (k := 6146) (ws := (l.take i).map wordS) fun w hw => by
      obtain ⟨x, hxm, rfl⟩ := List.mem_map.1 hw
      obtain ⟨j, hj⟩ := List.getElem?_of_mem hxm
      rw [List.getElem?_take] at hj
      split at hj
      · exact word_len (hmay j x (by omega) hj) (hx x (List.mem_of_getElem? hj))
      cases hj
    rw [List.length_map, List.length_take, Nat.min_eq_left hi] at this
    exact this
  try simp only [upds, like, upd_ds, und_ds]
  refine FW_seq (Sr (Mv ?_))
  refine Mv ?_
  refine Vs ?_
  refine Vl ?_
  refine Qn (Cp rfl (fun hc20 => ?_) (fun hc20 => ?_))
  · have hlt : i < l.length := by omega
    obtain ⟨x, hx'⟩ := get_some hlt
    have hfx := hx x (List.mem_of_getElem? hx')
    have htk : (l.take (i + 1)).map wordS = (l.take i).map wordS ++ [wordS x] := by rw [List.take_add_one, hx', List.map_append]; rfl
    refine Sk (FW_seq (FW_block (FW_seq (Sr (Mv ?_)))))
    refine Mv ?_
    refine Vv (Gives.idxR rfl rfl (by assumption) (by omega)) (Vv (Gives.loadE0 rfl H15 (by assumption) (by assumption)) ?_)
    refine FL_callQ H15 (mayS_ok22 x) (h := fun w27 H27 k26 => ?_)
    refine Vv (Gives.not rfl) (Qn ?_)
    refine Cd rfl (fun hc29 => ?_) (fun hc29 => ?_)
    · have hno : l.all mayS = false := by
        rw [← Bool.not_eq_true, List.all_eq_true]
        intro h
        have := h x (List.mem_of_getElem? hx')
        rw [this] at hc29; cases hc29
      rw [if_pos hno] at hres
      refine Sr (Am ?_)
      refine Am ?_
      refine Qn (Rs (Qblk_ret (Qseq_ret (Qround_ret (Qblk_ret (Qseq_ret (Qfn_ret (hR := ?_))))))))
      exact ⟨by rw [hres]; rfl, H27.kept⟩
    have hmx : mayS x = true := by simpa using hc29
    refine Sk (FW_seq (Sr (Mv ?_)))
    refine Vg ?_
    refine Qn (Cp rfl (fun hc37 => ?_) (fun hc37 => ?_))
    · have hne : (l.take i).map wordS ≠ [] := fun e => by
        have := congrArg List.length e
        rw [List.length_map, List.length_take, List.length_nil] at this
        omega
      have hj := join_snoc 32 (wordS x) _ hne
      rw [← htk] at hj
      refine FW_region (Mv ?_)
      refine Vv (Gives.catT rfl rfl (by simp only [List.length_cons, List.length_nil]; omega)) ?_
      refine Am ?_
      refine Qn (FW_region (Mv ?_))
      refine Mv ?_
      refine Mv ?_
      refine Vv (Gives.idxR rfl rfl (by assumption) (by omega)) (Vv (Gives.loadE0 rfl H27 (by assumption) (by assumption)) ?_)
      refine FL_callQ H27 (word_ok22 x hmx hfx) (h := fun w48 H48 k47 => ?_)
      have hwl := word_len hmx hfx
      refine Vv (Gives.catT rfl rfl (by first | omega | (simp only [List.length_append, List.length_cons, List.length_nil]; omega))) ?_
      refine Am ?_
      refine FL_nil (Qblk_normal (Qseq_normal (FW_region (Mv ?_))))
      refine Vv (Gives.addI rfl rfl rfl (by omega)) (Am ?_)
      refine FL_nil ?_
      exact Qround_normal (i + 1) ⟨rfl, by rw [hj]; rfl, rfl, trivial⟩ ⟨⟨by omega, fun j y hj hy => by
      by_cases e : j = i
      · subst e; rw [hx'] at hy; injection hy with hy; rw [← hy]; exact hmx
      exact hmay j y (by omega) hy⟩, H48⟩ (by omega)
    have hi0 : i = 0 := by omega
    subst hi0
    have hj : joinW 32 ((l.take (0 + 1)).map wordS) = [] ++ wordS x := by rw [htk]; rfl
    refine Sk (FW_region (Mv ?_))
    refine Mv ?_
    refine Mv ?_
    refine Vv (Gives.idxR rfl rfl (by assumption) (by omega)) (Vv (Gives.loadE0 rfl H27 (by assumption) (by assumption)) ?_)
    refine FL_callQ H27 (word_ok22 x hmx hfx) (h := fun w62 H62 k61 => ?_)
    have hwl := word_len hmx hfx
    refine Vv (Gives.catT rfl rfl (by first | omega | (simp only [List.length_append, List.length_cons, List.length_nil]; omega))) ?_
    refine Am ?_
    refine FL_nil (Qblk_normal (Qseq_normal (FW_region (Mv ?_))))
    refine Vv (Gives.addI rfl rfl rfl (by omega)) (Am ?_)
    refine FL_nil ?_
    exact Qround_normal 1 ⟨rfl, by rw [hj]; rfl, rfl, trivial⟩ ⟨⟨by omega, fun j y hj hy => by
    have : j = 0 := by omega
    subst this; rw [hx'] at hy; injection hy with hy; rw [← hy]; exact hmx⟩, H62⟩ (by omega)
  have hil : i = l.length := by omega
  have hall : l.all mayS = true := List.all_eq_true.2 fun x hxm => by
    obtain ⟨j, hj⟩ := List.getElem?_of_mem hxm
    exact hmay j x (by have := get_lt hj; omega) hj
  rw [if_neg (by rw [hall]; simp)] at hres
  rw [hil, List.take_length]
  refine FW_exit (Qseq_exit (Qround_exit (Qblk_exit (Qseq_normal (Sr (Mv ?_))))))
  refine Am ?_
  refine Am ?_
  refine Qn (FW_ret (Qfn_ret (hR := ?_)))
  exact ⟨by rw [hres]; rfl, H15.kept⟩
end
end Go.Proofs.YtmkaahkbhdlniaaGreatDoor
