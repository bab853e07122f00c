/-
 The document's Uses, walked.
-/
import Derived.Test.YtolaedhdjcnijaaGreatDoorKt11
set_option linter.unusedVariables false
set_option linter.unusedSimpArgs false
namespace Go.Proofs.YtolaedhdjcnijaaGreatDoor
open Go Go.Mw Go.Lib
set_option maxRecDepth 4000
section
variable {w : World}
theorem usesR_ok22 {l : List StepM} {vl : Value} (hl : RowIn w vl stepCells 3 l) (hx : ∀ x ∈ l, fits x.n) (h1000 : l.length ≤ 100000) :
    Rets Tryz.prog 75 [vl] w fun v w' => ∃ x, v = x ∧ True ∧ Turn noB (rowD 3 1 intCells x (usesS l)) w w' := by
  obtain ⟨C, n, rfl, ⟨hn, hn'⟩, hC⟩ := hl
  have H := Sep.start0 w
  have hres : usesS l = l.foldl (fun a x => if x.kind = 1 then insertI x.n a else a) [] := foldl_filter []
  rw [hres]
  refine rets1 Tryz.func75 rfl rfl rfl rfl ?_
  refine Sr (Am ?_)
  refine Nx (Am ?_)
  refine Qn (FW_seq (Sr (Am ?_)))
  refine Qn (FW_block ?_)
  have H5 := Sep.nilD H 3 1 intCells
  refine FW_loop' (fun x : Nat × List Int × Value => [(0, .slice C l.length n), (3, x.2.2), (4, I x.1)]) (fun x w' => (x.1 ≤ l.length ∧ x.2.1.length ≤ x.1 ∧ (l.drop x.1).foldl (fun a x => if x.kind = 1 then insertI x.n a else a) x.2.1 = l.foldl (fun a x => if x.kind = 1 then insertI x.n a else a) []) ∧ Sep w noB [rowD 3 1 intCells x.2.2 x.2.1] w') (fun x _ => l.length - x.1) (0, [], _) ⟨rfl, rfl, rfl, trivial⟩ ⟨⟨Nat.zero_le _, Nat.le_refl _, rfl⟩, H5⟩ (fun x τ w5 hI => ?_)
  obtain ⟨i, acc, v0⟩ := x
  obtain ⟨⟨hi, hal, hst⟩, H5⟩ := hI
  dsimp only at hi hal hst H5
  obtain ⟨B, cb, rfl, hcb, hB⟩ := Sep.formD H5 At0
  try simp only [upds, like, upd_ds, und_ds]
  refine FW_seq (Sr (Mv ?_))
  refine Mv ?_
  refine Vs ?_
  refine Vl ?_
  refine Qn (Cp rfl (fun hc10 => ?_) (fun hc10 => ?_))
  · have hlt : i < l.length := by omega
    obtain ⟨x, hx'⟩ := get_some hlt
    have hdr : l.drop i = x :: l.drop (i + 1) := by
      rw [List.drop_eq_getElem_cons hlt]; rw [List.getElem?_eq_getElem hlt] at hx'; injection hx' with hx'; rw [hx']
    rw [hdr, List.foldl_cons] at hst
    have hfx := hx x (List.mem_of_getElem? hx')
    refine Sk (FW_seq (FW_block (FW_seq (Sr (Mv ?_)))))
    refine Mv ?_
    refine Vv (Gives.idxR rfl rfl (by assumption) (by omega)) (Vv (Gives.fieldR rfl (by assumption) (by omega)) ?_)
    refine Vv (Gives.loadE rfl H5 (by assumption) (by assumption) rfl) (Vn ?_)
    refine Qn (Cp rfl (fun hc18 => ?_) (fun hc18 => ?_))
    · rw [if_neg hc18] at hst
      refine FW_exit (Qseq_exit (Qblk_exit (Qseq_normal (FW_region (Mv ?_)))))
      refine Vv (Gives.addI rfl rfl rfl (by omega)) (Am ?_)
      refine FL_nil ?_
      exact Qround_normal (i + 1, acc, .slice B acc.length cb) ⟨rfl, rfl, rfl, trivial⟩ ⟨⟨by dsimp only; omega, by dsimp only; omega, hst⟩, H5⟩ (by dsimp only; omega)
    rw [if_pos (by omega)] at hst
    refine Sk (Sr (Mv ?_))
    refine Mv ?_
    refine Vv (Gives.idxR rfl rfl (by assumption) (by omega)) (Vv (Gives.fieldR rfl (by assumption) (by omega)) ?_)
    refine Vv (Gives.loadE rfl H5 (by assumption) (by assumption) rfl) (Am ?_)
    refine Nx (Am ?_)
    refine Qn (FW_cut (fun k : Nat => [(0, .slice C l.length n), (3, .slice B acc.length cb), (4, I i), (5, I x.n), (6, I k)]) (fun k w' => (k ≤ acc.length ∧ (∀ (j : Nat) y, j < k → acc[j]? = some y → y < x.n) ∧ ∀ y, acc[k]? = some y → ¬ y < x.n) ∧ Sep w noB [rowD 3 1 intCells (.slice B acc.length cb) acc] w') ?_ ?_)
    · refine FW_block (FW_loop' (fun k : Nat => [(0, .slice C l.length n), (3, .slice B acc.length cb), (4, I i), (5, I x.n), (6, I k)]) (fun k w' => (k ≤ acc.length ∧ ∀ (j : Nat) y, j < k → acc[j]? = some y → y < x.n) ∧ Sep w noB [rowD 3 1 intCells (.slice B acc.length cb) acc] w') (fun k _ => acc.length - k) 0 ⟨rfl, rfl, rfl, rfl, rfl, trivial⟩ ⟨⟨Nat.zero_le _, fun j y hj => by omega⟩, H5⟩ (fun k τ w34 hI => ?_))
      obtain ⟨⟨hk, hbelow⟩, H34⟩ := hI
      have hB := Sep_rdD H34 At0
      try simp only [upds, like, upd_ds]
      refine FW_seq (Sr (Mv ?_))
      refine Mv ?_
      refine Vs ?_
      refine Vl ?_
      refine Mv ?_
      refine FL_splitP (t := 29) rfl (fun hs40 => ?_) (fun hs40 => ?_)
      · have hka : k < acc.length := by omega
        obtain ⟨y, hy⟩ := get_some hka
        refine On (Mv ?_)
        refine On (Mv ?_)
        refine On (Vv (Gives.idxR rfl rfl (by assumption) (by omega)) (On ?_))
        refine Vv (Gives.loadW (f := 0) rfl hB hy rfl) (On ?_)
        refine Mv ?_
        refine On (Vl ?_)
        refine Pt ?_
        refine Qn (Cp rfl (fun hc49 => ?_) (fun hc49 => ?_))
        · refine Sk (FW_block (FW_region (Mv ?_)))
          refine Vv (Gives.addI rfl rfl rfl (by omega)) (Am ?_)
          refine FL_nil (Qblk_normal ?_)
          exact Qround_normal (k + 1) ⟨rfl, rfl, rfl, rfl, rfl, trivial⟩ ⟨⟨by omega, fun j y' hj hy' => by
            by_cases e : j = k
            · subst e; rw [hy] at hy'; injection hy' with hy'; omega
            exact hbelow j y' (by omega) hy'⟩, H34⟩ (by omega)
        have hge : ∀ y', acc[k]? = some y' → ¬ y' < x.n := fun y' hy' => by rw [hy] at hy'; injection hy' with hy'; omega
        refine FW_exit (Qseq_exit (Qround_exit (Qblk_exit ?_)))
        exact Qcut_normal k ⟨rfl, rfl, rfl, rfl, rfl, trivial⟩ ⟨⟨hk, hbelow, hge⟩, H34⟩
      have hka : k = acc.length := by omega
      have hge : ∀ y, acc[k]? = some y → ¬ y < x.n := fun y hy => by have := get_lt hy; omega
      refine Of (Of (Of (Of (Of (Of (Pf ?_))))))
      refine Qn (FW_cond_false rfl ?_)
      refine FW_exit (Qseq_exit (Qround_exit (Qblk_exit ?_)))
      exact Qcut_normal k ⟨rfl, rfl, rfl, rfl, rfl, trivial⟩ ⟨⟨hk, hbelow, hge⟩, H34⟩
    rintro k τ w60 ⟨⟨hk, hbelow, hge⟩, H60⟩
    have hB := Sep_rdD H60 At0
    have hins := insertI_at hbelow hk hge
    simp only [upds, like, upd_ds]
    refine Sr (Mv ?_)
    refine Mv ?_
    refine Vs ?_
    refine Ve ?_
    refine Mv ?_
    refine FL_splitP (t := 43) rfl (fun hs66 => ?_) (fun hs66 => ?_)
    · have hka : k = acc.length := by omega
      rw [if_neg (by rw [List.getElem?_eq_none (by omega)]; simp)] at hins
      refine Of (Of (Of (Of (Of (Of (Pt ?_))))))
      refine Qn (FW_cond_true rfl ?_)
      refine Sr ?_
      have H70 := Sep.nilD H60 3 1 intCells
      refine Am ?_
      refine Qn (FW_drawS rfl H70 (h := fun hok71 w73 H73 => ?_))
      refine Gm hok71 0 ?_
      refine Gm hok71 1 ?_
      refine Gm hok71 2 ?_
      refine Gp hok71 3 rfl rfl (fun _ => (Gives.sliceTo rfl rfl (by omega))) (Gm hok71 5 ?_)
      refine Gm hok71 8 ?_
      refine Gm hok71 9 ?_
      refine Gp hok71 10 rfl rfl (fun _ => (Gives.sliceFrom rfl rfl (by omega))) (FG_two hok71 (e1 := 4) (e2 := 6) (by kernel_rfl) ?_ ?_)
      · first
        | refine step_appendO hok71 4 [(10, true), (9, true), (8, true), (5, true)] H73 (news := acc.take k) At0 ((Sep_rdD H73 At1).cut k) (by unfold maxLen; simp; omega) (by simp; omega) (cells_one (fun _ => rfl) _) (hy := by rw [List.length_take, Nat.min_eq_left hk]; rfl) (h := fun v2 w77 H77 => ⟨Stab_pure (Stab_pure (Stab_pure (Stab_pure (Stab_nil)))), ?_⟩)
        | refine step_appendO hok71 4 [(10, true), (9, true), (8, true), (5, true)] H73 (news := acc.take k) At1 ((Sep_rdD H73 At2).cut k) (by unfold maxLen; simp; omega) (by simp; omega) (cells_one (fun _ => rfl) _) (hy := by rw [List.length_take, Nat.min_eq_left hk]; rfl) (h := fun v2 w77 H77 => ⟨Stab_pure (Stab_pure (Stab_pure (Stab_pure (Stab_nil)))), ?_⟩)
        refine FGbuildSlice hok71 6 [(10, true), (9, true), (8, true)] H77 (xs := [.tmp 56]) (out := [x.n].flatMap intCells) (Elems.one rfl rfl Elems.nil) (h := fun b w79 H79 => ⟨Stab_pure (Stab_pure (Stab_pure (Stab_nil))), ?_⟩)
        refine FGappendD hok71 7 [(10, true), (9, true), (8, true)] H79 (news := [x.n]) At0 (by unfold maxLen; simp; omega) (by simp; omega) (cells_one (fun _ => rfl) [x.n]) (h := fun v3 w81 H81 => ⟨Stab_pure (Stab_pure (Stab_pure (Stab_nil))), ?_⟩)
        refine FGappendO hok71 11 [] H81 (news := acc.drop k) At0 ((Sep_rdD H81 At1).fromC k hcb) (by unfold maxLen; simp; omega) (by simp; omega) (cells_one (fun _ => rfl) _) (hy := by rw [List.length_drop]; rfl) (h := fun v4 w83 H83 => ⟨Stab_nil, ?_⟩)
        refine FGset hok71 12 [] (h := ⟨Stab_nil, ?_⟩)
        refine FG_end hok71 (by kernel_rfl) ?_
        refine Qblk_normal (Qseq_normal (FW_region (Mv ?_)))
        refine Vv (Gives.addI rfl rfl rfl (by omega)) (Am ?_)
        refine FL_nil ?_
        have hap : [] ++ acc.take k ++ [x.n] ++ acc.drop k = insertI x.n acc := by rw [hins]; simp
        rw [hap] at H83
        have hil := insertI_len x.n acc
        exact Qround_normal (i + 1, insertI x.n acc, v4) ⟨rfl, rfl, rfl, trivial⟩ ⟨⟨by dsimp only; omega, by dsimp only; omega, hst⟩, H83.firsts (l := [_])⟩ (by dsimp only; omega)
      refine step_buildSlice hok71 6 [(10, true), (9, true), (8, true), (3, true), (2, true), (1, true), (0, true)] H73 (xs := [.tmp 56]) (out := [x.n].flatMap intCells) (Elems.one rfl rfl Elems.nil) (h := fun b w90 H90 => ⟨Stab_pure (Stab_pure (Stab_pure (Stab_pure (Stab_pure (Stab_pure (Stab_pure (Stab_nil))))))), ?_⟩)
      first
      | refine FGappendO hok71 4 [(10, true), (9, true), (8, true)] H90 (news := acc.take k) At0 ((Sep_rdD H90 At1).cut k) (by unfold maxLen; simp; omega) (by simp; omega) (cells_one (fun _ => rfl) _) (hy := by rw [List.length_take, Nat.min_eq_left hk]; rfl) (h := fun v2 w92 H92 => ⟨Stab_pure (Stab_pure (Stab_pure (Stab_nil))), ?_⟩)
      | refine FGappendO hok71 4 [(10, true), (9, true), (8, true)] H90 (news := acc.take k) At1 ((Sep_rdD H90 At2).cut k) (by unfold maxLen; simp; omega) (by simp; omega) (cells_one (fun _ => rfl) _) (hy := by rw [List.length_take, Nat.min_eq_left hk]; rfl) (h := fun v2 w92 H92 => ⟨Stab_pure (Stab_pure (Stab_pure (Stab_nil))), ?_⟩)
      refine FGappendD hok71 7 [(10, true), (9, true), (8, true)] H92 (news := [x.n]) At0 (by unfold maxLen; simp; omega) (by simp; omega) (cells_one (fun _ => rfl) [x.n]) (h := fun v3 w94 H94 => ⟨Stab_pure (Stab_pure (Stab_pure (Stab_nil))), ?_⟩)
      refine FGappendO hok71 11 [] H94 (news := acc.drop k) At0 ((Sep_rdD H94 At1).fromC k hcb) (by unfold maxLen; simp; omega) (by simp; omega) (cells_one (fun _ => rfl) _) (hy := by rw [List.length_drop]; rfl) (h := fun v4 w96 H96 => ⟨Stab_nil, ?_⟩)
      refine FGset hok71 12 [] (h := ⟨Stab_nil, ?_⟩)
      refine FG_end hok71 (by kernel_rfl) ?_
      refine Qblk_normal (Qseq_normal (FW_region (Mv ?_)))
      refine Vv (Gives.addI rfl rfl rfl (by omega)) (Am ?_)
      refine FL_nil ?_
      have hap : [] ++ acc.take k ++ [x.n] ++ acc.drop k = insertI x.n acc := by rw [hins]; simp
      rw [hap] at H96
      have hil := insertI_len x.n acc
      exact Qround_normal (i + 1, insertI x.n acc, v4) ⟨rfl, rfl, rfl, trivial⟩ ⟨⟨by dsimp only; omega, by dsimp only; omega, hst⟩, H96.firsts (l := [_])⟩ (by dsimp only; omega)
    have hka : k < acc.length := by omega
    obtain ⟨y, hy⟩ := get_some hka
    refine On (Mv ?_)
    refine On (Mv ?_)
    refine On (Vv (Gives.idxR rfl rfl (by assumption) (by omega)) (On ?_))
    refine Vv (Gives.loadW (f := 0) rfl hB hy rfl) (On ?_)
    refine Mv ?_
    refine On (Vn ?_)
    refine Pf ?_
    refine Qn (Cp rfl (fun hc110 => ?_) (fun hc110 => ?_))
    · rw [if_neg (by rw [hy]; simp; omega)] at hins
      refine Sr ?_
      have H113 := Sep.nilD H60 3 1 intCells
      refine Am ?_
      refine Qn (FW_drawS rfl H113 (h := fun hok114 w116 H116 => ?_))
      refine Gm hok114 0 ?_
      refine Gm hok114 1 ?_
      refine Gm hok114 2 ?_
      refine Gp hok114 3 rfl rfl (fun _ => (Gives.sliceTo rfl rfl (by omega))) (Gm hok114 5 ?_)
      refine Gm hok114 8 ?_
      refine Gm hok114 9 ?_
      refine Gp hok114 10 rfl rfl (fun _ => (Gives.sliceFrom rfl rfl (by omega))) (FG_two hok114 (e1 := 4) (e2 := 6) (by kernel_rfl) ?_ ?_)
      · first
        | refine step_appendO hok114 4 [(10, true), (9, true), (8, true), (5, true)] H116 (news := acc.take k) At0 ((Sep_rdD H116 At1).cut k) (by unfold maxLen; simp; omega) (by simp; omega) (cells_one (fun _ => rfl) _) (hy := by rw [List.length_take, Nat.min_eq_left hk]; rfl) (h := fun v2 w120 H120 => ⟨Stab_pure (Stab_pure (Stab_pure (Stab_pure (Stab_nil)))), ?_⟩)
        | refine step_appendO hok114 4 [(10, true), (9, true), (8, true), (5, true)] H116 (news := acc.take k) At1 ((Sep_rdD H116 At2).cut k) (by unfold maxLen; simp; omega) (by simp; omega) (cells_one (fun _ => rfl) _) (hy := by rw [List.length_take, Nat.min_eq_left hk]; rfl) (h := fun v2 w120 H120 => ⟨Stab_pure (Stab_pure (Stab_pure (Stab_pure (Stab_nil)))), ?_⟩)
        refine FGbuildSlice hok114 6 [(10, true), (9, true), (8, true)] H120 (xs := [.tmp 56]) (out := [x.n].flatMap intCells) (Elems.one rfl rfl Elems.nil) (h := fun b w122 H122 => ⟨Stab_pure (Stab_pure (Stab_pure (Stab_nil))), ?_⟩)
        refine FGappendD hok114 7 [(10, true), (9, true), (8, true)] H122 (news := [x.n]) At0 (by unfold maxLen; simp; omega) (by simp; omega) (cells_one (fun _ => rfl) [x.n]) (h := fun v3 w124 H124 => ⟨Stab_pure (Stab_pure (Stab_pure (Stab_nil))), ?_⟩)
        refine FGappendO hok114 11 [] H124 (news := acc.drop k) At0 ((Sep_rdD H124 At1).fromC k hcb) (by unfold maxLen; simp; omega) (by simp; omega) (cells_one (fun _ => rfl) _) (hy := by rw [List.length_drop]; rfl) (h := fun v4 w126 H126 => ⟨Stab_nil, ?_⟩)
        refine FGset hok114 12 [] (h := ⟨Stab_nil, ?_⟩)
        refine FG_end hok114 (by kernel_rfl) ?_
        refine Qblk_normal (Qseq_normal (FW_region (Mv ?_)))
        refine Vv (Gives.addI rfl rfl rfl (by omega)) (Am ?_)
        refine FL_nil ?_
        have hap : [] ++ acc.take k ++ [x.n] ++ acc.drop k = insertI x.n acc := by rw [hins]; simp
        rw [hap] at H126
        have hil := insertI_len x.n acc
        exact Qround_normal (i + 1, insertI x.n acc, v4) ⟨rfl, rfl, rfl, trivial⟩ ⟨⟨by dsimp only; omega, by dsimp only; omega, hst⟩, H126.firsts (l := [_])⟩ (by dsimp only; omega)
      refine step_buildSlice hok114 6 [(10, true), (9, true), (8, true), (3, true), (2, true), (1, true), (0, true)] H116 (xs := [.tmp 56]) (out := [x.n].flatMap intCells) (Elems.one rfl rfl Elems.nil) (h := fun b w133 H133 => ⟨Stab_pure (Stab_pure (Stab_pure (Stab_pure (Stab_pure (Stab_pure (Stab_pure (Stab_nil))))))), ?_⟩)
      first
      | refine FGappendO hok114 4 [(10, true), (9, true), (8, true)] H133 (news := acc.take k) At0 ((Sep_rdD H133 At1).cut k) (by unfold maxLen; simp; omega) (by simp; omega) (cells_one (fun _ => rfl) _) (hy := by rw [List.length_take, Nat.min_eq_left hk]; rfl) (h := fun v2 w135 H135 => ⟨Stab_pure (Stab_pure (Stab_pure (Stab_nil))), ?_⟩)
      | refine FGappendO hok114 4 [(10, true), (9, true), (8, true)] H133 (news := acc.take k) At1 ((Sep_rdD H133 At2).cut k) (by unfold maxLen; simp; omega) (by simp; omega) (cells_one (fun _ => rfl) _) (hy := by rw [List.length_take, Nat.min_eq_left hk]; rfl) (h := fun v2 w135 H135 => ⟨Stab_pure (Stab_pure (Stab_pure (Stab_nil))), ?_⟩)
      refine FGappendD hok114 7 [(10, true), (9, true), (8, true)] H135 (news := [x.n]) At0 (by unfold maxLen; simp; omega) (by simp; omega) (cells_one (fun _ => rfl) [x.n]) (h := fun v3 w137 H137 => ⟨Stab_pure (Stab_pure (Stab_pure (Stab_nil))), ?_⟩)
      refine FGappendO hok114 11 [] H137 (news := acc.drop k) At0 ((Sep_rdD H137 At1).fromC k hcb) (by unfold maxLen; simp; omega) (by simp; omega) (cells_one (fun _ => rfl) _) (hy := by rw [List.length_drop]; rfl) (h := fun v4 w139 H139 => ⟨Stab_nil, ?_⟩)
      refine FGset hok114 12 [] (h := ⟨Stab_nil, ?_⟩)
      refine FG_end hok114 (by kernel_rfl) ?_
      refine Qblk_normal (Qseq_normal (FW_region (Mv ?_)))
      refine Vv (Gives.addI rfl rfl rfl (by omega)) (Am ?_)
      refine FL_nil ?_
      have hap : [] ++ acc.take k ++ [x.n] ++ acc.drop k = insertI x.n acc := by rw [hins]; simp
      rw [hap] at H139
      have hil := insertI_len x.n acc
      exact Qround_normal (i + 1, insertI x.n acc, v4) ⟨rfl, rfl, rfl, trivial⟩ ⟨⟨by dsimp only; omega, by dsimp only; omega, hst⟩, H139.firsts (l := [_])⟩ (by dsimp only; omega)
    rw [if_pos (by rw [hy]; congr 1; omega)] at hins
    refine FW_skip (Qblk_normal (Qseq_normal (FW_region (Mv ?_))))
    refine Vv (Gives.addI rfl rfl rfl (by omega)) (Am ?_)
    refine FL_nil ?_
    exact Qround_normal (i + 1, acc, .slice B acc.length cb) ⟨rfl, rfl, rfl, trivial⟩ ⟨⟨by dsimp only; omega, by dsimp only; omega, by rw [hins] at hst; exact hst⟩, H60⟩ (by dsimp only; omega)
  have hil : i = l.length := by omega
  rw [hil, List.drop_length, List.foldl_nil] at hst
  refine FW_exit (Qseq_exit (Qround_exit (Qblk_exit (Qseq_normal (Sr (Mv ?_))))))
  refine Am ?_
  refine Qn (FW_ret (Qfn_ret (hR := ?_)))
  exact ⟨_, rfl, trivial, by rw [← hst]; exact H5.turn⟩
end
theorem quote_len (s : List UInt8) : (quoteL s).length ≤ 6 * s.length + 2 := by
  have h := len_flat (f := quoteB) (k := 6) (fun c => by unfold quoteB; repeat' split
                                                         all_goals simp) s
  unfold quoteL
  simp only [List.length_cons, List.length_append, List.length_nil]
  omega
theorem sign_get {k : Int} (h : 7 ≤ k) (h2 : k ≤ 18) : signsW[(k - 7).toNat]? = some (signsW.getD (k - 7).toNat []) := by
 rw [List.getD_eq_getElem?_getD]
 have : (k - 7).toNat < signsW.length := by show _ < 12; omega
 rw [List.getElem?_eq_getElem this]; rfl
section
variable {w : World}
end
theorem find_at {α : Type} {l : List α} {p : α → Bool} {j : Nat} {x : α} (h : ∀ (i : Nat) y, i < j → l[i]? = some y → p y = false) (hj : l[j]? = some x) (hp : p x = true) : l.findIdx? p = some j := by
 rw [List.findIdx?_eq_some_iff_getElem]
 obtain ⟨h1, h2⟩ := List.getElem?_eq_some_iff.1 hj
 refine ⟨h1, by rw [h2]; exact hp, fun i hi => ?_⟩
 rw [h i _ hi (List.getElem?_eq_getElem (by omega))]; simp
theorem findNone {α : Type} {l : List α} {p : α → Bool} (h : ∀ (i : Nat) y, l[i]? = some y → p y = false) : l.findIdx? p = none := by
 rw [List.findIdx?_eq_none_iff]
 intro x hx
 obtain ⟨i, hi⟩ := List.getElem?_of_mem hx
 exact h i x hi
theorem word_len {x : StepM} (h : mayS x = true) (hf : fits x.n) : (wordS x).length ≤ 6146 := (len_word h hf.1 hf.2).1
attribute [local irreducible] mayS wordS
section
variable {w : World}
end
end Go.Proofs.YtolaedhdjcnijaaGreatDoor
namespace Go.Proofs.YtolaedhdjcnijaaGreatDoor
open Go Go.Mw Go.Lib
set_option maxRecDepth 4000
attribute [local irreducible] unqL mayS wordS
section
variable {w : World}
end
end Go.Proofs.YtolaedhdjcnijaaGreatDoor
namespace Go.Proofs.YtolaedhdjcnijaaGreatDoor
open Go Go.Mw Go.Lib
set_option maxRecDepth 4000
theorem count_le_len (s : List UInt8) (c : UInt8) : s.count c ≤ s.length := List.count_le_length
attribute [local irreducible] mayS wordS splitW readAll
section
variable {w : World}
end
def PredIn {α : Type} (w : World) (fv : Value) (enc : α → Value) (p : α → Bool) : Prop :=
 ∃ f fs cs, fv = .func (.func f) (List.toArray fs) (List.toArray cs) ∧ Enters Tryz.prog f ∧ ∀ x w', Kept noB w w' → Rets Tryz.prog f (fs ++ [enc x] ++ cs) w' fun v w'' => v = .bool (p x) ∧ Kept noB w' w''
theorem PredIn.keep {α : Type} {w w' : World} {fv : Value} {enc : α → Value} {p : α → Bool} (h : PredIn w fv enc p) (hk : Kept noB w w') : PredIn w' fv enc p := by
 obtain ⟨f, fs, cs, h1, h2, h3⟩ := h
 exact ⟨f, fs, cs, h1, h2, fun x w'' hk' => h3 x w'' (hk.trans0 hk')⟩
def idxI (o : Option Nat) : Int := match o with | none => -1 | some i => i
theorem idx_any {α : Type} {l : List α} {p : α → Bool} : decide (idxI (l.findIdx? p) ≥ 0) = l.any p := by
 cases h : l.findIdx? p with
 | none =>
  rw [List.findIdx?_eq_none_iff] at h
  show decide ((-1 : Int) ≥ 0) = _
  rw [eq_comm, show decide ((-1 : Int) ≥ 0) = false from rfl, List.any_eq_false]
  intro x hx
  rw [h x hx]; simp
 | some i =>
  obtain ⟨h1, h2, _⟩ := List.findIdx?_eq_some_iff_getElem.1 h
  show decide ((i : Int) ≥ 0) = _
  rw [eq_comm, decide_eq_true (show (i : Int) ≥ 0 by omega), List.any_eq_true]
  exact ⟨_, List.getElem_mem h1, h2⟩
section
variable {w : World}
theorem columnsF_ok {l : List ColM} {v fv : Value} {p : ColM → Bool} (hl : RowIn w v colCells 7 l) (hp : PredIn w fv (fun x => agg (colCells x)) p) : Rets Tryz.prog 152 [v, fv] w fun v w' => v = I (idxI (l.findIdx? p)) ∧ Kept noB w w' := by
 obtain ⟨A, m, rfl, ⟨hm, hm'⟩, hA⟩ := hl
 obtain ⟨f, fs, cs, rfl, hen, hcall⟩ := hp
 have H := Sep.start0 w
 refine rets2 Tryz.func152 rfl rfl rfl rfl ?_
 refine Sr (Am ?_)
 refine Qn (FW_seq (Sr (Mv ?_)))
 refine Vs ?_
 refine Mv ?_
 refine Qn (FW_block (FW_loop' (fun i : Nat => [(0, .slice A l.length m), (1, .func (.func f) fs.toArray cs.toArray), (7, I l.length), (8, I i)]) (fun i w' => (i ≤ l.length ∧ ∀ (j : Nat) y, j < i → l[j]? = some y → p y = false) ∧ Sep w noB [] w') (fun i _ => l.length - i) 0 ⟨rfl, rfl, rfl, rfl, trivial⟩ ⟨⟨Nat.zero_le _, fun j y hj => by omega⟩, H⟩ (fun i τ w6 hI => ?_)))
 obtain ⟨⟨hi, hbe⟩, H6⟩ := hI
 try simp only [upds, like, upd_ds, und_ds]
 refine Sr (Vl ?_)
 refine Qn (FW_seq (Cp rfl (fun hc8 => ?_) (fun hc8 => ?_)))
 ·have hlt : i < l.length := by omega
  obtain ⟨x, hx⟩ := get_some hlt
  refine Sk (FW_seq (FW_block (Sr (Mv ?_))))
  refine Am ?_
  refine Nx (Mv ?_)
  refine Mv ?_
  refine Mv ?_
  refine Vv (Gives.idxR rfl rfl (by assumption) (by omega)) (Vv (Gives.loadE0 rfl H6 (by assumption) (by assumption)) ?_)
  refine FL_callV rfl (hcall x _ H6.kept) rfl rfl (fun v' w18 hv => ?_)
  obtain ⟨rfl, hkk⟩ := hv
  have H18 := H6.keep hkk
  refine Qn (Cd rfl (fun hc19 => ?_) (fun hc19 => ?_))
  ·have hfin : l.findIdx? p = some i := find_at hbe hx hc19
   refine Sr (Mv ?_)
   refine Am ?_
   refine Qn (Rb (Qround_ret (Qblk_ret (Qseq_ret (Qfn_ret (hR := ?_))))))
   exact ⟨by rw [hfin]; rfl, H18.kept⟩
  have hpx := hc19
  refine FW_skip (Qblk_normal (Qseq_normal (FW_region (Vv (Gives.addI rfl rfl rfl (by omega)) ?_))))
  refine Mv ?_
  refine FL_nil ?_
  exact Qround_normal (i + 1) ⟨rfl, rfl, rfl, rfl, trivial⟩ ⟨⟨by omega, fun j y hj hy => by
  by_cases e : j = i
  ·subst e; rw [hx] at hy; injection hy with hy; rw [← hy]; exact Bool.not_eq_true _ ▸ hpx
  exact hbe j y (by omega) hy⟩, H18⟩ (by omega)
 have hil : i = l.length := by omega
 have hfin : l.findIdx? p = none := findNone fun j y hy => hbe j y (by have := get_lt hy; omega) hy
 refine FW_exit (Qseq_exit (Qround_exit (Qblk_exit (Qseq_normal (Sr (Am ?_))))))
 refine Qn (FW_ret (Qfn_ret (hR := ?_)))
 exact ⟨by rw [hfin]; rfl, H6.kept⟩
theorem typesF_ok {l : List TypeM} {v fv : Value} {p : TypeM → Bool} (hl : RowIn w v typeCells 2 l) (hp : PredIn w fv (fun x => agg (typeCells x)) p) : Rets Tryz.prog 154 [v, fv] w fun v w' => v = I (idxI (l.findIdx? p)) ∧ Kept noB w w' := by
 obtain ⟨A, m, rfl, ⟨hm, hm'⟩, hA⟩ := hl
 obtain ⟨f, fs, cs, rfl, hen, hcall⟩ := hp
 have H := Sep.start0 w
 refine rets2 Tryz.func154 rfl rfl rfl rfl ?_
 refine Sr (Am ?_)
 refine Qn (FW_seq (Sr (Mv ?_)))
 refine Vs ?_
 refine Mv ?_
 refine Qn (FW_block (FW_loop' (fun i : Nat => [(0, .slice A l.length m), (1, .func (.func f) fs.toArray cs.toArray), (7, I l.length), (8, I i)]) (fun i w' => (i ≤ l.length ∧ ∀ (j : Nat) y, j < i → l[j]? = some y → p y = false) ∧ Sep w noB [] w') (fun i _ => l.length - i) 0 ⟨rfl, rfl, rfl, rfl, trivial⟩ ⟨⟨Nat.zero_le _, fun j y hj => by omega⟩, H⟩ (fun i τ w6 hI => ?_)))
 obtain ⟨⟨hi, hbe⟩, H6⟩ := hI
 try simp only [upds, like, upd_ds, und_ds]
 refine Sr (Vl ?_)
 refine Qn (FW_seq (Cp rfl (fun hc8 => ?_) (fun hc8 => ?_)))
 ·have hlt : i < l.length := by omega
  obtain ⟨x, hx⟩ := get_some hlt
  refine Sk (FW_seq (FW_block (Sr (Mv ?_))))
  refine Am ?_
  refine Nx (Mv ?_)
  refine Mv ?_
  refine Mv ?_
  refine Vv (Gives.idxR rfl rfl (by assumption) (by omega)) (Vv (Gives.loadE0 rfl H6 (by assumption) (by assumption)) ?_)
  refine FL_callV rfl (hcall x _ H6.kept) rfl rfl (fun v' w18 hv => ?_)
  obtain ⟨rfl, hkk⟩ := hv
  have H18 := H6.keep hkk
  refine Qn (Cd rfl (fun hc19 => ?_) (fun hc19 => ?_))
  ·have hfin : l.findIdx? p = some i := find_at hbe hx hc19
   refine Sr (Mv ?_)
   refine Am ?_
   refine Qn (Rb (Qround_ret (Qblk_ret (Qseq_ret (Qfn_ret (hR := ?_))))))
   exact ⟨by rw [hfin]; rfl, H18.kept⟩
  have hpx := hc19
  refine FW_skip (Qblk_normal (Qseq_normal (FW_region (Vv (Gives.addI rfl rfl rfl (by omega)) ?_))))
  refine Mv ?_
  refine FL_nil ?_
  exact Qround_normal (i + 1) ⟨rfl, rfl, rfl, rfl, trivial⟩ ⟨⟨by omega, fun j y hj hy => by
  by_cases e : j = i
  ·subst e; rw [hx] at hy; injection hy with hy; rw [← hy]; exact Bool.not_eq_true _ ▸ hpx
  exact hbe j y (by omega) hy⟩, H18⟩ (by omega)
 have hil : i = l.length := by omega
 have hfin : l.findIdx? p = none := findNone fun j y hy => hbe j y (by have := get_lt hy; omega) hy
 refine FW_exit (Qseq_exit (Qround_exit (Qblk_exit (Qseq_normal (Sr (Am ?_))))))
 refine Qn (FW_ret (Qfn_ret (hR := ?_)))
 exact ⟨by rw [hfin]; rfl, H6.kept⟩
end
section
variable {w : World}
theorem typesAny_ok {l : List TypeM} {v fv : Value} {p : TypeM → Bool} (hl : RowIn w v typeCells 2 l) (hp : PredIn w fv (fun x => agg (typeCells x)) p) : Rets Tryz.prog 106 [v, fv] w fun v w' => v = .bool (l.any p) ∧ Kept noB w w' := by
 have H := Sep.start0 w
 refine rets2 Tryz.func106 rfl rfl rfl rfl ?_
 refine Sr (Am ?_)
 refine Nx (Mv ?_)
 refine Mv ?_
 refine FL_callQ H (typesF_ok (hl.keep H.kept) (hp.keep H.kept)) (h := fun w5 H5 k4 => ?_)
 refine Vv (Gives.geq rfl rfl) (Am ?_)
 refine Qn (FW_ret (Qfn_ret (hR := ?_)))
 exact ⟨by rw [← idx_any]; rfl, H5.kept⟩
theorem intsI_ok {l : List (Int)} {v : Value} (x : Int) (hl : RowIn w v intCells 1 l) : Rets Tryz.prog 155 [v, I x] w fun v w' => v = I (idxI (l.findIdx? fun y => decide (x = y))) ∧ Kept noB w w' := by
 obtain ⟨A, m, rfl, ⟨hm, hm'⟩, hA⟩ := hl
 have H := Sep.start0 w
 obtain ⟨p, hp⟩ : ∃ p : Int → Bool, p = fun y => decide (x = y) := ⟨_, rfl⟩
 rw [← hp]
 refine rets2 Tryz.func155 rfl rfl rfl rfl ?_
 refine Sr (Am ?_)
 refine Qn (FW_seq (Sr (Mv ?_)))
 refine Vs ?_
 refine Mv ?_
 refine Qn (FW_block (FW_loop' (fun i : Nat => [(0, .slice A l.length m), (1, I x), (7, I l.length), (8, I i)]) (fun i w' => (i ≤ l.length ∧ ∀ (j : Nat) y, j < i → l[j]? = some y → p y = false) ∧ Sep w noB [] w') (fun i _ => l.length - i) 0 ⟨rfl, rfl, rfl, rfl, trivial⟩ ⟨⟨Nat.zero_le _, fun j y hj => by omega⟩, H⟩ (fun i τ w6 hI => ?_)))
 obtain ⟨⟨hi, hbe⟩, H6⟩ := hI
 try simp only [upds, like, upd_ds, und_ds]
 refine Sr (Vl ?_)
 refine Qn (FW_seq (Cp rfl (fun hc8 => ?_) (fun hc8 => ?_)))
 ·have hlt : i < l.length := by omega
  obtain ⟨y, hy⟩ := get_some hlt
  refine Sk (FW_seq (FW_block (Sr (Mv ?_))))
  refine Am ?_
  refine Nx (Mv ?_)
  refine Mv ?_
  refine Mv ?_
  refine Vv (Gives.idxR rfl rfl (by assumption) (by omega)) (Vv (Gives.loadE1 rfl H6 (by assumption) (by assumption) rfl) ?_)
  refine Ve ?_
  refine Qn (Cp rfl (fun hc18 => ?_) (fun hc18 => ?_))
  ·have hfin : l.findIdx? p = some i := find_at hbe hy (by rw [hp]; simpa using hc18)
   refine Sr (Mv ?_)
   refine Am ?_
   refine Qn (Rb (Qround_ret (Qblk_ret (Qseq_ret (Qfn_ret (hR := ?_))))))
   exact ⟨by rw [hfin]; rfl, H6.kept⟩
  have hpx : p y = false := by rw [hp]; simpa using hc18
  refine FW_skip (Qblk_normal (Qseq_normal (FW_region (Vv (Gives.addI rfl rfl rfl (by omega)) ?_))))
  refine Mv ?_
  refine FL_nil ?_
  exact Qround_normal (i + 1) ⟨rfl, rfl, rfl, rfl, trivial⟩ ⟨⟨by omega, fun j z hj hz => by
  by_cases e : j = i
  ·subst e; rw [hy] at hz; injection hz with hz; rw [← hz]; exact hpx
  exact hbe j z (by omega) hz⟩, H6⟩ (by omega)
 have hil : i = l.length := by omega
 have hfin : l.findIdx? p = none := findNone fun j y hy => hbe j y (by have := get_lt hy; omega) hy
 refine FW_exit (Qseq_exit (Qround_exit (Qblk_exit (Qseq_normal (Sr (Am ?_))))))
 refine Qn (FW_ret (Qfn_ret (hR := ?_)))
 exact ⟨by rw [hfin]; rfl, H6.kept⟩
theorem textsI_ok {l : List (List UInt8)} {v : Value} (x : List UInt8) (hl : RowIn w v textCells 1 l) : Rets Tryz.prog 144 [v, str x] w fun v w' => v = I (idxI (l.findIdx? fun y => decide (x = y))) ∧ Kept noB w w' := by
 obtain ⟨A, m, rfl, ⟨hm, hm'⟩, hA⟩ := hl
 have H := Sep.start0 w
 obtain ⟨p, hp⟩ : ∃ p : List UInt8 → Bool, p = fun y => decide (x = y) := ⟨_, rfl⟩
 rw [← hp]
 refine rets2 Tryz.func144 rfl rfl rfl rfl ?_
 refine Sr (Am ?_)
 refine Qn (FW_seq (Sr (Mv ?_)))
 refine Vs ?_
 refine Mv ?_
 refine Qn (FW_block (FW_loop' (fun i : Nat => [(0, .slice A l.length m), (1, str x), (7, I l.length), (8, I i)]) (fun i w' => (i ≤ l.length ∧ ∀ (j : Nat) y, j < i → l[j]? = some y → p y = false) ∧ Sep w noB [] w') (fun i _ => l.length - i) 0 ⟨rfl, rfl, rfl, rfl, trivial⟩ ⟨⟨Nat.zero_le _, fun j y hj => by omega⟩, H⟩ (fun i τ w6 hI => ?_)))
 obtain ⟨⟨hi, hbe⟩, H6⟩ := hI
 try simp only [upds, like, upd_ds, und_ds]
 refine Sr (Vl ?_)
 refine Qn (FW_seq (Cp rfl (fun hc8 => ?_) (fun hc8 => ?_)))
 ·have hlt : i < l.length := by omega
  obtain ⟨y, hy⟩ := get_some hlt
  refine Sk (FW_seq (FW_block (Sr (Mv ?_))))
  refine Am ?_
  refine Nx (Mv ?_)
  refine Mv ?_
  refine Mv ?_
  refine Vv (Gives.idxR rfl rfl (by assumption) (by omega)) (Vv (Gives.loadE1 rfl H6 (by assumption) (by assumption) rfl) ?_)
  refine Vv (Gives.eqlT rfl rfl) (Qn ?_)
  refine Cp rfl (fun hc18 => ?_) (fun hc18 => ?_)
  ·have hfin : l.findIdx? p = some i := find_at hbe hy (by rw [hp]; simpa using hc18)
   refine Sr (Mv ?_)
   refine Am ?_
   refine Qn (Rb (Qround_ret (Qblk_ret (Qseq_ret (Qfn_ret (hR := ?_))))))
   exact ⟨by rw [hfin]; rfl, H6.kept⟩
  have hpx : p y = false := by rw [hp]; simpa using hc18
  refine FW_skip (Qblk_normal (Qseq_normal (FW_region (Vv (Gives.addI rfl rfl rfl (by omega)) ?_))))
  refine Mv ?_
  refine FL_nil ?_
  exact Qround_normal (i + 1) ⟨rfl, rfl, rfl, rfl, trivial⟩ ⟨⟨by omega, fun j z hj hz => by
  by_cases e : j = i
  ·subst e; rw [hy] at hz; injection hz with hz; rw [← hz]; exact hpx
  exact hbe j z (by omega) hz⟩, H6⟩ (by omega)
 have hil : i = l.length := by omega
 have hfin : l.findIdx? p = none := findNone fun j y hy => hbe j y (by have := get_lt hy; omega) hy
 refine FW_exit (Qseq_exit (Qround_exit (Qblk_exit (Qseq_normal (Sr (Am ?_))))))
 refine Qn (FW_ret (Qfn_ret (hR := ?_)))
 exact ⟨by rw [hfin]; rfl, H6.kept⟩
theorem intsHas_ok {l : List (Int)} {v : Value} (x : Int) (hl : RowIn w v intCells 1 l) : Rets Tryz.prog 108 [v, I x] w fun v w' => v = .bool (l.any fun y => decide (x = y)) ∧ Kept noB w w' := by
 have H := Sep.start0 w
 refine rets2 Tryz.func108 rfl rfl rfl rfl ?_
 refine Sr (Am ?_)
 refine Nx (Mv ?_)
 refine Mv ?_
 refine FL_callQ H (intsI_ok x (hl.keep H.kept)) (h := fun w5 H5 k4 => ?_)
 refine Vv (Gives.geq rfl rfl) (Am ?_)
 refine Qn (FW_ret (Qfn_ret (hR := ?_)))
 exact ⟨by rw [← idx_any]; rfl, H5.kept⟩
end
end Go.Proofs.YtolaedhdjcnijaaGreatDoor
namespace Go.Mw
open Go.RowKit
section gives
variable {P : Program} {ρ : Operand → Value} {ty : TypeId} {w : World} {x y z : Operand}
theorem Gives.sliceMax {t e : TypeId} [ht : IsSlice P t e] {size bytes : Nat} [hc : Cells P e size bytes] {A : Option Addr} {n c h m : Nat} {k j : IntKind} (hx : ρ x = .slice A n c) (hy : ρ y = .int k h) (hz : ρ z = .int j m) (hle : h ≤ m) (hle2 : m ≤ c) : Gives P ρ (.slice t x none (some y) (some z)) ty w (.slice A h m) w := fun _ _ _ _ => by
 obtain ⟨i, hi, hsb⟩ := Option.map_eq_some_iff.1 hc.size
 have e1 : (0 : Int) ≤ (h : Int) ∧ (h : Int) ≤ (m : Int) := by omega
 have e2 : (0 : Int) ≤ (m : Int) ∧ (m : Int) ≤ (c : Int) := by omega
 have e3 : A.map (fun x : Addr => x.add 0) = A := by cases A <;> simp [Addr.add_zero']
 simp [execOp, hx, hy, hz, Instr.sliceAt, run_underlying ht.und, Instr.slice, Instr.sliceBounds, Instr.sliceBound, asIntOf, e1, e2, sizeOf, typeInfo, hi, e3, hle, hle2]
end gives
end Go.Mw
namespace Go.Proofs.YtolaedhdjcnijaaGreatDoor
open Go Go.Mw Go.Lib
set_option maxRecDepth 4000
section
variable {w : World}
theorem typesTake_ok {b E n c k : Nat} {A : Option Addr} {F : Nat → Prop} (hp : (blk b [.slice A n c] E).ok F w) (hk : k ≤ n) (hnc : n ≤ c) (hc : n ≤ 9223372036854775807) :
    Rets Tryz.prog 63 [.pointer (some ⟨b, 0, none⟩), I k] w fun v w' => v = .tuple #[.slice (if c = n - k then A else A.map (·.add ((n - k) * 2))) k (c - (n - k)), .bool true] ∧ Turn F (blk b [.slice A (n - k) (n - k)] E) w w' := by
  have H := Sep.start1 hp
  refine rets2 Tryz.func63 rfl rfl rfl rfl ?_
  refine Sr (Am ?_)
  refine Am ?_
  refine Nx (Mv ?_)
  refine Vv (Gives.nilCheck rfl) (Vf ?_)
  refine Ld H ?_
  refine Vs ?_
  refine Mv ?_
  refine Vv (Gives.subI (c := ((n - k : Nat) : Int)) rfl rfl (by omega) (by omega)) (Am ?_)
  refine Qn (FW_seq (Sr (Mv ?_)))
  refine Vl ?_
  refine Qn (Cp rfl (fun hc13 => ?_) (fun hc13 => ?_))
  · exact absurd hc13 (by omega)
  refine Sk (Sr (Mv ?_))
  refine Vv (Gives.nilCheck rfl) (Vf ?_)
  refine Ld H ?_
  refine Mv ?_
  refine Vv (Gives.sliceFrom rfl rfl (by omega)) ?_
  rw [show n - (n - k) = k by omega]
  refine Am ?_
  refine Nx (Mv ?_)
  refine Mv ?_
  refine Vv (Gives.nilCheck rfl) (Vf ?_)
  refine Ld H ?_
  refine Mv ?_
  refine Mv ?_
  refine Vv (Gives.sliceMax rfl rfl rfl (by omega) (by omega)) (Vv (Gives.nilCheck rfl) ?_)
  refine Vf ?_
  refine FL_store H (h := fun w33 H33 => ?_)
  refine Nx (Mv ?_)
  refine Am ?_
  refine Am ?_
  refine Qn (FW_ret (Qfn_ret (hR := ?_)))
  exact ⟨rfl, H33.turn⟩
theorem typesTakeNo_ok {b E n c k : Nat} {A : Option Addr} {F : Nat → Prop} (hp : (blk b [.slice A n c] E).ok F w) (hk : n < k) (hk2 : k ≤ 1000000) :
    Rets Tryz.prog 63 [.pointer (some ⟨b, 0, none⟩), I k] w fun v w' => v = .tuple #[.slice none 0 0, .bool false] ∧ Turn F (blk b [.slice A n c] E) w w' := by
  have H := Sep.start1 hp
  refine rets2 Tryz.func63 rfl rfl rfl rfl ?_
  refine Sr (Am ?_)
  refine Am ?_
  refine Nx (Mv ?_)
  refine Vv (Gives.nilCheck rfl) (Vf ?_)
  refine Ld H ?_
  refine Vs ?_
  refine Mv ?_
  refine Vv (Gives.subI rfl rfl rfl (by omega)) (Am ?_)
  refine Qn (FW_seq (Sr (Mv ?_)))
  refine Vl ?_
  refine Qn (Cp rfl (fun hc13 => ?_) (fun hc13 => ?_))
  · refine Sr (Am ?_)
    refine Am ?_
    refine Qn (Rs (Qfn_ret (hR := ?_)))
    exact ⟨rfl, H.turn⟩
  exact absurd (show ((n : Int) - k) < 0 by omega) hc13
theorem typesPut_ok {b E : Nat} {A : Option Addr} {F : Nat → Prop} {l news : List TypeM} {vn : Value} (hp : (blk b [.slice A l.length l.length] E).ok F w) (hr : Rd w A typeCells 2 l) (hn : RowIn w vn typeCells 2 news) (hne : 0 < news.length) (hlen : l.length + news.length ≤ 1000000) :
    Rets Tryz.prog 68 [.pointer (some ⟨b, 0, none⟩), vn] w fun v w' => ∃ x, v = .tuple #[] ∧ True ∧ Turn F (star (blk b [x] E) (rowD 45 2 typeCells x (l ++ news))) w w' := by
  obtain ⟨B, m, rfl, ⟨hm, hm'⟩, hB⟩ := hn
  have H := Sep.start1 hp
  refine rets2 Tryz.func68 rfl rfl rfl rfl ?_
  refine FW_region (Mv ?_)
  refine Mv ?_
  refine Vv (Gives.nilCheck rfl) (Vf ?_)
  refine Ld H ?_
  refine Mv ?_
  refine FL_appendF H hr hB hne (by unfold maxLen; omega) (by omega) (cells_one (fun _ => rfl) _) (h := ?_)
  intro v2 w8 H8 k7
  obtain ⟨B2, c2, rfl, hc2, hB2⟩ := Sep.formD H8 At0
  refine Vv (Gives.nilCheck rfl) (Vf ?_)
  refine FL_store H8 (h := fun w12 H12 => ?_)
  refine FL_nil (Qfn_normal (hR := ?_))
  exact ⟨_, rfl, trivial, (H12.front1.join0).turn⟩
theorem many_ok (k : Int) : Rets Tryz.prog 64 [I k] w fun v w' => v = I (takesS k) ∧ Kept noB w w' := by
 have H := Sep.start0 w
 obtain ⟨res, hres⟩ : ∃ res, res = takesS k := ⟨_, rfl⟩
 rw [← hres]
 unfold takesS at hres
 refine rets1 Tryz.func64 rfl rfl rfl rfl ?_
 refine Sr (Am ?_)
 refine Qn (FW_seq (FW_block (Sr (Mv ?_))))
 refine Vl ?_
 refine Am ?_
 refine Qn (Cp rfl (fun hc5 => ?_) (fun hc5 => ?_))
 ·rw [if_pos hc5] at hres
  refine Sr (Am ?_)
  refine Qn (Rb (Qfn_ret (hR := ?_)))
  exact ⟨by rw [hres]; rfl, H.kept⟩
 rw [if_neg hc5] at hres
 refine Sr (Mv ?_)
 refine Ve ?_
 refine Mv ?_
 refine FL_splitP (t := 9) rfl (fun hs13 => ?_) (fun hs13 => ?_)
 ·refine Of (Of (Pt ?_))
  refine Mv ?_
  refine Of (Of (Pt ?_))
  refine Mv ?_
  refine Of (Of (Pt ?_))
  refine Am ?_
  refine Qn (FW_cond_true rfl ?_)
  refine Sr (Am ?_)
  refine Qn (Rb (Qfn_ret (hR := ?_)))
  exact ⟨by rw [hres, if_pos (by omega)]; rfl, H.kept⟩
 refine On (Mv ?_)
 refine On (Ve ?_)
 refine Pf ?_
 refine Mv ?_
 refine FL_splitP (t := 13) rfl (fun hs26 => ?_) (fun hs26 => ?_)
 ·refine Of (Of (Pt ?_))
  refine Mv ?_
  refine Of (Of (Pt ?_))
  refine Am ?_
  refine Qn (FW_cond_true rfl ?_)
  refine Sr (Am ?_)
  refine Qn (Rb (Qfn_ret (hR := ?_)))
  exact ⟨by rw [hres, if_pos (by omega)]; rfl, H.kept⟩
 refine On (Mv ?_)
 refine On (Ve ?_)
 refine Pf ?_
 refine Mv ?_
 refine FL_splitP (t := 17) rfl (fun hs37 => ?_) (fun hs37 => ?_)
 ·refine Of (Of (Pt ?_))
  refine Am ?_
  refine Qn (FW_cond_true rfl ?_)
  refine Sr (Am ?_)
  refine Qn (Rb (Qfn_ret (hR := ?_)))
  exact ⟨by rw [hres, if_pos (by omega)]; rfl, H.kept⟩
 refine On (Mv ?_)
 refine On (Ve ?_)
 refine Pf ?_
 refine Am ?_
 refine Qn (Cp rfl (fun hc46 => ?_) (fun hc46 => ?_))
 ·refine Sr (Am ?_)
  refine Qn (Rb (Qfn_ret (hR := ?_)))
  exact ⟨by rw [hres, if_pos (by omega)]; rfl, H.kept⟩
 rw [if_neg (by omega)] at hres
 refine FW_skip (Qblk_normal (Qseq_normal (Sr (Am ?_))))
 refine Qn (FW_ret (Qfn_ret (hR := ?_)))
 exact ⟨by rw [hres]; rfl, H.kept⟩
theorem null_ok (k : Int) : Rets Tryz.prog 103 [I k] w fun v w' => v = str (nullW k) ∧ Kept noB w w' := by
 have H := Sep.start0 w
 obtain ⟨res, hres⟩ : ∃ res, res = nullW k := ⟨_, rfl⟩
 rw [← hres]
 unfold nullW at hres
 refine rets1 Tryz.func103 rfl rfl rfl rfl ?_
 refine Sr (Am ?_)
 refine Qn (FW_seq (Sr (Mv ?_)))
 refine Qn (FW_block (Sr (Ve ?_)))
 refine Am ?_
 refine Qn (Cp rfl (fun hc5 => ?_) (fun hc5 => ?_))
 ·rw [if_pos hc5] at hres
  refine Sr (Am ?_)
  refine Qn (Rb (Qfn_ret (hR := ?_)))
  exact ⟨by rw [hres]; rfl, H.kept⟩
 rw [if_neg hc5] at hres
 refine Sr (Ve ?_)
 refine Am ?_
 refine Qn (Cp rfl (fun hc12 => ?_) (fun hc12 => ?_))
 ·rw [if_pos hc12] at hres
  refine Sr (Am ?_)
  refine Qn (Rb (Qfn_ret (hR := ?_)))
  exact ⟨by rw [hres]; rfl, H.kept⟩
 rw [if_neg hc12] at hres
 refine Sr (Ve ?_)
 refine Am ?_
 refine Qn (Cp rfl (fun hc19 => ?_) (fun hc19 => ?_))
 ·rw [if_pos hc19] at hres
  refine Sr (Am ?_)
  refine Qn (Rb (Qfn_ret (hR := ?_)))
  exact ⟨by rw [hres]; rfl, H.kept⟩
 rw [if_neg hc19] at hres
 refine Sr (Ve ?_)
 refine Am ?_
 refine Qn (Cp rfl (fun hc26 => ?_) (fun hc26 => ?_))
 ·rw [if_pos hc26] at hres
  refine Sr (Am ?_)
  refine Qn (Rb (Qfn_ret (hR := ?_)))
  exact ⟨by rw [hres]; rfl, H.kept⟩
 rw [if_neg hc26] at hres
 refine FW_skip (Qblk_normal (Qseq_normal (Sr (Am ?_))))
 refine Qn (FW_ret (Qfn_ret (hR := ?_)))
 exact ⟨by rw [hres]; rfl, H.kept⟩
theorem cellMay_ok (t : TypeM) : Rets Tryz.prog 69 [agg (typeCells t)] w fun v w' => v = .bool (mayT t) ∧ Kept noB w w' := by
 have H := Sep.start0 w
 refine rets1 Tryz.func69 rfl rfl rfl rfl ?_
 refine Sr (FL_box H (cs := typeCells t) rfl (h := fun b0 w2 H2 k0 => ?_))
 refine Am ?_
 refine Nx (Vf ?_)
 refine Ld H2 ?_
 refine Vg ?_
 refine Mv ?_
 refine FL_splitP (t := 6) rfl (fun hs8 => ?_) (fun hs8 => ?_)
 ·refine On (Vf ?_)
  refine On (Ld H2 ?_)
  refine On (Vl ?_)
  refine Pt ?_
  refine Am ?_
  refine Qn (FW_ret (Qfn_ret (hR := ?_)))
  exact ⟨by unfold mayT; exact congrArg Value.bool (decide_eq_decide.2 (by omega)), H2.kept⟩
 refine Of (Of (Of (Pf ?_)))
 refine Am ?_
 refine Qn (FW_ret (Qfn_ret (hR := ?_)))
 exact ⟨by unfold mayT; rw [decide_eq_false (by omega)]; rfl, H2.kept⟩
end
end Go.Proofs.YtolaedhdjcnijaaGreatDoor
