/-
 The document's Eval, walked.
-/
import Derived.Test.YtmkaahkbhdlniaaGreatDoorKn22
import Derived.Lib.RowBridge
set_option linter.unusedVariables false
set_option linter.unusedSimpArgs false
namespace Go.Proofs.YtmkaahkbhdlniaaGreatDoor
open Go Go.Mw Go.Lib
set_option maxRecDepth 4000
theorem typeS_ok {cols : List ColM} {l : List StepM} (h : (typeS cols l).2 = 0) : l.length ≤ 64 ∧ ∃ t, runT cols [] l = some [t] ∧ typeS cols l = (t, 0) := by
 unfold typeS at h ⊢
 split at h
 ·cases h
 rename_i h64
 rw [if_neg h64]
 refine ⟨by omega, ?_⟩
 split at h
 ·rename_i t ht; exact ⟨t, ht, by first | rfl | rw [ht]⟩
 cases h
theorem step_find {cols : List ColM} {ts ts' : List TypeM} {x : StepM} (h : stepT cols ts x = some ts') (hk : x.kind = 1) : ∃ i, findC cols x.n = some i := by
 cases hf : findC cols x.n with
 | some i => exact ⟨i, rfl⟩
 | none =>
  unfold stepT at h
  dsimp only at h
  split at h
  ·cases h
  rw [if_pos ((takesS_zero _).2 (by omega))] at h
  unfold leafT at h
  rw [if_pos hk, hf] at h
  cases h
theorem step_le {cols : List ColM} {ts ts' : List TypeM} {x : StepM} (h : stepT cols ts x = some ts') : takesD x.kind ≤ ts.length := by
 refine Classical.byContradiction fun hn => ?_
 rw [stepT_no (.inr (by omega))] at h; cases h
attribute [local irreducible] typeS rowCheck
section
variable {w : World}
theorem eval_ok22 {cols : List ColM} {l : List StepM} {r : List CellM} {vc vl vr : Value} (hc : RowIn w vc colCells 7 cols) (hl : RowIn w vl stepCells 3 l) (hr : RowIn w vr cellCells 3 r) (hf : RowFits r) (hx : ∀ x ∈ l, fits x.n) :
    Rets Tryz.prog 20 [vc, vl, vr] w fun v w' => v = .tuple #[agg (cellCells (evalS cols l r).1), I (evalS cols l r).2] ∧ Kept noB w w' := by
  have hcc := hc
  have hll := hl
  have hrr := hr
  obtain ⟨A, m, rfl, ⟨hm, hm'⟩, hA⟩ := hc
  obtain ⟨C, n, rfl, ⟨hn, hn'⟩, hC⟩ := hl
  obtain ⟨D, q, rfl, ⟨hq, hq'⟩, hD⟩ := hr
  have H := Sep.start0 w
  obtain ⟨res, hres⟩ : ∃ res, res = evalS cols l r := ⟨_, rfl⟩
  rw [← hres]
  unfold evalS at hres
  refine retsC3 Tryz.func20 rfl rfl rfl rfl ?_
  refine Sr (FL_alloc H (h := fun b1 w2 H2 k1 => ?_))
  refine Am ?_
  refine Qn (FW_seq (Sr (Mv ?_)))
  refine Mv ?_
  refine FL_callQ H2 (type_ok22 (hcc.keep H2.kept) (hll.keep H2.kept)) (h := fun w7 H7 k6 => ?_)
  refine Mv ?_
  refine Vx ?_
  refine Vx ?_
  refine FL_alloc H7 (h := fun b11 w12 H12 k11 => ?_)
  refine FL_storeAll H12 (h := fun w14 H14 => ?_)
  refine Am ?_
  refine Nx (Mv ?_)
  refine Vn ?_
  refine Qn (Cp rfl (fun hc18 => ?_) (fun hc18 => ?_))
  · have hfin : res = (cell0, (typeS cols l).2) := by rw [hres, if_pos hc18]
    refine Sr (Vv (Gives.build (out := cellCells cell0) Fills.nil) (Mv ?_))
    refine FL_storeAll H14 (h := fun w23 H23 => ?_)
    refine Am ?_
    refine Qn (Rs (QfnC_ret (h := ?_)))
    exact ⟨_, resC2 H23, by rw [hfin]; rfl, H23.kept⟩
  have hty0 : (typeS cols l).2 = 0 := by simpa using hc18
  obtain ⟨h64, t, hrun, htt⟩ := typeS_ok hty0
  rw [if_neg (by simpa using hty0)] at hres
  refine Sk (FW_seq (Sr (Mv ?_)))
  refine Mv ?_
  refine FL_callQ H14 (check_ok10 (hcc.keep H14.kept) (hrr.keep H14.kept)) (h := fun w30 H30 k29 => ?_)
  refine Am ?_
  refine Nx (Mv ?_)
  refine Vn ?_
  refine Qn (Cp rfl (fun hc34 => ?_) (fun hc34 => ?_))
  · have hfin : res = (cell0, rowCheck cols r) := by rw [hres, if_pos hc34]
    refine Sr (Vv (Gives.build (out := cellCells cell0) Fills.nil) (Mv ?_))
    refine FL_storeAll H30 (h := fun w39 H39 => ?_)
    refine Am ?_
    refine Qn (Rs (QfnC_ret (h := ?_)))
    exact ⟨_, resC2 H39, by rw [hfin]; rfl, H39.kept⟩
  have hrow : rowCheck cols r = 0 := by simpa using hc34
  rw [if_neg (by simpa using hrow)] at hres
  obtain ⟨hlen, _⟩ := row_ok hrow
  refine Sk (Sr (Am ?_))
  refine Qn (FW_seq (Sr (Am ?_)))
  refine Qn (FW_block ?_)
  have H46 := Sep.nilD H30.drop0 34 3 cellCells
  refine FW_loop' (fun x : Nat × List CellM × Value => [(0, .slice A cols.length m), (1, .slice C l.length n), (2, .slice D r.length q), (6, .pointer (some ⟨b1, 0, none⟩)), (11, x.2.2), (12, I x.1)]) (fun x w' => (x.1 ≤ l.length ∧ (∃ ts, Typed ts x.2.1 ∧ runT cols ts (l.drop x.1) = some [t]) ∧ x.2.1.length ≤ x.1 ∧ runE cols r x.2.1 (l.drop x.1) = runE cols r [] l) ∧ Sep w noB [rowD 34 3 cellCells x.2.2 x.2.1, blk b1 (cellCells cell0) 34] w') (fun x _ => l.length - x.1) (0, [], _) ⟨rfl, rfl, rfl, rfl, rfl, rfl, trivial⟩ ⟨⟨Nat.zero_le _, ⟨[], Typed.nil, hrun⟩, Nat.le_refl _, rfl⟩, H46⟩ (fun x τ w46 hI => ?_)
  obtain ⟨i, st, v0⟩ := x
  obtain ⟨⟨hi, ⟨ts, hT, hts⟩, hsl, hst⟩, H46⟩ := hI
  dsimp only at hi hT hts hsl hst H46
  obtain ⟨B, cb, rfl, hcb, hB⟩ := Sep.formD H46 At0
  try simp only [upds, like, upd_ds, und_ds]
  refine FW_seq (Sr (Mv ?_))
  refine Mv ?_
  refine Vs ?_
  refine Vl ?_
  refine Qn (Cp rfl (fun hc51 => ?_) (fun hc51 => ?_))
  · have hlt : i < l.length := by omega
    obtain ⟨x, hx'⟩ := get_some hlt
    have hdr : l.drop i = x :: l.drop (i + 1) := by
      rw [List.drop_eq_getElem_cons hlt]; rw [List.getElem?_eq_getElem hlt] at hx'; injection hx' with hx'; rw [hx']
    rw [hdr, runT] at hts
    rw [hdr, runE] at hst
    obtain ⟨ts', hstep, hts'⟩ := Option.bind_eq_some_iff.1 hts
    have hfx := hx x (List.mem_of_getElem? hx')
    obtain ⟨he, hg⟩ := step_typed hrow hf hfx hT hstep
    rw [he] at hst
    have htk := takesD_le x.kind
    have hle := step_le hstep
    rw [hT.1] at hle
    obtain ⟨rg, hrg⟩ : ∃ rg, rg = resG cols r st x := ⟨_, rfl⟩
    rw [← hrg] at hst hg
    unfold resG at hrg
    refine Sk (FW_seq (FW_block (Sr (Mv ?_))))
    refine Vs ?_
    refine Am ?_
    refine Nx (Mv ?_)
    refine Mv ?_
    refine Vv (Gives.idxR rfl rfl (by assumption) (by omega)) (Vv (Gives.fieldR rfl (by assumption) (by omega)) ?_)
    refine Vv (Gives.loadE rfl H46 (by assumption) (by assumption) rfl) (FL_callS (takes_ok22 _) (h := ?_))
    refine Am ?_
    refine Qn (FW_seq (FW_drawS rfl H46 (h := fun hok63 w65 H65 => ?_)))
    refine Gm hok63 0 ?_
    refine Gm hok63 1 ?_
    refine Gp hok63 2 rfl rfl (fun _ => (Gives.idxR rfl rfl (by assumption) (by omega))) (Gp hok63 3 rfl rfl (fun _ => (Gives.fieldR rfl (by assumption) (by omega))) ?_)
    refine Gl hok63 4 rfl rfl (Gives.loadE rfl H65 (by assumption) (by assumption) rfl) (Gm hok63 5 ?_)
    refine Gm hok63 6 ?_
    refine Gp hok63 7 rfl rfl (fun _ => (Gives.idxR rfl rfl (by assumption) (by omega))) (Gp hok63 8 rfl rfl (fun _ => (Gives.fieldR rfl (by assumption) (by omega))) ?_)
    refine Gl hok63 9 rfl rfl (Gives.loadE rfl H65 (by assumption) (by assumption) rfl) (Gp hok63 10 rfl rfl (fun _ => (Gives.build (out := cellCells ⟨false, x.n, x.s⟩) (Fills.one rfl rfl rfl (by simp) rfl (Fills.one rfl rfl rfl (by simp) rfl Fills.nil)))) ?_)
    refine FGalloc hok63 11 [(10, true), (9, false), (8, true), (7, true), (6, true), (5, true), (4, false), (3, true), (2, true), (1, true), (0, true)] H65 (h := fun bt w74 H74 => ⟨Stab_pure ((Stab_cons rfl (by kernel_rfl) (Gives.loadE rfl H74 hC hx' rfl) rfl (Stab_pure (Stab_pure (Stab_pure (Stab_pure ((Stab_cons rfl (by kernel_rfl) (Gives.loadE rfl H74 hC hx' rfl) rfl (Stab_pure (Stab_pure (Stab_pure (Stab_pure (Stab_nil))))))))))))), ?_⟩)
    refine FGstoreAll hok63 12 [] H74 (h := fun w76 H76 => ⟨Stab_nil, ?_⟩)
    refine FG_end hok63 (by kernel_rfl) ?_
    refine Qseq_normal (FW_cut (fun z : CellM => [(0, .slice A cols.length m), (1, .slice C l.length n), (2, .slice D r.length q), (6, .pointer (some ⟨b1, 0, none⟩)), (11, .slice B st.length cb), (12, I i), (13, I st.length), (14, I (takesD x.kind)), (15, .pointer (some ⟨bt, 0, none⟩))]) (fun z w' => rg = some z ∧ Sep w noB [blk bt (cellCells z) 34, rowD 34 3 cellCells (.slice B st.length cb) st, blk b1 (cellCells cell0) 34] w') ?_ ?_)
    · refine FW_block (Sr (Mv ?_))
      refine Mv ?_
      refine Vv (Gives.idxR rfl rfl (by assumption) (by omega)) (Vv (Gives.fieldR rfl (by assumption) (by omega)) ?_)
      refine Vv (Gives.loadE rfl H76 (by assumption) (by assumption) rfl) (Ve ?_)
      refine Am ?_
      refine Qn (Cp rfl (fun hc85 => ?_) (fun hc85 => ?_))
      · obtain ⟨ci, hci⟩ := step_find hstep hc85
        have hcI : colI cols x.n = (ci : Int) := by unfold colI; rw [hci]
        have hclt := find_lt hci
        obtain ⟨c0, hc0⟩ := get_some (l := r) (i := ci) (by omega)
        have h0 : takesD x.kind = 0 := by rw [hc85]; rfl
        have hrv : rg = some c0 := by
          rw [hrg, if_pos h0]; unfold leafC; rw [if_pos hc85, hci, Option.getD_some, getD_of hc0]
        refine FW_region (Mv ?_)
        refine Mv ?_
        refine Mv ?_
        refine Mv ?_
        refine Vv (Gives.idxR rfl rfl (by assumption) (by omega)) (Vv (Gives.fieldR rfl (by assumption) (by omega)) ?_)
        refine Vv (Gives.loadE rfl H76 (by assumption) (by assumption) rfl) (FL_callQ H76 (column_ok22 x.n (hcc.keep H76.kept)) (h := fun w95 H95 k94 => ?_))
        rw [hcI]
        refine Vv (Gives.idxR rfl rfl (by assumption) (by omega)) (Vv (Gives.loadE0 rfl H95 (by assumption) (by assumption)) ?_)
        refine FL_storeAll H95 (h := fun w99 H99 => ?_)
        refine FL_nil (Qblk_normal ?_)
        exact Qcut_normal c0 ⟨rfl, rfl, rfl, rfl, rfl, rfl, rfl, rfl, rfl, trivial⟩ ⟨hrv, H99⟩
      refine Sr (Mv ?_)
      refine Mv ?_
      refine Vv (Gives.idxR rfl rfl (by assumption) (by omega)) (Vv (Gives.fieldR rfl (by assumption) (by omega)) ?_)
      refine Vv (Gives.loadE rfl H76 (by assumption) (by assumption) rfl) (Ve ?_)
      refine Am ?_
      refine Qn (Cp rfl (fun hc108 => ?_) (fun hc108 => ?_))
      · have h0 : takesD x.kind = 0 := by rw [hc108]; rfl
        have hrv : rg = some cellNull := by
          rw [hrg, if_pos h0]; unfold leafC; rw [if_neg (by omega), if_pos hc108]
        refine FW_region (Vv (Gives.build (out := cellCells cellNull) (Fills.one rfl rfl rfl (by simp) rfl Fills.nil)) (FL_storeAll H76 (h := fun w112 H112 => ?_)))
        refine FL_nil (Qblk_normal ?_)
        exact Qcut_normal cellNull ⟨rfl, rfl, rfl, rfl, rfl, rfl, rfl, rfl, rfl, trivial⟩ ⟨hrv, H112⟩
      refine Sr (Mv ?_)
      refine Vg ?_
      refine Am ?_
      refine Qn (Cp rfl (fun hc117 => ?_) (fun hc117 => ?_))
      · have hk1 : 1 ≤ takesD x.kind := by omega
        obtain ⟨a, ha⟩ := get_some (l := st) (i := st.length - takesD x.kind) (by omega)
        obtain ⟨b, hb⟩ := get_some (l := st) (i := st.length - 1) (by omega)
        obtain ⟨ta, hta⟩ := get_some (l := ts) (i := st.length - takesD x.kind) (by have := hT.1; omega)
        obtain ⟨tb, htb⟩ := get_some (l := ts) (i := st.length - 1) (by have := hT.1; omega)
        have oa := hT.2 _ ta a hta ha
        have ob := hT.2 _ tb b htb hb
        have hsa := ok_short oa.1
        rw [if_neg (by omega), getD_of ha, getD_of hb] at hrg
        refine FW_seq (FW_drawS rfl H76 (h := fun hok119 w121 H121 => ?_))
        refine Gm hok119 0 ?_
        refine Gm hok119 1 ?_
        refine Gp hok119 2 rfl rfl (fun _ => (Gives.idxR rfl rfl (by assumption) (by omega))) (Gp hok119 3 rfl rfl (fun _ => (Gives.fieldR rfl (by assumption) (by omega))) ?_)
        refine Gl hok119 4 rfl rfl (Gives.loadE rfl H121 (by assumption) (by assumption) rfl) (Gm hok119 5 ?_)
        refine Gm hok119 6 ?_
        refine Gm hok119 7 ?_
        refine Gp hok119 8 rfl rfl (fun _ => (Gives.subI (c := ((st.length - takesD x.kind : Nat) : Int)) rfl rfl (by omega) (by omega))) (Gp hok119 9 rfl rfl (fun _ => (Gives.idxR rfl rfl (by assumption) (by omega))) ?_)
        refine Gl hok119 10 rfl rfl (Gives.loadW0 rfl (Sep_rdD H121 At1) ha) (Gm hok119 11 ?_)
        refine Gm hok119 12 ?_
        refine Gp hok119 13 rfl rfl (fun _ => (Gives.subI (c := ((st.length - 1 : Nat) : Int)) rfl rfl (by omega) (by omega))) (Gp hok119 14 rfl rfl (fun _ => (Gives.idxR rfl rfl (by assumption) (by omega))) ?_)
        refine Gl hok119 15 rfl rfl (Gives.loadW0 rfl (Sep_rdD H121 At1) hb) (FG_two hok119 (e1 := 16) (e2 := 20) (by kernel_rfl) ?_ ?_)
        · refine step_call hok119 16 [] rfl (by kernel_rfl) (madeC_ok22 x.kind a b oa.2 ob.2 (by omega)) rfl (by kernel_rfl) (by kernel_rfl) (fun v' w132 hv => ?_)
          obtain ⟨⟨cm, rfl, hcm⟩, hkk⟩ := hv
          have H132 := H121.keep hkk
          refine ⟨Stab_nil, ?_⟩
          refine Gm hok119 17 ?_
          refine Gp hok119 18 rfl rfl (fun _ => (Gives.extract rfl rfl)) (Gp hok119 19 rfl rfl (fun _ => (Gives.extract rfl rfl)) ?_)
          refine FGalloc hok119 20 [(19, true), (18, true), (17, true)] H132 (h := fun bm w136 H136 => ⟨Stab_pure (Stab_pure (Stab_pure (Stab_nil))), ?_⟩)
          refine FGstoreAll hok119 21 [(19, true)] H136 (h := fun w138 H138 => ⟨Stab_pure (Stab_nil), ?_⟩)
          refine Gp hok119 22 rfl rfl (fun _ => Gives.assign rfl) (FG_end hok119 (by kernel_rfl) ?_)
          refine Qseq_normal (FW_seq (Sr (Mv ?_)))
          refine Vv (Gives.not rfl) (Qn ?_)
          refine Cd rfl (fun hc142 => ?_) (fun hc142 => ?_)
          · have hrn : rg = none := by
              rw [hrg]
              cases hg2 : madeG x.kind a b with
              | none => rfl
              | some y => rw [hg2] at hc142; cases hc142
            rw [hrn] at hst
            have hst2 : none = runE cols r [] l := hst
            rw [← hst2] at hres
            have hfin : res = (cell0, 50) := hres
            refine Sr (Vv (Gives.build (out := cellCells cell0) Fills.nil) (FL_storeAll H138 (h := fun w146 H146 => ?_)))
            refine Am ?_
            refine Qn (Rs (Qblk_ret (Qcut_ret (Qblk_ret (Qseq_ret (Qround_ret (Qblk_ret (Qseq_ret (QfnC_ret (h := ?_))))))))))
            exact ⟨_, resC2 H146, by rw [hfin]; rfl, H146.kept⟩
          obtain ⟨y, hy⟩ : ∃ y, madeG x.kind a b = some y := by
            cases hg2 : madeG x.kind a b with
            | none => rw [hg2] at hc142; cases hc142
            | some y => exact ⟨y, rfl⟩
          have hrv : rg = some cm := by rw [hrg, hy, hcm y hy]
          refine Sk (FW_region (FL_loadAll H138 (h := ?_)))
          refine FL_storeAll H138 (h := fun w152 H152 => ?_)
          refine FL_nil (Qblk_normal ?_)
          exact Qcut_normal cm ⟨rfl, rfl, rfl, rfl, rfl, rfl, rfl, rfl, rfl, trivial⟩ ⟨hrv, H152.drop0⟩
        refine step_alloc hok119 20 [(15, false), (14, true), (13, true), (12, true), (11, true), (10, false), (9, true), (8, true), (7, true), (6, true), (5, true), (4, false), (3, true), (2, true), (1, true), (0, true)] H121 (h := fun bm w155 H155 => ⟨(Stab_cons rfl (by kernel_rfl) (Gives.loadW0 rfl (Sep_rdD H155 At2) hb) rfl (Stab_pure (Stab_pure (Stab_pure (Stab_pure ((Stab_cons rfl (by kernel_rfl) (Gives.loadW0 rfl (Sep_rdD H155 At2) ha) rfl (Stab_pure (Stab_pure (Stab_pure (Stab_pure (Stab_pure ((Stab_cons rfl (by kernel_rfl) (Gives.loadE rfl H155 hC hx' rfl) rfl (Stab_pure (Stab_pure (Stab_pure (Stab_pure (Stab_nil))))))))))))))))))), ?_⟩)
        refine FGcall hok119 16 [] rfl (by kernel_rfl) (madeC_ok22 x.kind a b oa.2 ob.2 (by omega)) rfl (by kernel_rfl) (by kernel_rfl) (fun v' w157 hv => ?_)
        obtain ⟨⟨cm, rfl, hcm⟩, hkk⟩ := hv
        have H157 := H155.keep hkk
        refine ⟨Stab_nil, ?_⟩
        refine Gm hok119 17 ?_
        refine Gp hok119 18 rfl rfl (fun _ => (Gives.extract rfl rfl)) (Gp hok119 19 rfl rfl (fun _ => (Gives.extract rfl rfl)) ?_)
        refine FGstoreAll hok119 21 [(19, true)] H157 (h := fun w161 H161 => ⟨Stab_pure (Stab_nil), ?_⟩)
        refine Gp hok119 22 rfl rfl (fun _ => Gives.assign rfl) (FG_end hok119 (by kernel_rfl) ?_)
        refine Qseq_normal (FW_seq (Sr (Mv ?_)))
        refine Vv (Gives.not rfl) (Qn ?_)
        refine Cd rfl (fun hc165 => ?_) (fun hc165 => ?_)
        · have hrn : rg = none := by
            rw [hrg]
            cases hg2 : madeG x.kind a b with
            | none => rfl
            | some y => rw [hg2] at hc165; cases hc165
          rw [hrn] at hst
          have hst2 : none = runE cols r [] l := hst
          rw [← hst2] at hres
          have hfin : res = (cell0, 50) := hres
          refine Sr (Vv (Gives.build (out := cellCells cell0) Fills.nil) (FL_storeAll H161 (h := fun w169 H169 => ?_)))
          refine Am ?_
          refine Qn (Rs (Qblk_ret (Qcut_ret (Qblk_ret (Qseq_ret (Qround_ret (Qblk_ret (Qseq_ret (QfnC_ret (h := ?_))))))))))
          exact ⟨_, resC2 H169, by rw [hfin]; rfl, H169.kept⟩
        obtain ⟨y, hy⟩ : ∃ y, madeG x.kind a b = some y := by
          cases hg2 : madeG x.kind a b with
          | none => rw [hg2] at hc165; cases hc165
          | some y => exact ⟨y, rfl⟩
        have hrv : rg = some cm := by rw [hrg, hy, hcm y hy]
        refine Sk (FW_region (FL_loadAll H161 (h := ?_)))
        refine FL_storeAll H161 (h := fun w175 H175 => ?_)
        refine FL_nil (Qblk_normal ?_)
        exact Qcut_normal cm ⟨rfl, rfl, rfl, rfl, rfl, rfl, rfl, rfl, rfl, trivial⟩ ⟨hrv, H175.drop0⟩
      have h0 : takesD x.kind = 0 := by omega
      have hrv : rg = some ⟨false, x.n, x.s⟩ := by
        rw [hrg, if_pos h0]; unfold leafC; rw [if_neg (by omega), if_neg (by omega)]
      refine FW_skip (Qblk_normal ?_)
      exact Qcut_normal ⟨false, x.n, x.s⟩ ⟨rfl, rfl, rfl, rfl, rfl, rfl, rfl, rfl, rfl, trivial⟩ ⟨hrv, H76⟩
    rintro c τ w180 ⟨hrc, H180⟩
    simp only [upds, like, upd_ds]
    refine FW_drawS rfl H180 (h := fun hok181 w183 H183 => ?_)
    refine Gm hok181 0 ?_
    refine Gm hok181 1 ?_
    refine Gm hok181 2 ?_
    obtain ⟨hTy, hfc⟩ := hg c hrc
    rw [hrc] at hst
    have hst2 : runE cols r (st.take (st.length - takesD x.kind) ++ [c]) (l.drop (i + 1)) = runE cols r [] l := hst
    refine Gp hok181 3 rfl rfl (fun _ => (Gives.subI (c := ((st.length - takesD x.kind : Nat) : Int)) rfl rfl (by omega) (by omega))) (Gp hok181 4 rfl rfl (fun _ => (Gives.sliceTo rfl rfl (by omega))) ?_)
    refine FGloadAll hok181 5 H183 (h := ?_)
    refine FGbuildSlice hok181 6 [(4, true), (3, true), (2, true), (1, true), (0, true)] H183 (xs := [.tmp 117]) (out := [c].flatMap cellCells) (Elems.many rfl rfl Elems.nil) (h := fun b w188 H188 => ⟨Stab_pure (Stab_pure (Stab_pure (Stab_pure (Stab_pure (Stab_nil))))), ?_⟩)
    have hcut := Sep.cutD (m := st.length - takesD x.kind) H188 At2 (by omega)
    have htl : (st.take (st.length - takesD x.kind)).length = st.length - takesD x.kind := by rw [List.length_take]; omega
    refine FGappendD hok181 7 [] hcut (news := [c]) At1 (by rw [htl]; unfold maxLen; simp; omega) (by rw [htl]; simp; omega) (cells_one (fun _ => rfl) [c]) (h := fun v2 w190 H190 => ⟨Stab_nil, ?_⟩)
    refine FGset hok181 8 [] (h := ⟨Stab_nil, ?_⟩)
    refine FG_end hok181 (by kernel_rfl) ?_
    refine Qblk_normal (Qseq_normal (FW_region (Mv ?_)))
    refine Vv (Gives.addI rfl rfl rfl (by omega)) (Am ?_)
    refine FL_nil ?_
    exact Qround_normal (i + 1, st.take (st.length - takesD x.kind) ++ [c], v2) ⟨rfl, rfl, rfl, rfl, rfl, rfl, trivial⟩ ⟨⟨by dsimp only; omega, ⟨ts', hTy, hts'⟩, by dsimp only; rw [List.length_append, htl]; simp; omega, hst2⟩, H190.drop0⟩ (by dsimp only; omega)
  have hil : i = l.length := by omega
  rw [hil, List.drop_length, runT] at hts
  rw [hil, List.drop_length, runE] at hst
  rw [← hst] at hres
  have hts1 : ts = [t] := by injection hts
  have h1 : st.length = 1 := by rw [← hT.1, hts1]; rfl
  obtain ⟨c, hc1⟩ := List.length_eq_one_iff.1 h1
  have hg0 : st[0]? = some c := by rw [hc1]; rfl
  have hfin : res = (c, 0) := by rw [hres, hc1]; rfl
  refine FW_exit (Qseq_exit (Qround_exit (Qblk_exit (Qseq_normal (Sr (Mv ?_))))))
  refine Vv (Gives.idxR (i := 0) rfl rfl hB (by omega)) (Vv (Gives.loadW0 (i := 0) rfl hB hg0) ?_)
  refine FL_storeAll H46 (h := fun w201 H201 => ?_)
  refine Am ?_
  refine Qn (FW_ret (QfnC_ret (h := ?_)))
  exact ⟨_, resC2 H201, by rw [hfin]; rfl, H201.kept⟩
end
def resE (cols : List ColM) (r : List CellM) (st : List CellM) (x : StepM) : Option CellM :=
 if takesS x.kind = 0 then some (leafC cols r x) else madeC x.kind (st.getD (st.length - takesS x.kind) cell0) (st.getD (st.length - 1) cell0)
theorem stepE_res (cols : List ColM) (r : List CellM) (st : List CellM) (x : StepM) : stepE cols r st x = (resE cols r st x).map fun c => st.take (st.length - takesS x.kind) ++ [c] := rfl
theorem step_typedE {cols : List ColM} {r : List CellM} {x : StepM} {ts ts' : List TypeM} {st : List CellM} (hr : rowCheck cols r = 0) (hf : RowFits r) (hx : fits x.n) (hT : Typed ts st) (hs : stepT cols ts x = some ts') :
    mayS x = true ∧ takesS x.kind ≤ st.length ∧ ∀ c, resE cols r st x = some c → Typed ts' (st.take (st.length - takesS x.kind) ++ [c]) := by
  have hm : mayS x = true := by
    cases h : mayS x with
    | true => rfl
    | false => rw [stepT_no (.inl h)] at hs; cases hs
  have htk := takes_may hm
  have hle : takesS x.kind ≤ st.length := by
    rw [← hT.1]
    refine Classical.byContradiction fun h => ?_
    rw [stepT_no' (.inr (by omega))] at hs; cases hs
  obtain ⟨he, hg⟩ := step_typed hr hf hx hT hs
  refine ⟨hm, hle, fun c hc => ?_⟩
  rw [stepE_res, hc, htk] at he
  rw [htk] at hg
  obtain ⟨c', h1, h2⟩ := Option.map_eq_some_iff.1 he.symm
  have := List.append_cancel_left h2
  injection this with h3
  subst h3
  exact (hg _ h1).1
attribute [local irreducible] mayS madeC findC
section
variable {w : World}
theorem evalE_ok {cols : List ColM} {l : List StepM} {r : List CellM} {vc vl vr : Value} (hc : RowIn w vc colCells 7 cols) (hl : RowIn w vl stepCells 3 l) (hr : RowIn w vr cellCells 3 r) (hf : RowFits r) (hx : ∀ x ∈ l, fits x.n) (hT : TabsU w) :
    Rets Tryz.prog 19 [vc, vl, vr] w fun v w' => v = .tuple #[agg (cellCells (evalS cols l r).1), I (evalS cols l r).2] ∧ Kept noB w w' := by
  have hcc := hc
  have hll := hl
  have hrr := hr
  obtain ⟨A, m, rfl, ⟨hm, hm'⟩, hA⟩ := hc
  obtain ⟨C, n, rfl, ⟨hn, hn'⟩, hC⟩ := hl
  obtain ⟨D, q, rfl, ⟨hq, hq'⟩, hD⟩ := hr
  have H := Sep.start0 w
  obtain ⟨res, hres⟩ : ∃ res, res = evalS cols l r := ⟨_, rfl⟩
  rw [← hres]
  unfold evalS at hres
  refine retsC3 Tryz.func19 rfl rfl rfl rfl ?_
  refine Sr (FL_alloc H (h := fun b6 w2 H2 k1 => ?_))
  refine Am ?_
  refine Qn (FW_seq (Sr (Mv ?_)))
  refine Mv ?_
  refine FL_callQ H2 (typeE_ok (hcc.keep H2.kept) (hll.keep H2.kept) hx (hT.keep H2.kept)) (h := fun w7 H7 k6 => ?_)
  refine Mv ?_
  refine Vx ?_
  refine Vx ?_
  refine FL_alloc H7 (h := fun b8 w12 H12 k11 => ?_)
  refine FL_storeAll H12 (h := fun w14 H14 => ?_)
  refine Am ?_
  refine Nx (Mv ?_)
  refine Vn ?_
  refine Qn (Cp rfl (fun hc18 => ?_) (fun hc18 => ?_))
  · have hfin : res = (cell0, (typeS cols l).2) := by rw [hres, if_pos hc18]
    refine Sr (Vv (Gives.build (out := cellCells cell0) Fills.nil) (Mv ?_))
    refine FL_storeAll H14 (h := fun w23 H23 => ?_)
    refine Am ?_
    refine Qn (Rs (QfnC_ret (h := ?_)))
    exact ⟨_, resC2 H23, by rw [hfin]; rfl, H23.kept⟩
  have hty0 : (typeS cols l).2 = 0 := by simpa using hc18
  obtain ⟨h64, t, hrun, htt⟩ := typeS_ok hty0
  rw [if_neg (by simpa using hty0)] at hres
  refine Sk (FW_seq (Sr (Mv ?_)))
  refine Mv ?_
  refine FL_callQ H14 (rowCheckE_ok (hcc.keep H14.kept) (hrr.keep H14.kept) hf (hT.keep H14.kept)) (h := fun w30 H30 k29 => ?_)
  refine Am ?_
  refine Nx (Mv ?_)
  refine Vn ?_
  refine Qn (Cp rfl (fun hc34 => ?_) (fun hc34 => ?_))
  · have hfin : res = (cell0, rowCheck cols r) := by rw [hres, if_pos hc34]
    refine Sr (Vv (Gives.build (out := cellCells cell0) Fills.nil) (Mv ?_))
    refine FL_storeAll H30 (h := fun w39 H39 => ?_)
    refine Am ?_
    refine Qn (Rs (QfnC_ret (h := ?_)))
    exact ⟨_, resC2 H39, by rw [hfin]; rfl, H39.kept⟩
  have hrow : rowCheck cols r = 0 := by simpa using hc34
  rw [if_neg (by simpa using hrow)] at hres
  obtain ⟨hlen, _⟩ := row_ok hrow
  refine Sk (Sr (FL_alloc H30 (h := fun b11 w44 H44 k43 => ?_)))
  refine Qn (FW_seq (Sr (Mv ?_)))
  refine Vs ?_
  refine Mv ?_
  refine Qn (FW_block ?_)
  have H49 := Sep.nilD ((H44.front2.front1).firsts (l := [_, _])) 34 3 cellCells
  refine FW_loop' (fun x : Nat × List CellM × Value => [(0, .slice A cols.length m), (2, .slice D r.length q), (6, .pointer (some ⟨b6, 0, none⟩)), (11, .pointer (some ⟨b11, 0, none⟩)), (35, .slice C l.length n), (36, I l.length), (37, I x.1)]) (fun x w' => (x.1 ≤ l.length ∧ (∃ ts, Typed ts x.2.1 ∧ runT cols ts (l.drop x.1) = some [t]) ∧ x.2.1.length ≤ x.1 ∧ runE cols r x.2.1 (l.drop x.1) = runE cols r [] l) ∧ Sep w noB [rowD 34 3 cellCells x.2.2 x.2.1, blk b11 [x.2.2] 89, blk b6 (cellCells cell0) 34] w') (fun x _ => l.length - x.1) (0, [], .slice none 0 0) ⟨rfl, rfl, rfl, rfl, rfl, rfl, rfl, trivial⟩ ⟨⟨Nat.zero_le _, ⟨[], Typed.nil, hrun⟩, Nat.le_refl _, rfl⟩, H49⟩ (fun x τ w49 hI => ?_)
  obtain ⟨i, st, v0⟩ := x
  obtain ⟨⟨hi, ⟨ts, hTy, hts⟩, hsl, hst⟩, H49⟩ := hI
  dsimp only at hi hTy hts hsl hst H49
  obtain ⟨B, cb, rfl, hcb, hB⟩ := Sep.formD H49 At0
  try simp only [upds, like, upd_ds, und_ds]
  refine Sr (Vl ?_)
  refine Qn (FW_seq (Cp rfl (fun hc51 => ?_) (fun hc51 => ?_)))
  · have hlt : i < l.length := by omega
    obtain ⟨x, hx'⟩ := get_some hlt
    have hdr : l.drop i = x :: l.drop (i + 1) := by
      rw [List.drop_eq_getElem_cons hlt]; rw [List.getElem?_eq_getElem hlt] at hx'; injection hx' with hx'; rw [hx']
    rw [hdr, runT] at hts
    rw [hdr, runE, stepE_res] at hst
    obtain ⟨ts', hstep, hts'⟩ := Option.bind_eq_some_iff.1 hts
    have hfx := hx x (List.mem_of_getElem? hx')
    obtain ⟨hmx, hkn, hg⟩ := step_typedE hrow hf hfx hTy hstep
    obtain ⟨hk1, hk18⟩ := mayS_kind hmx
    have hk2 := takesS_le x.kind
    refine Sk (FW_seq (FW_block (Sr (Vv (Gives.idxR rfl rfl (by assumption) (by omega)) (Vv (Gives.loadE0 rfl H49 (by assumption) (by assumption)) ?_)))))
    refine FL_alloc H49 (h := fun b13 w56 H56 k55 => ?_)
    refine FL_storeAll H56 (h := fun w58 H58 => ?_)
    refine Nx (Vf ?_)
    refine Ld H58 ?_
    refine FL_callQ H58 (many_ok x.kind) (h := fun w62 H62 k61 => ?_)
    obtain ⟨F0, hp0, hS0, hput0⟩ := H62.focus At2
    refine FL_call (cellsTake_ok hp0 hkn hcb (by omega)) rfl rfl (fun v' w64 hv => ?_)
    obtain ⟨rfl, hkk, F1, hq2, hs⟩ := hv
    have H64 := hput0 _ F1 _ hkk hq2 hs
    have htl : (st.take (st.length - takesS x.kind)).length = st.length - takesS x.kind := by rw [List.length_take]; omega
    refine Mv ?_
    refine Vx ?_
    refine Vx ?_
    refine Am ?_
    refine Am ?_
    refine Qn (FW_block (Sr (Mv ?_)))
    refine Vs ?_
    refine Vg ?_
    refine Am ?_
    refine Qn (Cp rfl (fun hc74 => ?_) (fun hc74 => ?_))
    · have hk0 : ¬ takesS x.kind = 0 := by omega
      have hk7 : 7 ≤ x.kind := by
        refine Classical.byContradiction fun h => hk0 (takesS_zero'.2 (by omega))
      obtain ⟨a, ha⟩ := get_some (l := st) (i := st.length - takesS x.kind) (by omega)
      obtain ⟨b, hb⟩ := get_some (l := st) (i := st.length - 1) (by omega)
      obtain ⟨ta, hta⟩ := get_some (l := ts) (i := st.length - takesS x.kind) (by have := hTy.1; omega)
      obtain ⟨tb, htb⟩ := get_some (l := ts) (i := st.length - 1) (by have := hTy.1; omega)
      have oa := hTy.2 _ ta a hta ha
      have ob := hTy.2 _ tb b htb hb
      have hrg : resE cols r st x = madeC x.kind a b := by unfold resE; rw [if_neg hk0, getD_of ha, getD_of hb]
      have hs2 := some2_of (d := cell0) hk7 hkn
      rw [getD_of ha, getD_of hb] at hs2
      refine Sr (Vf ?_)
      refine Ld H64 ?_
      refine Mv ?_
      refine FL_call (madeE_ok (row_from (Sep_rdD H64 At1) hcb (Sep.capD H64 At1) hkn) hs2 hk7 hk18 oa.2 ob.2) rfl rfl (fun v' w80 hv => ?_)
      obtain ⟨⟨cm, rfl, hcm⟩, hkk⟩ := hv
      have H80 := H64.keep hkk
      refine Mv ?_
      refine Vx ?_
      refine Vx ?_
      refine FL_alloc H80 (h := fun b16 w85 H85 k84 => ?_)
      refine FL_storeAll H85 (h := fun w87 H87 => ?_)
      refine Am ?_
      refine Qn (FW_seq (Sr (Mv ?_)))
      refine Vv (Gives.not rfl) (Qn ?_)
      refine Cd rfl (fun hc91 => ?_) (fun hc91 => ?_)
      · have hno : madeC x.kind a b = none := by
          cases h : madeC x.kind a b with
          | none => rfl
          | some y => rw [h] at hc91; cases hc91
        rw [hrg, hno] at hst
        rw [← hst] at hres
        have hfin : res = (cell0, 50) := hres
        refine Sr (Vv (Gives.build (out := cellCells cell0) Fills.nil) (FL_storeAll H87 (h := fun w95 H95 => ?_)))
        refine Am ?_
        refine Qn (Rs (Qblk_ret (Qblk_ret (Qseq_ret (Qround_ret (Qblk_ret (Qseq_ret (QfnC_ret (h := ?_)))))))))
        exact ⟨_, resC2 H95, by rw [hfin]; rfl, H95.kept⟩
      obtain ⟨y, hy⟩ : ∃ y, madeC x.kind a b = some y := by
        cases h : madeC x.kind a b with
        | none => rw [h] at hc91; cases hc91
        | some y => exact ⟨y, rfl⟩
      have hcy := hcm y hy
      subst hcy
      have hrv : resE cols r st x = some cm := by rw [hrg, hy]
      refine Sk (FW_region (FL_loadAll H87 (h := ?_)))
      refine FL_buildSlice H87 (xs := [.tmp 69]) (out := [cm].flatMap cellCells) (Elems.many rfl rfl Elems.nil) rfl rfl rfl (fun bs w101 H101 k100 => ?_)
      obtain ⟨F0, hp0, hS0, hput0⟩ := H101.focus At4
      have hRc := (Sep_rdD H101 At3).cut (st.length - takesS x.kind)
      have hn1 : RowIn _ (.slice (some ⟨bs, 0, none⟩) 1 1) cellCells 3 [cm] := ⟨some ⟨bs, 0, none⟩, 1, rfl, ⟨by simp, by omega⟩, Sep.blkRow H101 At0 rfl⟩
      refine FL_call (cellsPut_ok (l := st.take (st.length - takesS x.kind)) (by rw [htl]; exact hp0) hRc hn1 (by simp) (by simp; omega)) rfl rfl (fun v' w103 hv => ?_)
      obtain ⟨v2, rfl, _, hkk, F1, hq2, hs⟩ := hv
      have H103 := ((hput0 _ F1 _ hkk hq2 hs).front4).star0
      refine FL_nil (Qblk_normal (Qblk_normal (Qseq_normal (FW_region (Vv (Gives.addI rfl rfl rfl (by omega)) ?_)))))
      refine Mv ?_
      refine FL_nil ?_
      exact Qround_normal (i + 1, st.take (st.length - takesS x.kind) ++ [cm], v2) ⟨rfl, rfl, rfl, rfl, rfl, rfl, rfl, trivial⟩ ⟨⟨by dsimp only; omega, ⟨ts', hg _ hrv, hts'⟩, by dsimp only; rw [List.length_append, htl]; simp; omega, by rw [hrv] at hst; exact hst⟩, (H103.front6.front1.front2).firsts (l := [_, _, _])⟩ (by dsimp only; omega)
    have hk0 : takesS x.kind = 0 := by omega
    have hrg : resE cols r st x = some (leafC cols r x) := if_pos hk0
    have hk6 : x.kind ≤ 6 := by have := takesS_zero'.1 hk0; omega
    refine Sr (Vf ?_)
    refine Ld H64 ?_
    refine Ve ?_
    refine Am ?_
    refine Qn (Cp rfl (fun hc112 => ?_) (fun hc112 => ?_))
    · obtain ⟨ci, hci⟩ := step_find hstep hc112
      have hclt := find_lt hci
      obtain ⟨c0, hc0⟩ := get_some (l := r) (i := ci) (by omega)
      have hlf : leafC cols r x = c0 := by unfold leafC; rw [if_pos hc112, hci, Option.getD_some, getD_of hc0]
      have hrv : resE cols r st x = some c0 := by rw [hrg, hlf]
      refine FW_region (Mv ?_)
      refine Mv ?_
      refine Vf ?_
      refine Ld H64 ?_
      refine FL_callQ H64 (find_ok x.n (hcc.keep H64.kept)) (h := fun w119 H119 k118 => ?_)
      rw [hci, show idxI (some ci) = ((ci : Nat) : Int) from rfl]
      refine Vv (Gives.idxR rfl rfl hD (get_lt hc0)) (Vv (Gives.loadE0 rfl H119 hD hc0) ?_)
      refine FL_buildSlice H119 (xs := [.tmp 82]) (out := [c0].flatMap cellCells) (Elems.many rfl rfl Elems.nil) rfl rfl rfl (fun bs w123 H123 k122 => ?_)
      obtain ⟨F0, hp0, hS0, hput0⟩ := H123.focus At3
      have hRc := (Sep_rdD H123 At2).cut (st.length - takesS x.kind)
      have hn1 : RowIn _ (.slice (some ⟨bs, 0, none⟩) 1 1) cellCells 3 [c0] := ⟨some ⟨bs, 0, none⟩, 1, rfl, ⟨by simp, by omega⟩, Sep.blkRow H123 At0 rfl⟩
      refine FL_call (cellsPut_ok (l := st.take (st.length - takesS x.kind)) (by rw [htl]; exact hp0) hRc hn1 (by simp) (by simp; omega)) rfl rfl (fun v' w125 hv => ?_)
      obtain ⟨v2, rfl, _, hkk, F1, hq2, hs⟩ := hv
      have H125 := ((hput0 _ F1 _ hkk hq2 hs).front3).star0
      refine FL_nil (Qblk_normal (Qblk_normal (Qseq_normal (FW_region (Vv (Gives.addI rfl rfl rfl (by omega)) ?_)))))
      refine Mv ?_
      refine FL_nil ?_
      exact Qround_normal (i + 1, st.take (st.length - takesS x.kind) ++ [c0], v2) ⟨rfl, rfl, rfl, rfl, rfl, rfl, rfl, trivial⟩ ⟨⟨by dsimp only; omega, ⟨ts', hg _ hrv, hts'⟩, by dsimp only; rw [List.length_append, htl]; simp; omega, by rw [hrv] at hst; exact hst⟩, (H125.front5.front1.front2).firsts (l := [_, _, _])⟩ (by dsimp only; omega)
    refine Sr (Vf ?_)
    refine Ld H64 ?_
    refine Ve ?_
    refine Am ?_
    refine Qn (Cp rfl (fun hc133 => ?_) (fun hc133 => ?_))
    · have hlf : leafC cols r x = cellNull := by unfold leafC; rw [if_neg (by omega), if_pos hc133]
      have hrv : resE cols r st x = some cellNull := by rw [hrg, hlf]
      refine FW_region (Vv (Gives.build (out := cellCells cellNull) (Fills.one rfl rfl rfl (by simp) rfl Fills.nil)) (FL_buildSlice H64 (xs := [.tmp 89]) (out := [cellNull].flatMap cellCells) (Elems.many rfl rfl Elems.nil) rfl rfl rfl (fun bs w137 H137 k136 => ?_)))
      obtain ⟨F0, hp0, hS0, hput0⟩ := H137.focus At3
      have hRc := (Sep_rdD H137 At2).cut (st.length - takesS x.kind)
      have hn1 : RowIn _ (.slice (some ⟨bs, 0, none⟩) 1 1) cellCells 3 [cellNull] := ⟨some ⟨bs, 0, none⟩, 1, rfl, ⟨by simp, by omega⟩, Sep.blkRow H137 At0 rfl⟩
      refine FL_call (cellsPut_ok (l := st.take (st.length - takesS x.kind)) (by rw [htl]; exact hp0) hRc hn1 (by simp) (by simp; omega)) rfl rfl (fun v' w139 hv => ?_)
      obtain ⟨v2, rfl, _, hkk, F1, hq2, hs⟩ := hv
      have H139 := ((hput0 _ F1 _ hkk hq2 hs).front3).star0
      refine FL_nil (Qblk_normal (Qblk_normal (Qseq_normal (FW_region (Vv (Gives.addI rfl rfl rfl (by omega)) ?_)))))
      refine Mv ?_
      refine FL_nil ?_
      exact Qround_normal (i + 1, st.take (st.length - takesS x.kind) ++ [cellNull], v2) ⟨rfl, rfl, rfl, rfl, rfl, rfl, rfl, trivial⟩ ⟨⟨by dsimp only; omega, ⟨ts', hg _ hrv, hts'⟩, by dsimp only; rw [List.length_append, htl]; simp; omega, by rw [hrv] at hst; exact hst⟩, (H139.front5.front1.front2).firsts (l := [_, _, _])⟩ (by dsimp only; omega)
    have hlf : leafC cols r x = ⟨false, x.n, x.s⟩ := by unfold leafC; rw [if_neg (by omega), if_neg (by omega)]
    have hrv : resE cols r st x = some ⟨false, x.n, x.s⟩ := by rw [hrg, hlf]
    refine FW_region (Vf ?_)
    refine Ld H64 ?_
    refine Vf ?_
    refine Ld H64 ?_
    refine Vv (Gives.build (out := cellCells ⟨false, x.n, x.s⟩) (Fills.one rfl rfl rfl (by simp) rfl (Fills.one rfl rfl rfl (by simp) rfl Fills.nil))) (FL_buildSlice H64 (xs := [.tmp 52]) (out := [(⟨false, x.n, x.s⟩ : CellM)].flatMap cellCells) (Elems.many rfl rfl Elems.nil) rfl rfl rfl (fun bs w150 H150 k149 => ?_))
    obtain ⟨F0, hp0, hS0, hput0⟩ := H150.focus At3
    have hRc := (Sep_rdD H150 At2).cut (st.length - takesS x.kind)
    have hn1 : RowIn _ (.slice (some ⟨bs, 0, none⟩) 1 1) cellCells 3 [(⟨false, x.n, x.s⟩ : CellM)] := ⟨some ⟨bs, 0, none⟩, 1, rfl, ⟨by simp, by omega⟩, Sep.blkRow H150 At0 rfl⟩
    refine FL_call (cellsPut_ok (l := st.take (st.length - takesS x.kind)) (by rw [htl]; exact hp0) hRc hn1 (by simp) (by simp; omega)) rfl rfl (fun v' w152 hv => ?_)
    obtain ⟨v2, rfl, _, hkk, F1, hq2, hs⟩ := hv
    have H152 := ((hput0 _ F1 _ hkk hq2 hs).front3).star0
    refine FL_nil (Qblk_normal (Qblk_normal (Qseq_normal (FW_region (Vv (Gives.addI rfl rfl rfl (by omega)) ?_)))))
    refine Mv ?_
    refine FL_nil ?_
    exact Qround_normal (i + 1, st.take (st.length - takesS x.kind) ++ [⟨false, x.n, x.s⟩], v2) ⟨rfl, rfl, rfl, rfl, rfl, rfl, rfl, trivial⟩ ⟨⟨by dsimp only; omega, ⟨ts', hg _ hrv, hts'⟩, by dsimp only; rw [List.length_append, htl]; simp; omega, by rw [hrv] at hst; exact hst⟩, (H152.front5.front1.front2).firsts (l := [_, _, _])⟩ (by dsimp only; omega)
  have hil : i = l.length := by omega
  rw [hil, List.drop_length, runT] at hts
  rw [hil, List.drop_length, runE] at hst
  rw [← hst] at hres
  have hts1 : ts = [t] := by injection hts
  have h1 : st.length = 1 := by rw [← hTy.1, hts1]; rfl
  obtain ⟨c, hc1⟩ := List.length_eq_one_iff.1 h1
  have hg0 : st[0]? = some c := by rw [hc1]; rfl
  have hfin : res = (c, 0) := by rw [hres, hc1]; rfl
  refine FW_exit (Qseq_exit (Qround_exit (Qblk_exit (Qseq_normal (Sr (Vf ?_))))))
  refine Ld H49 ?_
  refine Vv (Gives.idxR (i := 0) rfl rfl hB (by omega)) (Vv (Gives.loadW0 (i := 0) rfl hB hg0) ?_)
  refine FL_storeAll H49 (h := fun w162 H162 => ?_)
  refine Am ?_
  refine Qn (FW_ret (QfnC_ret (h := ?_)))
  exact ⟨_, resC2 H162, by rw [hfin]; rfl, H162.kept⟩
end
/-! A row that is sorted, then rid of what comes twice. -/
theorem compact_rises {zs : List Int} (h : zs.Pairwise (· ≤ ·)) : (Lib.compact zs).Pairwise (· < ·) ∧ ∀ k, k ∈ Lib.compact zs ↔ k ∈ zs := by
 have hle : ∀ i j, i ≤ j → j < zs.length → zs.toArray[i]! ≤ zs.toArray[j]! := fun i j hij hj => by
  have e : ∀ k, k < zs.length → zs.toArray[k]! = zs.getD k 0 := fun k hk => by
   rw [List.getD_eq_getElem?_getD, List.getElem?_eq_getElem hk, getElem!_pos zs.toArray k (by simpa using hk)]; simp
  rw [e i (by omega), e j hj]
  rcases Nat.lt_or_ge i j with h1 | h1
  ·have := List.pairwise_iff_getElem.1 h i j (by omega) hj h1
   rw [List.getD_eq_getElem?_getD, List.getElem?_eq_getElem (show i < zs.length by omega), List.getD_eq_getElem?_getD, List.getElem?_eq_getElem hj]
   exact this
  have : i = j := by omega
  subst this; exact Int.le_refl _
 have hmem : ∀ k, k ∈ zs ↔ ∃ j, j < zs.length ∧ zs.toArray[j]! = k := fun k => by
  constructor
  ·intro hk
   obtain ⟨j, hj, e⟩ := List.getElem_of_mem hk
   exact ⟨j, hj, by rw [getElem!_pos zs.toArray j (by simpa using hj)]; simpa using e⟩
  rintro ⟨j, hj, e⟩
  rw [getElem!_pos zs.toArray j (by simpa using hj)] at e
  rw [← e]; simp
 unfold Lib.compact Lib.compactUpTo
 constructor
 ·rw [List.pairwise_map]
  have hp : ((List.range zs.length).filter (Lib.keeps zs.toArray)).Pairwise (· < ·) := List.pairwise_lt_range.filter _
  refine hp.imp_of_mem fun {i j} hi hj hij => ?_
  rw [List.mem_filter, List.mem_range] at hi hj
  have hk := hj.2
  unfold Lib.keeps at hk
  have h0 : j ≠ 0 := by omega
  have h1 := hle i (j - 1) (by omega) (by omega)
  have h2 := hle (j - 1) j (by omega) hj.1
  have h3 : zs.toArray[j]! ≠ zs.toArray[j - 1]! := by simpa [h0] using hk
  omega
 intro k
 rw [hmem]
 simp only [List.mem_map, List.mem_filter, List.mem_range]
 constructor
 ·rintro ⟨j, ⟨hj, _⟩, e⟩; exact ⟨j, hj, e⟩
 rintro ⟨j, hj, e⟩
 induction j using Nat.strongRecOn with
 | _ j ih =>
  by_cases hk : Lib.keeps zs.toArray j = true
  ·exact ⟨j, ⟨hj, hk⟩, e⟩
  have h0 : j ≠ 0 := fun e0 => by subst e0; exact hk (by simp [Lib.keeps])
  have h3 : zs.toArray[j]! = zs.toArray[j - 1]! := by
   unfold Lib.keeps at hk
   simpa [h0] using hk
  exact ih (j - 1) (by omega) (by omega) (by rw [← h3]; exact e)
theorem uses_sorted (l : List StepM) : Lib.compact (((l.filter fun x => decide (x.kind = 1)).map fun x => x.n).mergeSort fun x y => decide (x ≤ y)) = usesS l := by
 have hs : (((l.filter fun x => decide (x.kind = 1)).map fun x => x.n).mergeSort fun x y => decide (x ≤ y)).Pairwise (· ≤ ·) := by
  have := List.pairwise_mergeSort (le := fun x y : Int => decide (x ≤ y)) (fun a b c h1 h2 => by simp at *; omega) (fun a b => by simp; omega) ((l.filter fun x => decide (x.kind = 1)).map fun x => x.n)
  exact this.imp fun h => by simpa using h
 obtain ⟨h1, h2⟩ := compact_rises hs
 refine rises_same h1 (usesS_rises l) fun k => ?_
 rw [h2, List.mem_mergeSort, usesS_mem]
 simp only [List.mem_map, List.mem_filter, decide_eq_true_eq, and_assoc]
theorem turn_put {e c m : Nat} {A : Option Addr} {l : List Int} {F : Nat → Prop} {w : World} {g : Nat} {d : Array Int} {k : Nat} {os : Array Obj} (hp : (rowD e 1 intCells (.slice A l.length c) l).ok F w) (hA : A = some ⟨g, 0, none⟩) (hd : d.size = l.length) (hm : m ≤ l.length) :
    Turn F (rowD e 1 intCells (.slice A m c) (d.toList.take m)) w (Sort.grow (Sort.putRow (Value.int .i64) (Sort.ahead w k) g 0 d) os) := by
  obtain ⟨⟨h1, h2⟩, h3⟩ := hp
  rcases h2 with ⟨hv, _⟩ | ⟨g', cap, cur, hv, hg, hh, hle, hmax, hsz, htk⟩
  · injection hv with e1; rw [hA] at e1; cases e1
  injection hv with e1 e2 e3
  rw [hA] at e1
  injection e1 with e1
  injection e1 with e1
  subst e1
  subst e3
  have hlt := lt_of_get hh
  have hne : ∀ b, b ≠ g → (Sort.putRow (Value.int .i64) (Sort.ahead w k) g 0 d).heap[b]? = w.heap[b]? := fun b hb => by
    show ((w.heap.modify g (Sort.onCells _)))[b]? = _
    rw [Array.getElem?_modify, if_neg (fun e => hb e.symm)]
  have hat : (Sort.putRow (Value.int .i64) (Sort.ahead w k) g 0 d).heap[g]? = some (.cells (Sort.putCells (Value.int .i64) 0 d cur) e (0, 0)) := by
    show ((w.heap.modify g (Sort.onCells _)))[g]? = _
    rw [Array.getElem?_modify, if_pos rfl, hh]; rfl
  have hsz2 : (Sort.putRow (Value.int .i64) (Sort.ahead w k) g 0 d).heap.size = w.heap.size := Sort.size_putRow _ _ _ _ _
  have hgrow : ∀ b, b < w.heap.size → (Sort.grow (Sort.putRow (Value.int .i64) (Sort.ahead w k) g 0 d) os).heap[b]? = (Sort.putRow (Value.int .i64) (Sort.ahead w k) g 0 d).heap[b]? := fun b hb => by
    show (_ ++ os)[b]? = _
    rw [Array.getElem?_append_left (by rw [hsz2]; exact hb)]
  refine ⟨⟨rfl, rfl, rfl, by rw [Sort.size_grow, hsz2]; omega, fun b hb hF => ?_⟩, F, ⟨⟨?_, .inr ⟨g, c, Sort.putCells (Value.int .i64) 0 d cur, by rw [hA, List.length_take]; congr 1; simp [hd]; omega, Nat.zero_le _, ?_, ?_, hmax, ?_, ?_⟩⟩, fun b => ?_⟩, fun b hb => .inl hb⟩
  · rw [hgrow b hb, hne b fun e => hF ((h3 b).2 (by rw [e, hA]; rfl))]
  · rw [flat_len (k := 1) (fun _ => rfl)]
  · rw [hgrow g hlt, hat]
  · rw [List.length_take]; simp [hd]; omega
  · rw [Sort.putCells, Array.size_mapIdx]; exact hsz
  · have hcl : l.length ≤ cur.size := by rw [hsz]; omega
    rw [Nat.mul_one, List.length_take, Array.length_toList, hd, Nat.min_eq_left hm]
    refine List.ext_getElem? fun j => ?_
    rw [List.getElem?_take]
    have hfl : ∀ zs : List Int, zs.flatMap intCells = zs.map (Value.int .i64) := fun zs => by
      induction zs with
      | nil => rfl
      | cons z zs ih => rw [List.flatMap_cons, ih]; rfl
    rw [hfl, List.getElem?_map, List.getElem?_take]
    by_cases hj : j < m
    · rw [if_pos hj, if_pos hj]
      have hj2 : j < cur.size := by omega
      have hj3 : j < d.size := by omega
      rw [Array.getElem?_toList, Sort.putCells, Array.getElem?_mapIdx, Array.getElem?_eq_getElem hj2, Array.getElem?_toList, Array.getElem?_eq_getElem hj3]
      simp only [Option.map_some]
      rw [if_pos ⟨Nat.zero_le _, by omega⟩, Nat.sub_zero, getElem!_pos d j hj3]
    rw [if_neg hj, if_neg hj]; rfl
  rw [h3 b, hA]; rfl
theorem row_holds {e c : Nat} {A : Option Addr} {l : List Int} {F : Nat → Prop} {w : World} (hp : (rowD e 1 intCells (.slice A l.length c) l).ok F w) (hne : l ≠ []) : ∃ g, A = some ⟨g, 0, none⟩ ∧ Sort.Holds (Value.int .i64) w g 0 l.toArray ∧ g < w.heap.size ∧ l.length ≤ c := by
 obtain ⟨hown, h3⟩ := hp
 have hown' := hown
 obtain ⟨h1, h2⟩ := hown
 rcases h2 with ⟨hv, h0⟩ | ⟨g, cap, cur, hv, hg, hh, hle, hmax, hsz, htk⟩
 ·exact absurd (List.eq_nil_of_length_eq_zero h0) hne
 injection hv with e1 e2 e3
 refine ⟨g, e1, fun j hj => ?_, lt_of_get hh, by omega⟩
 have hj' : j < l.length := by simpa using hj
 have hr : RowAt w A l.length 1 (l.flatMap intCells) := rowAt_of_own hown'
 obtain ⟨ad, hA, hcell⟩ := hr.at_ (by omega)
 rw [e1] at hA
 injection hA with hA
 subst hA
 have hx := flat_get (enc := intCells) (k := 1) (fun _ => rfl) (List.getElem?_eq_getElem hj') (show 0 < 1 by decide)
 have := hcell _ _ (hx.trans rfl)
 rw [Addr.add_lit] at this
 refine ⟨by rw [show 0 + j = 0 + (j * 1 + 0) by omega, this, getElem!_pos l.toArray j hj]; simp [I], ?_⟩
 simp [World.frozen?, hh]
section
variable {w : World}
theorem sort_ok {e c : Nat} {A : Option Addr} {l : List Int} {F : Nat → Prop} (hp : (rowD e 1 intCells (.slice A l.length c) l).ok F w) (hl : l.length ≤ 1000000) :
    Rets Tryz.prog 58 [.slice A l.length c] w fun v w' => v = .tuple #[] ∧ Turn F (rowD e 1 intCells (.slice A l.length c) (l.mergeSort fun x y => decide (x ≤ y))) w w' := by
  by_cases hne : l = []
  · subst hne
    refine Calls.mono (Tryz.slices_Sort_int_none A c w) fun en w' he => ?_
    obtain ⟨rfl, rfl⟩ := he
    exact ⟨rfl, by rw [List.mergeSort_nil]; exact Turn.refl hp⟩
  obtain ⟨g, hA, hH, hg, _⟩ := row_holds hp hne
  have hlen : (l.mergeSort fun x y => decide (x ≤ y)).length = l.length := List.length_mergeSort l
  have hA' := hA
  subst hA'
  refine Calls.mono (Tryz.slices_Sort_int g 0 c l w hH hg (by omega)) fun en w' he => ?_
  obtain ⟨rfl, n, os, rfl⟩ := he
  refine ⟨rfl, ?_⟩
  have := turn_put (k := n) (os := os) (d := (l.mergeSort fun x y => decide (x ≤ y)).toArray) hp rfl (by simp) (Nat.le_refl _)
  rwa [List.take_of_length_le (by simp [hlen])] at this
theorem compact_ok {e c : Nat} {A : Option Addr} {l : List Int} {F : Nat → Prop} (hp : (rowD e 1 intCells (.slice A l.length c) l).ok F w) (hl : l.length ≤ 1000000) :
    Rets Tryz.prog 59 [.slice A l.length c] w fun v w' => v = .slice A (Lib.compact l).length c ∧ Turn F (rowD e 1 intCells (.slice A (Lib.compact l).length c) (Lib.compact l)) w w' := by
  by_cases hne : l = []
  · subst hne
    refine Calls.mono (Tryz.slices_Compact_int_empty A c w) fun en w' he => ?_
    obtain ⟨rfl, rfl⟩ := he
    exact ⟨rfl, Turn.refl hp⟩
  obtain ⟨g, hA, hH, hg, hc⟩ := row_holds hp hne
  have hlen := Lib.compact_length_le l
  have hA' := hA
  subst hA'
  refine Calls.mono (Tryz.slices_Compact_int g 0 c l w hH (by omega) hc) fun en w' he => ?_
  obtain ⟨rfl, n, rfl⟩ := he
  refine ⟨rfl, ?_⟩
  have := turn_put (k := n) (os := #[]) (d := (Lib.compact l ++ List.replicate (l.length - (Lib.compact l).length) 0).toArray) hp rfl (by simp; omega) hlen
  rw [Sort.grow_empty] at this
  simpa using this
end
end Go.Proofs.YtmkaahkbhdlniaaGreatDoor
