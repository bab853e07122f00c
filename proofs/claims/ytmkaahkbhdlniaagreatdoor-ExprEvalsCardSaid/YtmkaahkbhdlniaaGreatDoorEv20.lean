/-
 What an expression gives is a cell of its type: steps and lists of steps.
-/
import Derived.Test.YtmkaahkbhdlniaaGreatDoorEv14
import Derived.Test.YtmkaahkbhdlniaaGreatDoorEv19
set_option linter.unusedVariables false
set_option linter.unusedSimpArgs false
namespace Go.Proofs.YtmkaahkbhdlniaaGreatDoor
open Go Go.Lib Go.Mw
set_option maxRecDepth 4000
/-- Are the cells of a row in bounds? -/
def RowFits (r : List CellM) : Prop := ∀ c ∈ r, fits c.n
theorem row_ok {cols : List ColM} {r : List CellM} (h : rowCheck cols r = 0) : cols.length = r.length ∧ ∀ (i : Nat) a c, cols[i]? = some a → r[i]? = some c → okC a.type c := by
  have hl : cols.length = r.length := by
    refine Classical.byContradiction fun hn => ?_
    unfold rowCheck at h
    rw [if_pos hn] at h; cases h
  refine ⟨hl, fun i a c ha hc => ?_⟩
  have key : ∀ j, rowAtC cols r j = 0 → ∀ i, j ≤ i → rowAtC cols r i = 0 := by
    intro j hj i hi
    induction i with
    | zero => have : j = 0 := by omega
              subst this; exact hj
    | succ i ih =>
      by_cases hji : j = i + 1
      · rw [← hji]; exact hj
      · have h0 := ih (by omega)
        rcases Nat.lt_or_ge i r.length with hlt | hge
        · obtain ⟨c, hc⟩ := get_some hlt
          obtain ⟨a, ha⟩ := get_some (l := cols) (i := i) (by omega)
          rw [rowAtC_step ha hc] at h0
          split at h0
          · rename_i h1; exact absurd h0 h1
          · exact h0
        · exact rowAtC_end (by omega)
  have h0 := key 0 (by rw [← rowCheck_at hl]; exact h) i (Nat.zero_le _)
  rw [rowAtC_step ha hc] at h0
  split at h0
  · rename_i h1; exact absurd h0 h1
  · rename_i h1; exact Classical.byContradiction fun hn => h1 hn
def leafC (cols : List ColM) (r : List CellM) (x : StepM) : CellM := if x.kind = 1 then r.getD ((findC cols x.n).getD 0) cell0 else if x.kind = 6 then cellNull else ⟨false, x.n, x.s⟩
theorem leaf_typed {cols : List ColM} {r : List CellM} {x : StepM} {t : TypeM} (hr : rowCheck cols r = 0) (hf : RowFits r) (hx : fits x.n) (hm : mayS x = true) (hk : x.kind < 7) (ht : leafT cols x = some t) : okC t (leafC cols r x) ∧ fits (leafC cols r x).n := by
 obtain ⟨hl, hok⟩ := row_ok hr
 have hkk : 1 ≤ x.kind := by
  unfold mayS at hm
  repeat' split at hm
  all_goals first | omega | (have := of_decide_eq_true hm; omega)
 unfold leafC
 unfold leafT at ht
 unfold mayS at hm
 by_cases h1 : x.kind = 1
 ·rw [if_pos h1] at ht ⊢
  cases hfc : findC cols x.n with
  | none => rw [hfc] at ht; cases ht
  | some i =>
   rw [hfc] at ht
   have hlt := find_lt hfc
   obtain ⟨a, ha⟩ := get_some hlt
   obtain ⟨c, hc⟩ := get_some (l := r) (i := i) (by omega)
   have hgd : cols.getD i ⟨0, [], type0, cell0⟩ = a := getD_of ha
   simp only [Option.getD_some, hgd] at ht ⊢
   rw [getD_of hc]
   have hac := hok i a c ha hc
   have hfx : fits c.n := hf c (List.mem_of_getElem? hc)
   split at ht
   ·cases ht
   ·injection ht with ht
    subst ht
    split
    ·rename_i h2
     refine ⟨?_, hfx⟩
     rcases (okC_iff.1 hac).2 with ⟨b1, b2, b3⟩ | ⟨b1, b2⟩
     ·rw [b2, b3]; exact okC_null (by decide)
     ·rw [h2] at b2
      unfold isC at b2
      rw [if_neg (by decide), if_pos rfl] at b2
      have b3 := of_decide_eq_true b2
      exact okC_iff.2 ⟨may_of (show (1 : Int) ≤ 3 ∧ (3 : Int) ≤ 5 by decide), .inr ⟨b1, by simp [isC, b3.1]⟩⟩
    ·exact ⟨hac, hfx⟩
 ·rw [if_neg h1] at ht hm ⊢
  by_cases h2 : x.kind = 2
  ·rw [if_pos h2] at ht hm
   rw [if_neg (by omega)]
   injection ht with ht
   subst ht
   have hs : x.s = [] := of_decide_eq_true hm
   rw [hs]
   exact ⟨okC_num _ _, hx⟩
  ·rw [if_neg h2] at ht hm
   by_cases h3 : x.kind = 3
   ·rw [if_pos h3] at ht hm
    rw [if_neg (by omega)]
    injection ht with ht
    subst ht
    have hs := of_decide_eq_true hm
    exact ⟨okC_iff.2 ⟨may_of (show (1 : Int) ≤ 1 ∧ (1 : Int) ≤ 5 by decide), .inr ⟨rfl, by simp [isC]; exact hs⟩⟩, hx⟩
   ·rw [if_neg h3] at ht hm
    by_cases h4 : x.kind = 4
    ·rw [if_pos h4] at ht hm
     rw [if_neg (by omega)]
     injection ht with ht
     subst ht
     have hs := of_decide_eq_true hm
     exact ⟨okC_iff.2 ⟨may_of (show (1 : Int) ≤ 4 ∧ (4 : Int) ≤ 5 by decide), .inr ⟨rfl, by simp [isC]; exact hs⟩⟩, hx⟩
    ·rw [if_neg h4] at ht hm
     by_cases h5 : x.kind = 5
     ·rw [if_pos h5] at ht hm
      rw [if_neg (by omega)]
      injection ht with ht
      subst ht
      have hs := of_decide_eq_true hm
      exact ⟨okC_iff.2 ⟨may_of (show (1 : Int) ≤ 5 ∧ (5 : Int) ≤ 5 by decide), .inr ⟨rfl, by simp [isC]; exact hs⟩⟩, hx⟩
     ·rw [if_neg h5] at ht hm
      rw [if_pos (by omega)] at hm
      rw [if_pos (by omega)]
      injection ht with ht
      subst ht
      have hs := of_decide_eq_true hm
      exact ⟨okC_null (by omega), by decide, by decide⟩
def Typed (ts : List TypeM) (st : List CellM) : Prop := ts.length = st.length ∧ ∀ (i : Nat) t c, ts[i]? = some t → st[i]? = some c → okC t c ∧ fits c.n
theorem Typed.push {ts : List TypeM} {st : List CellM} (h : Typed ts st) {m : Nat} {t : TypeM} {c : CellM} (hm : m ≤ st.length) (hc : okC t c ∧ fits c.n) : Typed (ts.take m ++ [t]) (st.take m ++ [c]) := by
 obtain ⟨h1, h2⟩ := h
 have e1 : (ts.take m).length = m := by rw [List.length_take]; omega
 have e2 : (st.take m).length = m := by rw [List.length_take]; omega
 refine ⟨by simp [h1], fun i t' c' ht hc' => ?_⟩
 rcases Nat.lt_or_ge i m with hi | hi
 ·rw [List.getElem?_append_left (by omega), List.getElem?_take, if_pos hi] at ht hc'
  exact h2 i t' c' ht hc'
 ·rw [List.getElem?_append_right (by omega), e1] at ht
  rw [List.getElem?_append_right (by omega), e2] at hc'
  cases hd : i - m with
  | zero =>
   rw [hd] at ht hc'
   simp at ht hc'
   rw [← ht, ← hc']; exact hc
  | succ j => rw [hd] at ht; simp at ht
theorem Typed.nil : Typed [] [] := ⟨rfl, fun i t c h => by simp at h⟩
theorem may_le {x : StepM} (h : mayS x = true) : 1 ≤ x.kind ∧ x.kind ≤ 18 := by
 unfold mayS at h
 repeat' split at h
 all_goals first | omega | (have := of_decide_eq_true h; omega)
/-- What a step makes of a stack of cells, as the document does it. -/
def resG (cols : List ColM) (r : List CellM) (st : List CellM) (x : StepM) : Option CellM :=
 if takesD x.kind = 0 then some (leafC cols r x) else madeG x.kind (st.getD (st.length - takesD x.kind) cell0) (st.getD (st.length - 1) cell0)
theorem takesS_zero (k : Int) : takesS k = 0 ↔ k < 7 := by
 unfold takesS
 repeat' split
 all_goals omega
theorem step_typed {cols : List ColM} {r : List CellM} {x : StepM} {ts ts' : List TypeM} {st : List CellM} (hr : rowCheck cols r = 0) (hf : RowFits r) (hx : fits x.n) (hT : Typed ts st) (hs : stepT cols ts x = some ts') :
    stepE cols r st x = (resG cols r st x).map (fun c => st.take (st.length - takesD x.kind) ++ [c]) ∧ ∀ c, resG cols r st x = some c → Typed ts' (st.take (st.length - takesD x.kind) ++ [c]) ∧ fits c.n := by
  have hno := fun h => stepT_no (cols := cols) (st := ts) (x := x) h
  have hm : mayS x = true := by
    cases h : mayS x with
    | true => rfl
    | false => rw [hno (.inl h)] at hs; cases hs
  have hle : takesD x.kind ≤ ts.length := by
    refine Classical.byContradiction fun h => ?_
    rw [hno (.inr (by omega))] at hs; cases hs
  rw [stepT_res hm hle] at hs
  obtain ⟨t, ht, hts⟩ := Option.map_eq_some_iff.1 hs
  subst hts
  have hlen := hT.1
  unfold resT at ht
  unfold stepE resG
  have htk := takes_may hm
  rw [← htk]
  dsimp only
  by_cases h0 : takesD x.kind = 0
  · rw [if_pos h0] at ht
    rw [if_pos h0, if_pos h0]
    have hl := leaf_typed hr hf hx hm ((takesS_zero _).1 (by rw [← htk]; exact h0)) ht
    refine ⟨rfl, fun c hc => ?_⟩
    injection hc with hc
    subst hc
    rw [hlen]
    exact ⟨hT.push (by omega) hl, hl.2⟩
  · rw [if_neg h0] at ht
    rw [if_neg h0, if_neg h0]
    have hk7 : 7 ≤ x.kind := by
      refine Classical.byContradiction fun h => h0 ?_
      rw [htk]; exact (takesS_zero _).2 (by omega)
    obtain ⟨a, ha⟩ := get_some (l := st) (i := st.length - takesD x.kind) (by omega)
    obtain ⟨b, hb⟩ := get_some (l := st) (i := st.length - 1) (by omega)
    obtain ⟨ta, hta⟩ := get_some (l := ts) (i := ts.length - takesD x.kind) (by omega)
    obtain ⟨tb, htb⟩ := get_some (l := ts) (i := ts.length - 1) (by omega)
    rw [getD_of hta, getD_of htb] at ht
    rw [getD_of ha, getD_of hb]
    have oa := hT.2 (st.length - takesD x.kind) ta a (by rw [← hlen]; exact hta) ha
    have ob := hT.2 (st.length - 1) tb b (by rw [← hlen]; exact htb) hb
    obtain ⟨e1, e2⟩ := made_typed ⟨hk7, (may_le hm).2⟩ ht oa.1 ob.1 oa.2 ob.2
    rw [e1]
    refine ⟨rfl, fun c hc => ?_⟩
    have := e2 c hc
    rw [hlen]
    exact ⟨hT.push (by omega) this, this.2⟩
end Go.Proofs.YtmkaahkbhdlniaaGreatDoor
/-
 Whether a row fits columns, walked.
-/
namespace Go.Proofs.YtmkaahkbhdlniaaGreatDoor
open Go Go.Mw Go.Lib
set_option maxRecDepth 4000
attribute [local irreducible] checkC
section
variable {w : World}
theorem check1_ok {b i : Nat} {E : TypeId} {cols : List ColM} {vc : Value} {a : ColM} (c : CellM) (hb : w.heap[b]? = some (.cells #[vc] E (0, 0))) (hc : RowIn w vc colCells 7 cols) (ha : cols[i]? = some a) (hf : fits c.n) (hT : TabsU w) : Rets Tryz.prog 91 [I i, agg (cellCells c), .pointer (some ⟨b, 0, none⟩)] w fun v w' => v = I (checkC a.type c) ∧ Kept noB w w' := by
 obtain ⟨A, m, rfl, ⟨hm, hm'⟩, hA⟩ := hc
 have H := Sep.start0 w
 have hlt := get_lt ha
 refine rets3 Tryz.func91 rfl rfl rfl rfl ?_
 refine Sr ?_
 refine FL_box H (cs := cellCells c) rfl (h := ?_)
 intro b0 w2 H2 k0
 refine Am ?_
 refine Qn ?_
 refine FW_seq ?_
 refine FW_drawS rfl H2 (h := fun hok4 w6 H6 => ?_)
 refine FGl hok4 0 rfl rfl (Gives.load1 (cs := [.slice A cols.length m]) rfl (H6.kept.get hb id) rfl) (by kernel_rfl) ?_
 refine FGmove hok4 1 (h := ?_)
 refine FGp hok4 2 rfl rfl (fun _ => (Gives.idxR rfl rfl (by assumption) (by omega))) (by kernel_rfl) ?_
 refine FGp hok4 3 rfl rfl (fun _ => (Gives.fieldR rfl (by assumption) (by omega))) (by kernel_rfl) ?_
 refine FGl hok4 4 rfl rfl (Gives.loadEN (us := typeCells a.type) rfl H6 hA ha rfl rfl) (by kernel_rfl) ?_
 refine FGloadAll hok4 5 H6 (h := ?_)
 refine FGcallQ hok4 6 [] H6 (cellCheck_ok a.type c hf (hT.keep H6.kept)) (h := fun w13 H13 k12 => ⟨Stab_nil, ?_⟩)
 refine FGp hok4 7 rfl rfl (fun _ => Gives.assign rfl) (by kernel_rfl) ?_
 refine FG_end hok4 (by kernel_rfl) ?_
 refine Qseq_normal ?_
 refine FW_ret (Qfn_ret (hR := ?_))
 exact ⟨rfl, H13.kept⟩
theorem first_ok {cols : List ColM} {r : List CellM} {vr : Value} {f : FuncId} {fs cs : List Value} [hen : Mw.Enters Tryz.prog f] (hr : RowIn w vr cellCells 3 r) (hlen : cols.length = r.length)
    (hcall : ∀ (i : Nat) a c w', cols[i]? = some a → r[i]? = some c → Kept noB w w' → Rets Tryz.prog f (fs ++ [I i, agg (cellCells c)] ++ cs) w' fun v w'' => v = I (checkC a.type c) ∧ Kept noB w' w'') :
    Rets Tryz.prog 90 [vr, .func (.func f) fs.toArray cs.toArray] w fun v w' => v = I (rowAtC cols r 0) ∧ Kept noB w w' := by
  obtain ⟨A, m, rfl, ⟨hm, hm'⟩, hA⟩ := hr
  have H := Sep.start0 w
  refine rets2 Tryz.func90 rfl rfl rfl rfl ?_
  refine Sr ?_
  refine Am ?_
  refine Qn ?_
  refine FW_seq ?_
  refine Sr ?_
  refine Mv ?_
  refine Vs ?_
  refine Mv ?_
  refine Qn ?_
  refine FW_block ?_
  refine FW_loop' (fun i : Nat => [(1, .func (.func f) fs.toArray cs.toArray), (8, .slice A r.length m), (9, I r.length), (10, I i)]) (fun i w' => (i ≤ r.length ∧ rowAtC cols r i = rowAtC cols r 0) ∧ Sep w noB [] w') (fun i _ => r.length - i) 0 ⟨rfl, rfl, rfl, rfl, trivial⟩ ⟨⟨Nat.zero_le _, rfl⟩, H⟩ (fun i τ w6 hI => ?_)
  obtain ⟨⟨hi, hst⟩, H6⟩ := hI
  try simp only [upds, like, upd_ds, und_ds]
  refine Sr ?_
  refine Vl ?_
  refine Qn ?_
  refine FW_seq ?_
  refine FW_condP rfl (fun hc8 => ?_) (fun hc8 => ?_)
  · have hlt : i < r.length := by omega
    obtain ⟨c, hcg⟩ := get_some hlt
    obtain ⟨a, ha⟩ := get_some (l := cols) (i := i) (by omega)
    rw [rowAtC_step ha hcg] at hst
    refine Sk ?_
    refine FW_seq ?_
    refine FW_block ?_
    refine Sr ?_
    refine Mv ?_
    refine FL_val (Gives.idxR rfl rfl (by assumption) (by omega)) rfl ?_
    refine FL_val (Gives.loadE0 rfl H6 (by assumption) (by assumption)) rfl ?_
    refine FL_alloc H6 (h := ?_)
    intro b6 w14 H14 k13
    refine Am ?_
    refine FL_storeAll H14 (h := ?_)
    intro w17 H17
    refine Nx ?_
    refine Mv ?_
    refine Mv ?_
    refine FL_loadAll H17 (h := ?_)
    refine FL_callV (fs := fs) (cs := cs) (vals := [I i, agg (cellCells c)]) rfl (hcall i a c _ ha hcg H17.kept) rfl rfl (fun v' w22 hv => ?_)
    obtain ⟨rfl, hkk⟩ := hv
    have H22 := H17.keep hkk
    refine Am ?_
    refine Nx ?_
    refine Mv ?_
    refine Vn ?_
    refine Qn ?_
    refine FW_condP rfl (fun hc26 => ?_) (fun hc26 => ?_)
    · rw [if_pos hc26] at hst
      refine Sr ?_
      refine Mv ?_
      refine Am ?_
      refine Qn ?_
      refine Rb (Qround_ret (Qblk_ret (Qseq_ret (Qfn_ret (hR := ?_)))))
      exact ⟨by rw [← hst]; rfl, H22.kept⟩
    · rw [if_neg hc26] at hst
      refine FW_skip (Qblk_normal (Qseq_normal ?_))
      refine FW_region ?_
      refine FL_val (Gives.addI rfl rfl rfl (by omega)) rfl ?_
      refine Mv ?_
      refine FL_nil ?_
      exact Qround_normal (i + 1) ⟨rfl, rfl, rfl, rfl, trivial⟩ ⟨⟨by omega, hst⟩, H22.drop0⟩ (by omega)
  · rw [rowAtC_end (by omega)] at hst
    refine FW_exit (Qseq_exit (Qround_exit (Qblk_exit (Qseq_normal ?_))))
    refine Sr ?_
    refine Am ?_
    refine Qn ?_
    refine FW_ret (Qfn_ret (hR := ?_))
    exact ⟨by rw [← hst]; rfl, H6.kept⟩
theorem rowCheckE_ok {cols : List ColM} {r : List CellM} {vc vr : Value} (hc : RowIn w vc colCells 7 cols) (hr : RowIn w vr cellCells 3 r) (hf : RowFits r) (hT : TabsU w) : Rets Tryz.prog 50 [vc, vr] w fun v w' => v = I (rowCheck cols r) ∧ Kept noB w w' := by
 have hcc := hc
 have hrr := hr
 obtain ⟨A, m, rfl, ⟨hm, hm'⟩, hA⟩ := hc
 obtain ⟨C, n, rfl, ⟨hn, hn'⟩, hC⟩ := hr
 have H := Sep.start0 w
 refine rets2 Tryz.func50 rfl rfl rfl rfl ?_
 refine Sr ?_
 refine FL_box H (cs := [.slice A cols.length m]) rfl (h := ?_)
 intro b0 w2 H2 k0
 refine Am ?_
 refine Qn ?_
 refine FW_seq ?_
 refine Sr ?_
 refine Ld H2 ?_
 refine Vs ?_
 refine Mv ?_
 refine Vs ?_
 refine Vn ?_
 refine Qn ?_
 refine FW_condP rfl (fun hc9 => ?_) (fun hc9 => ?_)
 ·have hne := hc9
  refine Sr ?_
  refine Am ?_
  refine Qn ?_
  refine Rs (Qfn_ret (hR := ?_))
  exact ⟨by unfold rowCheck; rw [if_pos (by omega)]; rfl, H2.kept⟩
 ·have hlen : cols.length = r.length := by omega
  refine Sk ?_
  refine Sr ?_
  refine Mv ?_
  refine FL_val (Gives.makeFunc rfl rfl) rfl ?_
  have hb0 := H2.obj At0
  refine FL_callQ H2 (first_ok (f := 91) (fs := []) (cs := [.pointer (some ⟨b0, 0, none⟩)]) (hrr.keep H2.kept) hlen (fun i a c w' ha hcg hk => check1_ok c (hk.get hb0 id) ((hcc.keep H2.kept).keep hk) ha (hf c (List.mem_of_getElem? hcg)) ((hT.keep H2.kept).keep hk))) (h := fun w17 H17 k16 => ?_)
  refine Am ?_
  refine Qn ?_
  refine FW_ret (Qfn_ret (hR := ?_))
  exact ⟨by rw [rowCheck_at hlen]; rfl, H17.kept⟩
end
end Go.Proofs.YtmkaahkbhdlniaaGreatDoor
/-
 The document's Eval, walked.
-/
namespace Go.Proofs.YtmkaahkbhdlniaaGreatDoor
open Go Go.Mw Go.Lib
set_option maxRecDepth 4000
theorem typeS_ok {cols : List ColM} {l : List StepM} (h : (typeS cols l).2 = 0) : l.length ≤ 64 ∧ ∃ t, runT cols [] l = some [t] ∧ typeS cols l = (t, 0) := by
 unfold typeS at h ⊢
 split at h
 ·cases h
 ·rename_i h64
  rw [if_neg h64]
  refine ⟨by omega, ?_⟩
  split at h
  ·rename_i t ht; exact ⟨t, ht, by first | rfl | rw [ht]⟩
  ·cases h
theorem step_find {cols : List ColM} {ts ts' : List TypeM} {x : StepM} (h : stepT cols ts x = some ts') (hk : x.kind = 1) : ∃ i, findC cols x.n = some i := by
 cases hf : findC cols x.n with
 | some i => exact ⟨i, rfl⟩
 | none =>
  unfold stepT at h
  dsimp only at h
  split at h
  ·cases h
  ·rw [if_pos ((takesS_zero _).2 (by omega))] at h
   unfold leafT at h
   rw [if_pos hk, hf] at h
   cases h
theorem step_le {cols : List ColM} {ts ts' : List TypeM} {x : StepM} (h : stepT cols ts x = some ts') : takesD x.kind ≤ ts.length := by
 refine Classical.byContradiction fun hn => ?_
 rw [stepT_no (.inr (by omega))] at h; cases h
attribute [local irreducible] typeS rowCheck
section
variable {w : World}
theorem eval_ok22 {cols : List ColM} {l : List StepM} {r : List CellM} {vc vl vr : Value} (hc : RowIn w vc colCells 7 cols) (hl : RowIn w vl stepCells 3 l) (hr : RowIn w vr cellCells 3 r) (hf : RowFits r) (hx : ∀ x ∈ l, fits x.n) :
    Rets Tryz.prog 20 [vc, vl, vr] w fun v w' => v = .tuple #[agg (cellCells (evalS cols l r).1), I (evalS cols l r).2] ∧ Kept noB w w' := by
  have hcc := hc
  have hll := hl
  have hrr := hr
  obtain ⟨A, m, rfl, ⟨hm, hm'⟩, hA⟩ := hc
  obtain ⟨C, n, rfl, ⟨hn, hn'⟩, hC⟩ := hl
  obtain ⟨D, q, rfl, ⟨hq, hq'⟩, hD⟩ := hr
  have H := Sep.start0 w
  obtain ⟨res, hres⟩ : ∃ res, res = evalS cols l r := ⟨_, rfl⟩
  rw [← hres]
  unfold evalS at hres
  refine retsC3 Tryz.func20 rfl rfl rfl rfl ?_
  refine Sr ?_
  refine FL_alloc H (h := ?_)
  intro b1 w2 H2 k1
  refine Am ?_
  refine Qn ?_
  refine FW_seq ?_
  refine Sr ?_
  refine Mv ?_
  refine Mv ?_
  refine FL_callQ H2 (type_ok22 (hcc.keep H2.kept) (hll.keep H2.kept)) (h := fun w7 H7 k6 => ?_)
  refine Mv ?_
  refine Vx ?_
  refine Vx ?_
  refine FL_alloc H7 (h := ?_)
  intro b11 w12 H12 k11
  refine FL_storeAll H12 (h := ?_)
  intro w14 H14
  refine Am ?_
  refine Nx ?_
  refine Mv ?_
  refine Vn ?_
  refine Qn ?_
  refine FW_condP rfl (fun hc18 => ?_) (fun hc18 => ?_)
  · have hfin : res = (cell0, (typeS cols l).2) := by rw [hres, if_pos hc18]
    refine Sr ?_
    refine FL_val (Gives.build (out := cellCells cell0) Fills.nil) rfl ?_
    refine Mv ?_
    refine FL_storeAll H14 (h := ?_)
    intro w23 H23
    refine Am ?_
    refine Qn ?_
    refine Rs (QfnC_ret (h := ?_))
    exact ⟨_, resC2 H23, by rw [hfin]; rfl, H23.kept⟩
  · have hty0 : (typeS cols l).2 = 0 := by simpa using hc18
    obtain ⟨h64, t, hrun, htt⟩ := typeS_ok hty0
    rw [if_neg (by simpa using hty0)] at hres
    refine Sk ?_
    refine FW_seq ?_
    refine Sr ?_
    refine Mv ?_
    refine Mv ?_
    refine FL_callQ H14 (check_ok10 (hcc.keep H14.kept) (hrr.keep H14.kept)) (h := fun w30 H30 k29 => ?_)
    refine Am ?_
    refine Nx ?_
    refine Mv ?_
    refine Vn ?_
    refine Qn ?_
    refine FW_condP rfl (fun hc34 => ?_) (fun hc34 => ?_)
    · have hfin : res = (cell0, rowCheck cols r) := by rw [hres, if_pos hc34]
      refine Sr ?_
      refine FL_val (Gives.build (out := cellCells cell0) Fills.nil) rfl ?_
      refine Mv ?_
      refine FL_storeAll H30 (h := ?_)
      intro w39 H39
      refine Am ?_
      refine Qn ?_
      refine Rs (QfnC_ret (h := ?_))
      exact ⟨_, resC2 H39, by rw [hfin]; rfl, H39.kept⟩
    · have hrow : rowCheck cols r = 0 := by simpa using hc34
      rw [if_neg (by simpa using hrow)] at hres
      obtain ⟨hlen, _⟩ := row_ok hrow
      refine Sk ?_
      refine Sr ?_
      refine Am ?_
      refine Qn ?_
      refine FW_seq ?_
      refine Sr ?_
      refine Am ?_
      refine Qn ?_
      refine FW_block ?_
      have H46 := Sep.nilD H30.drop0 34 3 cellCells
      refine FW_loop' (fun x : Nat × List CellM × Value => [(0, .slice A cols.length m), (1, .slice C l.length n), (2, .slice D r.length q), (6, .pointer (some ⟨b1, 0, none⟩)), (11, x.2.2), (12, I x.1)]) (fun x w' => (x.1 ≤ l.length ∧ (∃ ts, Typed ts x.2.1 ∧ runT cols ts (l.drop x.1) = some [t]) ∧ x.2.1.length ≤ x.1 ∧ runE cols r x.2.1 (l.drop x.1) = runE cols r [] l) ∧ Sep w noB [rowD 34 3 cellCells x.2.2 x.2.1, blk b1 (cellCells cell0) 34] w') (fun x _ => l.length - x.1) (0, [], _) ⟨rfl, rfl, rfl, rfl, rfl, rfl, trivial⟩ ⟨⟨Nat.zero_le _, ⟨[], Typed.nil, hrun⟩, Nat.le_refl _, rfl⟩, H46⟩ (fun x τ w46 hI => ?_)
      obtain ⟨i, st, v0⟩ := x
      obtain ⟨⟨hi, ⟨ts, hT, hts⟩, hsl, hst⟩, H46⟩ := hI
      dsimp only at hi hT hts hsl hst H46
      obtain ⟨B, cb, rfl, hcb, hB⟩ := Sep.formD H46 At0
      try simp only [upds, like, upd_ds, und_ds]
      refine FW_seq ?_
      refine Sr ?_
      refine Mv ?_
      refine Mv ?_
      refine Vs ?_
      refine Vl ?_
      refine Qn ?_
      refine FW_condP rfl (fun hc51 => ?_) (fun hc51 => ?_)
      · have hlt : i < l.length := by omega
        obtain ⟨x, hx'⟩ := get_some hlt
        have hdr : l.drop i = x :: l.drop (i + 1) := by
          rw [List.drop_eq_getElem_cons hlt]; rw [List.getElem?_eq_getElem hlt] at hx'; injection hx' with hx'; rw [hx']
        rw [hdr, runT] at hts
        rw [hdr, runE] at hst
        obtain ⟨ts', hstep, hts'⟩ := Option.bind_eq_some_iff.1 hts
        have hfx := hx x (List.mem_of_getElem? hx')
        obtain ⟨he, hg⟩ := step_typed hrow hf hfx hT hstep
        rw [he] at hst
        have htk := takesD_le x.kind
        have hle := step_le hstep
        rw [hT.1] at hle
        obtain ⟨rg, hrg⟩ : ∃ rg, rg = resG cols r st x := ⟨_, rfl⟩
        rw [← hrg] at hst hg
        unfold resG at hrg
        refine Sk ?_
        refine FW_seq ?_
        refine FW_block ?_
        refine Sr ?_
        refine Mv ?_
        refine Vs ?_
        refine Am ?_
        refine Nx ?_
        refine Mv ?_
        refine Mv ?_
        refine FL_val (Gives.idxR rfl rfl (by assumption) (by omega)) rfl ?_
        refine FL_val (Gives.fieldR rfl (by assumption) (by omega)) rfl ?_
        refine FL_val (Gives.loadE rfl H46 (by assumption) (by assumption) rfl) rfl ?_
        refine FL_callS (takes_ok22 _) (h := ?_)
        refine Am ?_
        refine Qn ?_
        refine FW_seq ?_
        refine FW_drawS rfl H46 (h := fun hok63 w65 H65 => ?_)
        refine FGmove hok63 0 (h := ?_)
        refine FGmove hok63 1 (h := ?_)
        refine FGp hok63 2 rfl rfl (fun _ => (Gives.idxR rfl rfl (by assumption) (by omega))) (by kernel_rfl) ?_
        refine FGp hok63 3 rfl rfl (fun _ => (Gives.fieldR rfl (by assumption) (by omega))) (by kernel_rfl) ?_
        refine FGl hok63 4 rfl rfl (Gives.loadE rfl H65 (by assumption) (by assumption) rfl) (by kernel_rfl) ?_
        refine FGmove hok63 5 (h := ?_)
        refine FGmove hok63 6 (h := ?_)
        refine FGp hok63 7 rfl rfl (fun _ => (Gives.idxR rfl rfl (by assumption) (by omega))) (by kernel_rfl) ?_
        refine FGp hok63 8 rfl rfl (fun _ => (Gives.fieldR rfl (by assumption) (by omega))) (by kernel_rfl) ?_
        refine FGl hok63 9 rfl rfl (Gives.loadE rfl H65 (by assumption) (by assumption) rfl) (by kernel_rfl) ?_
        refine FGp hok63 10 rfl rfl (fun _ => (Gives.build (out := cellCells ⟨false, x.n, x.s⟩) (Fills.one rfl rfl rfl (by simp) rfl (Fills.one rfl rfl rfl (by simp) rfl Fills.nil)))) (by kernel_rfl) ?_
        refine FGalloc hok63 11 [(10, true), (9, false), (8, true), (7, true), (6, true), (5, true), (4, false), (3, true), (2, true), (1, true), (0, true)] H65 (h := fun bt w74 H74 => ⟨Stab_pure ((Stab_cons rfl (by kernel_rfl) (Gives.loadE rfl H74 hC hx' rfl) rfl (Stab_pure (Stab_pure (Stab_pure (Stab_pure ((Stab_cons rfl (by kernel_rfl) (Gives.loadE rfl H74 hC hx' rfl) rfl (Stab_pure (Stab_pure (Stab_pure (Stab_pure (Stab_nil))))))))))))), ?_⟩)
        refine FGstoreAll hok63 12 [] H74 (h := fun w76 H76 => ⟨Stab_nil, ?_⟩)
        refine FG_end hok63 (by kernel_rfl) ?_
        refine Qseq_normal ?_
        refine FW_cut (fun z : CellM => [(0, .slice A cols.length m), (1, .slice C l.length n), (2, .slice D r.length q), (6, .pointer (some ⟨b1, 0, none⟩)), (11, .slice B st.length cb), (12, I i), (13, I st.length), (14, I (takesD x.kind)), (15, .pointer (some ⟨bt, 0, none⟩))]) (fun z w' => rg = some z ∧ Sep w noB [blk bt (cellCells z) 34, rowD 34 3 cellCells (.slice B st.length cb) st, blk b1 (cellCells cell0) 34] w') ?_ ?_
        · refine FW_block ?_
          refine Sr ?_
          refine Mv ?_
          refine Mv ?_
          refine FL_val (Gives.idxR rfl rfl (by assumption) (by omega)) rfl ?_
          refine FL_val (Gives.fieldR rfl (by assumption) (by omega)) rfl ?_
          refine FL_val (Gives.loadE rfl H76 (by assumption) (by assumption) rfl) rfl ?_
          refine Ve ?_
          refine Am ?_
          refine Qn ?_
          refine FW_condP rfl (fun hc85 => ?_) (fun hc85 => ?_)
          · obtain ⟨ci, hci⟩ := step_find hstep hc85
            have hcI : colI cols x.n = (ci : Int) := by unfold colI; rw [hci]
            have hclt := find_lt hci
            obtain ⟨c0, hc0⟩ := get_some (l := r) (i := ci) (by omega)
            have h0 : takesD x.kind = 0 := by rw [hc85]; rfl
            have hrv : rg = some c0 := by
              rw [hrg, if_pos h0]; unfold leafC; rw [if_pos hc85, hci, Option.getD_some, getD_of hc0]
            refine FW_region ?_
            refine Mv ?_
            refine Mv ?_
            refine Mv ?_
            refine Mv ?_
            refine FL_val (Gives.idxR rfl rfl (by assumption) (by omega)) rfl ?_
            refine FL_val (Gives.fieldR rfl (by assumption) (by omega)) rfl ?_
            refine FL_val (Gives.loadE rfl H76 (by assumption) (by assumption) rfl) rfl ?_
            refine FL_callQ H76 (column_ok22 x.n (hcc.keep H76.kept)) (h := fun w95 H95 k94 => ?_)
            rw [hcI]
            refine FL_val (Gives.idxR rfl rfl (by assumption) (by omega)) rfl ?_
            refine FL_val (Gives.loadE0 rfl H95 (by assumption) (by assumption)) rfl ?_
            refine FL_storeAll H95 (h := ?_)
            intro w99 H99
            refine FL_nil (Qblk_normal ?_)
            exact Qcut_normal c0 ⟨rfl, rfl, rfl, rfl, rfl, rfl, rfl, rfl, rfl, trivial⟩ ⟨hrv, H99⟩
          · refine Sr ?_
            refine Mv ?_
            refine Mv ?_
            refine FL_val (Gives.idxR rfl rfl (by assumption) (by omega)) rfl ?_
            refine FL_val (Gives.fieldR rfl (by assumption) (by omega)) rfl ?_
            refine FL_val (Gives.loadE rfl H76 (by assumption) (by assumption) rfl) rfl ?_
            refine Ve ?_
            refine Am ?_
            refine Qn ?_
            refine FW_condP rfl (fun hc108 => ?_) (fun hc108 => ?_)
            · have h0 : takesD x.kind = 0 := by rw [hc108]; rfl
              have hrv : rg = some cellNull := by
                rw [hrg, if_pos h0]; unfold leafC; rw [if_neg (by omega), if_pos hc108]
              refine FW_region ?_
              refine FL_val (Gives.build (out := cellCells cellNull) (Fills.one rfl rfl rfl (by simp) rfl Fills.nil)) rfl ?_
              refine FL_storeAll H76 (h := ?_)
              intro w112 H112
              refine FL_nil (Qblk_normal ?_)
              exact Qcut_normal cellNull ⟨rfl, rfl, rfl, rfl, rfl, rfl, rfl, rfl, rfl, trivial⟩ ⟨hrv, H112⟩
            · refine Sr ?_
              refine Mv ?_
              refine Vg ?_
              refine Am ?_
              refine Qn ?_
              refine FW_condP rfl (fun hc117 => ?_) (fun hc117 => ?_)
              · have hk1 : 1 ≤ takesD x.kind := by omega
                obtain ⟨a, ha⟩ := get_some (l := st) (i := st.length - takesD x.kind) (by omega)
                obtain ⟨b, hb⟩ := get_some (l := st) (i := st.length - 1) (by omega)
                obtain ⟨ta, hta⟩ := get_some (l := ts) (i := st.length - takesD x.kind) (by have := hT.1; omega)
                obtain ⟨tb, htb⟩ := get_some (l := ts) (i := st.length - 1) (by have := hT.1; omega)
                have oa := hT.2 _ ta a hta ha
                have ob := hT.2 _ tb b htb hb
                have hsa := ok_short oa.1
                rw [if_neg (by omega), getD_of ha, getD_of hb] at hrg
                refine FW_seq ?_
                refine FW_drawS rfl H76 (h := fun hok119 w121 H121 => ?_)
                refine FGmove hok119 0 (h := ?_)
                refine FGmove hok119 1 (h := ?_)
                refine FGp hok119 2 rfl rfl (fun _ => (Gives.idxR rfl rfl (by assumption) (by omega))) (by kernel_rfl) ?_
                refine FGp hok119 3 rfl rfl (fun _ => (Gives.fieldR rfl (by assumption) (by omega))) (by kernel_rfl) ?_
                refine FGl hok119 4 rfl rfl (Gives.loadE rfl H121 (by assumption) (by assumption) rfl) (by kernel_rfl) ?_
                refine FGmove hok119 5 (h := ?_)
                refine FGmove hok119 6 (h := ?_)
                refine FGmove hok119 7 (h := ?_)
                refine FGp hok119 8 rfl rfl (fun _ => (Gives.subI (c := ((st.length - takesD x.kind : Nat) : Int)) rfl rfl (by omega) (by omega))) (by kernel_rfl) ?_
                refine FGp hok119 9 rfl rfl (fun _ => (Gives.idxR rfl rfl (by assumption) (by omega))) (by kernel_rfl) ?_
                refine FGl hok119 10 rfl rfl (Gives.loadW0 rfl (Sep_rdD H121 At1) ha) (by kernel_rfl) ?_
                refine FGmove hok119 11 (h := ?_)
                refine FGmove hok119 12 (h := ?_)
                refine FGp hok119 13 rfl rfl (fun _ => (Gives.subI (c := ((st.length - 1 : Nat) : Int)) rfl rfl (by omega) (by omega))) (by kernel_rfl) ?_
                refine FGp hok119 14 rfl rfl (fun _ => (Gives.idxR rfl rfl (by assumption) (by omega))) (by kernel_rfl) ?_
                refine FGl hok119 15 rfl rfl (Gives.loadW0 rfl (Sep_rdD H121 At1) hb) (by kernel_rfl) ?_
                refine FG_two hok119 (e1 := 16) (e2 := 20) (by kernel_rfl) ?_ ?_
                · refine step_call hok119 16 [] rfl (by kernel_rfl) (madeC_ok22 x.kind a b oa.2 ob.2 (by omega)) rfl (by kernel_rfl) (by kernel_rfl) (fun v' w132 hv => ?_)
                  obtain ⟨⟨cm, rfl, hcm⟩, hkk⟩ := hv
                  have H132 := H121.keep hkk
                  refine ⟨Stab_nil, ?_⟩
                  refine FGmove hok119 17 (h := ?_)
                  refine FGp hok119 18 rfl rfl (fun _ => (Gives.extract rfl rfl)) (by kernel_rfl) ?_
                  refine FGp hok119 19 rfl rfl (fun _ => (Gives.extract rfl rfl)) (by kernel_rfl) ?_
                  refine FGalloc hok119 20 [(19, true), (18, true), (17, true)] H132 (h := fun bm w136 H136 => ⟨Stab_pure (Stab_pure (Stab_pure (Stab_nil))), ?_⟩)
                  refine FGstoreAll hok119 21 [(19, true)] H136 (h := fun w138 H138 => ⟨Stab_pure (Stab_nil), ?_⟩)
                  refine FGp hok119 22 rfl rfl (fun _ => Gives.assign rfl) (by kernel_rfl) ?_
                  refine FG_end hok119 (by kernel_rfl) ?_
                  refine Qseq_normal ?_
                  refine FW_seq ?_
                  refine Sr ?_
                  refine Mv ?_
                  refine FL_val (Gives.not rfl) rfl ?_
                  refine Qn ?_
                  refine FW_cond rfl (fun hc142 => ?_) (fun hc142 => ?_)
                  · have hrn : rg = none := by
                      rw [hrg]
                      cases hg2 : madeG x.kind a b with
                      | none => rfl
                      | some y => rw [hg2] at hc142; cases hc142
                    rw [hrn] at hst
                    have hst2 : none = runE cols r [] l := hst
                    rw [← hst2] at hres
                    have hfin : res = (cell0, 50) := hres
                    refine Sr ?_
                    refine FL_val (Gives.build (out := cellCells cell0) Fills.nil) rfl ?_
                    refine FL_storeAll H138 (h := ?_)
                    intro w146 H146
                    refine Am ?_
                    refine Qn ?_
                    refine Rs (Qblk_ret (Qcut_ret (Qblk_ret (Qseq_ret (Qround_ret (Qblk_ret (Qseq_ret (QfnC_ret (h := ?_)))))))))
                    exact ⟨_, resC2 H146, by rw [hfin]; rfl, H146.kept⟩
                  · obtain ⟨y, hy⟩ : ∃ y, madeG x.kind a b = some y := by
                      cases hg2 : madeG x.kind a b with
                      | none => rw [hg2] at hc142; cases hc142
                      | some y => exact ⟨y, rfl⟩
                    have hrv : rg = some cm := by rw [hrg, hy, hcm y hy]
                    refine Sk ?_
                    refine FW_region ?_
                    refine FL_loadAll H138 (h := ?_)
                    refine FL_storeAll H138 (h := ?_)
                    intro w152 H152
                    refine FL_nil (Qblk_normal ?_)
                    exact Qcut_normal cm ⟨rfl, rfl, rfl, rfl, rfl, rfl, rfl, rfl, rfl, trivial⟩ ⟨hrv, H152.drop0⟩
                · refine step_alloc hok119 20 [(15, false), (14, true), (13, true), (12, true), (11, true), (10, false), (9, true), (8, true), (7, true), (6, true), (5, true), (4, false), (3, true), (2, true), (1, true), (0, true)] H121 (h := fun bm w155 H155 => ⟨(Stab_cons rfl (by kernel_rfl) (Gives.loadW0 rfl (Sep_rdD H155 At2) hb) rfl (Stab_pure (Stab_pure (Stab_pure (Stab_pure ((Stab_cons rfl (by kernel_rfl) (Gives.loadW0 rfl (Sep_rdD H155 At2) ha) rfl (Stab_pure (Stab_pure (Stab_pure (Stab_pure (Stab_pure ((Stab_cons rfl (by kernel_rfl) (Gives.loadE rfl H155 hC hx' rfl) rfl (Stab_pure (Stab_pure (Stab_pure (Stab_pure (Stab_nil))))))))))))))))))), ?_⟩)
                  refine FGcall hok119 16 [] rfl (by kernel_rfl) (madeC_ok22 x.kind a b oa.2 ob.2 (by omega)) rfl (by kernel_rfl) (by kernel_rfl) (fun v' w157 hv => ?_)
                  obtain ⟨⟨cm, rfl, hcm⟩, hkk⟩ := hv
                  have H157 := H155.keep hkk
                  refine ⟨Stab_nil, ?_⟩
                  refine FGmove hok119 17 (h := ?_)
                  refine FGp hok119 18 rfl rfl (fun _ => (Gives.extract rfl rfl)) (by kernel_rfl) ?_
                  refine FGp hok119 19 rfl rfl (fun _ => (Gives.extract rfl rfl)) (by kernel_rfl) ?_
                  refine FGstoreAll hok119 21 [(19, true)] H157 (h := fun w161 H161 => ⟨Stab_pure (Stab_nil), ?_⟩)
                  refine FGp hok119 22 rfl rfl (fun _ => Gives.assign rfl) (by kernel_rfl) ?_
                  refine FG_end hok119 (by kernel_rfl) ?_
                  refine Qseq_normal ?_
                  refine FW_seq ?_
                  refine Sr ?_
                  refine Mv ?_
                  refine FL_val (Gives.not rfl) rfl ?_
                  refine Qn ?_
                  refine FW_cond rfl (fun hc165 => ?_) (fun hc165 => ?_)
                  · have hrn : rg = none := by
                      rw [hrg]
                      cases hg2 : madeG x.kind a b with
                      | none => rfl
                      | some y => rw [hg2] at hc165; cases hc165
                    rw [hrn] at hst
                    have hst2 : none = runE cols r [] l := hst
                    rw [← hst2] at hres
                    have hfin : res = (cell0, 50) := hres
                    refine Sr ?_
                    refine FL_val (Gives.build (out := cellCells cell0) Fills.nil) rfl ?_
                    refine FL_storeAll H161 (h := ?_)
                    intro w169 H169
                    refine Am ?_
                    refine Qn ?_
                    refine Rs (Qblk_ret (Qcut_ret (Qblk_ret (Qseq_ret (Qround_ret (Qblk_ret (Qseq_ret (QfnC_ret (h := ?_)))))))))
                    exact ⟨_, resC2 H169, by rw [hfin]; rfl, H169.kept⟩
                  · obtain ⟨y, hy⟩ : ∃ y, madeG x.kind a b = some y := by
                      cases hg2 : madeG x.kind a b with
                      | none => rw [hg2] at hc165; cases hc165
                      | some y => exact ⟨y, rfl⟩
                    have hrv : rg = some cm := by rw [hrg, hy, hcm y hy]
                    refine Sk ?_
                    refine FW_region ?_
                    refine FL_loadAll H161 (h := ?_)
                    refine FL_storeAll H161 (h := ?_)
                    intro w175 H175
                    refine FL_nil (Qblk_normal ?_)
                    exact Qcut_normal cm ⟨rfl, rfl, rfl, rfl, rfl, rfl, rfl, rfl, rfl, trivial⟩ ⟨hrv, H175.drop0⟩
              · have h0 : takesD x.kind = 0 := by omega
                have hrv : rg = some ⟨false, x.n, x.s⟩ := by
                  rw [hrg, if_pos h0]; unfold leafC; rw [if_neg (by omega), if_neg (by omega)]
                refine FW_skip (Qblk_normal ?_)
                exact Qcut_normal ⟨false, x.n, x.s⟩ ⟨rfl, rfl, rfl, rfl, rfl, rfl, rfl, rfl, rfl, trivial⟩ ⟨hrv, H76⟩
        · rintro c τ w180 ⟨hrc, H180⟩
          simp only [upds, like, upd_ds]
          refine FW_drawS rfl H180 (h := fun hok181 w183 H183 => ?_)
          refine FGmove hok181 0 (h := ?_)
          refine FGmove hok181 1 (h := ?_)
          refine FGmove hok181 2 (h := ?_)
          obtain ⟨hTy, hfc⟩ := hg c hrc
          rw [hrc] at hst
          have hst2 : runE cols r (st.take (st.length - takesD x.kind) ++ [c]) (l.drop (i + 1)) = runE cols r [] l := hst
          refine FGp hok181 3 rfl rfl (fun _ => (Gives.subI (c := ((st.length - takesD x.kind : Nat) : Int)) rfl rfl (by omega) (by omega))) (by kernel_rfl) ?_
          refine FGp hok181 4 rfl rfl (fun _ => (Gives.sliceTo rfl rfl (by omega))) (by kernel_rfl) ?_
          refine FGloadAll hok181 5 H183 (h := ?_)
          refine FGbuildSlice hok181 6 [(4, true), (3, true), (2, true), (1, true), (0, true)] H183 (xs := [.tmp 117]) (out := [c].flatMap cellCells) (Elems.many rfl rfl Elems.nil) (h := fun b w188 H188 => ⟨Stab_pure (Stab_pure (Stab_pure (Stab_pure (Stab_pure (Stab_nil))))), ?_⟩)
          have hcut := Sep.cutD (m := st.length - takesD x.kind) H188 At2 (by omega)
          have htl : (st.take (st.length - takesD x.kind)).length = st.length - takesD x.kind := by rw [List.length_take]; omega
          refine FGappendD hok181 7 [] hcut (news := [c]) At1 (by rw [htl]; unfold maxLen; simp; omega) (by rw [htl]; simp; omega) (cells_one (fun _ => rfl) [c]) (h := fun v2 w190 H190 => ⟨Stab_nil, ?_⟩)
          refine FGset hok181 8 [] (h := ⟨Stab_nil, ?_⟩)
          refine FG_end hok181 (by kernel_rfl) ?_
          refine Qblk_normal (Qseq_normal ?_)
          refine FW_region ?_
          refine Mv ?_
          refine FL_val (Gives.addI rfl rfl rfl (by omega)) rfl ?_
          refine Am ?_
          refine FL_nil ?_
          exact Qround_normal (i + 1, st.take (st.length - takesD x.kind) ++ [c], v2) ⟨rfl, rfl, rfl, rfl, rfl, rfl, trivial⟩ ⟨⟨by dsimp only; omega, ⟨ts', hTy, hts'⟩, by dsimp only; rw [List.length_append, htl]; simp; omega, hst2⟩, H190.drop0⟩ (by dsimp only; omega)
      · have hil : i = l.length := by omega
        rw [hil, List.drop_length, runT] at hts
        rw [hil, List.drop_length, runE] at hst
        rw [← hst] at hres
        have hts1 : ts = [t] := by injection hts
        have h1 : st.length = 1 := by rw [← hT.1, hts1]; rfl
        obtain ⟨c, hc1⟩ := List.length_eq_one_iff.1 h1
        have hg0 : st[0]? = some c := by rw [hc1]; rfl
        have hfin : res = (c, 0) := by rw [hres, hc1]; rfl
        refine FW_exit (Qseq_exit (Qround_exit (Qblk_exit (Qseq_normal ?_))))
        refine Sr ?_
        refine Mv ?_
        refine FL_val (Gives.idxR (i := 0) rfl rfl hB (by omega)) rfl ?_
        refine FL_val (Gives.loadW0 (i := 0) rfl hB hg0) rfl ?_
        refine FL_storeAll H46 (h := ?_)
        intro w201 H201
        refine Am ?_
        refine Qn ?_
        refine FW_ret (QfnC_ret (h := ?_))
        exact ⟨_, resC2 H201, by rw [hfin]; rfl, H201.kept⟩
end
end Go.Proofs.YtmkaahkbhdlniaaGreatDoor
