/-
 What an expression gives is a cell of its type: steps and lists of steps.
-/
import Derived.Test.YtmkaahkbhdlniaaGreatDoorAg10
import Derived.Test.YtmkaahkbhdlniaaGreatDoorAg14
import Derived.Lib.RowBridge
set_option linter.unusedVariables false
set_option linter.unusedSimpArgs false
namespace Go.Proofs.YtmkaahkbhdlniaaGreatDoor
open Go Go.Lib Go.Mw
set_option maxRecDepth 4000
/-- Are the cells of a row in bounds? -/
def RowFits (r : List CellM) : Prop := ∀ c ∈ r, fits c.n
theorem row_ok {cols : List ColM} {r : List CellM} (h : rowCheck cols r = 0) : cols.length = r.length ∧ ∀ (i : Nat) a c, cols[i]? = some a → r[i]? = some c → okC a.type c := by
  have hl : cols.length = r.length := by
    refine Classical.byContradiction fun hn => ?_
    unfold rowCheck at h
    rw [if_pos hn] at h; cases h
  refine ⟨hl, fun i a c ha hc => ?_⟩
  have key : ∀ j, rowAtC cols r j = 0 → ∀ i, j ≤ i → rowAtC cols r i = 0 := by
    intro j hj i hi
    induction i with
    | zero => have : j = 0 := by omega
              subst this; exact hj
    | succ i ih =>
      by_cases hji : j = i + 1
      · rw [← hji]; exact hj
      · have h0 := ih (by omega)
        rcases Nat.lt_or_ge i r.length with hlt | hge
        · obtain ⟨c, hc⟩ := get_some hlt
          obtain ⟨a, ha⟩ := get_some (l := cols) (i := i) (by omega)
          rw [rowAtC_step ha hc] at h0
          split at h0
          · rename_i h1; exact absurd h0 h1
          · exact h0
        · exact rowAtC_end (by omega)
  have h0 := key 0 (by rw [← rowCheck_at hl]; exact h) i (Nat.zero_le _)
  rw [rowAtC_step ha hc] at h0
  split at h0
  · rename_i h1; exact absurd h0 h1
  · rename_i h1; exact Classical.byContradiction fun hn => h1 hn
def leafC (cols : List ColM) (r : List CellM) (x : StepM) : CellM := if x.kind = 1 then r.getD ((findC cols x.n).getD 0) cell0 else if x.kind = 6 then cellNull else ⟨false, x.n, x.s⟩
theorem leaf_typed {cols : List ColM} {r : List CellM} {x : StepM} {t : TypeM} (hr : rowCheck cols r = 0) (hf : RowFits r) (hx : fits x.n) (hm : mayS x = true) (hk : x.kind < 7) (ht : leafT cols x = some t) : okC t (leafC cols r x) ∧ fits (leafC cols r x).n := by
 obtain ⟨hl, hok⟩ := row_ok hr
 have hkk : 1 ≤ x.kind := by
  unfold mayS at hm
  repeat' split at hm
  all_goals first | omega | (have := of_decide_eq_true hm; omega)
 unfold leafC
 unfold leafT at ht
 unfold mayS at hm
 by_cases h1 : x.kind = 1
 ·rw [if_pos h1] at ht ⊢
  cases hfc : findC cols x.n with
  | none => rw [hfc] at ht; cases ht
  | some i =>
   rw [hfc] at ht
   have hlt := find_lt hfc
   obtain ⟨a, ha⟩ := get_some hlt
   obtain ⟨c, hc⟩ := get_some (l := r) (i := i) (by omega)
   have hgd : cols.getD i ⟨0, [], type0, cell0⟩ = a := getD_of ha
   simp only [Option.getD_some, hgd] at ht ⊢
   rw [getD_of hc]
   have hac := hok i a c ha hc
   have hfx : fits c.n := hf c (List.mem_of_getElem? hc)
   split at ht
   ·cases ht
   ·injection ht with ht
    subst ht
    split
    ·rename_i h2
     refine ⟨?_, hfx⟩
     rcases (okC_iff.1 hac).2 with ⟨b1, b2, b3⟩ | ⟨b1, b2⟩
     ·rw [b2, b3]; exact okC_null (by decide)
     ·rw [h2] at b2
      unfold isC at b2
      rw [if_neg (by decide), if_pos rfl] at b2
      have b3 := of_decide_eq_true b2
      exact okC_iff.2 ⟨may_of (show (1 : Int) ≤ 3 ∧ (3 : Int) ≤ 5 by decide), .inr ⟨b1, by simp [isC, b3.1]⟩⟩
    ·exact ⟨hac, hfx⟩
 ·rw [if_neg h1] at ht hm ⊢
  by_cases h2 : x.kind = 2
  ·rw [if_pos h2] at ht hm
   rw [if_neg (by omega)]
   injection ht with ht
   subst ht
   have hs : x.s = [] := of_decide_eq_true hm
   rw [hs]
   exact ⟨okC_num _ _, hx⟩
  ·rw [if_neg h2] at ht hm
   by_cases h3 : x.kind = 3
   ·rw [if_pos h3] at ht hm
    rw [if_neg (by omega)]
    injection ht with ht
    subst ht
    have hs := of_decide_eq_true hm
    exact ⟨okC_iff.2 ⟨may_of (show (1 : Int) ≤ 1 ∧ (1 : Int) ≤ 5 by decide), .inr ⟨rfl, by simp [isC]; exact hs⟩⟩, hx⟩
   ·rw [if_neg h3] at ht hm
    by_cases h4 : x.kind = 4
    ·rw [if_pos h4] at ht hm
     rw [if_neg (by omega)]
     injection ht with ht
     subst ht
     have hs := of_decide_eq_true hm
     exact ⟨okC_iff.2 ⟨may_of (show (1 : Int) ≤ 4 ∧ (4 : Int) ≤ 5 by decide), .inr ⟨rfl, by simp [isC]; exact hs⟩⟩, hx⟩
    ·rw [if_neg h4] at ht hm
     by_cases h5 : x.kind = 5
     ·rw [if_pos h5] at ht hm
      rw [if_neg (by omega)]
      injection ht with ht
      subst ht
      have hs := of_decide_eq_true hm
      exact ⟨okC_iff.2 ⟨may_of (show (1 : Int) ≤ 5 ∧ (5 : Int) ≤ 5 by decide), .inr ⟨rfl, by simp [isC]; exact hs⟩⟩, hx⟩
     ·rw [if_neg h5] at ht hm
      rw [if_pos (by omega)] at hm
      rw [if_pos (by omega)]
      injection ht with ht
      subst ht
      have hs := of_decide_eq_true hm
      exact ⟨okC_null (by omega), by decide, by decide⟩
def Typed (ts : List TypeM) (st : List CellM) : Prop := ts.length = st.length ∧ ∀ (i : Nat) t c, ts[i]? = some t → st[i]? = some c → okC t c ∧ fits c.n
theorem Typed.push {ts : List TypeM} {st : List CellM} (h : Typed ts st) {m : Nat} {t : TypeM} {c : CellM} (hm : m ≤ st.length) (hc : okC t c ∧ fits c.n) : Typed (ts.take m ++ [t]) (st.take m ++ [c]) := by
 obtain ⟨h1, h2⟩ := h
 have e1 : (ts.take m).length = m := by rw [List.length_take]; omega
 have e2 : (st.take m).length = m := by rw [List.length_take]; omega
 refine ⟨by simp [h1], fun i t' c' ht hc' => ?_⟩
 rcases Nat.lt_or_ge i m with hi | hi
 ·rw [List.getElem?_append_left (by omega), List.getElem?_take, if_pos hi] at ht hc'
  exact h2 i t' c' ht hc'
 ·rw [List.getElem?_append_right (by omega), e1] at ht
  rw [List.getElem?_append_right (by omega), e2] at hc'
  cases hd : i - m with
  | zero =>
   rw [hd] at ht hc'
   simp at ht hc'
   rw [← ht, ← hc']; exact hc
  | succ j => rw [hd] at ht; simp at ht
theorem Typed.nil : Typed [] [] := ⟨rfl, fun i t c h => by simp at h⟩
theorem may_le {x : StepM} (h : mayS x = true) : 1 ≤ x.kind ∧ x.kind ≤ 18 := by
 unfold mayS at h
 repeat' split at h
 all_goals first | omega | (have := of_decide_eq_true h; omega)
/-- What a step makes of a stack of cells, as the document does it. -/
def resG (cols : List ColM) (r : List CellM) (st : List CellM) (x : StepM) : Option CellM :=
 if takesD x.kind = 0 then some (leafC cols r x) else madeG x.kind (st.getD (st.length - takesD x.kind) cell0) (st.getD (st.length - 1) cell0)
theorem takesS_zero (k : Int) : takesS k = 0 ↔ k < 7 := by
 unfold takesS
 repeat' split
 all_goals omega
theorem step_typed {cols : List ColM} {r : List CellM} {x : StepM} {ts ts' : List TypeM} {st : List CellM} (hr : rowCheck cols r = 0) (hf : RowFits r) (hx : fits x.n) (hT : Typed ts st) (hs : stepT cols ts x = some ts') :
    stepE cols r st x = (resG cols r st x).map (fun c => st.take (st.length - takesD x.kind) ++ [c]) ∧ ∀ c, resG cols r st x = some c → Typed ts' (st.take (st.length - takesD x.kind) ++ [c]) ∧ fits c.n := by
  have hno := fun h => stepT_no (cols := cols) (st := ts) (x := x) h
  have hm : mayS x = true := by
    cases h : mayS x with
    | true => rfl
    | false => rw [hno (.inl h)] at hs; cases hs
  have hle : takesD x.kind ≤ ts.length := by
    refine Classical.byContradiction fun h => ?_
    rw [hno (.inr (by omega))] at hs; cases hs
  rw [stepT_res hm hle] at hs
  obtain ⟨t, ht, hts⟩ := Option.map_eq_some_iff.1 hs
  subst hts
  have hlen := hT.1
  unfold resT at ht
  unfold stepE resG
  have htk := takes_may hm
  rw [← htk]
  dsimp only
  by_cases h0 : takesD x.kind = 0
  · rw [if_pos h0] at ht
    rw [if_pos h0, if_pos h0]
    have hl := leaf_typed hr hf hx hm ((takesS_zero _).1 (by rw [← htk]; exact h0)) ht
    refine ⟨rfl, fun c hc => ?_⟩
    injection hc with hc
    subst hc
    rw [hlen]
    exact ⟨hT.push (by omega) hl, hl.2⟩
  · rw [if_neg h0] at ht
    rw [if_neg h0, if_neg h0]
    have hk7 : 7 ≤ x.kind := by
      refine Classical.byContradiction fun h => h0 ?_
      rw [htk]; exact (takesS_zero _).2 (by omega)
    obtain ⟨a, ha⟩ := get_some (l := st) (i := st.length - takesD x.kind) (by omega)
    obtain ⟨b, hb⟩ := get_some (l := st) (i := st.length - 1) (by omega)
    obtain ⟨ta, hta⟩ := get_some (l := ts) (i := ts.length - takesD x.kind) (by omega)
    obtain ⟨tb, htb⟩ := get_some (l := ts) (i := ts.length - 1) (by omega)
    rw [getD_of hta, getD_of htb] at ht
    rw [getD_of ha, getD_of hb]
    have oa := hT.2 (st.length - takesD x.kind) ta a (by rw [← hlen]; exact hta) ha
    have ob := hT.2 (st.length - 1) tb b (by rw [← hlen]; exact htb) hb
    obtain ⟨e1, e2⟩ := made_typed ⟨hk7, (may_le hm).2⟩ ht oa.1 ob.1 oa.2 ob.2
    rw [e1]
    refine ⟨rfl, fun c hc => ?_⟩
    have := e2 c hc
    rw [hlen]
    exact ⟨hT.push (by omega) this, this.2⟩
end Go.Proofs.YtmkaahkbhdlniaaGreatDoor
/-
 Whether a row fits columns, walked.
-/
namespace Go.Proofs.YtmkaahkbhdlniaaGreatDoor
open Go Go.Mw Go.Lib
set_option maxRecDepth 4000
attribute [local irreducible] checkC
section
variable {w : World}
theorem check1_ok {b i : Nat} {E : TypeId} {cols : List ColM} {vc : Value} {a : ColM} (c : CellM) (hb : w.heap[b]? = some (.cells #[vc] E (0, 0))) (hc : RowIn w vc colCells 7 cols) (ha : cols[i]? = some a) (hf : fits c.n) (hT : TabsU w) : Rets Tryz.prog 91 [I i, agg (cellCells c), .pointer (some ⟨b, 0, none⟩)] w fun v w' => v = I (checkC a.type c) ∧ Kept noB w w' := by
 obtain ⟨A, m, rfl, ⟨hm, hm'⟩, hA⟩ := hc
 have H := Sep.start0 w
 have hlt := get_lt ha
 refine rets3 Tryz.func91 rfl rfl rfl rfl ?_
 refine Sr ?_
 refine FL_box H (cs := cellCells c) rfl (h := ?_)
 intro b0 w2 H2 k0
 refine Am ?_
 refine Qn ?_
 refine FW_seq ?_
 refine FW_drawS rfl H2 (h := fun hok4 w6 H6 => ?_)
 refine FGl hok4 0 rfl rfl (Gives.load1 (cs := [.slice A cols.length m]) rfl (H6.kept.get hb id) rfl) (by kernel_rfl) ?_
 refine FGmove hok4 1 (h := ?_)
 refine FGp hok4 2 rfl rfl (fun _ => (Gives.idxR rfl rfl (by assumption) (by omega))) (by kernel_rfl) ?_
 refine FGp hok4 3 rfl rfl (fun _ => (Gives.fieldR rfl (by assumption) (by omega))) (by kernel_rfl) ?_
 refine FGl hok4 4 rfl rfl (Gives.loadEN (us := typeCells a.type) rfl H6 hA ha rfl rfl) (by kernel_rfl) ?_
 refine FGloadAll hok4 5 H6 (h := ?_)
 refine FGcallQ hok4 6 [] H6 (cellCheck_ok a.type c hf (hT.keep H6.kept)) (h := fun w13 H13 k12 => ⟨Stab_nil, ?_⟩)
 refine FGp hok4 7 rfl rfl (fun _ => Gives.assign rfl) (by kernel_rfl) ?_
 refine FG_end hok4 (by kernel_rfl) ?_
 refine Qseq_normal ?_
 refine FW_ret (Qfn_ret (hR := ?_))
 exact ⟨rfl, H13.kept⟩
theorem first_ok {cols : List ColM} {r : List CellM} {vr : Value} {f : FuncId} {fs cs : List Value} [hen : Mw.Enters Tryz.prog f] (hr : RowIn w vr cellCells 3 r) (hlen : cols.length = r.length)
    (hcall : ∀ (i : Nat) a c w', cols[i]? = some a → r[i]? = some c → Kept noB w w' → Rets Tryz.prog f (fs ++ [I i, agg (cellCells c)] ++ cs) w' fun v w'' => v = I (checkC a.type c) ∧ Kept noB w' w'') :
    Rets Tryz.prog 90 [vr, .func (.func f) fs.toArray cs.toArray] w fun v w' => v = I (rowAtC cols r 0) ∧ Kept noB w w' := by
  obtain ⟨A, m, rfl, ⟨hm, hm'⟩, hA⟩ := hr
  have H := Sep.start0 w
  refine rets2 Tryz.func90 rfl rfl rfl rfl ?_
  refine Sr ?_
  refine Am ?_
  refine Qn ?_
  refine FW_seq ?_
  refine Sr ?_
  refine Mv ?_
  refine Vs ?_
  refine Mv ?_
  refine Qn ?_
  refine FW_block ?_
  refine FW_loop' (fun i : Nat => [(1, .func (.func f) fs.toArray cs.toArray), (8, .slice A r.length m), (9, I r.length), (10, I i)]) (fun i w' => (i ≤ r.length ∧ rowAtC cols r i = rowAtC cols r 0) ∧ Sep w noB [] w') (fun i _ => r.length - i) 0 ⟨rfl, rfl, rfl, rfl, trivial⟩ ⟨⟨Nat.zero_le _, rfl⟩, H⟩ (fun i τ w6 hI => ?_)
  obtain ⟨⟨hi, hst⟩, H6⟩ := hI
  try simp only [upds, like, upd_ds, und_ds]
  refine Sr ?_
  refine Vl ?_
  refine Qn ?_
  refine FW_seq ?_
  refine FW_condP rfl (fun hc8 => ?_) (fun hc8 => ?_)
  · have hlt : i < r.length := by omega
    obtain ⟨c, hcg⟩ := get_some hlt
    obtain ⟨a, ha⟩ := get_some (l := cols) (i := i) (by omega)
    rw [rowAtC_step ha hcg] at hst
    refine Sk ?_
    refine FW_seq ?_
    refine FW_block ?_
    refine Sr ?_
    refine Mv ?_
    refine FL_val (Gives.idxR rfl rfl (by assumption) (by omega)) rfl ?_
    refine FL_val (Gives.loadE0 rfl H6 (by assumption) (by assumption)) rfl ?_
    refine FL_alloc H6 (h := ?_)
    intro b6 w14 H14 k13
    refine Am ?_
    refine FL_storeAll H14 (h := ?_)
    intro w17 H17
    refine Nx ?_
    refine Mv ?_
    refine Mv ?_
    refine FL_loadAll H17 (h := ?_)
    refine FL_callV (fs := fs) (cs := cs) (vals := [I i, agg (cellCells c)]) rfl (hcall i a c _ ha hcg H17.kept) rfl rfl (fun v' w22 hv => ?_)
    obtain ⟨rfl, hkk⟩ := hv
    have H22 := H17.keep hkk
    refine Am ?_
    refine Nx ?_
    refine Mv ?_
    refine Vn ?_
    refine Qn ?_
    refine FW_condP rfl (fun hc26 => ?_) (fun hc26 => ?_)
    · rw [if_pos hc26] at hst
      refine Sr ?_
      refine Mv ?_
      refine Am ?_
      refine Qn ?_
      refine Rb (Qround_ret (Qblk_ret (Qseq_ret (Qfn_ret (hR := ?_)))))
      exact ⟨by rw [← hst]; rfl, H22.kept⟩
    · rw [if_neg hc26] at hst
      refine FW_skip (Qblk_normal (Qseq_normal ?_))
      refine FW_region ?_
      refine FL_val (Gives.addI rfl rfl rfl (by omega)) rfl ?_
      refine Mv ?_
      refine FL_nil ?_
      exact Qround_normal (i + 1) ⟨rfl, rfl, rfl, rfl, trivial⟩ ⟨⟨by omega, hst⟩, H22.drop0⟩ (by omega)
  · rw [rowAtC_end (by omega)] at hst
    refine FW_exit (Qseq_exit (Qround_exit (Qblk_exit (Qseq_normal ?_))))
    refine Sr ?_
    refine Am ?_
    refine Qn ?_
    refine FW_ret (Qfn_ret (hR := ?_))
    exact ⟨by rw [← hst]; rfl, H6.kept⟩
theorem rowCheckE_ok {cols : List ColM} {r : List CellM} {vc vr : Value} (hc : RowIn w vc colCells 7 cols) (hr : RowIn w vr cellCells 3 r) (hf : RowFits r) (hT : TabsU w) : Rets Tryz.prog 50 [vc, vr] w fun v w' => v = I (rowCheck cols r) ∧ Kept noB w w' := by
 have hcc := hc
 have hrr := hr
 obtain ⟨A, m, rfl, ⟨hm, hm'⟩, hA⟩ := hc
 obtain ⟨C, n, rfl, ⟨hn, hn'⟩, hC⟩ := hr
 have H := Sep.start0 w
 refine rets2 Tryz.func50 rfl rfl rfl rfl ?_
 refine Sr ?_
 refine FL_box H (cs := [.slice A cols.length m]) rfl (h := ?_)
 intro b0 w2 H2 k0
 refine Am ?_
 refine Qn ?_
 refine FW_seq ?_
 refine Sr ?_
 refine Ld H2 ?_
 refine Vs ?_
 refine Mv ?_
 refine Vs ?_
 refine Vn ?_
 refine Qn ?_
 refine FW_condP rfl (fun hc9 => ?_) (fun hc9 => ?_)
 ·have hne := hc9
  refine Sr ?_
  refine Am ?_
  refine Qn ?_
  refine Rs (Qfn_ret (hR := ?_))
  exact ⟨by unfold rowCheck; rw [if_pos (by omega)]; rfl, H2.kept⟩
 ·have hlen : cols.length = r.length := by omega
  refine Sk ?_
  refine Sr ?_
  refine Mv ?_
  refine FL_val (Gives.makeFunc rfl rfl) rfl ?_
  have hb0 := H2.obj At0
  refine FL_callQ H2 (first_ok (f := 91) (fs := []) (cs := [.pointer (some ⟨b0, 0, none⟩)]) (hrr.keep H2.kept) hlen (fun i a c w' ha hcg hk => check1_ok c (hk.get hb0 id) ((hcc.keep H2.kept).keep hk) ha (hf c (List.mem_of_getElem? hcg)) ((hT.keep H2.kept).keep hk))) (h := fun w17 H17 k16 => ?_)
  refine Am ?_
  refine Qn ?_
  refine FW_ret (Qfn_ret (hR := ?_))
  exact ⟨by rw [rowCheck_at hlen]; rfl, H17.kept⟩
end
end Go.Proofs.YtmkaahkbhdlniaaGreatDoor
/-
 The document's Eval, walked.
-/
namespace Go.Proofs.YtmkaahkbhdlniaaGreatDoor
open Go Go.Mw Go.Lib
set_option maxRecDepth 4000
theorem typeS_ok {cols : List ColM} {l : List StepM} (h : (typeS cols l).2 = 0) : l.length ≤ 64 ∧ ∃ t, runT cols [] l = some [t] ∧ typeS cols l = (t, 0) := by
 unfold typeS at h ⊢
 split at h
 ·cases h
 ·rename_i h64
  rw [if_neg h64]
  refine ⟨by omega, ?_⟩
  split at h
  ·rename_i t ht; exact ⟨t, ht, by first | rfl | rw [ht]⟩
  ·cases h
theorem step_find {cols : List ColM} {ts ts' : List TypeM} {x : StepM} (h : stepT cols ts x = some ts') (hk : x.kind = 1) : ∃ i, findC cols x.n = some i := by
 cases hf : findC cols x.n with
 | some i => exact ⟨i, rfl⟩
 | none =>
  unfold stepT at h
  dsimp only at h
  split at h
  ·cases h
  ·rw [if_pos ((takesS_zero _).2 (by omega))] at h
   unfold leafT at h
   rw [if_pos hk, hf] at h
   cases h
attribute [local irreducible] typeS rowCheck
section
variable {w : World}
end
end Go.Proofs.YtmkaahkbhdlniaaGreatDoor
/-
 The program's Eval, walked.
-/
namespace Go.Proofs.YtmkaahkbhdlniaaGreatDoor
open Go Go.Mw Go.Lib
set_option maxRecDepth 4000
/-- What a step makes of a stack of cells. -/
def resE (cols : List ColM) (r : List CellM) (st : List CellM) (x : StepM) : Option CellM :=
 if takesS x.kind = 0 then some (leafC cols r x) else madeC x.kind (st.getD (st.length - takesS x.kind) cell0) (st.getD (st.length - 1) cell0)
theorem stepE_res (cols : List ColM) (r : List CellM) (st : List CellM) (x : StepM) : stepE cols r st x = (resE cols r st x).map fun c => st.take (st.length - takesS x.kind) ++ [c] := rfl
theorem step_typedE {cols : List ColM} {r : List CellM} {x : StepM} {ts ts' : List TypeM} {st : List CellM} (hr : rowCheck cols r = 0) (hf : RowFits r) (hx : fits x.n) (hT : Typed ts st) (hs : stepT cols ts x = some ts') :
    mayS x = true ∧ takesS x.kind ≤ st.length ∧ ∀ c, resE cols r st x = some c → Typed ts' (st.take (st.length - takesS x.kind) ++ [c]) := by
  have hm : mayS x = true := by
    cases h : mayS x with
    | true => rfl
    | false => rw [stepT_no (.inl h)] at hs; cases hs
  have htk := takes_may hm
  have hle : takesS x.kind ≤ st.length := by
    rw [← hT.1]
    refine Classical.byContradiction fun h => ?_
    rw [stepT_no' (.inr (by omega))] at hs; cases hs
  obtain ⟨he, hg⟩ := step_typed hr hf hx hT hs
  refine ⟨hm, hle, fun c hc => ?_⟩
  rw [stepE_res, hc, htk] at he
  rw [htk] at hg
  obtain ⟨c', h1, h2⟩ := Option.map_eq_some_iff.1 he.symm
  have := List.append_cancel_left h2
  injection this with h3
  subst h3
  exact (hg _ h1).1
attribute [local irreducible] typeS rowCheck mayS madeC findC
section
variable {w : World}
theorem evalE_ok {cols : List ColM} {l : List StepM} {r : List CellM} {vc vl vr : Value} (hc : RowIn w vc colCells 7 cols) (hl : RowIn w vl stepCells 3 l) (hr : RowIn w vr cellCells 3 r) (hf : RowFits r) (hx : ∀ x ∈ l, fits x.n) (hT : TabsU w) :
    Rets Tryz.prog 19 [vc, vl, vr] w fun v w' => v = .tuple #[agg (cellCells (evalS cols l r).1), I (evalS cols l r).2] ∧ Kept noB w w' := by
  have hcc := hc
  have hll := hl
  have hrr := hr
  obtain ⟨A, m, rfl, ⟨hm, hm'⟩, hA⟩ := hc
  obtain ⟨C, n, rfl, ⟨hn, hn'⟩, hC⟩ := hl
  obtain ⟨D, q, rfl, ⟨hq, hq'⟩, hD⟩ := hr
  have H := Sep.start0 w
  obtain ⟨res, hres⟩ : ∃ res, res = evalS cols l r := ⟨_, rfl⟩
  rw [← hres]
  unfold evalS at hres
  refine retsC3 Tryz.func19 rfl rfl rfl rfl ?_
  refine Sr ?_
  refine FL_alloc H (h := ?_)
  intro b6 w2 H2 k1
  refine Am ?_
  refine Qn ?_
  refine FW_seq ?_
  refine Sr ?_
  refine Mv ?_
  refine Mv ?_
  refine FL_callQ H2 (typeE_ok (hcc.keep H2.kept) (hll.keep H2.kept) hx (hT.keep H2.kept)) (h := fun w7 H7 k6 => ?_)
  refine Mv ?_
  refine Vx ?_
  refine Vx ?_
  refine FL_alloc H7 (h := ?_)
  intro b8 w12 H12 k11
  refine FL_storeAll H12 (h := ?_)
  intro w14 H14
  refine Am ?_
  refine Nx ?_
  refine Mv ?_
  refine Vn ?_
  refine Qn ?_
  refine FW_condP rfl (fun hc18 => ?_) (fun hc18 => ?_)
  · have hfin : res = (cell0, (typeS cols l).2) := by rw [hres, if_pos hc18]
    refine Sr ?_
    refine FL_val (Gives.build (out := cellCells cell0) Fills.nil) rfl ?_
    refine Mv ?_
    refine FL_storeAll H14 (h := ?_)
    intro w23 H23
    refine Am ?_
    refine Qn ?_
    refine Rs (QfnC_ret (h := ?_))
    exact ⟨_, resC2 H23, by rw [hfin]; rfl, H23.kept⟩
  · have hty0 : (typeS cols l).2 = 0 := by simpa using hc18
    obtain ⟨h64, t, hrun, htt⟩ := typeS_ok hty0
    rw [if_neg (by simpa using hty0)] at hres
    refine Sk ?_
    refine FW_seq ?_
    refine Sr ?_
    refine Mv ?_
    refine Mv ?_
    refine FL_callQ H14 (rowCheckE_ok (hcc.keep H14.kept) (hrr.keep H14.kept) hf (hT.keep H14.kept)) (h := fun w30 H30 k29 => ?_)
    refine Am ?_
    refine Nx ?_
    refine Mv ?_
    refine Vn ?_
    refine Qn ?_
    refine FW_condP rfl (fun hc34 => ?_) (fun hc34 => ?_)
    · have hfin : res = (cell0, rowCheck cols r) := by rw [hres, if_pos hc34]
      refine Sr ?_
      refine FL_val (Gives.build (out := cellCells cell0) Fills.nil) rfl ?_
      refine Mv ?_
      refine FL_storeAll H30 (h := ?_)
      intro w39 H39
      refine Am ?_
      refine Qn ?_
      refine Rs (QfnC_ret (h := ?_))
      exact ⟨_, resC2 H39, by rw [hfin]; rfl, H39.kept⟩
    · have hrow : rowCheck cols r = 0 := by simpa using hc34
      rw [if_neg (by simpa using hrow)] at hres
      obtain ⟨hlen, _⟩ := row_ok hrow
      refine Sk ?_
      refine Sr ?_
      refine FL_alloc H30 (h := ?_)
      intro b11 w44 H44 k43
      refine Qn ?_
      refine FW_seq ?_
      refine Sr ?_
      refine Mv ?_
      refine Vs ?_
      refine Mv ?_
      refine Qn ?_
      refine FW_block ?_
      have H49 := Sep.nilD ((H44.front2.front1).firsts (l := [_, _])) 34 3 cellCells
      refine FW_loop' (fun x : Nat × List CellM × Value => [(0, .slice A cols.length m), (2, .slice D r.length q), (6, .pointer (some ⟨b6, 0, none⟩)), (11, .pointer (some ⟨b11, 0, none⟩)), (35, .slice C l.length n), (36, I l.length), (37, I x.1)]) (fun x w' => (x.1 ≤ l.length ∧ (∃ ts, Typed ts x.2.1 ∧ runT cols ts (l.drop x.1) = some [t]) ∧ x.2.1.length ≤ x.1 ∧ runE cols r x.2.1 (l.drop x.1) = runE cols r [] l) ∧ Sep w noB [rowD 34 3 cellCells x.2.2 x.2.1, blk b11 [x.2.2] 89, blk b6 (cellCells cell0) 34] w') (fun x _ => l.length - x.1) (0, [], .slice none 0 0) ⟨rfl, rfl, rfl, rfl, rfl, rfl, rfl, trivial⟩ ⟨⟨Nat.zero_le _, ⟨[], Typed.nil, hrun⟩, Nat.le_refl _, rfl⟩, H49⟩ (fun x τ w49 hI => ?_)
      obtain ⟨i, st, v0⟩ := x
      obtain ⟨⟨hi, ⟨ts, hTy, hts⟩, hsl, hst⟩, H49⟩ := hI
      dsimp only at hi hTy hts hsl hst H49
      obtain ⟨B, cb, rfl, hcb, hB⟩ := Sep.formD H49 At0
      try simp only [upds, like, upd_ds, und_ds]
      refine Sr ?_
      refine Vl ?_
      refine Qn ?_
      refine FW_seq ?_
      refine FW_condP rfl (fun hc51 => ?_) (fun hc51 => ?_)
      · have hlt : i < l.length := by omega
        obtain ⟨x, hx'⟩ := get_some hlt
        have hdr : l.drop i = x :: l.drop (i + 1) := by
          rw [List.drop_eq_getElem_cons hlt]; rw [List.getElem?_eq_getElem hlt] at hx'; injection hx' with hx'; rw [hx']
        rw [hdr, runT] at hts
        rw [hdr, runE, stepE_res] at hst
        obtain ⟨ts', hstep, hts'⟩ := Option.bind_eq_some_iff.1 hts
        have hfx := hx x (List.mem_of_getElem? hx')
        obtain ⟨hmx, hkn, hg⟩ := step_typedE hrow hf hfx hTy hstep
        obtain ⟨hk1, hk18⟩ := mayS_kind hmx
        have hk2 := takesS_le x.kind
        refine Sk ?_
        refine FW_seq ?_
        refine FW_block ?_
        refine Sr ?_
        refine FL_val (Gives.idxR rfl rfl (by assumption) (by omega)) rfl ?_
        refine FL_val (Gives.loadE0 rfl H49 (by assumption) (by assumption)) rfl ?_
        refine FL_alloc H49 (h := ?_)
        intro b13 w56 H56 k55
        refine FL_storeAll H56 (h := ?_)
        intro w58 H58
        refine Nx ?_
        refine Vf ?_
        refine Ld H58 ?_
        refine FL_callQ H58 (many_ok x.kind) (h := fun w62 H62 k61 => ?_)
        obtain ⟨F0, hp0, hS0, hput0⟩ := H62.focus At2
        refine FL_call (cellsTake_ok hp0 hkn hcb (by omega)) rfl rfl (fun v' w64 hv => ?_)
        obtain ⟨rfl, hkk, F1, hq2, hs⟩ := hv
        have H64 := hput0 _ F1 _ hkk hq2 hs
        have htl : (st.take (st.length - takesS x.kind)).length = st.length - takesS x.kind := by rw [List.length_take]; omega
        refine Mv ?_
        refine Vx ?_
        refine Vx ?_
        refine Am ?_
        refine Am ?_
        refine Qn ?_
        refine FW_block ?_
        refine Sr ?_
        refine Mv ?_
        refine Vs ?_
        refine Vg ?_
        refine Am ?_
        refine Qn ?_
        refine FW_condP rfl (fun hc74 => ?_) (fun hc74 => ?_)
        · have hk0 : ¬ takesS x.kind = 0 := by omega
          have hk7 : 7 ≤ x.kind := by
            refine Classical.byContradiction fun h => hk0 (takesS_zero'.2 (by omega))
          obtain ⟨a, ha⟩ := get_some (l := st) (i := st.length - takesS x.kind) (by omega)
          obtain ⟨b, hb⟩ := get_some (l := st) (i := st.length - 1) (by omega)
          obtain ⟨ta, hta⟩ := get_some (l := ts) (i := st.length - takesS x.kind) (by have := hTy.1; omega)
          obtain ⟨tb, htb⟩ := get_some (l := ts) (i := st.length - 1) (by have := hTy.1; omega)
          have oa := hTy.2 _ ta a hta ha
          have ob := hTy.2 _ tb b htb hb
          have hrg : resE cols r st x = madeC x.kind a b := by unfold resE; rw [if_neg hk0, getD_of ha, getD_of hb]
          have hs2 := some2_of (d := cell0) hk7 hkn
          rw [getD_of ha, getD_of hb] at hs2
          refine Sr ?_
          refine Vf ?_
          refine Ld H64 ?_
          refine Mv ?_
          refine FL_call (madeE_ok (row_from (Sep_rdD H64 At1) hcb (Sep.capD H64 At1) hkn) hs2 hk7 hk18 oa.2 ob.2) rfl rfl (fun v' w80 hv => ?_)
          obtain ⟨⟨cm, rfl, hcm⟩, hkk⟩ := hv
          have H80 := H64.keep hkk
          refine Mv ?_
          refine Vx ?_
          refine Vx ?_
          refine FL_alloc H80 (h := ?_)
          intro b16 w85 H85 k84
          refine FL_storeAll H85 (h := ?_)
          intro w87 H87
          refine Am ?_
          refine Qn ?_
          refine FW_seq ?_
          refine Sr ?_
          refine Mv ?_
          refine FL_val (Gives.not rfl) rfl ?_
          refine Qn ?_
          refine FW_cond rfl (fun hc91 => ?_) (fun hc91 => ?_)
          · have hno : madeC x.kind a b = none := by
              cases h : madeC x.kind a b with
              | none => rfl
              | some y => rw [h] at hc91; cases hc91
            rw [hrg, hno] at hst
            rw [← hst] at hres
            have hfin : res = (cell0, 50) := hres
            refine Sr ?_
            refine FL_val (Gives.build (out := cellCells cell0) Fills.nil) rfl ?_
            refine FL_storeAll H87 (h := ?_)
            intro w95 H95
            refine Am ?_
            refine Qn ?_
            refine Rs (Qblk_ret (Qblk_ret (Qseq_ret (Qround_ret (Qblk_ret (Qseq_ret (QfnC_ret (h := ?_))))))))
            exact ⟨_, resC2 H95, by rw [hfin]; rfl, H95.kept⟩
          · obtain ⟨y, hy⟩ : ∃ y, madeC x.kind a b = some y := by
              cases h : madeC x.kind a b with
              | none => rw [h] at hc91; cases hc91
              | some y => exact ⟨y, rfl⟩
            have hcy := hcm y hy
            subst hcy
            have hrv : resE cols r st x = some cm := by rw [hrg, hy]
            refine Sk ?_
            refine FW_region ?_
            refine FL_loadAll H87 (h := ?_)
            refine FL_buildSlice H87 (xs := [.tmp 69]) (out := [cm].flatMap cellCells) (Elems.many rfl rfl Elems.nil) rfl rfl rfl (fun bs w101 H101 k100 => ?_)
            obtain ⟨F0, hp0, hS0, hput0⟩ := H101.focus At4
            have hRc := (Sep_rdD H101 At3).cut (st.length - takesS x.kind)
            have hn1 : RowIn _ (.slice (some ⟨bs, 0, none⟩) 1 1) cellCells 3 [cm] := ⟨some ⟨bs, 0, none⟩, 1, rfl, ⟨by simp, by omega⟩, Sep.blkRow H101 At0 rfl⟩
            refine FL_call (cellsPut_ok (l := st.take (st.length - takesS x.kind)) (by rw [htl]; exact hp0) hRc hn1 (by simp) (by simp; omega)) rfl rfl (fun v' w103 hv => ?_)
            obtain ⟨v2, rfl, _, hkk, F1, hq2, hs⟩ := hv
            have H103 := ((hput0 _ F1 _ hkk hq2 hs).front4).star0
            refine FL_nil (Qblk_normal (Qblk_normal (Qseq_normal ?_)))
            refine FW_region ?_
            refine FL_val (Gives.addI rfl rfl rfl (by omega)) rfl ?_
            refine Mv ?_
            refine FL_nil ?_
            exact Qround_normal (i + 1, st.take (st.length - takesS x.kind) ++ [cm], v2) ⟨rfl, rfl, rfl, rfl, rfl, rfl, rfl, trivial⟩ ⟨⟨by dsimp only; omega, ⟨ts', hg _ hrv, hts'⟩, by dsimp only; rw [List.length_append, htl]; simp; omega, by rw [hrv] at hst; exact hst⟩, (H103.front6.front1.front2).firsts (l := [_, _, _])⟩ (by dsimp only; omega)
        · have hk0 : takesS x.kind = 0 := by omega
          have hrg : resE cols r st x = some (leafC cols r x) := if_pos hk0
          have hk6 : x.kind ≤ 6 := by have := takesS_zero'.1 hk0; omega
          refine Sr ?_
          refine Vf ?_
          refine Ld H64 ?_
          refine Ve ?_
          refine Am ?_
          refine Qn ?_
          refine FW_condP rfl (fun hc112 => ?_) (fun hc112 => ?_)
          · obtain ⟨ci, hci⟩ := step_find hstep hc112
            have hclt := find_lt hci
            obtain ⟨c0, hc0⟩ := get_some (l := r) (i := ci) (by omega)
            have hlf : leafC cols r x = c0 := by unfold leafC; rw [if_pos hc112, hci, Option.getD_some, getD_of hc0]
            have hrv : resE cols r st x = some c0 := by rw [hrg, hlf]
            refine FW_region ?_
            refine Mv ?_
            refine Mv ?_
            refine Vf ?_
            refine Ld H64 ?_
            refine FL_callQ H64 (find_ok x.n (hcc.keep H64.kept)) (h := fun w119 H119 k118 => ?_)
            rw [hci, show idxI (some ci) = ((ci : Nat) : Int) from rfl]
            refine FL_val (Gives.idxR rfl rfl hD (get_lt hc0)) rfl ?_
            refine FL_val (Gives.loadE0 rfl H119 hD hc0) rfl ?_
            refine FL_buildSlice H119 (xs := [.tmp 82]) (out := [c0].flatMap cellCells) (Elems.many rfl rfl Elems.nil) rfl rfl rfl (fun bs w123 H123 k122 => ?_)
            obtain ⟨F0, hp0, hS0, hput0⟩ := H123.focus At3
            have hRc := (Sep_rdD H123 At2).cut (st.length - takesS x.kind)
            have hn1 : RowIn _ (.slice (some ⟨bs, 0, none⟩) 1 1) cellCells 3 [c0] := ⟨some ⟨bs, 0, none⟩, 1, rfl, ⟨by simp, by omega⟩, Sep.blkRow H123 At0 rfl⟩
            refine FL_call (cellsPut_ok (l := st.take (st.length - takesS x.kind)) (by rw [htl]; exact hp0) hRc hn1 (by simp) (by simp; omega)) rfl rfl (fun v' w125 hv => ?_)
            obtain ⟨v2, rfl, _, hkk, F1, hq2, hs⟩ := hv
            have H125 := ((hput0 _ F1 _ hkk hq2 hs).front3).star0
            refine FL_nil (Qblk_normal (Qblk_normal (Qseq_normal ?_)))
            refine FW_region ?_
            refine FL_val (Gives.addI rfl rfl rfl (by omega)) rfl ?_
            refine Mv ?_
            refine FL_nil ?_
            exact Qround_normal (i + 1, st.take (st.length - takesS x.kind) ++ [c0], v2) ⟨rfl, rfl, rfl, rfl, rfl, rfl, rfl, trivial⟩ ⟨⟨by dsimp only; omega, ⟨ts', hg _ hrv, hts'⟩, by dsimp only; rw [List.length_append, htl]; simp; omega, by rw [hrv] at hst; exact hst⟩, (H125.front5.front1.front2).firsts (l := [_, _, _])⟩ (by dsimp only; omega)
          · refine Sr ?_
            refine Vf ?_
            refine Ld H64 ?_
            refine Ve ?_
            refine Am ?_
            refine Qn ?_
            refine FW_condP rfl (fun hc133 => ?_) (fun hc133 => ?_)
            · have hlf : leafC cols r x = cellNull := by unfold leafC; rw [if_neg (by omega), if_pos hc133]
              have hrv : resE cols r st x = some cellNull := by rw [hrg, hlf]
              refine FW_region ?_
              refine FL_val (Gives.build (out := cellCells cellNull) (Fills.one rfl rfl rfl (by simp) rfl Fills.nil)) rfl ?_
              refine FL_buildSlice H64 (xs := [.tmp 89]) (out := [cellNull].flatMap cellCells) (Elems.many rfl rfl Elems.nil) rfl rfl rfl (fun bs w137 H137 k136 => ?_)
              obtain ⟨F0, hp0, hS0, hput0⟩ := H137.focus At3
              have hRc := (Sep_rdD H137 At2).cut (st.length - takesS x.kind)
              have hn1 : RowIn _ (.slice (some ⟨bs, 0, none⟩) 1 1) cellCells 3 [cellNull] := ⟨some ⟨bs, 0, none⟩, 1, rfl, ⟨by simp, by omega⟩, Sep.blkRow H137 At0 rfl⟩
              refine FL_call (cellsPut_ok (l := st.take (st.length - takesS x.kind)) (by rw [htl]; exact hp0) hRc hn1 (by simp) (by simp; omega)) rfl rfl (fun v' w139 hv => ?_)
              obtain ⟨v2, rfl, _, hkk, F1, hq2, hs⟩ := hv
              have H139 := ((hput0 _ F1 _ hkk hq2 hs).front3).star0
              refine FL_nil (Qblk_normal (Qblk_normal (Qseq_normal ?_)))
              refine FW_region ?_
              refine FL_val (Gives.addI rfl rfl rfl (by omega)) rfl ?_
              refine Mv ?_
              refine FL_nil ?_
              exact Qround_normal (i + 1, st.take (st.length - takesS x.kind) ++ [cellNull], v2) ⟨rfl, rfl, rfl, rfl, rfl, rfl, rfl, trivial⟩ ⟨⟨by dsimp only; omega, ⟨ts', hg _ hrv, hts'⟩, by dsimp only; rw [List.length_append, htl]; simp; omega, by rw [hrv] at hst; exact hst⟩, (H139.front5.front1.front2).firsts (l := [_, _, _])⟩ (by dsimp only; omega)
            · have hlf : leafC cols r x = ⟨false, x.n, x.s⟩ := by unfold leafC; rw [if_neg (by omega), if_neg (by omega)]
              have hrv : resE cols r st x = some ⟨false, x.n, x.s⟩ := by rw [hrg, hlf]
              refine FW_region ?_
              refine Vf ?_
              refine Ld H64 ?_
              refine Vf ?_
              refine Ld H64 ?_
              refine FL_val (Gives.build (out := cellCells ⟨false, x.n, x.s⟩) (Fills.one rfl rfl rfl (by simp) rfl (Fills.one rfl rfl rfl (by simp) rfl Fills.nil))) rfl ?_
              refine FL_buildSlice H64 (xs := [.tmp 52]) (out := [(⟨false, x.n, x.s⟩ : CellM)].flatMap cellCells) (Elems.many rfl rfl Elems.nil) rfl rfl rfl (fun bs w150 H150 k149 => ?_)
              obtain ⟨F0, hp0, hS0, hput0⟩ := H150.focus At3
              have hRc := (Sep_rdD H150 At2).cut (st.length - takesS x.kind)
              have hn1 : RowIn _ (.slice (some ⟨bs, 0, none⟩) 1 1) cellCells 3 [(⟨false, x.n, x.s⟩ : CellM)] := ⟨some ⟨bs, 0, none⟩, 1, rfl, ⟨by simp, by omega⟩, Sep.blkRow H150 At0 rfl⟩
              refine FL_call (cellsPut_ok (l := st.take (st.length - takesS x.kind)) (by rw [htl]; exact hp0) hRc hn1 (by simp) (by simp; omega)) rfl rfl (fun v' w152 hv => ?_)
              obtain ⟨v2, rfl, _, hkk, F1, hq2, hs⟩ := hv
              have H152 := ((hput0 _ F1 _ hkk hq2 hs).front3).star0
              refine FL_nil (Qblk_normal (Qblk_normal (Qseq_normal ?_)))
              refine FW_region ?_
              refine FL_val (Gives.addI rfl rfl rfl (by omega)) rfl ?_
              refine Mv ?_
              refine FL_nil ?_
              exact Qround_normal (i + 1, st.take (st.length - takesS x.kind) ++ [⟨false, x.n, x.s⟩], v2) ⟨rfl, rfl, rfl, rfl, rfl, rfl, rfl, trivial⟩ ⟨⟨by dsimp only; omega, ⟨ts', hg _ hrv, hts'⟩, by dsimp only; rw [List.length_append, htl]; simp; omega, by rw [hrv] at hst; exact hst⟩, (H152.front5.front1.front2).firsts (l := [_, _, _])⟩ (by dsimp only; omega)
      · have hil : i = l.length := by omega
        rw [hil, List.drop_length, runT] at hts
        rw [hil, List.drop_length, runE] at hst
        rw [← hst] at hres
        have hts1 : ts = [t] := by injection hts
        have h1 : st.length = 1 := by rw [← hTy.1, hts1]; rfl
        obtain ⟨c, hc1⟩ := List.length_eq_one_iff.1 h1
        have hg0 : st[0]? = some c := by rw [hc1]; rfl
        have hfin : res = (c, 0) := by rw [hres, hc1]; rfl
        refine FW_exit (Qseq_exit (Qround_exit (Qblk_exit (Qseq_normal ?_))))
        refine Sr ?_
        refine Vf ?_
        refine Ld H49 ?_
        refine FL_val (Gives.idxR (i := 0) rfl rfl hB (by omega)) rfl ?_
        refine FL_val (Gives.loadW0 (i := 0) rfl hB hg0) rfl ?_
        refine FL_storeAll H49 (h := ?_)
        intro w162 H162
        refine Am ?_
        refine Qn ?_
        refine FW_ret (QfnC_ret (h := ?_))
        exact ⟨_, resC2 H162, by rw [hfin]; rfl, H162.kept⟩
end
end Go.Proofs.YtmkaahkbhdlniaaGreatDoor
/-
 The library's sort and compact of numbers as turns of a row; the program's Uses, walked.
-/
namespace Go.Proofs.YtmkaahkbhdlniaaGreatDoor
open Go Go.Mw Go.Lib
set_option maxRecDepth 4000
/-! A row that is sorted, then rid of what comes twice. -/
theorem compact_rises {zs : List Int} (h : zs.Pairwise (· ≤ ·)) : (Lib.compact zs).Pairwise (· < ·) ∧ ∀ k, k ∈ Lib.compact zs ↔ k ∈ zs := by
 have hle : ∀ i j, i ≤ j → j < zs.length → zs.toArray[i]! ≤ zs.toArray[j]! := fun i j hij hj => by
  have e : ∀ k, k < zs.length → zs.toArray[k]! = zs.getD k 0 := fun k hk => by
   rw [List.getD_eq_getElem?_getD, List.getElem?_eq_getElem hk, getElem!_pos zs.toArray k (by simpa using hk)]; simp
  rw [e i (by omega), e j hj]
  rcases Nat.lt_or_ge i j with h1 | h1
  ·have := List.pairwise_iff_getElem.1 h i j (by omega) hj h1
   rw [List.getD_eq_getElem?_getD, List.getElem?_eq_getElem (show i < zs.length by omega), List.getD_eq_getElem?_getD, List.getElem?_eq_getElem hj]
   exact this
  ·have : i = j := by omega
   subst this; exact Int.le_refl _
 have hmem : ∀ k, k ∈ zs ↔ ∃ j, j < zs.length ∧ zs.toArray[j]! = k := fun k => by
  constructor
  ·intro hk
   obtain ⟨j, hj, e⟩ := List.getElem_of_mem hk
   exact ⟨j, hj, by rw [getElem!_pos zs.toArray j (by simpa using hj)]; simpa using e⟩
  ·rintro ⟨j, hj, e⟩
   rw [getElem!_pos zs.toArray j (by simpa using hj)] at e
   rw [← e]; simp
 unfold Lib.compact Lib.compactUpTo
 constructor
 ·rw [List.pairwise_map]
  have hp : ((List.range zs.length).filter (Lib.keeps zs.toArray)).Pairwise (· < ·) := List.pairwise_lt_range.filter _
  refine hp.imp_of_mem fun {i j} hi hj hij => ?_
  rw [List.mem_filter, List.mem_range] at hi hj
  have hk := hj.2
  unfold Lib.keeps at hk
  have h0 : j ≠ 0 := by omega
  have h1 := hle i (j - 1) (by omega) (by omega)
  have h2 := hle (j - 1) j (by omega) hj.1
  have h3 : zs.toArray[j]! ≠ zs.toArray[j - 1]! := by simpa [h0] using hk
  omega
 ·intro k
  rw [hmem]
  simp only [List.mem_map, List.mem_filter, List.mem_range]
  constructor
  ·rintro ⟨j, ⟨hj, _⟩, e⟩; exact ⟨j, hj, e⟩
  ·rintro ⟨j, hj, e⟩
   induction j using Nat.strongRecOn with
   | _ j ih =>
    by_cases hk : Lib.keeps zs.toArray j = true
    ·exact ⟨j, ⟨hj, hk⟩, e⟩
    ·have h0 : j ≠ 0 := fun e0 => by subst e0; exact hk (by simp [Lib.keeps])
     have h3 : zs.toArray[j]! = zs.toArray[j - 1]! := by
      unfold Lib.keeps at hk
      simpa [h0] using hk
     exact ih (j - 1) (by omega) (by omega) (by rw [← h3]; exact e)
theorem uses_sorted (l : List StepM) : Lib.compact (((l.filter fun x => decide (x.kind = 1)).map fun x => x.n).mergeSort fun x y => decide (x ≤ y)) = usesS l := by
 have hs : (((l.filter fun x => decide (x.kind = 1)).map fun x => x.n).mergeSort fun x y => decide (x ≤ y)).Pairwise (· ≤ ·) := by
  have := List.pairwise_mergeSort (le := fun x y : Int => decide (x ≤ y)) (fun a b c h1 h2 => by simp at *; omega) (fun a b => by simp; omega) ((l.filter fun x => decide (x.kind = 1)).map fun x => x.n)
  exact this.imp fun h => by simpa using h
 obtain ⟨h1, h2⟩ := compact_rises hs
 refine rises_same h1 (usesS_rises l) fun k => ?_
 rw [h2, List.mem_mergeSort, usesS_mem]
 simp only [List.mem_map, List.mem_filter, decide_eq_true_eq, and_assoc]
/-- What the library has put into a row is the row. -/
theorem turn_put {e c m : Nat} {A : Option Addr} {l : List Int} {F : Nat → Prop} {w : World} {g : Nat} {d : Array Int} {k : Nat} {os : Array Obj} (hp : (rowD e 1 intCells (.slice A l.length c) l).ok F w) (hA : A = some ⟨g, 0, none⟩) (hd : d.size = l.length) (hm : m ≤ l.length) :
    Turn F (rowD e 1 intCells (.slice A m c) (d.toList.take m)) w (Sort.grow (Sort.putRow (Value.int .i64) (Sort.ahead w k) g 0 d) os) := by
  obtain ⟨⟨h1, h2⟩, h3⟩ := hp
  rcases h2 with ⟨hv, _⟩ | ⟨g', cap, cur, hv, hg, hh, hle, hmax, hsz, htk⟩
  · injection hv with e1; rw [hA] at e1; cases e1
  · injection hv with e1 e2 e3
    rw [hA] at e1
    injection e1 with e1
    injection e1 with e1
    subst e1
    subst e3
    have hlt := lt_of_get hh
    have hne : ∀ b, b ≠ g → (Sort.putRow (Value.int .i64) (Sort.ahead w k) g 0 d).heap[b]? = w.heap[b]? := fun b hb => by
      show ((w.heap.modify g (Sort.onCells _)))[b]? = _
      rw [Array.getElem?_modify, if_neg (fun e => hb e.symm)]
    have hat : (Sort.putRow (Value.int .i64) (Sort.ahead w k) g 0 d).heap[g]? = some (.cells (Sort.putCells (Value.int .i64) 0 d cur) e (0, 0)) := by
      show ((w.heap.modify g (Sort.onCells _)))[g]? = _
      rw [Array.getElem?_modify, if_pos rfl, hh]; rfl
    have hsz2 : (Sort.putRow (Value.int .i64) (Sort.ahead w k) g 0 d).heap.size = w.heap.size := Sort.size_putRow _ _ _ _ _
    have hgrow : ∀ b, b < w.heap.size → (Sort.grow (Sort.putRow (Value.int .i64) (Sort.ahead w k) g 0 d) os).heap[b]? = (Sort.putRow (Value.int .i64) (Sort.ahead w k) g 0 d).heap[b]? := fun b hb => by
      show (_ ++ os)[b]? = _
      rw [Array.getElem?_append_left (by rw [hsz2]; exact hb)]
    refine ⟨⟨rfl, rfl, rfl, by rw [Sort.size_grow, hsz2]; omega, fun b hb hF => ?_⟩, F, ⟨⟨?_, .inr ⟨g, c, Sort.putCells (Value.int .i64) 0 d cur, by rw [hA, List.length_take]; congr 1; simp [hd]; omega, Nat.zero_le _, ?_, ?_, hmax, ?_, ?_⟩⟩, fun b => ?_⟩, fun b hb => .inl hb⟩
    · rw [hgrow b hb, hne b fun e => hF ((h3 b).2 (by rw [e, hA]; rfl))]
    · rw [flat_len (k := 1) (fun _ => rfl)]
    · rw [hgrow g hlt, hat]
    · rw [List.length_take]; simp [hd]; omega
    · rw [Sort.putCells, Array.size_mapIdx]; exact hsz
    · have hcl : l.length ≤ cur.size := by rw [hsz]; omega
      rw [Nat.mul_one, List.length_take, Array.length_toList, hd, Nat.min_eq_left hm]
      refine List.ext_getElem? fun j => ?_
      rw [List.getElem?_take]
      have hfl : ∀ zs : List Int, zs.flatMap intCells = zs.map (Value.int .i64) := fun zs => by
        induction zs with
        | nil => rfl
        | cons z zs ih => rw [List.flatMap_cons, ih]; rfl
      rw [hfl, List.getElem?_map, List.getElem?_take]
      by_cases hj : j < m
      · rw [if_pos hj, if_pos hj]
        have hj2 : j < cur.size := by omega
        have hj3 : j < d.size := by omega
        rw [Array.getElem?_toList, Sort.putCells, Array.getElem?_mapIdx, Array.getElem?_eq_getElem hj2, Array.getElem?_toList, Array.getElem?_eq_getElem hj3]
        simp only [Option.map_some]
        rw [if_pos ⟨Nat.zero_le _, by omega⟩, Nat.sub_zero, getElem!_pos d j hj3]
      · rw [if_neg hj, if_neg hj]; rfl
    · rw [h3 b, hA]; rfl
theorem row_holds {e c : Nat} {A : Option Addr} {l : List Int} {F : Nat → Prop} {w : World} (hp : (rowD e 1 intCells (.slice A l.length c) l).ok F w) (hne : l ≠ []) : ∃ g, A = some ⟨g, 0, none⟩ ∧ Sort.Holds (Value.int .i64) w g 0 l.toArray ∧ g < w.heap.size ∧ l.length ≤ c := by
 obtain ⟨hown, h3⟩ := hp
 have hown' := hown
 obtain ⟨h1, h2⟩ := hown
 rcases h2 with ⟨hv, h0⟩ | ⟨g, cap, cur, hv, hg, hh, hle, hmax, hsz, htk⟩
 ·exact absurd (List.eq_nil_of_length_eq_zero h0) hne
 ·injection hv with e1 e2 e3
  refine ⟨g, e1, fun j hj => ?_, lt_of_get hh, by omega⟩
  have hj' : j < l.length := by simpa using hj
  have hr : RowAt w A l.length 1 (l.flatMap intCells) := rowAt_of_own hown'
  obtain ⟨ad, hA, hcell⟩ := hr.at_ (by omega)
  rw [e1] at hA
  injection hA with hA
  subst hA
  have hx := flat_get (enc := intCells) (k := 1) (fun _ => rfl) (List.getElem?_eq_getElem hj') (show 0 < 1 by decide)
  have := hcell _ _ (hx.trans rfl)
  rw [Addr.add_lit] at this
  refine ⟨by rw [show 0 + j = 0 + (j * 1 + 0) by omega, this, getElem!_pos l.toArray j hj]; simp [I], ?_⟩
  simp [World.frozen?, hh]
section
variable {w : World}
theorem sort_ok {e c : Nat} {A : Option Addr} {l : List Int} {F : Nat → Prop} (hp : (rowD e 1 intCells (.slice A l.length c) l).ok F w) (hl : l.length ≤ 1000000) :
    Rets Tryz.prog 58 [.slice A l.length c] w fun v w' => v = .tuple #[] ∧ Turn F (rowD e 1 intCells (.slice A l.length c) (l.mergeSort fun x y => decide (x ≤ y))) w w' := by
  by_cases hne : l = []
  · subst hne
    refine Calls.mono (Tryz.slices_Sort_int_none A c w) fun en w' he => ?_
    obtain ⟨rfl, rfl⟩ := he
    exact ⟨rfl, by rw [List.mergeSort_nil]; exact Turn.refl hp⟩
  · obtain ⟨g, hA, hH, hg, _⟩ := row_holds hp hne
    have hlen : (l.mergeSort fun x y => decide (x ≤ y)).length = l.length := List.length_mergeSort l
    have hA' := hA
    subst hA'
    refine Calls.mono (Tryz.slices_Sort_int g 0 c l w hH hg (by omega)) fun en w' he => ?_
    obtain ⟨rfl, n, os, rfl⟩ := he
    refine ⟨rfl, ?_⟩
    have := turn_put (k := n) (os := os) (d := (l.mergeSort fun x y => decide (x ≤ y)).toArray) hp rfl (by simp) (Nat.le_refl _)
    rwa [List.take_of_length_le (by simp [hlen])] at this
theorem compact_ok {e c : Nat} {A : Option Addr} {l : List Int} {F : Nat → Prop} (hp : (rowD e 1 intCells (.slice A l.length c) l).ok F w) (hl : l.length ≤ 1000000) :
    Rets Tryz.prog 59 [.slice A l.length c] w fun v w' => v = .slice A (Lib.compact l).length c ∧ Turn F (rowD e 1 intCells (.slice A (Lib.compact l).length c) (Lib.compact l)) w w' := by
  by_cases hne : l = []
  · subst hne
    refine Calls.mono (Tryz.slices_Compact_int_empty A c w) fun en w' he => ?_
    obtain ⟨rfl, rfl⟩ := he
    exact ⟨rfl, Turn.refl hp⟩
  · obtain ⟨g, hA, hH, hg, hc⟩ := row_holds hp hne
    have hlen := Lib.compact_length_le l
    have hA' := hA
    subst hA'
    refine Calls.mono (Tryz.slices_Compact_int g 0 c l w hH (by omega) hc) fun en w' he => ?_
    obtain ⟨rfl, n, rfl⟩ := he
    refine ⟨rfl, ?_⟩
    have := turn_put (k := n) (os := #[]) (d := (Lib.compact l ++ List.replicate (l.length - (Lib.compact l).length) 0).toArray) hp rfl (by simp; omega) hlen
    rw [Sort.grow_empty] at this
    simpa using this
end
end Go.Proofs.YtmkaahkbhdlniaaGreatDoor
