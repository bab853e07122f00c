/-
 The program's Type, walked.
-/
import Derived.Test.YtolaedhdjcnijaaGreatDoorKt14
import Derived.Test.YtolaedhdjcnijaaGreatDoorKt11
import Derived.Lib.RowBridge
set_option linter.unusedVariables false
set_option linter.unusedSimpArgs false
namespace Go.Proofs.YtolaedhdjcnijaaGreatDoor
open Go Go.Mw Go.Lib
set_option maxRecDepth 4000
def takeV (K : Nat) (A : Option Addr) (n c k : Nat) : Value := if k ≤ n then .slice (if c = n - k then A else A.map (·.add ((n - k) * K))) k (c - (n - k)) else .slice none 0 0
def leftV (A : Option Addr) (n c k : Nat) : Value := if k ≤ n then .slice A (n - k) (n - k) else .slice A n c
theorem takesS_le (k : Int) : takesS k ≤ 2 := by unfold takesS; (repeat' split) <;> omega
theorem mayS_kind {x : StepM} (h : mayS x = true) : 1 ≤ x.kind ∧ x.kind ≤ 18 := by
 unfold mayS at h
 repeat' split at h
 all_goals first | omega | (have := of_decide_eq_true h; omega)
theorem takesS_zero' {k : Int} : takesS k = 0 ↔ k < 7 := by
 unfold takesS
 split
 ·simp [*]
 split <;> simp <;> omega
theorem some2_of {α : Type} {k : Int} {st : List α} {d : α} (h7 : 7 ≤ k) (hk : takesS k ≤ st.length) : Some2 k (st.drop (st.length - takesS k)) (st.getD (st.length - takesS k) d) (st.getD (st.length - 1) d) := by
 unfold takesS at hk ⊢
 rw [if_neg (by omega)] at hk ⊢
 by_cases h1 : k = 10 ∨ k = 15 ∨ k = 16 ∨ k = 18
 ·rw [if_pos h1] at hk ⊢
  left
  refine ⟨?_, rfl, h1⟩
  have hlt : st.length - 1 < st.length := by omega
  rw [List.drop_eq_getElem_cons hlt, List.drop_of_length_le (by omega), List.getD_eq_getElem?_getD, List.getElem?_eq_getElem hlt]
  rfl
 rw [if_neg h1] at hk ⊢
 right
 refine ⟨?_, by omega⟩
 have hlt : st.length - 2 < st.length := by omega
 have hlt2 : st.length - 2 + 1 < st.length := by omega
 have e : st.length - 1 = st.length - 2 + 1 := by omega
 rw [e, List.drop_eq_getElem_cons hlt, List.drop_eq_getElem_cons hlt2, List.drop_of_length_le (by omega), List.getD_eq_getElem?_getD, List.getElem?_eq_getElem hlt, List.getD_eq_getElem?_getD, List.getElem?_eq_getElem hlt2]
 rfl
def resS (cols : List ColM) (st : List TypeM) (x : StepM) : Option TypeM :=
 if takesS x.kind = 0 then leafT cols x else madeT x.kind (st.getD (st.length - takesS x.kind) type0) (st.getD (st.length - 1) type0)
theorem stepT_res' {cols : List ColM} {st : List TypeM} {x : StepM} (h1 : mayS x = true) (h2 : takesS x.kind ≤ st.length) : stepT cols st x = (resS cols st x).map fun t => st.take (st.length - takesS x.kind) ++ [t] := by
 unfold stepT resS
 dsimp only
 rw [if_neg (by rw [h1]; simp; omega)]
theorem stepT_no' {cols : List ColM} {st : List TypeM} {x : StepM} (h : mayS x = false ∨ st.length < takesS x.kind) : stepT cols st x = none := by
 unfold stepT
 dsimp only
 rw [if_pos h]
theorem Sep.capD {α : Type} {enc : α → List Value} {k e n c : Nat} {l : List α} {A : Option Addr} {w w₀ : World} {S : Nat → Prop} {rs : List HP} {put : HP → List HP} (H : Sep w₀ S rs w) (hat : At rs (rowD e k enc (.slice A n c) l) put) : c ≤ 9223372036854775807 := by
 obtain ⟨F, hp, _, _⟩ := H.focus hat
 rcases hp.1.2 with ⟨hv, h0⟩ | ⟨g, cap, cur, hv, _, hh, hle, hmax, _⟩
 ·injection hv with _ _ h; omega
 injection hv with _ _ h; unfold maxLen at hmax; omega
theorem row_from {α : Type} {enc : α → List Value} {k : Nat} [hk : EncK enc k] {w : World} {A : Option Addr} {l : List α} {c j : Nat} (h : Rd w A enc k l) (hc : l.length ≤ c) (hc2 : c ≤ 9223372036854775807) (hj : j ≤ l.length) : RowIn w (.slice (if c = l.length - j then A else A.map (·.add ((l.length - j) * k))) j (c - (l.length - j))) enc k (l.drop (l.length - j)) := by
 refine ⟨if c = l.length - j then A else A.map (·.add ((l.length - j) * k)), c - (l.length - j), ?_, ⟨?_, ?_⟩, h.fromC (l.length - j) hc⟩
 ·rw [List.length_drop, show l.length - (l.length - j) = j by omega]
 ·rw [List.length_drop]; omega
 omega
section
variable {w : World}
theorem typesTakes {b E n c k : Nat} {A : Option Addr} {F : Nat → Prop} {f : FuncId} (hp : (blk b [.slice A n c] E).ok F w) (hk : k ≤ 1000000)
    (hyes : k ≤ n → Rets Tryz.prog f [.pointer (some ⟨b, 0, none⟩), I k] w fun v w' => v = .tuple #[.slice (if c = n - k then A else A.map (·.add ((n - k) * 2))) k (c - (n - k)), .bool true] ∧ Turn F (blk b [.slice A (n - k) (n - k)] E) w w')
    (hno : n < k → Rets Tryz.prog f [.pointer (some ⟨b, 0, none⟩), I k] w fun v w' => v = .tuple #[.slice none 0 0, .bool false] ∧ Turn F (blk b [.slice A n c] E) w w') :
    Rets Tryz.prog f [.pointer (some ⟨b, 0, none⟩), I k] w fun v w' => v = .tuple #[takeV 2 A n c k, .bool (decide (k ≤ n))] ∧ Turn F (blk b [leftV A n c k] E) w w' := by
  by_cases h : k ≤ n
  · rw [takeV, leftV, if_pos h, if_pos h, decide_eq_true h]; exact hyes h
  rw [takeV, leftV, if_neg h, if_neg h, decide_eq_false h]; exact hno (by omega)
attribute [local irreducible] mayS mayT leafT madeT
theorem typeE_ok {cols : List ColM} {l : List StepM} {vc vl : Value} (hc : RowIn w vc colCells 7 cols) (hl : RowIn w vl stepCells 3 l) (hx : ∀ x ∈ l, fits x.n) (hT : TabsU w) : Rets Tryz.prog 24 [vc, vl] w fun v w' => v = .tuple #[agg (typeCells (typeS cols l).1), I (typeS cols l).2] ∧ Kept noB w w' := by
  have hcc := hc
  obtain ⟨A, m, rfl, ⟨hm, hm'⟩, hA⟩ := hc
  obtain ⟨C, n, rfl, ⟨hn, hn'⟩, hC⟩ := hl
  have H := Sep.start0 w
  obtain ⟨res, hres⟩ : ∃ res, res = typeS cols l := ⟨_, rfl⟩
  rw [← hres]
  unfold typeS at hres
  refine retsC2 Tryz.func24 rfl rfl rfl rfl ?_
  refine Sr (FL_alloc H (h := fun b4 w2 H2 k1 => ?_))
  refine Am ?_
  refine Qn (FW_seq (Sr (Mv ?_)))
  refine Vs ?_
  refine Vg ?_
  refine Qn (Cp rfl (fun hc7 => ?_) (fun hc7 => ?_))
  · rw [if_pos (by omega)] at hres
    refine Sr (Vv (Gives.build (out := typeCells type0) Fills.nil) (FL_storeAll H2 (h := fun w11 H11 => ?_)))
    refine Am ?_
    refine Qn (Rs (QfnC_ret (h := ?_)))
    exact ⟨_, resC2 H11, by rw [hres]; rfl, H11.kept⟩
  rw [if_neg (by omega)] at hres
  refine Sk (Sr (FL_alloc H2 (h := fun b6 w16 H16 k15 => ?_)))
  refine Qn (FW_seq (Sr (Mv ?_)))
  refine Vs ?_
  refine Mv ?_
  refine Qn (FW_block ?_)
  have H21 := Sep.nilD H16 45 2 typeCells
  refine FW_loop' (fun x : Nat × List TypeM × Value => [(0, .slice A cols.length m), (4, .pointer (some ⟨b4, 0, none⟩)), (6, .pointer (some ⟨b6, 0, none⟩)), (16, .slice C l.length n), (17, I l.length), (18, I x.1)]) (fun x w' => (x.1 ≤ l.length ∧ x.2.1.length ≤ x.1 ∧ runT cols x.2.1 (l.drop x.1) = runT cols [] l) ∧ Sep w noB [rowD 45 2 typeCells x.2.2 x.2.1, blk b6 [x.2.2] 103, blk b4 (typeCells type0) 45] w') (fun x _ => l.length - x.1) (0, [], .slice none 0 0) ⟨rfl, rfl, rfl, rfl, rfl, rfl, trivial⟩ ⟨⟨Nat.zero_le _, Nat.le_refl _, rfl⟩, H21⟩ (fun x τ w21 hI => ?_)
  obtain ⟨i, st, v0⟩ := x
  obtain ⟨⟨hi, hsl, hst⟩, H21⟩ := hI
  dsimp only at hi hsl hst H21
  obtain ⟨B, cb, rfl, hcb, hB⟩ := Sep.formD H21 At0
  try simp only [upds, like, upd_ds, und_ds]
  refine Sr (Vl ?_)
  refine Qn (FW_seq (Cp rfl (fun hc23 => ?_) (fun hc23 => ?_)))
  · have hlt : i < l.length := by omega
    obtain ⟨x, hx'⟩ := get_some hlt
    have hdr : l.drop i = x :: l.drop (i + 1) := by
      rw [List.drop_eq_getElem_cons hlt]; rw [List.getElem?_eq_getElem hlt] at hx'; injection hx' with hx'; rw [hx']
    rw [hdr, runT] at hst
    have hfx := hx x (List.mem_of_getElem? hx')
    have hk2 := takesS_le x.kind
    refine Sk (FW_seq (FW_block (Sr (Vv (Gives.idxR rfl rfl (by assumption) (by omega)) (Vv (Gives.loadE0 rfl H21 (by assumption) (by assumption)) ?_)))))
    refine FL_alloc H21 (h := fun b8 w28 H28 k27 => ?_)
    refine FL_storeAll H28 (h := fun w30 H30 => ?_)
    refine Nx (Vf ?_)
    refine Ld H30 ?_
    refine FL_callQ H30 (many_ok x.kind) (h := fun w34 H34 k33 => ?_)
    obtain ⟨F0, hp0, hS0, hput0⟩ := H34.focus At2
    refine FL_call (typesTakes hp0 (by omega) (fun h => typesTake_ok hp0 h hcb (by omega)) (fun h => typesTakeNo_ok hp0 h (by omega))) rfl rfl (fun v' w36 hv => ?_)
    obtain ⟨rfl, hkk, F1, hq, hs⟩ := hv
    have H36 := hput0 _ F1 _ hkk hq hs
    refine Mv ?_
    refine Vx ?_
    refine Vx ?_
    refine Am ?_
    refine Am ?_
    refine Qn (FW_seq (Sr (Mv ?_)))
    refine Vv (Gives.notP rfl) (Mv ?_)
    refine FL_splitP (t := 31) rfl (fun hs45 => ?_) (fun hs45 => ?_)
    · rw [stepT_no' (.inr (by omega))] at hst
      rw [← hst] at hres
      have hfin : res = (type0, 220) := hres
      refine Of (Of (Of (Pt ?_)))
      refine Qn (FW_cond_true rfl ?_)
      refine Sr (Vv (Gives.build (out := typeCells type0) Fills.nil) (FL_storeAll H36 (h := fun w50 H50 => ?_)))
      refine Am ?_
      refine Qn (Rs (Qblk_ret (Qseq_ret (Qround_ret (Qblk_ret (Qseq_ret (QfnC_ret (h := ?_))))))))
      exact ⟨_, resC2 H50, by rw [hfin]; rfl, H50.kept⟩
    have hkn : takesS x.kind ≤ st.length := by omega
    rw [takeV, if_pos hkn]
    rw [leftV, if_pos hkn] at H36
    refine On (FL_loadAll H36 (h := ?_))
    refine On (FL_callQ H36 (may_ok x hfx (hT.keep H36.kept)) (h := fun w56 H56 k55 => ?_))
    refine On (Vv (Gives.not rfl) (Pf ?_))
    refine Qn (Cd rfl (fun hc59 => ?_) (fun hc59 => ?_))
    · rw [stepT_no' (.inl (by have h := hc59; revert h; cases mayS x <;> simp))] at hst
      rw [← hst] at hres
      have hfin : res = (type0, 220) := hres
      refine Sr (Vv (Gives.build (out := typeCells type0) Fills.nil) (FL_storeAll H56 (h := fun w63 H63 => ?_)))
      refine Am ?_
      refine Qn (Rs (Qblk_ret (Qseq_ret (Qround_ret (Qblk_ret (Qseq_ret (QfnC_ret (h := ?_))))))))
      exact ⟨_, resC2 H63, by rw [hfin]; rfl, H63.kept⟩
    have hmx : mayS x = true := by have h := hc59; revert h; cases mayS x <;> simp
    obtain ⟨hk1, hk18⟩ := mayS_kind hmx
    rw [stepT_res' hmx hkn] at hst
    refine Sk (Sr (FL_alloc H56 (h := fun b11 w68 H68 k67 => ?_)))
    refine Qn (FW_cut (fun tp : TypeM => [(0, .slice A cols.length m), (4, .pointer (some ⟨b4, 0, none⟩)), (6, .pointer (some ⟨b6, 0, none⟩)), (8, .pointer (some ⟨b8, 0, none⟩)), (10, .bool (resS cols st x).isSome), (11, .pointer (some ⟨b11, 0, none⟩)), (16, .slice C l.length n), (17, I l.length), (18, I i)]) (fun tp w' => (∀ y, resS cols st x = some y → tp = y) ∧ Sep w noB [blk b11 (typeCells tp) 45, blk b8 (stepCells x) 60, rowD 45 2 typeCells (.slice B st.length cb) st, blk b6 [.slice B (st.length - takesS x.kind) (st.length - takesS x.kind)] 103, blk b4 (typeCells type0) 45] w') ?_ ?_)
    · refine Sr (Mv ?_)
      refine Vs ?_
      refine Ve ?_
      refine Qn (Cp rfl (fun hc73 => ?_) (fun hc73 => ?_))
      · have hk0 : takesS x.kind = 0 := by omega
        have hrt : resS cols st x = leafT cols x := if_pos hk0
        have hk6 : x.kind ≤ 6 := by have := takesS_zero'.1 hk0; omega
        refine FW_region (Mv ?_)
        refine FL_loadAll H68 (h := ?_)
        refine FL_callQ H68 (own_ok x (hcc.keep H68.kept) hk1 hk6) (h := fun w78 H78 k77 => ?_)
        refine Mv ?_
        refine Vx ?_
        refine Vx ?_
        refine FL_storeAll H78 (h := fun w83 H83 => ?_)
        refine Am ?_
        refine FL_nil ?_
        exact Qcut_normal ((leafT cols x).getD type0) ⟨rfl, rfl, rfl, rfl, by rw [hrt]; rfl, rfl, rfl, rfl, rfl, trivial⟩ ⟨fun y hy => by rw [hrt] at hy; rw [hy]; rfl, H83⟩
      have hk0 : ¬ takesS x.kind = 0 := by omega
      have hrt : resS cols st x = madeT x.kind (st.getD (st.length - takesS x.kind) type0) (st.getD (st.length - 1) type0) := if_neg hk0
      have hk7 : 7 ≤ x.kind := by
        refine Classical.byContradiction fun h => hk0 (takesS_zero'.2 (by omega))
      refine FW_region (Vf ?_)
      refine Ld H68 ?_
      refine Mv ?_
      refine FL_call (typed_ok (row_from (Sep_rdD H68 At2) hcb (Sep.capD H68 At2) hkn) (some2_of (d := type0) hk7 hkn) hk7 hk18) rfl rfl (fun v' w91 hv => ?_)
      obtain ⟨⟨tp, rfl, htp⟩, hkk⟩ := hv
      have H91 := H68.keep hkk
      refine Mv ?_
      refine Vx ?_
      refine Vx ?_
      refine FL_storeAll H91 (h := fun w96 H96 => ?_)
      refine Am ?_
      refine FL_nil ?_
      exact Qcut_normal tp ⟨rfl, rfl, rfl, rfl, by rw [hrt]; rfl, rfl, rfl, rfl, rfl, trivial⟩ ⟨fun y hy => by rw [hrt] at hy; exact htp y hy, H96⟩
    rintro tp τ w100 ⟨htp, H100⟩
    simp only [upds, like, upd_ds]
    refine FW_seq (Sr (Mv ?_))
    refine Vv (Gives.not rfl) (Qn ?_)
    refine Cd rfl (fun hc103 => ?_) (fun hc103 => ?_)
    · have hno : resS cols st x = none := by
        cases h : resS cols st x with
        | none => rfl
        | some y => rw [h] at hc103; cases hc103
      rw [hno] at hst
      rw [← hst] at hres
      have hfin : res = (type0, 220) := hres
      refine Sr (Vv (Gives.build (out := typeCells type0) Fills.nil) (FL_storeAll H100 (h := fun w107 H107 => ?_)))
      refine Am ?_
      refine Qn (Rs (Qblk_ret (Qseq_ret (Qround_ret (Qblk_ret (Qseq_ret (QfnC_ret (h := ?_))))))))
      exact ⟨_, resC2 H107, by rw [hfin]; rfl, H107.kept⟩
    obtain ⟨y, hy⟩ : ∃ y, resS cols st x = some y := by
      cases h : resS cols st x with
      | none => rw [h] at hc103; cases hc103
      | some y => exact ⟨y, rfl⟩
    have hty := htp y hy
    subst hty
    rw [hy] at hst
    refine Sk (FW_region (FL_loadAll H100 (h := ?_)))
    refine FL_buildSlice H100 (xs := [.tmp 56]) (out := [tp].flatMap typeCells) (Elems.many rfl rfl Elems.nil) rfl rfl rfl (fun bs w113 H113 k112 => ?_)
    obtain ⟨F0, hp0, hS0, hput0⟩ := H113.focus At4
    have htl : (st.take (st.length - takesS x.kind)).length = st.length - takesS x.kind := by rw [List.length_take]; omega
    have hRc := (Sep_rdD H113 At3).cut (st.length - takesS x.kind)
    have hn1 : RowIn _ (.slice (some ⟨bs, 0, none⟩) 1 1) typeCells 2 [tp] := ⟨some ⟨bs, 0, none⟩, 1, rfl, ⟨by simp, by omega⟩, Sep.blkRow H113 At0 rfl⟩
    refine FL_call (typesPut_ok (l := st.take (st.length - takesS x.kind)) (by rw [htl]; exact hp0) hRc hn1 (by simp) (by simp; omega)) rfl rfl (fun v' w115 hv => ?_)
    obtain ⟨v2, rfl, _, hkk, F1, hq, hs⟩ := hv
    have H115 := ((hput0 _ F1 _ hkk hq hs).front4).star0
    refine FL_nil (Qblk_normal (Qseq_normal (FW_region (Vv (Gives.addI rfl rfl rfl (by omega)) ?_))))
    refine Mv ?_
    refine FL_nil ?_
    exact Qround_normal (i + 1, st.take (st.length - takesS x.kind) ++ [tp], v2) ⟨rfl, rfl, rfl, rfl, rfl, rfl, trivial⟩ ⟨⟨by dsimp only; omega, by dsimp only; rw [List.length_append, htl]; simp; omega, hst⟩, (H115.front6.front1.front2).firsts (l := [_, _, _])⟩ (by dsimp only; omega)
  have hil : i = l.length := by omega
  rw [hil, List.drop_length, runT] at hst
  rw [← hst] at hres
  refine FW_exit (Qseq_exit (Qround_exit (Qblk_exit (Qseq_normal (FW_seq (Sr (Vf ?_)))))))
  refine Ld H21 ?_
  refine Vs ?_
  refine Vn ?_
  refine Qn (Cp rfl (fun hc124 => ?_) (fun hc124 => ?_))
  · have hfin : res = (type0, 220) := by
      rw [hres]
      match st, hc124 with
      | [], _ => rfl
      | [t], h => exact absurd rfl h
      | t :: u :: r, _ => rfl
    refine Sr (Vv (Gives.build (out := typeCells type0) Fills.nil) (FL_storeAll H21 (h := fun w128 H128 => ?_)))
    refine Am ?_
    refine Qn (Rs (QfnC_ret (h := ?_)))
    exact ⟨_, resC2 H128, by rw [hfin]; rfl, H128.kept⟩
  obtain ⟨t, ht⟩ : ∃ t, st = [t] := List.length_eq_one_iff.1 (by omega)
  have hg0 : st[0]? = some t := by rw [ht]; rfl
  have hfin : res = (t, 0) := by rw [hres, ht]
  refine Sk (Sr (Vf ?_))
  refine Ld H21 ?_
  refine Vv (Gives.idxR (i := 0) rfl rfl hB (by omega)) (Vv (Gives.loadW0 (i := 0) rfl hB hg0) ?_)
  refine FL_storeAll H21 (h := fun w137 H137 => ?_)
  refine Am ?_
  refine Qn (FW_ret (QfnC_ret (h := ?_)))
  exact ⟨_, resC2 H137, by rw [hfin]; rfl, H137.kept⟩
end
section
variable {w : World}
end
section
variable {w : World}
end
section
variable {w : World}
end
end Go.Proofs.YtolaedhdjcnijaaGreatDoor
namespace Go.Proofs.YtolaedhdjcnijaaGreatDoor
open Go Go.Lib Go.Mw
set_option maxRecDepth 4000
def RowFits (r : List CellM) : Prop := ∀ c ∈ r, fits c.n
def Typed (ts : List TypeM) (st : List CellM) : Prop := ts.length = st.length ∧ ∀ (i : Nat) t c, ts[i]? = some t → st[i]? = some c → okC t c ∧ fits c.n
theorem Typed.push {ts : List TypeM} {st : List CellM} (h : Typed ts st) {m : Nat} {t : TypeM} {c : CellM} (hm : m ≤ st.length) (hc : okC t c ∧ fits c.n) : Typed (ts.take m ++ [t]) (st.take m ++ [c]) := by
 obtain ⟨h1, h2⟩ := h
 have e1 : (ts.take m).length = m := by rw [List.length_take]; omega
 have e2 : (st.take m).length = m := by rw [List.length_take]; omega
 refine ⟨by simp [h1], fun i t' c' ht hc' => ?_⟩
 rcases Nat.lt_or_ge i m with hi | hi
 ·rw [List.getElem?_append_left (by omega), List.getElem?_take, if_pos hi] at ht hc'
  exact h2 i t' c' ht hc'
 rw [List.getElem?_append_right (by omega), e1] at ht
 rw [List.getElem?_append_right (by omega), e2] at hc'
 cases hd : i - m with
 | zero =>
  rw [hd] at ht hc'
  simp at ht hc'
  rw [← ht, ← hc']; exact hc
 | succ j => rw [hd] at ht; simp at ht
theorem Typed.nil : Typed [] [] := ⟨rfl, fun i t c h => by simp at h⟩
end Go.Proofs.YtolaedhdjcnijaaGreatDoor
namespace Go.Proofs.YtolaedhdjcnijaaGreatDoor
open Go Go.Mw Go.Lib
set_option maxRecDepth 4000
attribute [local irreducible] checkC
section
variable {w : World}
end
attribute [local irreducible] typeS
section
variable {w : World}
end
end Go.Proofs.YtolaedhdjcnijaaGreatDoor
namespace Go.Proofs.YtolaedhdjcnijaaGreatDoor
open Go Go.Mw Go.Lib
set_option maxRecDepth 4000
attribute [local irreducible] typeS mayS findC
section
variable {w : World}
end
/-! A row that is sorted, then rid of what comes twice. -/
theorem compact_rises {zs : List Int} (h : zs.Pairwise (· ≤ ·)) : (Lib.compact zs).Pairwise (· < ·) ∧ ∀ k, k ∈ Lib.compact zs ↔ k ∈ zs := by
 have hle : ∀ i j, i ≤ j → j < zs.length → zs.toArray[i]! ≤ zs.toArray[j]! := fun i j hij hj => by
  have e : ∀ k, k < zs.length → zs.toArray[k]! = zs.getD k 0 := fun k hk => by
   rw [List.getD_eq_getElem?_getD, List.getElem?_eq_getElem hk, getElem!_pos zs.toArray k (by simpa using hk)]; simp
  rw [e i (by omega), e j hj]
  rcases Nat.lt_or_ge i j with h1 | h1
  ·have := List.pairwise_iff_getElem.1 h i j (by omega) hj h1
   rw [List.getD_eq_getElem?_getD, List.getElem?_eq_getElem (show i < zs.length by omega), List.getD_eq_getElem?_getD, List.getElem?_eq_getElem hj]
   exact this
  have : i = j := by omega
  subst this; exact Int.le_refl _
 have hmem : ∀ k, k ∈ zs ↔ ∃ j, j < zs.length ∧ zs.toArray[j]! = k := fun k => by
  constructor
  ·intro hk
   obtain ⟨j, hj, e⟩ := List.getElem_of_mem hk
   exact ⟨j, hj, by rw [getElem!_pos zs.toArray j (by simpa using hj)]; simpa using e⟩
  rintro ⟨j, hj, e⟩
  rw [getElem!_pos zs.toArray j (by simpa using hj)] at e
  rw [← e]; simp
 unfold Lib.compact Lib.compactUpTo
 constructor
 ·rw [List.pairwise_map]
  have hp : ((List.range zs.length).filter (Lib.keeps zs.toArray)).Pairwise (· < ·) := List.pairwise_lt_range.filter _
  refine hp.imp_of_mem fun {i j} hi hj hij => ?_
  rw [List.mem_filter, List.mem_range] at hi hj
  have hk := hj.2
  unfold Lib.keeps at hk
  have h0 : j ≠ 0 := by omega
  have h1 := hle i (j - 1) (by omega) (by omega)
  have h2 := hle (j - 1) j (by omega) hj.1
  have h3 : zs.toArray[j]! ≠ zs.toArray[j - 1]! := by simpa [h0] using hk
  omega
 intro k
 rw [hmem]
 simp only [List.mem_map, List.mem_filter, List.mem_range]
 constructor
 ·rintro ⟨j, ⟨hj, _⟩, e⟩; exact ⟨j, hj, e⟩
 rintro ⟨j, hj, e⟩
 induction j using Nat.strongRecOn with
 | _ j ih =>
  by_cases hk : Lib.keeps zs.toArray j = true
  ·exact ⟨j, ⟨hj, hk⟩, e⟩
  have h0 : j ≠ 0 := fun e0 => by subst e0; exact hk (by simp [Lib.keeps])
  have h3 : zs.toArray[j]! = zs.toArray[j - 1]! := by
   unfold Lib.keeps at hk
   simpa [h0] using hk
  exact ih (j - 1) (by omega) (by omega) (by rw [← h3]; exact e)
theorem uses_sorted (l : List StepM) : Lib.compact (((l.filter fun x => decide (x.kind = 1)).map fun x => x.n).mergeSort fun x y => decide (x ≤ y)) = usesS l := by
 have hs : (((l.filter fun x => decide (x.kind = 1)).map fun x => x.n).mergeSort fun x y => decide (x ≤ y)).Pairwise (· ≤ ·) := by
  have := List.pairwise_mergeSort (le := fun x y : Int => decide (x ≤ y)) (fun a b c h1 h2 => by simp at *; omega) (fun a b => by simp; omega) ((l.filter fun x => decide (x.kind = 1)).map fun x => x.n)
  exact this.imp fun h => by simpa using h
 obtain ⟨h1, h2⟩ := compact_rises hs
 refine rises_same h1 (usesS_rises l) fun k => ?_
 rw [h2, List.mem_mergeSort, usesS_mem]
 simp only [List.mem_map, List.mem_filter, decide_eq_true_eq, and_assoc]
theorem turn_put {e c m : Nat} {A : Option Addr} {l : List Int} {F : Nat → Prop} {w : World} {g : Nat} {d : Array Int} {k : Nat} {os : Array Obj} (hp : (rowD e 1 intCells (.slice A l.length c) l).ok F w) (hA : A = some ⟨g, 0, none⟩) (hd : d.size = l.length) (hm : m ≤ l.length) :
    Turn F (rowD e 1 intCells (.slice A m c) (d.toList.take m)) w (Sort.grow (Sort.putRow (Value.int .i64) (Sort.ahead w k) g 0 d) os) := by
  obtain ⟨⟨h1, h2⟩, h3⟩ := hp
  rcases h2 with ⟨hv, _⟩ | ⟨g', cap, cur, hv, hg, hh, hle, hmax, hsz, htk⟩
  · injection hv with e1; rw [hA] at e1; cases e1
  injection hv with e1 e2 e3
  rw [hA] at e1
  injection e1 with e1
  injection e1 with e1
  subst e1
  subst e3
  have hlt := lt_of_get hh
  have hne : ∀ b, b ≠ g → (Sort.putRow (Value.int .i64) (Sort.ahead w k) g 0 d).heap[b]? = w.heap[b]? := fun b hb => by
    show ((w.heap.modify g (Sort.onCells _)))[b]? = _
    rw [Array.getElem?_modify, if_neg (fun e => hb e.symm)]
  have hat : (Sort.putRow (Value.int .i64) (Sort.ahead w k) g 0 d).heap[g]? = some (.cells (Sort.putCells (Value.int .i64) 0 d cur) e (0, 0)) := by
    show ((w.heap.modify g (Sort.onCells _)))[g]? = _
    rw [Array.getElem?_modify, if_pos rfl, hh]; rfl
  have hsz2 : (Sort.putRow (Value.int .i64) (Sort.ahead w k) g 0 d).heap.size = w.heap.size := Sort.size_putRow _ _ _ _ _
  have hgrow : ∀ b, b < w.heap.size → (Sort.grow (Sort.putRow (Value.int .i64) (Sort.ahead w k) g 0 d) os).heap[b]? = (Sort.putRow (Value.int .i64) (Sort.ahead w k) g 0 d).heap[b]? := fun b hb => by
    show (_ ++ os)[b]? = _
    rw [Array.getElem?_append_left (by rw [hsz2]; exact hb)]
  refine ⟨⟨rfl, rfl, rfl, by rw [Sort.size_grow, hsz2]; omega, fun b hb hF => ?_⟩, F, ⟨⟨?_, .inr ⟨g, c, Sort.putCells (Value.int .i64) 0 d cur, by rw [hA, List.length_take]; congr 1; simp [hd]; omega, Nat.zero_le _, ?_, ?_, hmax, ?_, ?_⟩⟩, fun b => ?_⟩, fun b hb => .inl hb⟩
  · rw [hgrow b hb, hne b fun e => hF ((h3 b).2 (by rw [e, hA]; rfl))]
  · rw [flat_len (k := 1) (fun _ => rfl)]
  · rw [hgrow g hlt, hat]
  · rw [List.length_take]; simp [hd]; omega
  · rw [Sort.putCells, Array.size_mapIdx]; exact hsz
  · have hcl : l.length ≤ cur.size := by rw [hsz]; omega
    rw [Nat.mul_one, List.length_take, Array.length_toList, hd, Nat.min_eq_left hm]
    refine List.ext_getElem? fun j => ?_
    rw [List.getElem?_take]
    have hfl : ∀ zs : List Int, zs.flatMap intCells = zs.map (Value.int .i64) := fun zs => by
      induction zs with
      | nil => rfl
      | cons z zs ih => rw [List.flatMap_cons, ih]; rfl
    rw [hfl, List.getElem?_map, List.getElem?_take]
    by_cases hj : j < m
    · rw [if_pos hj, if_pos hj]
      have hj2 : j < cur.size := by omega
      have hj3 : j < d.size := by omega
      rw [Array.getElem?_toList, Sort.putCells, Array.getElem?_mapIdx, Array.getElem?_eq_getElem hj2, Array.getElem?_toList, Array.getElem?_eq_getElem hj3]
      simp only [Option.map_some]
      rw [if_pos ⟨Nat.zero_le _, by omega⟩, Nat.sub_zero, getElem!_pos d j hj3]
    rw [if_neg hj, if_neg hj]; rfl
  rw [h3 b, hA]; rfl
theorem row_holds {e c : Nat} {A : Option Addr} {l : List Int} {F : Nat → Prop} {w : World} (hp : (rowD e 1 intCells (.slice A l.length c) l).ok F w) (hne : l ≠ []) : ∃ g, A = some ⟨g, 0, none⟩ ∧ Sort.Holds (Value.int .i64) w g 0 l.toArray ∧ g < w.heap.size ∧ l.length ≤ c := by
 obtain ⟨hown, h3⟩ := hp
 have hown' := hown
 obtain ⟨h1, h2⟩ := hown
 rcases h2 with ⟨hv, h0⟩ | ⟨g, cap, cur, hv, hg, hh, hle, hmax, hsz, htk⟩
 ·exact absurd (List.eq_nil_of_length_eq_zero h0) hne
 injection hv with e1 e2 e3
 refine ⟨g, e1, fun j hj => ?_, lt_of_get hh, by omega⟩
 have hj' : j < l.length := by simpa using hj
 have hr : RowAt w A l.length 1 (l.flatMap intCells) := rowAt_of_own hown'
 obtain ⟨ad, hA, hcell⟩ := hr.at_ (by omega)
 rw [e1] at hA
 injection hA with hA
 subst hA
 have hx := flat_get (enc := intCells) (k := 1) (fun _ => rfl) (List.getElem?_eq_getElem hj') (show 0 < 1 by decide)
 have := hcell _ _ (hx.trans rfl)
 rw [Addr.add_lit] at this
 refine ⟨by rw [show 0 + j = 0 + (j * 1 + 0) by omega, this, getElem!_pos l.toArray j hj]; simp [I], ?_⟩
 simp [World.frozen?, hh]
section
variable {w : World}
theorem sort_ok {e c : Nat} {A : Option Addr} {l : List Int} {F : Nat → Prop} (hp : (rowD e 1 intCells (.slice A l.length c) l).ok F w) (hl : l.length ≤ 1000000) :
    Rets Tryz.prog 73 [.slice A l.length c] w fun v w' => v = .tuple #[] ∧ Turn F (rowD e 1 intCells (.slice A l.length c) (l.mergeSort fun x y => decide (x ≤ y))) w w' := by
  by_cases hne : l = []
  · subst hne
    refine Calls.mono (Tryz.slices_Sort_int_none A c w) fun en w' he => ?_
    obtain ⟨rfl, rfl⟩ := he
    exact ⟨rfl, by rw [List.mergeSort_nil]; exact Turn.refl hp⟩
  obtain ⟨g, hA, hH, hg, _⟩ := row_holds hp hne
  have hlen : (l.mergeSort fun x y => decide (x ≤ y)).length = l.length := List.length_mergeSort l
  have hA' := hA
  subst hA'
  refine Calls.mono (Tryz.slices_Sort_int g 0 c l w hH hg (by omega)) fun en w' he => ?_
  obtain ⟨rfl, n, os, rfl⟩ := he
  refine ⟨rfl, ?_⟩
  have := turn_put (k := n) (os := os) (d := (l.mergeSort fun x y => decide (x ≤ y)).toArray) hp rfl (by simp) (Nat.le_refl _)
  rwa [List.take_of_length_le (by simp [hlen])] at this
theorem compact_ok {e c : Nat} {A : Option Addr} {l : List Int} {F : Nat → Prop} (hp : (rowD e 1 intCells (.slice A l.length c) l).ok F w) (hl : l.length ≤ 1000000) :
    Rets Tryz.prog 74 [.slice A l.length c] w fun v w' => v = .slice A (Lib.compact l).length c ∧ Turn F (rowD e 1 intCells (.slice A (Lib.compact l).length c) (Lib.compact l)) w w' := by
  by_cases hne : l = []
  · subst hne
    refine Calls.mono (Tryz.slices_Compact_int_empty A c w) fun en w' he => ?_
    obtain ⟨rfl, rfl⟩ := he
    exact ⟨rfl, Turn.refl hp⟩
  obtain ⟨g, hA, hH, hg, hc⟩ := row_holds hp hne
  have hlen := Lib.compact_length_le l
  have hA' := hA
  subst hA'
  refine Calls.mono (Tryz.slices_Compact_int g 0 c l w hH (by omega) hc) fun en w' he => ?_
  obtain ⟨rfl, n, rfl⟩ := he
  refine ⟨rfl, ?_⟩
  have := turn_put (k := n) (os := #[]) (d := (Lib.compact l ++ List.replicate (l.length - (Lib.compact l).length) 0).toArray) hp rfl (by simp; omega) hlen
  rw [Sort.grow_empty] at this
  simpa using this
end
def idsL (l : List StepM) : List Int := (l.filter fun x => decide (x.kind = 1)).map fun x => x.n
theorem ids_yes {l : List StepM} {i : Nat} {x : StepM} (h : l[i]? = some x) (hk : x.kind = 1) : idsL (l.take (i + 1)) = idsL (l.take i) ++ [x.n] := by
 unfold idsL
 rw [List.take_add_one, h, List.filter_append, List.map_append]
 simp [hk]
theorem ids_no {l : List StepM} {i : Nat} {x : StepM} (h : l[i]? = some x) (hk : ¬ x.kind = 1) : idsL (l.take (i + 1)) = idsL (l.take i) := by
 unfold idsL
 rw [List.take_add_one, h, List.filter_append, List.map_append]
 simp [hk]
theorem ids_len (l : List StepM) : (idsL l).length ≤ l.length := by
 unfold idsL; rw [List.length_map]; exact List.length_filter_le _ _
section
variable {w : World}
theorem usesE_ok {l : List StepM} {vl : Value} (hl : RowIn w vl stepCells 3 l) (h1000 : l.length ≤ 1000) :
    Rets Tryz.prog 72 [vl] w fun v w' => ∃ x, v = x ∧ True ∧ Turn noB (rowD 3 1 intCells x (usesS l)) w w' := by
  obtain ⟨C, n, rfl, ⟨hn, hn'⟩, hC⟩ := hl
  have H := Sep.start0 w
  rw [← uses_sorted l]
  refine rets1 Tryz.func72 rfl rfl rfl rfl ?_
  refine Sr (Am ?_)
  refine Qn (FW_seq (Sr (Mv ?_)))
  refine Vs ?_
  refine Mv ?_
  refine Qn (FW_block ?_)
  have H6 := Sep.nilD H 3 1 intCells
  refine FW_loop' (fun x : Nat × Value => [(2, x.2), (5, .slice C l.length n), (6, I l.length), (7, I x.1)]) (fun x w' => x.1 ≤ l.length ∧ Sep w noB [rowD 3 1 intCells x.2 (idsL (l.take x.1))] w') (fun x _ => l.length - x.1) (0, .slice none 0 0) ⟨rfl, rfl, rfl, rfl, trivial⟩ ⟨Nat.zero_le _, H6⟩ (fun x τ w6 hI => ?_)
  obtain ⟨i, v0⟩ := x
  obtain ⟨hi, H6⟩ := hI
  dsimp only at hi H6
  obtain ⟨B, cb, rfl, hcb, hB⟩ := Sep.formD H6 At0
  have hil := ids_len (l.take i)
  rw [List.length_take, Nat.min_eq_left hi] at hil
  try simp only [upds, like, upd_ds, und_ds]
  refine Sr (Vl ?_)
  refine Qn (FW_seq (Cp rfl (fun hc8 => ?_) (fun hc8 => ?_)))
  · have hlt : i < l.length := by omega
    obtain ⟨x, hx'⟩ := get_some hlt
    refine Sk (FW_seq (FW_block (Sr (Vv (Gives.idxR rfl rfl (by assumption) (by omega)) (Vv (Gives.loadE0 rfl H6 (by assumption) (by assumption)) ?_)))))
    refine FL_alloc H6 (h := fun b4 w13 H13 k12 => ?_)
    refine FL_storeAll H13 (h := fun w15 H15 => ?_)
    refine Nx (Vf ?_)
    refine Ld H15 ?_
    refine Ve ?_
    refine Qn (Cp rfl (fun hc19 => ?_) (fun hc19 => ?_))
    · have hid := ids_yes hx' hc19
      refine FW_region (Mv ?_)
      refine Vf ?_
      refine Ld H15 ?_
      refine FL_buildSlice H15 (xs := [.tmp 16]) (out := [x.n].flatMap intCells) (Elems.one rfl rfl Elems.nil) rfl rfl rfl (fun bs w25 H25 k24 => ?_)
      refine FL_appendD H25 (news := [x.n]) At1 (by unfold maxLen; simp; omega) (by simp; omega) (cells_one (fun _ => rfl) [x.n]) (h := ?_)
      intro v2 w27 H27
      rw [← hid] at H27
      refine Am ?_
      refine FL_nil (Qblk_normal (Qseq_normal (FW_region (Vv (Gives.addI rfl rfl rfl (by omega)) ?_))))
      refine Mv ?_
      refine FL_nil ?_
      exact Qround_normal (i + 1, v2) ⟨rfl, rfl, rfl, rfl, trivial⟩ ⟨by dsimp only; omega, (H27).drop0⟩ (by dsimp only; omega)
    have hid := ids_no hx' hc19
    refine FW_skip (Qblk_normal (Qseq_normal (FW_region (Vv (Gives.addI rfl rfl rfl (by omega)) ?_))))
    refine Mv ?_
    refine FL_nil ?_
    exact Qround_normal (i + 1, .slice B (idsL (l.take i)).length cb) ⟨rfl, rfl, rfl, rfl, trivial⟩ ⟨by dsimp only; omega, by dsimp only; rw [hid]; exact (H15).drop0⟩ (by dsimp only; omega)
  have hie : i = l.length := by omega
  rw [hie, List.take_length] at H6 hil ⊢
  refine FW_exit (Qseq_exit (Qround_exit (Qblk_exit (Qseq_normal (Sr (Mv ?_))))))
  obtain ⟨F0, hp0, hS0, hput0⟩ := H6.focus At0
  refine FL_call (sort_ok hp0 (by omega)) rfl rfl (fun v' w39 hv => ?_)
  obtain ⟨rfl, hkk, F1, hq, hs⟩ := hv
  have H39 := hput0 _ F1 _ hkk hq hs
  have hml : ((idsL l).mergeSort fun x y => decide (x ≤ y)).length = (idsL l).length := List.length_mergeSort _
  rw [← hml] at H39
  refine Nx (Mv ?_)
  obtain ⟨F0, hp0, hS0, hput0⟩ := H39.focus At0
  refine FL_call (compact_ok hp0 (by omega)) (by rw [hml]; rfl) rfl (fun v' w42 hv => ?_)
  obtain ⟨rfl, hkk, F1, hq, hs⟩ := hv
  have H42 := hput0 _ F1 _ hkk hq hs
  refine Am ?_
  refine Qn (FW_ret (Qfn_ret (hR := ?_)))
  exact ⟨_, rfl, trivial, H42.turn⟩
theorem colsCopy_ok {l : List ColM} {v : Value} (hl : RowIn w v colCells 7 l) (h1000 : l.length ≤ 1000) : Rets Tryz.prog 28 [v] w fun v' w' => ∃ x, v' = x ∧ True ∧ Turn noB (rowD 49 7 colCells x l) w w' := by
 obtain ⟨A, m, rfl, ⟨hm, hm'⟩, hA⟩ := hl
 have H := Sep.start0 w
 refine rets1 Tryz.func28 rfl rfl rfl rfl ?_
 refine Sr (Am ?_)
 refine Nx ?_
 have H3 := Sep.nilD H 49 7 colCells
 refine Am ?_
 refine Nx (Mv ?_)
 refine Mv ?_
 refine FL_appendO H3 At0 (hA.keep H3.kept) (by unfold maxLen; simp; omega) (by simp; omega) (cells_one (fun _ => rfl) _) (h := ?_)
 intro v2 w7 H7
 refine Am ?_
 refine Qn (FW_ret (Qfn_ret (hR := ?_)))
 exact ⟨_, rfl, trivial, by rw [List.nil_append] at H7; exact H7.turn⟩
theorem intsEq_ok {a b : List Int} {va vb : Value} (ha : RowIn w va intCells 1 a) (hb : RowIn w vb intCells 1 b) : Rets Tryz.prog 32 [va, vb] w fun v' w' => v' = .bool (decide (a = b)) ∧ Kept noB w w' := by
 obtain ⟨A, m, rfl, ⟨hm, hm'⟩, hA⟩ := ha
 obtain ⟨B, n, rfl, ⟨hn, hn'⟩, hB⟩ := hb
 have H := Sep.start0 w
 refine rets2 Tryz.func32 rfl rfl rfl rfl ?_
 refine Sr (Am ?_)
 refine Qn (FW_seq (Sr (Mv ?_)))
 refine Vs ?_
 refine Mv ?_
 refine Vs ?_
 refine Vn ?_
 refine Qn (Cp rfl (fun hc7 => ?_) (fun hc7 => ?_))
 ·have hne := hc7
  refine Sr (Am ?_)
  refine Qn (Rs (Qfn_ret (hR := ?_)))
  exact ⟨congrArg Value.bool (Eq.symm (decide_eq_false fun e => hne (by rw [e]))), H.kept⟩
 have hlen : a.length = b.length := by omega
 refine Sk (FW_seq (Sr (Am ?_)))
 refine Qn (FW_block (FW_loop' (fun i : Nat => [(0, .slice A a.length m), (1, .slice B b.length n), (5, I i)]) (fun i w' => (i ≤ a.length ∧ a.take i = b.take i) ∧ Sep w noB [] w') (fun i _ => a.length - i) 0 ⟨rfl, rfl, rfl, trivial⟩ ⟨⟨Nat.zero_le _, by simp⟩, H⟩ (fun i τ w14 hI => ?_)))
 obtain ⟨⟨hi, hst⟩, H14⟩ := hI
 try simp only [upds, like, upd_ds, und_ds]
 refine FW_seq (Sr (Mv ?_))
 refine Mv ?_
 refine Vs ?_
 refine Vl ?_
 refine Qn (Cp rfl (fun hc19 => ?_) (fun hc19 => ?_))
 ·have hlt : i < a.length := by omega
  obtain ⟨x, hx⟩ := get_some hlt
  obtain ⟨y, hy⟩ := get_some (l := b) (i := i) (by omega)
  refine Sk (FW_seq (FW_block (FW_seq (FW_drawS rfl H14 (h := fun hok21 w23 H23 => ?_)))))
  refine Gm hok21 0 ?_
  refine Gm hok21 1 ?_
  refine Gp hok21 2 rfl rfl (fun _ => (Gives.idxR rfl rfl (by assumption) (by omega))) (Gl hok21 3 rfl rfl (Gives.loadE1 rfl H23 (by assumption) (by assumption) rfl) ?_)
  refine Gm hok21 4 ?_
  refine Gm hok21 5 ?_
  refine Gp hok21 6 rfl rfl (fun _ => (Gives.idxR rfl rfl (by assumption) (by omega))) (Gl hok21 7 rfl rfl (Gives.loadE1 rfl H23 (by assumption) (by assumption) rfl) ?_)
  refine Gp hok21 8 rfl rfl (fun _ => (Gives.neq rfl rfl)) (FG_end hok21 (by kernel_rfl) ?_)
  refine Qseq_normal (Cp rfl (fun hc29 => ?_) (fun hc29 => ?_))
  ·have hxy := hc29
   refine Sr (Am ?_)
   refine Qn (Rb (Qround_ret (Qblk_ret (Qseq_ret (Qfn_ret (hR := ?_))))))
   exact ⟨congrArg Value.bool (Eq.symm (decide_eq_false fun e => hxy (by rw [e, hy] at hx; injection hx with hx; exact hx.symm))), H23.kept⟩
  have hxy : x = y := Classical.not_not.1 hc29
  have hnx : a.take (i + 1) = b.take (i + 1) := by rw [List.take_add_one, List.take_add_one, hst, hx, hy, hxy]
  refine FW_skip (Qblk_normal (Qseq_normal (FW_region (Mv ?_))))
  refine Vv (Gives.addI rfl rfl rfl (by omega)) (Am ?_)
  refine FL_nil ?_
  exact Qround_normal (i + 1) ⟨rfl, rfl, rfl, trivial⟩ ⟨⟨by omega, hnx⟩, H23⟩ (by omega)
 have hil : i = a.length := by omega
 have hab : a = b := by rw [hil, List.take_length, hlen, List.take_length] at hst; exact hst
 refine FW_exit (Qseq_exit (Qround_exit (Qblk_exit (Qseq_normal (Sr (Am ?_))))))
 refine Qn (FW_ret (Qfn_ret (hR := ?_)))
 exact ⟨congrArg Value.bool (Eq.symm (decide_eq_true hab)), H14.kept⟩
theorem colsEq_ok {a b : List ColM} {va vb : Value} (ha : RowIn w va colCells 7 a) (hb : RowIn w vb colCells 7 b) : Rets Tryz.prog 31 [va, vb] w fun v' w' => v' = .bool (decide (a = b)) ∧ Kept noB w w' := by
 obtain ⟨A, m, rfl, ⟨hm, hm'⟩, hA⟩ := ha
 obtain ⟨B, n, rfl, ⟨hn, hn'⟩, hB⟩ := hb
 have H := Sep.start0 w
 refine rets2 Tryz.func31 rfl rfl rfl rfl ?_
 refine Sr (Am ?_)
 refine Qn (FW_seq (Sr (Mv ?_)))
 refine Vs ?_
 refine Mv ?_
 refine Vs ?_
 refine Vn ?_
 refine Qn (Cp rfl (fun hc7 => ?_) (fun hc7 => ?_))
 ·have hne := hc7
  refine Sr (Am ?_)
  refine Qn (Rs (Qfn_ret (hR := ?_)))
  exact ⟨congrArg Value.bool (Eq.symm (decide_eq_false fun e => hne (by rw [e]))), H.kept⟩
 have hlen : a.length = b.length := by omega
 refine Sk (FW_seq (Sr (Am ?_)))
 refine Qn (FW_block (FW_loop' (fun i : Nat => [(0, .slice A a.length m), (1, .slice B b.length n), (5, I i)]) (fun i w' => (i ≤ a.length ∧ a.take i = b.take i) ∧ Sep w noB [] w') (fun i _ => a.length - i) 0 ⟨rfl, rfl, rfl, trivial⟩ ⟨⟨Nat.zero_le _, by simp⟩, H⟩ (fun i τ w14 hI => ?_)))
 obtain ⟨⟨hi, hst⟩, H14⟩ := hI
 try simp only [upds, like, upd_ds, und_ds]
 refine FW_seq (Sr (Mv ?_))
 refine Mv ?_
 refine Vs ?_
 refine Vl ?_
 refine Qn (Cp rfl (fun hc19 => ?_) (fun hc19 => ?_))
 ·have hlt : i < a.length := by omega
  obtain ⟨x, hx⟩ := get_some hlt
  obtain ⟨y, hy⟩ := get_some (l := b) (i := i) (by omega)
  refine Sk (FW_seq (FW_block (FW_seq (FW_drawS rfl H14 (h := fun hok21 w23 H23 => ?_)))))
  refine Gm hok21 0 ?_
  refine Gm hok21 1 ?_
  refine Gp hok21 2 rfl rfl (fun _ => (Gives.idxR rfl rfl (by assumption) (by omega))) (Gl hok21 3 rfl rfl (Gives.loadE0 rfl H23 (by assumption) (by assumption)) ?_)
  refine Gm hok21 4 ?_
  refine Gm hok21 5 ?_
  refine Gp hok21 6 rfl rfl (fun _ => (Gives.idxR rfl rfl (by assumption) (by omega))) (Gl hok21 7 rfl rfl (Gives.loadE0 rfl H23 (by assumption) (by assumption)) ?_)
  refine Gp hok21 8 rfl rfl (fun _ => (Gives.neqG (enc := colCells) _ _ rfl rfl)) (FG_end hok21 (by kernel_rfl) ?_)
  refine Qseq_normal (Cp rfl (fun hc29 => ?_) (fun hc29 => ?_))
  ·have hxy := hc29
   refine Sr (Am ?_)
   refine Qn (Rb (Qround_ret (Qblk_ret (Qseq_ret (Qfn_ret (hR := ?_))))))
   exact ⟨congrArg Value.bool (Eq.symm (decide_eq_false fun e => hxy (by rw [e, hy] at hx; injection hx with hx; exact hx.symm))), H23.kept⟩
  have hxy : x = y := Classical.not_not.1 hc29
  have hnx : a.take (i + 1) = b.take (i + 1) := by rw [List.take_add_one, List.take_add_one, hst, hx, hy, hxy]
  refine FW_skip (Qblk_normal (Qseq_normal (FW_region (Mv ?_))))
  refine Vv (Gives.addI rfl rfl rfl (by omega)) (Am ?_)
  refine FL_nil ?_
  exact Qround_normal (i + 1) ⟨rfl, rfl, rfl, trivial⟩ ⟨⟨by omega, hnx⟩, H23⟩ (by omega)
 have hil : i = a.length := by omega
 have hab : a = b := by rw [hil, List.take_length, hlen, List.take_length] at hst; exact hst
 refine FW_exit (Qseq_exit (Qround_exit (Qblk_exit (Qseq_normal (Sr (Am ?_))))))
 refine Qn (FW_ret (Qfn_ret (hR := ?_)))
 exact ⟨congrArg Value.bool (Eq.symm (decide_eq_true hab)), H14.kept⟩
end
end Go.Proofs.YtolaedhdjcnijaaGreatDoor
