/-
 The program's Type, walked.
-/
import Derived.Test.YtolaedhdjcnijaaGreatDoorKx17
import Derived.Test.YtolaedhdjcnijaaGreatDoorKx13
import Derived.Lib.RowBridge
import Derived.Lib.Builder
import Derived.Lib.UnsafeStr
import Derived.Laws.Externs
import Derived.MapKept
import Derived.Laws.RangeAny
import Derived.Lib.OthersKept
set_option linter.unusedVariables false
set_option linter.unusedSimpArgs false
namespace Go.Proofs.YtolaedhdjcnijaaGreatDoor
open Go Go.Mw Go.Lib
set_option maxRecDepth 4000
def takeV (K : Nat) (A : Option Addr) (n c k : Nat) : Value := if k ≤ n then .slice (if c = n - k then A else A.map (·.add ((n - k) * K))) k (c - (n - k)) else .slice none 0 0
def leftV (A : Option Addr) (n c k : Nat) : Value := if k ≤ n then .slice A (n - k) (n - k) else .slice A n c
theorem takesS_le (k : Int) : takesS k ≤ 2 := by unfold takesS; (repeat' split) <;> omega
theorem mayS_kind {x : StepM} (h : mayS x = true) : 1 ≤ x.kind ∧ x.kind ≤ 18 := by
 unfold mayS at h
 repeat' split at h
 all_goals first | omega | (have := of_decide_eq_true h; omega)
theorem takesS_zero' {k : Int} : takesS k = 0 ↔ k < 7 := by
 unfold takesS
 split
 ·simp [*]
 split <;> simp <;> omega
theorem some2_of {α : Type} {k : Int} {st : List α} {d : α} (h7 : 7 ≤ k) (hk : takesS k ≤ st.length) : Some2 k (st.drop (st.length - takesS k)) (st.getD (st.length - takesS k) d) (st.getD (st.length - 1) d) := by
 unfold takesS at hk ⊢
 rw [if_neg (by omega)] at hk ⊢
 by_cases h1 : k = 10 ∨ k = 15 ∨ k = 16 ∨ k = 18
 ·rw [if_pos h1] at hk ⊢
  left
  refine ⟨?_, rfl, h1⟩
  have hlt : st.length - 1 < st.length := by omega
  rw [List.drop_eq_getElem_cons hlt, List.drop_of_length_le (by omega), List.getD_eq_getElem?_getD, List.getElem?_eq_getElem hlt]
  rfl
 rw [if_neg h1] at hk ⊢
 right
 refine ⟨?_, by omega⟩
 have hlt : st.length - 2 < st.length := by omega
 have hlt2 : st.length - 2 + 1 < st.length := by omega
 have e : st.length - 1 = st.length - 2 + 1 := by omega
 rw [e, List.drop_eq_getElem_cons hlt, List.drop_eq_getElem_cons hlt2, List.drop_of_length_le (by omega), List.getD_eq_getElem?_getD, List.getElem?_eq_getElem hlt, List.getD_eq_getElem?_getD, List.getElem?_eq_getElem hlt2]
 rfl
def resS (cols : List ColM) (st : List TypeM) (x : StepM) : Option TypeM :=
 if takesS x.kind = 0 then leafT cols x else madeT x.kind (st.getD (st.length - takesS x.kind) type0) (st.getD (st.length - 1) type0)
theorem stepT_res' {cols : List ColM} {st : List TypeM} {x : StepM} (h1 : mayS x = true) (h2 : takesS x.kind ≤ st.length) : stepT cols st x = (resS cols st x).map fun t => st.take (st.length - takesS x.kind) ++ [t] := by
 unfold stepT resS
 dsimp only
 rw [if_neg (by rw [h1]; simp; omega)]
theorem stepT_no' {cols : List ColM} {st : List TypeM} {x : StepM} (h : mayS x = false ∨ st.length < takesS x.kind) : stepT cols st x = none := by
 unfold stepT
 dsimp only
 rw [if_pos h]
theorem Sep.capD {α : Type} {enc : α → List Value} {k e n c : Nat} {l : List α} {A : Option Addr} {w w₀ : World} {S : Nat → Prop} {rs : List HP} {put : HP → List HP} (H : Sep w₀ S rs w) (hat : At rs (rowD e k enc (.slice A n c) l) put) : c ≤ 9223372036854775807 := by
 obtain ⟨F, hp, _, _⟩ := H.focus hat
 rcases hp.1.2 with ⟨hv, h0⟩ | ⟨g, cap, cur, hv, _, hh, hle, hmax, _⟩
 ·injection hv with _ _ h; omega
 injection hv with _ _ h; unfold maxLen at hmax; omega
theorem row_from {α : Type} {enc : α → List Value} {k : Nat} [hk : EncK enc k] {w : World} {A : Option Addr} {l : List α} {c j : Nat} (h : Rd w A enc k l) (hc : l.length ≤ c) (hc2 : c ≤ 9223372036854775807) (hj : j ≤ l.length) : RowIn w (.slice (if c = l.length - j then A else A.map (·.add ((l.length - j) * k))) j (c - (l.length - j))) enc k (l.drop (l.length - j)) := by
 refine ⟨if c = l.length - j then A else A.map (·.add ((l.length - j) * k)), c - (l.length - j), ?_, ⟨?_, ?_⟩, h.fromC (l.length - j) hc⟩
 ·rw [List.length_drop, show l.length - (l.length - j) = j by omega]
 ·rw [List.length_drop]; omega
 omega
section
variable {w : World}
theorem typesTakes {b E n c k : Nat} {A : Option Addr} {F : Nat → Prop} {f : FuncId} (hp : (blk b [.slice A n c] E).ok F w) (hk : k ≤ 1000000)
    (hyes : k ≤ n → Rets Tryz.prog f [.pointer (some ⟨b, 0, none⟩), I k] w fun v w' => v = .tuple #[.slice (if c = n - k then A else A.map (·.add ((n - k) * 2))) k (c - (n - k)), .bool true] ∧ Turn F (blk b [.slice A (n - k) (n - k)] E) w w')
    (hno : n < k → Rets Tryz.prog f [.pointer (some ⟨b, 0, none⟩), I k] w fun v w' => v = .tuple #[.slice none 0 0, .bool false] ∧ Turn F (blk b [.slice A n c] E) w w') :
    Rets Tryz.prog f [.pointer (some ⟨b, 0, none⟩), I k] w fun v w' => v = .tuple #[takeV 2 A n c k, .bool (decide (k ≤ n))] ∧ Turn F (blk b [leftV A n c k] E) w w' := by
  by_cases h : k ≤ n
  · rw [takeV, leftV, if_pos h, if_pos h, decide_eq_true h]; exact hyes h
  rw [takeV, leftV, if_neg h, if_neg h, decide_eq_false h]; exact hno (by omega)
attribute [local irreducible] mayS mayT leafT madeT
theorem typeE_ok {cols : List ColM} {l : List StepM} {vc vl : Value} (hc : RowIn w vc colCells 7 cols) (hl : RowIn w vl stepCells 3 l) (hx : ∀ x ∈ l, fits x.n) (hT : TabsU w) : Rets Tryz.prog 24 [vc, vl] w fun v w' => v = .tuple #[agg (typeCells (typeS cols l).1), I (typeS cols l).2] ∧ Kept noB w w' := by
  have hcc := hc
  obtain ⟨A, m, rfl, ⟨hm, hm'⟩, hA⟩ := hc
  obtain ⟨C, n, rfl, ⟨hn, hn'⟩, hC⟩ := hl
  have H := Sep.start0 w
  obtain ⟨res, hres⟩ : ∃ res, res = typeS cols l := ⟨_, rfl⟩
  rw [← hres]
  unfold typeS at hres
  refine retsC2 Tryz.func24 rfl rfl rfl rfl ?_
  refine Sr (FL_alloc H (h := fun b4 w2 H2 k1 => ?_))
  refine Am ?_
  refine Qn (FW_seq (Sr (Mv ?_)))
  refine Vs ?_
  refine Vg ?_
  refine Qn (Cp rfl (fun hc7 => ?_) (fun hc7 => ?_))
  · rw [if_pos (by omega)] at hres
    refine Sr (Vv (Gives.build (out := typeCells type0) Fills.nil) (FL_storeAll H2 (h := fun w11 H11 => ?_)))
    refine Am ?_
    refine Qn (Rs (QfnC_ret (h := ?_)))
    exact ⟨_, resC2 H11, by rw [hres]; rfl, H11.kept⟩
  rw [if_neg (by omega)] at hres
  refine Sk (Sr (FL_alloc H2 (h := fun b6 w16 H16 k15 => ?_)))
  refine Qn (FW_seq (Sr (Mv ?_)))
  refine Vs ?_
  refine Mv ?_
  refine Qn (FW_block ?_)
  have H21 := Sep.nilD H16 45 2 typeCells
  refine FW_loop' (fun x : Nat × List TypeM × Value => [(0, .slice A cols.length m), (4, .pointer (some ⟨b4, 0, none⟩)), (6, .pointer (some ⟨b6, 0, none⟩)), (16, .slice C l.length n), (17, I l.length), (18, I x.1)]) (fun x w' => (x.1 ≤ l.length ∧ x.2.1.length ≤ x.1 ∧ runT cols x.2.1 (l.drop x.1) = runT cols [] l) ∧ Sep w noB [rowD 45 2 typeCells x.2.2 x.2.1, blk b6 [x.2.2] 103, blk b4 (typeCells type0) 45] w') (fun x _ => l.length - x.1) (0, [], .slice none 0 0) ⟨rfl, rfl, rfl, rfl, rfl, rfl, trivial⟩ ⟨⟨Nat.zero_le _, Nat.le_refl _, rfl⟩, H21⟩ (fun x τ w21 hI => ?_)
  obtain ⟨i, st, v0⟩ := x
  obtain ⟨⟨hi, hsl, hst⟩, H21⟩ := hI
  dsimp only at hi hsl hst H21
  obtain ⟨B, cb, rfl, hcb, hB⟩ := Sep.formD H21 At0
  try simp only [upds, like, upd_ds, und_ds]
  refine Sr (Vl ?_)
  refine Qn (FW_seq (Cp rfl (fun hc23 => ?_) (fun hc23 => ?_)))
  · have hlt : i < l.length := by omega
    obtain ⟨x, hx'⟩ := get_some hlt
    have hdr : l.drop i = x :: l.drop (i + 1) := by
      rw [List.drop_eq_getElem_cons hlt]; rw [List.getElem?_eq_getElem hlt] at hx'; injection hx' with hx'; rw [hx']
    rw [hdr, runT] at hst
    have hfx := hx x (List.mem_of_getElem? hx')
    have hk2 := takesS_le x.kind
    refine Sk (FW_seq (FW_block (Sr (Vv (Gives.idxR rfl rfl (by assumption) (by omega)) (Vv (Gives.loadE0 rfl H21 (by assumption) (by assumption)) ?_)))))
    refine FL_alloc H21 (h := fun b8 w28 H28 k27 => ?_)
    refine FL_storeAll H28 (h := fun w30 H30 => ?_)
    refine Nx (Vf ?_)
    refine Ld H30 ?_
    refine FL_callQ H30 (many_ok x.kind) (h := fun w34 H34 k33 => ?_)
    obtain ⟨F0, hp0, hS0, hput0⟩ := H34.focus At2
    refine FL_call (typesTakes hp0 (by omega) (fun h => typesTake_ok hp0 h hcb (by omega)) (fun h => typesTakeNo_ok hp0 h (by omega))) rfl rfl (fun v' w36 hv => ?_)
    obtain ⟨rfl, hkk, F1, hq, hs⟩ := hv
    have H36 := hput0 _ F1 _ hkk hq hs
    refine Mv ?_
    refine Vx ?_
    refine Vx ?_
    refine Am ?_
    refine Am ?_
    refine Qn (FW_seq (Sr (Mv ?_)))
    refine Vv (Gives.notP rfl) (Mv ?_)
    refine FL_splitP (t := 31) rfl (fun hs45 => ?_) (fun hs45 => ?_)
    · rw [stepT_no' (.inr (by omega))] at hst
      rw [← hst] at hres
      have hfin : res = (type0, 220) := hres
      refine Of (Of (Of (Pt ?_)))
      refine Qn (FW_cond_true rfl ?_)
      refine Sr (Vv (Gives.build (out := typeCells type0) Fills.nil) (FL_storeAll H36 (h := fun w50 H50 => ?_)))
      refine Am ?_
      refine Qn (Rs (Qblk_ret (Qseq_ret (Qround_ret (Qblk_ret (Qseq_ret (QfnC_ret (h := ?_))))))))
      exact ⟨_, resC2 H50, by rw [hfin]; rfl, H50.kept⟩
    have hkn : takesS x.kind ≤ st.length := by omega
    rw [takeV, if_pos hkn]
    rw [leftV, if_pos hkn] at H36
    refine On (FL_loadAll H36 (h := ?_))
    refine On (FL_callQ H36 (may_ok x hfx (hT.keep H36.kept)) (h := fun w56 H56 k55 => ?_))
    refine On (Vv (Gives.not rfl) (Pf ?_))
    refine Qn (Cd rfl (fun hc59 => ?_) (fun hc59 => ?_))
    · rw [stepT_no' (.inl (by have h := hc59; revert h; cases mayS x <;> simp))] at hst
      rw [← hst] at hres
      have hfin : res = (type0, 220) := hres
      refine Sr (Vv (Gives.build (out := typeCells type0) Fills.nil) (FL_storeAll H56 (h := fun w63 H63 => ?_)))
      refine Am ?_
      refine Qn (Rs (Qblk_ret (Qseq_ret (Qround_ret (Qblk_ret (Qseq_ret (QfnC_ret (h := ?_))))))))
      exact ⟨_, resC2 H63, by rw [hfin]; rfl, H63.kept⟩
    have hmx : mayS x = true := by have h := hc59; revert h; cases mayS x <;> simp
    obtain ⟨hk1, hk18⟩ := mayS_kind hmx
    rw [stepT_res' hmx hkn] at hst
    refine Sk (Sr (FL_alloc H56 (h := fun b11 w68 H68 k67 => ?_)))
    refine Qn (FW_cut (fun tp : TypeM => [(0, .slice A cols.length m), (4, .pointer (some ⟨b4, 0, none⟩)), (6, .pointer (some ⟨b6, 0, none⟩)), (8, .pointer (some ⟨b8, 0, none⟩)), (10, .bool (resS cols st x).isSome), (11, .pointer (some ⟨b11, 0, none⟩)), (16, .slice C l.length n), (17, I l.length), (18, I i)]) (fun tp w' => (∀ y, resS cols st x = some y → tp = y) ∧ Sep w noB [blk b11 (typeCells tp) 45, blk b8 (stepCells x) 60, rowD 45 2 typeCells (.slice B st.length cb) st, blk b6 [.slice B (st.length - takesS x.kind) (st.length - takesS x.kind)] 103, blk b4 (typeCells type0) 45] w') ?_ ?_)
    · refine Sr (Mv ?_)
      refine Vs ?_
      refine Ve ?_
      refine Qn (Cp rfl (fun hc73 => ?_) (fun hc73 => ?_))
      · have hk0 : takesS x.kind = 0 := by omega
        have hrt : resS cols st x = leafT cols x := if_pos hk0
        have hk6 : x.kind ≤ 6 := by have := takesS_zero'.1 hk0; omega
        refine FW_region (Mv ?_)
        refine FL_loadAll H68 (h := ?_)
        refine FL_callQ H68 (own_ok x (hcc.keep H68.kept) hk1 hk6) (h := fun w78 H78 k77 => ?_)
        refine Mv ?_
        refine Vx ?_
        refine Vx ?_
        refine FL_storeAll H78 (h := fun w83 H83 => ?_)
        refine Am ?_
        refine FL_nil ?_
        exact Qcut_normal ((leafT cols x).getD type0) ⟨rfl, rfl, rfl, rfl, by rw [hrt]; rfl, rfl, rfl, rfl, rfl, trivial⟩ ⟨fun y hy => by rw [hrt] at hy; rw [hy]; rfl, H83⟩
      have hk0 : ¬ takesS x.kind = 0 := by omega
      have hrt : resS cols st x = madeT x.kind (st.getD (st.length - takesS x.kind) type0) (st.getD (st.length - 1) type0) := if_neg hk0
      have hk7 : 7 ≤ x.kind := by
        refine Classical.byContradiction fun h => hk0 (takesS_zero'.2 (by omega))
      refine FW_region (Vf ?_)
      refine Ld H68 ?_
      refine Mv ?_
      refine FL_call (typed_ok (row_from (Sep_rdD H68 At2) hcb (Sep.capD H68 At2) hkn) (some2_of (d := type0) hk7 hkn) hk7 hk18) rfl rfl (fun v' w91 hv => ?_)
      obtain ⟨⟨tp, rfl, htp⟩, hkk⟩ := hv
      have H91 := H68.keep hkk
      refine Mv ?_
      refine Vx ?_
      refine Vx ?_
      refine FL_storeAll H91 (h := fun w96 H96 => ?_)
      refine Am ?_
      refine FL_nil ?_
      exact Qcut_normal tp ⟨rfl, rfl, rfl, rfl, by rw [hrt]; rfl, rfl, rfl, rfl, rfl, trivial⟩ ⟨fun y hy => by rw [hrt] at hy; exact htp y hy, H96⟩
    rintro tp τ w100 ⟨htp, H100⟩
    simp only [upds, like, upd_ds]
    refine FW_seq (Sr (Mv ?_))
    refine Vv (Gives.not rfl) (Qn ?_)
    refine Cd rfl (fun hc103 => ?_) (fun hc103 => ?_)
    · have hno : resS cols st x = none := by
        cases h : resS cols st x with
        | none => rfl
        | some y => rw [h] at hc103; cases hc103
      rw [hno] at hst
      rw [← hst] at hres
      have hfin : res = (type0, 220) := hres
      refine Sr (Vv (Gives.build (out := typeCells type0) Fills.nil) (FL_storeAll H100 (h := fun w107 H107 => ?_)))
      refine Am ?_
      refine Qn (Rs (Qblk_ret (Qseq_ret (Qround_ret (Qblk_ret (Qseq_ret (QfnC_ret (h := ?_))))))))
      exact ⟨_, resC2 H107, by rw [hfin]; rfl, H107.kept⟩
    obtain ⟨y, hy⟩ : ∃ y, resS cols st x = some y := by
      cases h : resS cols st x with
      | none => rw [h] at hc103; cases hc103
      | some y => exact ⟨y, rfl⟩
    have hty := htp y hy
    subst hty
    rw [hy] at hst
    refine Sk (FW_region (FL_loadAll H100 (h := ?_)))
    refine FL_buildSlice H100 (xs := [.tmp 56]) (out := [tp].flatMap typeCells) (Elems.many rfl rfl Elems.nil) rfl rfl rfl (fun bs w113 H113 k112 => ?_)
    obtain ⟨F0, hp0, hS0, hput0⟩ := H113.focus At4
    have htl : (st.take (st.length - takesS x.kind)).length = st.length - takesS x.kind := by rw [List.length_take]; omega
    have hRc := (Sep_rdD H113 At3).cut (st.length - takesS x.kind)
    have hn1 : RowIn _ (.slice (some ⟨bs, 0, none⟩) 1 1) typeCells 2 [tp] := ⟨some ⟨bs, 0, none⟩, 1, rfl, ⟨by simp, by omega⟩, Sep.blkRow H113 At0 rfl⟩
    refine FL_call (typesPut_ok (l := st.take (st.length - takesS x.kind)) (by rw [htl]; exact hp0) hRc hn1 (by simp) (by simp; omega)) rfl rfl (fun v' w115 hv => ?_)
    obtain ⟨v2, rfl, _, hkk, F1, hq, hs⟩ := hv
    have H115 := ((hput0 _ F1 _ hkk hq hs).front4).star0
    refine FL_nil (Qblk_normal (Qseq_normal (FW_region (Vv (Gives.addI rfl rfl rfl (by omega)) ?_))))
    refine Mv ?_
    refine FL_nil ?_
    exact Qround_normal (i + 1, st.take (st.length - takesS x.kind) ++ [tp], v2) ⟨rfl, rfl, rfl, rfl, rfl, rfl, trivial⟩ ⟨⟨by dsimp only; omega, by dsimp only; rw [List.length_append, htl]; simp; omega, hst⟩, (H115.front6.front1.front2).firsts (l := [_, _, _])⟩ (by dsimp only; omega)
  have hil : i = l.length := by omega
  rw [hil, List.drop_length, runT] at hst
  rw [← hst] at hres
  refine FW_exit (Qseq_exit (Qround_exit (Qblk_exit (Qseq_normal (FW_seq (Sr (Vf ?_)))))))
  refine Ld H21 ?_
  refine Vs ?_
  refine Vn ?_
  refine Qn (Cp rfl (fun hc124 => ?_) (fun hc124 => ?_))
  · have hfin : res = (type0, 220) := by
      rw [hres]
      match st, hc124 with
      | [], _ => rfl
      | [t], h => exact absurd rfl h
      | t :: u :: r, _ => rfl
    refine Sr (Vv (Gives.build (out := typeCells type0) Fills.nil) (FL_storeAll H21 (h := fun w128 H128 => ?_)))
    refine Am ?_
    refine Qn (Rs (QfnC_ret (h := ?_)))
    exact ⟨_, resC2 H128, by rw [hfin]; rfl, H128.kept⟩
  obtain ⟨t, ht⟩ : ∃ t, st = [t] := List.length_eq_one_iff.1 (by omega)
  have hg0 : st[0]? = some t := by rw [ht]; rfl
  have hfin : res = (t, 0) := by rw [hres, ht]
  refine Sk (Sr (Vf ?_))
  refine Ld H21 ?_
  refine Vv (Gives.idxR (i := 0) rfl rfl hB (by omega)) (Vv (Gives.loadW0 (i := 0) rfl hB hg0) ?_)
  refine FL_storeAll H21 (h := fun w137 H137 => ?_)
  refine Am ?_
  refine Qn (FW_ret (QfnC_ret (h := ?_)))
  exact ⟨_, resC2 H137, by rw [hfin]; rfl, H137.kept⟩
end
section
variable {w : World}
end
section
variable {w : World}
end
section
variable {w : World}
end
end Go.Proofs.YtolaedhdjcnijaaGreatDoor
namespace Go.Proofs.YtolaedhdjcnijaaGreatDoor
open Go Go.Lib Go.Mw
set_option maxRecDepth 4000
def RowFits (r : List CellM) : Prop := ∀ c ∈ r, fits c.n
def Typed (ts : List TypeM) (st : List CellM) : Prop := ts.length = st.length ∧ ∀ (i : Nat) t c, ts[i]? = some t → st[i]? = some c → okC t c ∧ fits c.n
theorem Typed.push {ts : List TypeM} {st : List CellM} (h : Typed ts st) {m : Nat} {t : TypeM} {c : CellM} (hm : m ≤ st.length) (hc : okC t c ∧ fits c.n) : Typed (ts.take m ++ [t]) (st.take m ++ [c]) := by
 obtain ⟨h1, h2⟩ := h
 have e1 : (ts.take m).length = m := by rw [List.length_take]; omega
 have e2 : (st.take m).length = m := by rw [List.length_take]; omega
 refine ⟨by simp [h1], fun i t' c' ht hc' => ?_⟩
 rcases Nat.lt_or_ge i m with hi | hi
 ·rw [List.getElem?_append_left (by omega), List.getElem?_take, if_pos hi] at ht hc'
  exact h2 i t' c' ht hc'
 rw [List.getElem?_append_right (by omega), e1] at ht
 rw [List.getElem?_append_right (by omega), e2] at hc'
 cases hd : i - m with
 | zero =>
  rw [hd] at ht hc'
  simp at ht hc'
  rw [← ht, ← hc']; exact hc
 | succ j => rw [hd] at ht; simp at ht
theorem Typed.nil : Typed [] [] := ⟨rfl, fun i t c h => by simp at h⟩
end Go.Proofs.YtolaedhdjcnijaaGreatDoor
namespace Go.Proofs.YtolaedhdjcnijaaGreatDoor
open Go Go.Mw Go.Lib
set_option maxRecDepth 4000
attribute [local irreducible] checkC
section
variable {w : World}
end
attribute [local irreducible] typeS
section
variable {w : World}
end
end Go.Proofs.YtolaedhdjcnijaaGreatDoor
namespace Go.Proofs.YtolaedhdjcnijaaGreatDoor
open Go Go.Mw Go.Lib
set_option maxRecDepth 4000
attribute [local irreducible] typeS mayS findC
section
variable {w : World}
end
/-! A row that is sorted, then rid of what comes twice. -/
section
variable {w : World}
end
section
variable {w : World}
theorem colsEq_ok {a b : List ColM} {va vb : Value} (ha : RowIn w va colCells 7 a) (hb : RowIn w vb colCells 7 b) : Rets Tryz.prog 31 [va, vb] w fun v' w' => v' = .bool (decide (a = b)) ∧ Kept noB w w' := by
 obtain ⟨A, m, rfl, ⟨hm, hm'⟩, hA⟩ := ha
 obtain ⟨B, n, rfl, ⟨hn, hn'⟩, hB⟩ := hb
 have H := Sep.start0 w
 refine rets2 Tryz.func31 rfl rfl rfl rfl ?_
 refine Sr (Am ?_)
 refine Qn (FW_seq (Sr (Mv ?_)))
 refine Vs ?_
 refine Mv ?_
 refine Vs ?_
 refine Vn ?_
 refine Qn (Cp rfl (fun hc7 => ?_) (fun hc7 => ?_))
 ·have hne := hc7
  refine Sr (Am ?_)
  refine Qn (Rs (Qfn_ret (hR := ?_)))
  exact ⟨congrArg Value.bool (Eq.symm (decide_eq_false fun e => hne (by rw [e]))), H.kept⟩
 have hlen : a.length = b.length := by omega
 refine Sk (FW_seq (Sr (Am ?_)))
 refine Qn (FW_block (FW_loop' (fun i : Nat => [(0, .slice A a.length m), (1, .slice B b.length n), (5, I i)]) (fun i w' => (i ≤ a.length ∧ a.take i = b.take i) ∧ Sep w noB [] w') (fun i _ => a.length - i) 0 ⟨rfl, rfl, rfl, trivial⟩ ⟨⟨Nat.zero_le _, by simp⟩, H⟩ (fun i τ w14 hI => ?_)))
 obtain ⟨⟨hi, hst⟩, H14⟩ := hI
 try simp only [upds, like, upd_ds, und_ds]
 refine FW_seq (Sr (Mv ?_))
 refine Mv ?_
 refine Vs ?_
 refine Vl ?_
 refine Qn (Cp rfl (fun hc19 => ?_) (fun hc19 => ?_))
 ·have hlt : i < a.length := by omega
  obtain ⟨x, hx⟩ := get_some hlt
  obtain ⟨y, hy⟩ := get_some (l := b) (i := i) (by omega)
  refine Sk (FW_seq (FW_block (FW_seq (FW_drawS rfl H14 (h := fun hok21 w23 H23 => ?_)))))
  refine Gm hok21 0 ?_
  refine Gm hok21 1 ?_
  refine Gp hok21 2 rfl rfl (fun _ => (Gives.idxR rfl rfl (by assumption) (by omega))) (Gl hok21 3 rfl rfl (Gives.loadE0 rfl H23 (by assumption) (by assumption)) ?_)
  refine Gm hok21 4 ?_
  refine Gm hok21 5 ?_
  refine Gp hok21 6 rfl rfl (fun _ => (Gives.idxR rfl rfl (by assumption) (by omega))) (Gl hok21 7 rfl rfl (Gives.loadE0 rfl H23 (by assumption) (by assumption)) ?_)
  refine Gp hok21 8 rfl rfl (fun _ => (Gives.neqG (enc := colCells) _ _ rfl rfl)) (FG_end hok21 (by kernel_rfl) ?_)
  refine Qseq_normal (Cp rfl (fun hc29 => ?_) (fun hc29 => ?_))
  ·have hxy := hc29
   refine Sr (Am ?_)
   refine Qn (Rb (Qround_ret (Qblk_ret (Qseq_ret (Qfn_ret (hR := ?_))))))
   exact ⟨congrArg Value.bool (Eq.symm (decide_eq_false fun e => hxy (by rw [e, hy] at hx; injection hx with hx; exact hx.symm))), H23.kept⟩
  have hxy : x = y := Classical.not_not.1 hc29
  have hnx : a.take (i + 1) = b.take (i + 1) := by rw [List.take_add_one, List.take_add_one, hst, hx, hy, hxy]
  refine FW_skip (Qblk_normal (Qseq_normal (FW_region (Mv ?_))))
  refine Vv (Gives.addI rfl rfl rfl (by omega)) (Am ?_)
  refine FL_nil ?_
  exact Qround_normal (i + 1) ⟨rfl, rfl, rfl, trivial⟩ ⟨⟨by omega, hnx⟩, H23⟩ (by omega)
 have hil : i = a.length := by omega
 have hab : a = b := by rw [hil, List.take_length, hlen, List.take_length] at hst; exact hst
 refine FW_exit (Qseq_exit (Qround_exit (Qblk_exit (Qseq_normal (Sr (Am ?_))))))
 refine Qn (FW_ret (Qfn_ret (hR := ?_)))
 exact ⟨congrArg Value.bool (Eq.symm (decide_eq_true hab)), H14.kept⟩
end
end Go.Proofs.YtolaedhdjcnijaaGreatDoor
namespace Go.Mw
open Go.RowKit
section
variable {P : Program} {ρ : Operand → Value} {ty : TypeId} {w : World} {x y : Operand}
theorem Gives.toUnsafe {src dst t e : TypeId} {n bytes cells b : Nat} (hs : P.underlying src = some (.pointer t)) (hd : P.underlying dst = some .unsafePointer) [hz : Cells P t n bytes] (hn : n ≠ 0) (hsh : w.shape? b = some (e, cells)) (hc : 0 < cells) (hx : ρ x = .pointer (some ⟨b, 0, none⟩)) :
    Gives P ρ (.convert src dst x) ty w (.pointer (some ⟨b, 0, none⟩)) w := fun _ _ _ _ => by
  obtain ⟨j, ht, hsb⟩ := Option.map_eq_some_iff.1 hz.size
  simp only [Prod.mk.injEq] at hsb
  have := Lib.run_to_unsafe (P := P) w ⟨b, 0, none⟩ hs hd ht (by rw [hsb.1]; exact hn) hsh hc
  simp only [execOp, hx, Sem.run_bind, this, Result.andThen_ok, Sem.run_pure]
theorem Gives.fromUnsafe {src dst u e : TypeId} {n bytes cells b : Nat} (hs : P.underlying src = some .unsafePointer) (hd : P.underlying dst = some (.pointer u)) [hz : Cells P u n bytes] (hsh : w.shape? b = some (e, cells)) (hl : liesAt P P.depth e (cells / P.cellsOf e) 0 u 1 = true) (hx : ρ x = .pointer (some ⟨b, 0, none⟩)) :
    Gives P ρ (.convert src dst x) ty w (.pointer (some ⟨b, 0, none⟩)) w := fun _ _ _ _ => by
  obtain ⟨j, hu, _⟩ := Option.map_eq_some_iff.1 hz.size
  have := Lib.run_from_unsafe (P := P) w ⟨b, 0, none⟩ hs hd hu hsh hl
  simp only [execOp, hx, Sem.run_bind, this, Result.andThen_ok, Sem.run_pure]
theorem Gives.neqPtr {T U te : TypeId} {n bytes b : Nat} (hp : P.underlying T = some (.pointer te)) [hz : Cells P te n bytes] (hx : ρ x = .pointer (some ⟨b, 0, none⟩)) (hy : ρ y = .pointer (some ⟨b, 0, none⟩)) (hg : ∀ x y, (eqGuard .neq T x y (.pointer (some ⟨b, 0, none⟩)) (.pointer (some ⟨b, 0, none⟩))).run P w = .ok () w) :
    Gives P ρ (.binOp .neq T x y U) ty w (.bool false) w :=
  .bin hx hy hg (by
    obtain ⟨j, ht, _⟩ := Option.map_eq_some_iff.1 hz.size
    exact Lib.run_neq_ptr_same (P := P) w ⟨b, 0, none⟩ hp ht)
class IsNoEscape (P : Program) (f : FuncId) : Prop where
 run : ∀ v w, (callFunc f #[v]).run P w = .ok (.value v) w
theorem Gives.noEscape {σ : St} {f : FuncId} [h : IsNoEscape P f] {ats : Array TypeId} {v : Value} (hx : evF σ x = v) : Gives P (evF σ) (.call { callee := .value (.func f), args := #[x], argTypes := ats }) ty w v w := fun _ _ _ _ => by
 have e : (#[] ++ #[x].map (evF σ) ++ #[] : Array Value) = #[v] := by simp [hx]
 show (callFunc f (#[] ++ #[x].map (evF σ) ++ #[])).run P w = _
 rw [e, h.run]
theorem shape_blk {w : World} {b : Nat} {cs : List Value} {e : TypeId} (h : w.heap[b]? = some (.cells cs.toArray e (0, 0))) : w.shape? b = some (e, cs.length) := by
 unfold World.shape?
 rw [h]; simp
theorem Gives.sliceData {ts : Array TypeId} {v : Value} {w' : World} (h : (Builtin.unsafeSliceData_ ts ty #[ρ x]).run P w = .ok v w') : Gives P ρ (.call { callee := .builtin .unsafeSliceData, args := #[x], argTypes := ts }) ty w v w' := fun _ _ _ _ => by
 simp only [execOp, resolve, invoke, builtin, Sem.run_bind, Sem.run_pure, Result.andThen_ok, List.map_toArray, List.map_cons, List.map_nil, h]
theorem Gives.unsafeStr {ts : Array TypeId} {v : Value} {w' : World} (h : (Builtin.unsafeString_ ts ty #[ρ x, ρ y]).run P w = .ok v w') : Gives P ρ (.call { callee := .builtin .unsafeString, args := #[x, y], argTypes := ts }) ty w v w' := fun _ _ _ _ => by
 simp only [execOp, resolve, invoke, builtin, Sem.run_bind, Sem.run_pure, Result.andThen_ok, List.map_toArray, List.map_cons, List.map_nil, h]
end
end Go.Mw
namespace Go.Proofs.YtolaedhdjcnijaaGreatDoor
open Go Go.Mw Go.Lib
set_option maxRecDepth 4000
instance : IsNoEscape Tryz.prog 169 := ⟨fun v w => by
 rw [run_callFunc_extern Tryz.func169 (by kernel_rfl) (by kernel_rfl) (by kernel_rfl) (e := Extern.AbiNoEscape.same) (by kernel_rfl), Lib.run_noEscape]; rfl⟩
def selfP (b : Nat) : Value := .pointer (some ⟨b, 0, none⟩)
def bldH (b : Nat) (l : List UInt8) : HP := exH fun x : Value × Value => star (pureH ((x.1 = .pointer none ∨ x.1 = selfP b) ∧ (l = [] → x.2 = .slice none 0 0))) (star (blk b [x.1, x.2] 124) (bytesH 5 x.2 l))
section
variable {w w₀ : World} {S : Nat → Prop} {rs : List HP}
theorem Sep.openB {b : Nat} {l : List UInt8} (H : Sep w₀ S (bldH b l :: rs) w) : ∃ a v, ((a = .pointer none ∨ a = selfP b) ∧ (l = [] → v = .slice none 0 0)) ∧ Sep w₀ S (blk b [a, v] 124 :: bytesH 5 v l :: rs) w := by
 obtain ⟨x, H1⟩ := H.ex0
 obtain ⟨h, H2⟩ := H1.star0.pure0
 exact ⟨x.1, x.2, h, H2.star0⟩
theorem Sep.shutB {b : Nat} {l : List UInt8} {a v : Value} (ha : (a = .pointer none ∨ a = selfP b) ∧ (l = [] → v = .slice none 0 0)) (H : Sep w₀ S (blk b [a, v] 124 :: bytesH 5 v l :: rs) w) : Sep w₀ S (bldH b l :: rs) w :=
 Sep.pack0 (a, v) (Sep.join0 (Sep.addPure ha (Sep.join0 H)))
theorem Sep.newB {b : Nat} (H : Sep w₀ S (blk b [.pointer none, .slice none 0 0] 124 :: rs) w) : Sep w₀ S (bldH b [] :: rs) w :=
 Sep.shutB ⟨.inl rfl, fun _ => rfl⟩ (H.nilBytes 5).front1
theorem check_fresh {b : Nat} {v : Value} {F : Nat → Prop} (hp : (blk b [.pointer none, v] 124).ok F w) : Rets Tryz.prog 120 [selfP b] w fun r w' => r = .tuple #[] ∧ Turn F (blk b [selfP b, v] 124) w w' := by
 have H := Sep.start1 hp
 refine rets1 Tryz.func120 rfl rfl rfl rfl ?_
 refine Sr (Mv ?_)
 refine Vv (Gives.nilCheck rfl) (Vf ?_)
 refine Ld H ?_
 refine Vv (Gives.eqlNil rfl rfl) (Qn ?_)
 refine Cd rfl (fun hc6 => ?_) (fun hc6 => ?_)
 ·refine FW_region (Mv ?_)
  refine Mv ?_
  refine Vv (Gives.toUnsafe (t := 124) (by kernel_rfl) (by kernel_rfl) (by decide) (shape_blk (H.obj At0)) (by simp) rfl) ?_
  refine Vv (Gives.noEscape rfl) (Vv (Gives.fromUnsafe (u := 124) (by kernel_rfl) (by kernel_rfl) (shape_blk (H.obj At0)) (by kernel_rfl) rfl) ?_)
  refine Vv (Gives.nilCheck rfl) (Vf ?_)
  refine FL_store H (h := fun w15 H15 => ?_)
  refine FL_nil (Qfn_normal (hR := ?_))
  exact ⟨rfl, H15.turn⟩
 exact absurd hc6 (by simp)
theorem check_used {b : Nat} {v : Value} {F : Nat → Prop} (hp : (blk b [selfP b, v] 124).ok F w) : Rets Tryz.prog 120 [selfP b] w fun r w' => r = .tuple #[] ∧ Turn F (blk b [selfP b, v] 124) w w' := by
 have H := Sep.start1 hp
 refine rets1 Tryz.func120 rfl rfl rfl rfl ?_
 refine Sr (Mv ?_)
 refine Vv (Gives.nilCheck rfl) (Vf ?_)
 refine Ld H ?_
 refine Vv (Gives.eqlNil rfl rfl) (Qn ?_)
 refine Cd rfl (fun hc6 => ?_) (fun hc6 => ?_)
 ·exact absurd hc6 (by simp [selfP])
 refine Sr (Mv ?_)
 refine Vv (Gives.nilCheck rfl) (Vf ?_)
 refine Ld H ?_
 refine Mv ?_
 refine Vv (Gives.neqPtr (te := 124) (by kernel_rfl) rfl rfl (fun _ _ => rfl)) (Qn ?_)
 refine Cd rfl (fun hc14 => ?_) (fun hc14 => ?_)
 ·cases hc14
 refine FW_skip (Qfn_normal (hR := ?_))
 exact ⟨rfl, H.turn⟩
theorem check_ok {b : Nat} {a v : Value} {F : Nat → Prop} (ha : a = .pointer none ∨ a = selfP b) (hp : (blk b [a, v] 124).ok F w) : Rets Tryz.prog 120 [selfP b] w fun r w' => r = .tuple #[] ∧ Turn F (blk b [selfP b, v] 124) w w' := by
 rcases ha with rfl | rfl
 ·exact check_fresh hp
 exact check_used hp
theorem writeByte_ok {b : Nat} {l : List UInt8} {F : Nat → Prop} (c : UInt8) (hp : (bldH b l).ok F w) (hl : l.length ≤ 100000000) : Rets Tryz.prog 181 [selfP b, B c] w fun r w' => r = .nilIface ∧ Turn F (bldH b (l ++ [c])) w w' := by
 obtain ⟨a, v, ha, H⟩ := Sep.openB (Sep.start1 hp)
 refine rets2 Tryz.func181 rfl rfl rfl rfl ?_
 refine Sr (Am ?_)
 refine Nx (Mv ?_)
 obtain ⟨F0, hp0, hS0, hput0⟩ := H.focus At0
 refine FL_call (check_ok ha.1 hp0) rfl rfl (fun v' w4 hv => ?_)
 obtain ⟨rfl, hkk, F1, hq, hs⟩ := hv
 have H4 := hput0 _ F1 _ hkk hq hs
 refine Nx (Mv ?_)
 refine Mv ?_
 refine Vv (Gives.nilCheck rfl) (Vf ?_)
 refine Ld H4 ?_
 refine Mv ?_
 refine FL_buildSlice H4 (xs := [.tmp 12]) (out := [c].map B) (Elems.one rfl rfl Elems.nil) rfl rfl rfl (fun bs w12 H12 k11 => ?_)
 refine FL_appendB H12 (news := [c]) At1 (by simp; omega) (h := ?_)
 intro v2 w14 H14
 obtain ⟨A2, c2, rfl, _⟩ := Sep.rowForm H14 At1
 refine Vv (Gives.nilCheck rfl) (Vf ?_)
 refine FL_store H14 (h := fun w18 H18 => ?_)
 refine Nx (Am ?_)
 refine Qn (FW_ret (Qfn_ret (hR := ?_)))
 exact ⟨rfl, (Sep.shutB ⟨.inr rfl, fun e => absurd e (by simp)⟩ H18).turn⟩
theorem writeString_ok {b : Nat} {l news : List UInt8} {F : Nat → Prop} (hne : news ≠ []) (hp : (bldH b l).ok F w) (hl : l.length + news.length ≤ 100000000) : Rets Tryz.prog 79 [selfP b, str news] w fun r w' => r = .tuple #[I news.length, .nilIface] ∧ Turn F (bldH b (l ++ news)) w w' := by
 obtain ⟨a, v, ha, H⟩ := Sep.openB (Sep.start1 hp)
 refine rets2 Tryz.func79 rfl rfl rfl rfl ?_
 refine Sr (Am ?_)
 refine Am ?_
 refine Nx (Mv ?_)
 obtain ⟨F0, hp0, hS0, hput0⟩ := H.focus At0
 refine FL_call (check_ok ha.1 hp0) rfl rfl (fun v' w5 hv => ?_)
 obtain ⟨rfl, hkk, F1, hq, hs⟩ := hv
 have H5 := hput0 _ F1 _ hkk hq hs
 refine Nx (Mv ?_)
 refine Mv ?_
 refine Vv (Gives.nilCheck rfl) (Vf ?_)
 refine Ld H5 ?_
 refine Mv ?_
 refine FL_appendT H5 (news := news) At1 (by omega) (h := ?_)
 intro v2 w13 H13
 obtain ⟨A2, c2, rfl, _⟩ := Sep.rowForm H13 At1
 refine Vv (Gives.nilCheck rfl) (Vf ?_)
 refine FL_store H13 (h := fun w17 H17 => ?_)
 refine Nx (Mv ?_)
 refine Vt ?_
 refine Am ?_
 refine Am ?_
 refine Qn (FW_ret (Qfn_ret (hR := ?_)))
 exact ⟨rfl, (Sep.shutB ⟨.inr rfl, fun e => absurd (List.append_eq_nil_iff.1 e).2 hne⟩ H17).turn⟩
theorem kept_freeze {w : World} {F : Nat → Prop} {g n : Nat} (hF : F g) : Kept F w (w.freeze ⟨g, 0, none⟩ n) := by
 unfold World.freeze
 split
 ·exact Kept.refl _ _
 refine ⟨rfl, rfl, rfl, by simp, fun k hk hn => ?_⟩
 rw [Array.getElem?_modify, if_neg (fun e => hn (by rw [← e]; exact hF))]
theorem string_some {b : Nat} {l : List UInt8} {F : Nat → Prop} (hp : (bldH b l).ok F w) (hl : l.length ≤ 100000000) (h0 : l ≠ []) : Rets Tryz.prog 81 [selfP b] w fun r w' => r = str l ∧ Turn F emp w w' := by
 obtain ⟨a, v, ha, H⟩ := Sep.openB (Sep.start1 hp)
 obtain ⟨A, c, rfl, hle, _, hnone⟩ := Sep.rowForm H At1
 have hlen : l.length ≠ 0 := fun e => h0 (List.eq_nil_of_length_eq_zero e)
 refine rets1 Tryz.func81 rfl rfl rfl rfl ?_
 refine Sr (Am ?_)
 refine Qn (FW_seq (FW_drawS rfl H (h := fun hok2 w4 H4 => ?_)))
 refine Gm hok2 0 ?_
 refine Gp hok2 1 rfl rfl (fun _ => (Gives.nilCheck rfl)) (Gp hok2 2 rfl rfl (fun _ => (Gives.field0 rfl)) ?_)
 refine FGload hok2 3 H4 (h := ?_)
 refine Gm hok2 5 ?_
 refine Gp hok2 6 rfl rfl (fun _ => (Gives.nilCheck rfl)) (Gp hok2 7 rfl rfl (fun _ => (Gives.field0 rfl)) ?_)
 refine FGload hok2 8 H4 (h := ?_)
 refine Gp hok2 9 rfl rfl (fun _ => (Gives.lenSlice rfl)) ?_
 obtain ⟨F0, hp0, hS0, hput0⟩ := H4.focus At1
 have hrow := Sep.rowAt H4 At1
 obtain ⟨g, hA, hF0, hsh⟩ : ∃ g, A = some ⟨g, 0, none⟩ ∧ F0 g ∧ w4.shape? g = some (5, c) := by
  rcases hp0.1.2 with ⟨hv, h1⟩ | ⟨g, cap, cur, hv, _, hh, hle2, _, hsz, _⟩
  ·exact absurd h1 hlen
  injection hv with e1 e2 e3
  refine ⟨g, e1, (hp0.2 g).2 (by rw [e1]; rfl), ?_⟩
  unfold World.shape?
  rw [hh, e3]
  simp only [hsz, Nat.mul_one]
 subst hA
 refine FGval (C := fun v' w' => v' = selfP g ∧ w' = w4) hok2 4 [(9, true), (8, false), (7, true), (6, true), (5, true)] rfl (by kernel_rfl) ⟨_, _, Gives.sliceData (Lib.run_unsafeSliceData_row _ _ _ ⟨g, 0, none⟩ l.length c (by omega)), rfl, rfl⟩ (by kernel_rfl) (by kernel_rfl) (fun v' w13 hv => ?_)
 obtain ⟨rfl, rfl⟩ := hv
 have H13 := H4
 refine ⟨Stab_pure (Stab_load H13 (h := Stab_pure (Stab_pure (Stab_pure (Stab_nil))))), ?_⟩
 refine FGval (C := fun v' w' => v' = str l ∧ w' = w13.freeze ⟨g, 0, none⟩ l.length) hok2 10 [] rfl (by kernel_rfl) ⟨_, _, Gives.unsafeStr (Lib.run_unsafeString_row (P := Tryz.prog) _ _ _ _ 5 (by kernel_rfl) (by kernel_rfl) g c hsh l h0 hle (by omega) (fun j x hj => by
  obtain ⟨ad, e1, hc⟩ := hrow.at_ (by omega)
  injection e1 with e1
  subst e1
  exact hc j _ (by rw [List.getElem?_map, hj]; rfl))), rfl, rfl⟩ (by kernel_rfl) (by kernel_rfl) (fun v' w15 hv => ?_)
 obtain ⟨rfl, rfl⟩ := hv
 have H15 := hput0 _ (fun _ => False) emp (kept_freeze (n := l.length) hF0) (emp_ok (fun _ => id)) (fun b hb => hb.elim)
 refine ⟨Stab_nil, ?_⟩
 refine Gp hok2 11 rfl rfl (fun _ => Gives.assign rfl) (FG_end hok2 (by kernel_rfl) ?_)
 refine Qseq_normal (FW_ret (Qfn_ret (hR := ?_)))
 exact ⟨rfl, H15.front1.first.turn⟩
theorem string_nil {b : Nat} {F : Nat → Prop} (hp : (bldH b []).ok F w) : Rets Tryz.prog 81 [selfP b] w fun r w' => r = str [] ∧ Turn F emp w w' := by
 obtain ⟨a, v, ha, H⟩ := Sep.openB (Sep.start1 hp)
 have hv := ha.2 rfl
 subst hv
 refine rets1 Tryz.func81 rfl rfl rfl rfl ?_
 refine Sr (Am ?_)
 refine Qn (FW_seq (FW_drawS rfl H (h := fun hok2 w4 H4 => ?_)))
 refine Gm hok2 0 ?_
 refine Gp hok2 1 rfl rfl (fun _ => (Gives.nilCheck rfl)) (Gp hok2 2 rfl rfl (fun _ => (Gives.field0 rfl)) ?_)
 refine FGload hok2 3 H4 (h := ?_)
 refine Gm hok2 5 ?_
 refine Gp hok2 6 rfl rfl (fun _ => (Gives.nilCheck rfl)) (Gp hok2 7 rfl rfl (fun _ => (Gives.field0 rfl)) ?_)
 refine FGload hok2 8 H4 (h := ?_)
 refine Gp hok2 9 rfl rfl (fun _ => (Gives.lenSlice rfl)) (FGval (C := fun v' w' => v' = .pointer none ∧ w' = w4) hok2 4 [(9, true), (8, false), (7, true), (6, true), (5, true)] rfl (by kernel_rfl) ⟨_, _, Gives.sliceData (Lib.run_unsafeSliceData_nil _ _ _ 0 0), rfl, rfl⟩ (by kernel_rfl) (by kernel_rfl) (fun v' w13 hv => ?_))
 obtain ⟨rfl, rfl⟩ := hv
 have H13 := H4
 refine ⟨Stab_pure (Stab_load H13 (h := Stab_pure (Stab_pure (Stab_pure (Stab_nil))))), ?_⟩
 refine FGval (C := fun v' w' => v' = str [] ∧ w' = w13) hok2 10 [] rfl (by kernel_rfl) ⟨_, _, Gives.unsafeStr (Lib.run_unsafeString_none (P := Tryz.prog) _ _ _ _ none), rfl, rfl⟩ (by kernel_rfl) (by kernel_rfl) (fun v' w15 hv => ?_)
 obtain ⟨rfl, rfl⟩ := hv
 have H15 := H13
 refine ⟨Stab_nil, ?_⟩
 refine Gp hok2 11 rfl rfl (fun _ => Gives.assign rfl) (FG_end hok2 (by kernel_rfl) ?_)
 refine Qseq_normal (FW_ret (Qfn_ret (hR := ?_)))
 exact ⟨rfl, ⟨H15.kept, fun _ => False, emp_ok (fun _ => id), fun b hb => hb.elim⟩⟩
theorem string_ok {b : Nat} {l : List UInt8} {F : Nat → Prop} (hp : (bldH b l).ok F w) (hl : l.length ≤ 100000000) : Rets Tryz.prog 81 [selfP b] w fun r w' => r = str l ∧ Turn F emp w w' := by
 by_cases h : l = []
 ·subst h; exact string_nil hp
 exact string_some hp hl h
end
end Go.Proofs.YtolaedhdjcnijaaGreatDoor
namespace Go.Mw.K32
open Go.Mw
open Go.RowKit

def keyIs (k : Int) (e : MapEntry) : Bool := match e.key with
 | .int .i32 a => a == k
 | _ => false
def mget (es : List MapEntry) (k : Int) : Option Value := (es.find? (keyIs k)).map (·.val)
def intKeys (es : List MapEntry) : Prop := ∀ e ∈ es, ∃ a, e.key = .int .i32 a
section
variable {w₀ w w' : World} {S : Nat → Prop} {rs : List HP} {put : HP → List HP} {P : Program}
theorem findNow_int (k : Int) : ∀ (es : List MapEntry) (i : Nat), intKeys es → ∃ r, Instr.findNow (.int .i32) (.int .i32 k) es i = some r ∧ r.map (·.2) = mget es k ∧
    (∀ j v, r = some (j, v) → ∃ m, j = i + m ∧ ∃ e, es[m]? = some e ∧ keyIs k e = true ∧ es.find? (keyIs k) = some e ∧ ∀ m' e', m' < m → es[m']? = some e' → keyIs k e' = false) := by
  intro es
  induction es with
  | nil => intro i _; exact ⟨none, rfl, rfl, fun _ _ h => by cases h⟩
  | cons e es ih =>
    intro i hk
    obtain ⟨a, ha⟩ := hk e List.mem_cons_self
    obtain ⟨r, h1, h2, h3⟩ := ih (i + 1) fun x hx => hk x (List.mem_cons_of_mem _ hx)
    have hs : Instr.sameNow (.int .i32) (.int .i32 k) e.key = some (k == a) := by rw [ha]; simp [Instr.sameNow]
    have hki : keyIs k e = (a == k) := by unfold keyIs; rw [ha]
    by_cases hka : k = a
    · subst hka
      have hkt : keyIs k e = true := by rw [hki]; simp
      refine ⟨some (i, e.val), ?_, ?_, ?_⟩
      · unfold Instr.findNow; rw [hs]; simp
      · simp [mget, hkt]
      rintro j v hjv
      injection hjv with hjv
      injection hjv with h4 h5
      exact ⟨0, by omega, e, rfl, hkt, by simp [hkt], fun m' _ hm => by omega⟩
    have hkf : keyIs k e = false := by rw [hki]; simpa using fun h : a = k => hka h.symm
    refine ⟨r, ?_, ?_, ?_⟩
    · unfold Instr.findNow; rw [hs, h1]
      have : (k == a) = false := by simpa using hka
      rw [this]
    · rw [h2]; simp [mget, hkf]
    rintro j v hjv
    obtain ⟨m, hm, e', he', hk', hf', hlt⟩ := h3 j v hjv
    refine ⟨m + 1, by omega, e', by simpa using he', hk', by simp [hkf, hf'], fun m' e'' hm' he'' => ?_⟩
    cases m' with
    | zero => simp at he''; rw [← he'']; exact hkf
    | succ m' => exact hlt m' e'' (by omega) (by simpa using he'')
theorem run_findKey_int {kt : TypeId} (hu : P.underlying kt = some (.int .i32)) (k : Int) (es : List MapEntry) (hk : intKeys es) :
    ∃ r, (Instr.findKey kt (.int .i32 k) es).run P w = .ok r w ∧ r.map (·.2) = mget es k ∧
    (∀ j v, r = some (j, v) → ∃ e, es[j]? = some e ∧ keyIs k e = true ∧ ∀ m' e', m' < j → es[m']? = some e' → keyIs k e' = false) := by
  obtain ⟨r, h1, h2, h3⟩ := findNow_int k es 0 hk
  refine ⟨r, by simp [Instr.findKey, run_underlying hu, h1], h2, fun j v hjv => ?_⟩
  obtain ⟨m, hm, e, he, hke, _, hlt⟩ := h3 j v hjv
  have : j = m := by omega
  subst this
  exact ⟨e, he, hke, hlt⟩
theorem run_checkKey_int {kt : TypeId} (hu : P.underlying kt = some (.int .i32)) (b : Bool) (k : Int) (d : Nat) : (Instr.checkKey b (d + 1) kt (.int .i32 k)).run P w = .ok () w := by
 simp [Instr.checkKey, run_underlying hu]
theorem run_getObj_map {b : Nat} {es : Array MapEntry} {c : Nat} (h : w.heap[b]? = some (.map es c)) : (getObj b).run P w = .ok (.map es c) w := by
 simp [getObj, Sem.run, h]
end
end Go.Mw.K32
namespace Go.Mw
open Go.RowKit
section
variable {P : Program} {ρ : Operand → Value} {ty : TypeId} {w w₀ : World} {x y z : Operand} {S : Nat → Prop} {rs : List HP} {put : HP → List HP}
theorem acts_insert {T k e : TypeId} [hm : IsMap P T k e] [hk : IsInt P k .i32] {b : Nat} {es : Array MapEntry} {c : Nat} {i : Int} {v : Value}
    (H : Sep w₀ S rs w) (hat : At rs (obj b (.map es c)) put) (hkeys : K32.intKeys es.toList) (hno : K32.mget es.toList i = none) (hx : ρ x = .map (some b)) (hy : ρ y = .int .i32 i) (hz : ρ z = v) :
    ∃ w', Acts P ρ (.insert T x y z) ty w w' ∧ Sep w₀ S (put (obj b (.map (es.push { key := .int .i32 i, val := v, born := c }) (c + 1)))) w' := by
  have hb := H.obj hat
  obtain ⟨r, h1, h2, _⟩ := K32.run_findKey_int (P := P) (w := w) hk.und i es.toList hkeys
  have hr : r = none := by
    cases r with
    | none => rfl
    | some jv => rw [hno] at h2; cases h2
  subst hr
  have hck := K32.run_checkKey_int (P := P) (w := w) hk.und false i 9999
  have hset : ∀ o : Obj, (setObj b o).run P w = .ok () { w with heap := w.heap.setIfInBounds b o } := fun o => by simp [Go.setObj, Sem.run, hb]
  have hlt := lt_of_get hb
  refine ⟨{ w with heap := w.heap.setIfInBounds b (.map (es.push { key := .int .i32 i, val := v, born := c }) (c + 1)) }, fun _ _ _ _ => ?_, H.setObj hat ⟨rfl, rfl, rfl, by simp, fun j hj hne => by simp only [Array.getElem?_setIfInBounds]; rw [if_neg (fun e => hne e.symm)]⟩ (by simp [hlt])⟩
  simp only [execOp, hx, hy, hz, Instr.mapUpdate, Sem.run_bind, run_underlying hm.und, Result.andThen_ok, run_getObj_map hb]
  rw [hck]
  simp only [Result.andThen_ok, h1, hset, Sem.run_pure]
theorem FL_insert {r : Option Nat} {n : Nat} {ops : Array Oper} {Q : Post} {rest : List Oper} {σ : St} {pos : String} {after : Array Edge} {T k e : TypeId} [hm : IsMap P T k e] [hk : IsInt P k .i32] {b : Nat} {es : Array MapEntry} {c : Nat} {i : Int} {v : Value}
    (H : Sep w₀ S rs w) (hat : At rs (obj b (.map es c)) put) (hkeys : K32.intKeys es.toList) (hno : K32.mget es.toList i = none) (hx : evF σ x = .map (some b) := by exact rfl) (hy : evF σ y = .int .i32 i := by exact rfl) (hz : evF σ z = v := by exact rfl)
    (h : ∀ w', Sep w₀ S (put (obj b (.map (es.push { key := .int .i32 i, val := v, born := c }) (c + 1)))) w' → FL P r n ops Q rest σ w') : FL P r n ops Q ({ dst := none, op := .insert T x y z, type := ty, pos := pos, after := after, guard := none } :: rest) σ w := by
  obtain ⟨w', ha, hs⟩ := acts_insert (P := P) (ty := ty) (T := T) H hat hkeys hno hx hy hz
  exact FL_act ha rfl (h w' hs)
theorem gives_lookup2 {T k e : TypeId} [hm : IsMap P T k e] [hk : IsInt P k .i32] {zv : Value} [hz : Zero P e zv] {b : Nat} {es : Array MapEntry} {c : Nat} {i : Int}
    (hb : w.heap[b]? = some (.map es c)) (hkeys : K32.intKeys es.toList) (hx : ρ x = .map (some b)) (hy : ρ y = .int .i32 i) : Gives P ρ (.lookup T x y true) ty w (.tuple #[(K32.mget es.toList i).getD zv, .bool (K32.mget es.toList i).isSome]) w := by
  obtain ⟨r, h1, h2, _⟩ := K32.run_findKey_int (P := P) (w := w) hk.und i es.toList hkeys
  intro _ _ _ _
  rw [← h2]
  have hck := K32.run_checkKey_int (P := P) (w := w) hk.und es.isEmpty i 9999
  simp only [execOp, hx, hy, Instr.lookup, Sem.run_bind, run_underlying hm.und, Result.andThen_ok, run_getObj_map hb, Sem.run_pure]
  rw [hck]
  simp only [Result.andThen_ok, h1]
  cases r with
  | none => simp [hz.run]
  | some jv => obtain ⟨j, v⟩ := jv; simp
theorem gives_rangeT {T : TypeId} [ht : IsStr P T] {s : ByteArray} (H : Sep w₀ S rs w) (hx : ρ x = .string s) : ∃ k w', Gives P ρ (.range T x) ty w (.pointer (some ⟨k, 0, none⟩)) w' ∧ Sep w₀ S (obj k (.stringIter s 0) :: rs) w' := by
 refine ⟨w.heap.size, w.alloc (.stringIter s 0), fun _ _ _ _ => ?_, H.alloc _⟩
 have := run_range_string (P := P) w T s ht.und
 simp only [execOp, hx, Sem.run_bind, this, Result.andThen_ok, Sem.run_pure]
 rfl
theorem gives_nextT {s : ByteArray} {k pos : Nat} (H : Sep w₀ S rs w) (hat : At rs (obj k (.stringIter s pos)) put) (hx : ρ x = .pointer (some ⟨k, 0, none⟩)) (h : pos < s.size) :
    ∃ w', Gives P ρ (.next x true) ty w (.tuple #[.bool true, .int .i64 pos, .int .i32 (Utf8.decode s pos).1]) w' ∧ Sep w₀ S (put (obj k (.stringIter s (pos + (Utf8.decode s pos).2)))) w' := by
  have hk := H.obj hat
  have hlt := lt_of_get hk
  have := Lib.run_next_any_at (P := P) w k s pos ty hk h
  refine ⟨w.iterAt k s (pos + (Utf8.decode s pos).2), fun _ _ _ _ => ?_, H.setObj hat ⟨rfl, rfl, rfl, ?_, fun j hj hne => ?_⟩ (Lib.iterAt_heap w k s pos _ hk)⟩
  · simp only [execOp, hx, Sem.run_bind, this, Result.andThen_ok, Sem.run_pure]
  · simp [World.iterAt]
  simp only [World.iterAt, Array.getElem?_setIfInBounds]; rw [if_neg (fun e => hne e.symm)]
theorem gives_nextEnd {s : ByteArray} {k pos : Nat} (H : Sep w₀ S rs w) (hat : At rs (obj k (.stringIter s pos)) put) (hx : ρ x = .pointer (some ⟨k, 0, none⟩)) (h : ¬ pos < s.size) : Gives P ρ (.next x true) ty w (.tuple #[.bool false]) w := fun _ _ _ _ => by
 have := Lib.run_next_end_at (P := P) w k s pos ty (H.obj hat) h
 simp only [execOp, hx, Sem.run_bind, this, Result.andThen_ok, Sem.run_pure]
end
end Go.Mw
namespace Go.Proofs.YtolaedhdjcnijaaGreatDoor
open Go Go.Mw Go.Lib
set_option maxRecDepth 4000
theorem keys_nil : K32.intKeys (#[] : Array MapEntry).toList := fun e he => by simp at he
theorem keys_push {es : Array MapEntry} {k : Int} {v : Value} {c : Nat} (h : K32.intKeys es.toList) : K32.intKeys (es.push { key := .int .i32 k, val := v, born := c }).toList := by
 intro e he
 rw [Array.toList_push, List.mem_append, List.mem_singleton] at he
 rcases he with he | rfl
 ·exact h e he
 exact ⟨k, rfl⟩
def shortE (k : Int) (v : Int) (b : Nat) : MapEntry := { key := .int .i32 k, val := .int .u8 v, born := b }
def shortsA : Array MapEntry := #[shortE 34 34 0, shortE 92 92 1, shortE 8 98 2, shortE 12 102 3, shortE 10 110 4, shortE 13 114 5, shortE 9 116 6]
def shortM (r : Int) : Option UInt8 := if r = 34 then some 34 else if r = 92 then some 92 else if r = 8 then some 98 else if r = 12 then some 102 else if r = 10 then some 110 else if r = 13 then some 114 else if r = 9 then some 116 else none
theorem shorts_get (r : Int) : K32.mget shortsA.toList r = (shortM r).map B := by
 unfold K32.mget shortM shortsA
 simp only [List.find?_cons, List.find?_nil, K32.keyIs, shortE]
 by_cases h1 : r = 34
 ·subst h1; rfl
 by_cases h2 : r = 92
 ·subst h2; rfl
 by_cases h3 : r = 8
 ·subst h3; rfl
 by_cases h4 : r = 12
 ·subst h4; rfl
 by_cases h5 : r = 10
 ·subst h5; rfl
 by_cases h6 : r = 13
 ·subst h6; rfl
 by_cases h7 : r = 9
 ·subst h7; rfl
 have e : ∀ k : Int, r ≠ k → (k == r) = false := fun k h => by simpa using fun e => h e.symm
 simp only [e _ h1, e _ h2, e _ h3, e _ h4, e _ h5, e _ h6, e _ h7, if_neg h1, if_neg h2, if_neg h3, if_neg h4, if_neg h5, if_neg h6, if_neg h7]
 rfl
theorem shorts_keys : K32.intKeys shortsA.toList := by
 intro e he
 simp only [shortsA, List.mem_cons, List.not_mem_nil, or_false] at he
 rcases he with rfl | rfl | rfl | rfl | rfl | rfl | rfl <;> exact ⟨_, rfl⟩
section
variable {w : World}
theorem short_ok : Rets Tryz.prog 182 [] w fun v w' => ∃ m : Nat, v = .map (some m) ∧ True ∧ Turn noB (obj m (.map shortsA 7)) w w' := by
 have H := Sep.start0 w
 refine rets0 Tryz.func182 rfl rfl rfl ?_
 refine Sr (Am ?_)
 refine Nx (FL_makeMap H (h := fun b2 w3 H3 k2 => ?_))
 refine FL_insert H3 At0 keys_nil rfl (h := fun w5 H5 => ?_)
 refine FL_insert H5 At0 (keys_push keys_nil) rfl (h := fun w7 H7 => ?_)
 refine FL_insert H7 At0 (keys_push (keys_push keys_nil)) rfl (h := fun w9 H9 => ?_)
 refine FL_insert H9 At0 (keys_push (keys_push (keys_push keys_nil))) rfl (h := fun w11 H11 => ?_)
 refine FL_insert H11 At0 (keys_push (keys_push (keys_push (keys_push keys_nil)))) rfl (h := fun w13 H13 => ?_)
 refine FL_insert H13 At0 (keys_push (keys_push (keys_push (keys_push (keys_push keys_nil))))) rfl (h := fun w15 H15 => ?_)
 refine FL_insert H15 At0 (keys_push (keys_push (keys_push (keys_push (keys_push (keys_push keys_nil)))))) rfl (h := fun w17 H17 => ?_)
 refine Mv ?_
 refine Am ?_
 refine Qn (FW_ret (Qfn_ret (hR := ?_)))
 exact ⟨_, rfl, trivial, H17.turn⟩
end
end Go.Proofs.YtolaedhdjcnijaaGreatDoor
