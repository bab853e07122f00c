/-
 The program's Type, walked.
-/
import Derived.Test.YtmkaahkbhdlniaaGreatDoorKn20
set_option linter.unusedVariables false
set_option linter.unusedSimpArgs false
namespace Go.Proofs.YtmkaahkbhdlniaaGreatDoor
open Go Go.Mw Go.Lib
set_option maxRecDepth 4000
def takeV (K : Nat) (A : Option Addr) (n c k : Nat) : Value := if k ≤ n then .slice (if c = n - k then A else A.map (·.add ((n - k) * K))) k (c - (n - k)) else .slice none 0 0
def leftV (A : Option Addr) (n c k : Nat) : Value := if k ≤ n then .slice A (n - k) (n - k) else .slice A n c
theorem takesS_le (k : Int) : takesS k ≤ 2 := by unfold takesS; (repeat' split) <;> omega
theorem mayS_kind {x : StepM} (h : mayS x = true) : 1 ≤ x.kind ∧ x.kind ≤ 18 := by
 unfold mayS at h
 repeat' split at h
 all_goals first | omega | (have := of_decide_eq_true h; omega)
theorem takesS_zero' {k : Int} : takesS k = 0 ↔ k < 7 := by
 unfold takesS
 split
 ·simp [*]
 split <;> simp <;> omega
theorem some2_of {α : Type} {k : Int} {st : List α} {d : α} (h7 : 7 ≤ k) (hk : takesS k ≤ st.length) : Some2 k (st.drop (st.length - takesS k)) (st.getD (st.length - takesS k) d) (st.getD (st.length - 1) d) := by
 unfold takesS at hk ⊢
 rw [if_neg (by omega)] at hk ⊢
 by_cases h1 : k = 10 ∨ k = 15 ∨ k = 16 ∨ k = 18
 ·rw [if_pos h1] at hk ⊢
  left
  refine ⟨?_, rfl, h1⟩
  have hlt : st.length - 1 < st.length := by omega
  rw [List.drop_eq_getElem_cons hlt, List.drop_of_length_le (by omega), List.getD_eq_getElem?_getD, List.getElem?_eq_getElem hlt]
  rfl
 rw [if_neg h1] at hk ⊢
 right
 refine ⟨?_, by omega⟩
 have hlt : st.length - 2 < st.length := by omega
 have hlt2 : st.length - 2 + 1 < st.length := by omega
 have e : st.length - 1 = st.length - 2 + 1 := by omega
 rw [e, List.drop_eq_getElem_cons hlt, List.drop_eq_getElem_cons hlt2, List.drop_of_length_le (by omega), List.getD_eq_getElem?_getD, List.getElem?_eq_getElem hlt, List.getD_eq_getElem?_getD, List.getElem?_eq_getElem hlt2]
 rfl
def resS (cols : List ColM) (st : List TypeM) (x : StepM) : Option TypeM :=
 if takesS x.kind = 0 then leafT cols x else madeT x.kind (st.getD (st.length - takesS x.kind) type0) (st.getD (st.length - 1) type0)
theorem stepT_res' {cols : List ColM} {st : List TypeM} {x : StepM} (h1 : mayS x = true) (h2 : takesS x.kind ≤ st.length) : stepT cols st x = (resS cols st x).map fun t => st.take (st.length - takesS x.kind) ++ [t] := by
 unfold stepT resS
 dsimp only
 rw [if_neg (by rw [h1]; simp; omega)]
theorem stepT_no' {cols : List ColM} {st : List TypeM} {x : StepM} (h : mayS x = false ∨ st.length < takesS x.kind) : stepT cols st x = none := by
 unfold stepT
 dsimp only
 rw [if_pos h]
theorem Sep.capD {α : Type} {enc : α → List Value} {k e n c : Nat} {l : List α} {A : Option Addr} {w w₀ : World} {S : Nat → Prop} {rs : List HP} {put : HP → List HP} (H : Sep w₀ S rs w) (hat : At rs (rowD e k enc (.slice A n c) l) put) : c ≤ 9223372036854775807 := by
 obtain ⟨F, hp, _, _⟩ := H.focus hat
 rcases hp.1.2 with ⟨hv, h0⟩ | ⟨g, cap, cur, hv, _, hh, hle, hmax, _⟩
 ·injection hv with _ _ h; omega
 injection hv with _ _ h; unfold maxLen at hmax; omega
theorem row_from {α : Type} {enc : α → List Value} {k : Nat} [hk : EncK enc k] {w : World} {A : Option Addr} {l : List α} {c j : Nat} (h : Rd w A enc k l) (hc : l.length ≤ c) (hc2 : c ≤ 9223372036854775807) (hj : j ≤ l.length) : RowIn w (.slice (if c = l.length - j then A else A.map (·.add ((l.length - j) * k))) j (c - (l.length - j))) enc k (l.drop (l.length - j)) := by
 refine ⟨if c = l.length - j then A else A.map (·.add ((l.length - j) * k)), c - (l.length - j), ?_, ⟨?_, ?_⟩, h.fromC (l.length - j) hc⟩
 ·rw [List.length_drop, show l.length - (l.length - j) = j by omega]
 ·rw [List.length_drop]; omega
 omega
section
variable {w : World}
theorem typesTakes {b E n c k : Nat} {A : Option Addr} {F : Nat → Prop} {f : FuncId} (hp : (blk b [.slice A n c] E).ok F w) (hk : k ≤ 1000000)
    (hyes : k ≤ n → Rets Tryz.prog f [.pointer (some ⟨b, 0, none⟩), I k] w fun v w' => v = .tuple #[.slice (if c = n - k then A else A.map (·.add ((n - k) * 2))) k (c - (n - k)), .bool true] ∧ Turn F (blk b [.slice A (n - k) (n - k)] E) w w')
    (hno : n < k → Rets Tryz.prog f [.pointer (some ⟨b, 0, none⟩), I k] w fun v w' => v = .tuple #[.slice none 0 0, .bool false] ∧ Turn F (blk b [.slice A n c] E) w w') :
    Rets Tryz.prog f [.pointer (some ⟨b, 0, none⟩), I k] w fun v w' => v = .tuple #[takeV 2 A n c k, .bool (decide (k ≤ n))] ∧ Turn F (blk b [leftV A n c k] E) w w' := by
  by_cases h : k ≤ n
  · rw [takeV, leftV, if_pos h, if_pos h, decide_eq_true h]; exact hyes h
  rw [takeV, leftV, if_neg h, if_neg h, decide_eq_false h]; exact hno (by omega)
attribute [local irreducible] mayS mayT leafT madeT
theorem typeE_ok {cols : List ColM} {l : List StepM} {vc vl : Value} (hc : RowIn w vc colCells 7 cols) (hl : RowIn w vl stepCells 3 l) (hx : ∀ x ∈ l, fits x.n) (hT : TabsU w) : Rets Tryz.prog 17 [vc, vl] w fun v w' => v = .tuple #[agg (typeCells (typeS cols l).1), I (typeS cols l).2] ∧ Kept noB w w' := by
  have hcc := hc
  obtain ⟨A, m, rfl, ⟨hm, hm'⟩, hA⟩ := hc
  obtain ⟨C, n, rfl, ⟨hn, hn'⟩, hC⟩ := hl
  have H := Sep.start0 w
  obtain ⟨res, hres⟩ : ∃ res, res = typeS cols l := ⟨_, rfl⟩
  rw [← hres]
  unfold typeS at hres
  refine retsC2 Tryz.func17 rfl rfl rfl rfl ?_
  refine Sr (FL_alloc H (h := fun b4 w2 H2 k1 => ?_))
  refine Am ?_
  refine Qn (FW_seq (Sr (Mv ?_)))
  refine Vs ?_
  refine Vg ?_
  refine Qn (Cp rfl (fun hc7 => ?_) (fun hc7 => ?_))
  · rw [if_pos (by omega)] at hres
    refine Sr (Vv (Gives.build (out := typeCells type0) Fills.nil) (FL_storeAll H2 (h := fun w11 H11 => ?_)))
    refine Am ?_
    refine Qn (Rs (QfnC_ret (h := ?_)))
    exact ⟨_, resC2 H11, by rw [hres]; rfl, H11.kept⟩
  rw [if_neg (by omega)] at hres
  refine Sk (Sr (FL_alloc H2 (h := fun b6 w16 H16 k15 => ?_)))
  refine Qn (FW_seq (Sr (Mv ?_)))
  refine Vs ?_
  refine Mv ?_
  refine Qn (FW_block ?_)
  have H21 := Sep.nilD H16 29 2 typeCells
  refine FW_loop' (fun x : Nat × List TypeM × Value => [(0, .slice A cols.length m), (4, .pointer (some ⟨b4, 0, none⟩)), (6, .pointer (some ⟨b6, 0, none⟩)), (16, .slice C l.length n), (17, I l.length), (18, I x.1)]) (fun x w' => (x.1 ≤ l.length ∧ x.2.1.length ≤ x.1 ∧ runT cols x.2.1 (l.drop x.1) = runT cols [] l) ∧ Sep w noB [rowD 29 2 typeCells x.2.2 x.2.1, blk b6 [x.2.2] 77, blk b4 (typeCells type0) 29] w') (fun x _ => l.length - x.1) (0, [], .slice none 0 0) ⟨rfl, rfl, rfl, rfl, rfl, rfl, trivial⟩ ⟨⟨Nat.zero_le _, Nat.le_refl _, rfl⟩, H21⟩ (fun x τ w21 hI => ?_)
  obtain ⟨i, st, v0⟩ := x
  obtain ⟨⟨hi, hsl, hst⟩, H21⟩ := hI
  dsimp only at hi hsl hst H21
  obtain ⟨B, cb, rfl, hcb, hB⟩ := Sep.formD H21 At0
  try simp only [upds, like, upd_ds, und_ds]
  refine Sr (Vl ?_)
  refine Qn (FW_seq (Cp rfl (fun hc23 => ?_) (fun hc23 => ?_)))
  · have hlt : i < l.length := by omega
    obtain ⟨x, hx'⟩ := get_some hlt
    have hdr : l.drop i = x :: l.drop (i + 1) := by
      rw [List.drop_eq_getElem_cons hlt]; rw [List.getElem?_eq_getElem hlt] at hx'; injection hx' with hx'; rw [hx']
    rw [hdr, runT] at hst
    have hfx := hx x (List.mem_of_getElem? hx')
    have hk2 := takesS_le x.kind
    refine Sk (FW_seq (FW_block (Sr (Vv (Gives.idxR rfl rfl (by assumption) (by omega)) (Vv (Gives.loadE0 rfl H21 (by assumption) (by assumption)) ?_)))))
    refine FL_alloc H21 (h := fun b8 w28 H28 k27 => ?_)
    refine FL_storeAll H28 (h := fun w30 H30 => ?_)
    refine Nx (Vf ?_)
    refine Ld H30 ?_
    refine FL_callQ H30 (many_ok x.kind) (h := fun w34 H34 k33 => ?_)
    obtain ⟨F0, hp0, hS0, hput0⟩ := H34.focus At2
    refine FL_call (typesTakes hp0 (by omega) (fun h => typesTake_ok hp0 h hcb (by omega)) (fun h => typesTakeNo_ok hp0 h (by omega))) rfl rfl (fun v' w36 hv => ?_)
    obtain ⟨rfl, hkk, F1, hq, hs⟩ := hv
    have H36 := hput0 _ F1 _ hkk hq hs
    refine Mv ?_
    refine Vx ?_
    refine Vx ?_
    refine Am ?_
    refine Am ?_
    refine Qn (FW_seq (Sr (Mv ?_)))
    refine Vv (Gives.notP rfl) (Mv ?_)
    refine FL_splitP (t := 31) rfl (fun hs45 => ?_) (fun hs45 => ?_)
    · rw [stepT_no' (.inr (by omega))] at hst
      rw [← hst] at hres
      have hfin : res = (type0, 220) := hres
      refine Of (Of (Of (Pt ?_)))
      refine Qn (FW_cond_true rfl ?_)
      refine Sr (Vv (Gives.build (out := typeCells type0) Fills.nil) (FL_storeAll H36 (h := fun w50 H50 => ?_)))
      refine Am ?_
      refine Qn (Rs (Qblk_ret (Qseq_ret (Qround_ret (Qblk_ret (Qseq_ret (QfnC_ret (h := ?_))))))))
      exact ⟨_, resC2 H50, by rw [hfin]; rfl, H50.kept⟩
    have hkn : takesS x.kind ≤ st.length := by omega
    rw [takeV, if_pos hkn]
    rw [leftV, if_pos hkn] at H36
    refine On (FL_loadAll H36 (h := ?_))
    refine On (FL_callQ H36 (may_ok x hfx (hT.keep H36.kept)) (h := fun w56 H56 k55 => ?_))
    refine On (Vv (Gives.not rfl) (Pf ?_))
    refine Qn (Cd rfl (fun hc59 => ?_) (fun hc59 => ?_))
    · rw [stepT_no' (.inl (by have h := hc59; revert h; cases mayS x <;> simp))] at hst
      rw [← hst] at hres
      have hfin : res = (type0, 220) := hres
      refine Sr (Vv (Gives.build (out := typeCells type0) Fills.nil) (FL_storeAll H56 (h := fun w63 H63 => ?_)))
      refine Am ?_
      refine Qn (Rs (Qblk_ret (Qseq_ret (Qround_ret (Qblk_ret (Qseq_ret (QfnC_ret (h := ?_))))))))
      exact ⟨_, resC2 H63, by rw [hfin]; rfl, H63.kept⟩
    have hmx : mayS x = true := by have h := hc59; revert h; cases mayS x <;> simp
    obtain ⟨hk1, hk18⟩ := mayS_kind hmx
    rw [stepT_res' hmx hkn] at hst
    refine Sk (Sr (FL_alloc H56 (h := fun b11 w68 H68 k67 => ?_)))
    refine Qn (FW_cut (fun tp : TypeM => [(0, .slice A cols.length m), (4, .pointer (some ⟨b4, 0, none⟩)), (6, .pointer (some ⟨b6, 0, none⟩)), (8, .pointer (some ⟨b8, 0, none⟩)), (10, .bool (resS cols st x).isSome), (11, .pointer (some ⟨b11, 0, none⟩)), (16, .slice C l.length n), (17, I l.length), (18, I i)]) (fun tp w' => (∀ y, resS cols st x = some y → tp = y) ∧ Sep w noB [blk b11 (typeCells tp) 29, blk b8 (stepCells x) 57, rowD 29 2 typeCells (.slice B st.length cb) st, blk b6 [.slice B (st.length - takesS x.kind) (st.length - takesS x.kind)] 77, blk b4 (typeCells type0) 29] w') ?_ ?_)
    · refine Sr (Mv ?_)
      refine Vs ?_
      refine Ve ?_
      refine Qn (Cp rfl (fun hc73 => ?_) (fun hc73 => ?_))
      · have hk0 : takesS x.kind = 0 := by omega
        have hrt : resS cols st x = leafT cols x := if_pos hk0
        have hk6 : x.kind ≤ 6 := by have := takesS_zero'.1 hk0; omega
        refine FW_region (Mv ?_)
        refine FL_loadAll H68 (h := ?_)
        refine FL_callQ H68 (own_ok x (hcc.keep H68.kept) hk1 hk6) (h := fun w78 H78 k77 => ?_)
        refine Mv ?_
        refine Vx ?_
        refine Vx ?_
        refine FL_storeAll H78 (h := fun w83 H83 => ?_)
        refine Am ?_
        refine FL_nil ?_
        exact Qcut_normal ((leafT cols x).getD type0) ⟨rfl, rfl, rfl, rfl, by rw [hrt]; rfl, rfl, rfl, rfl, rfl, trivial⟩ ⟨fun y hy => by rw [hrt] at hy; rw [hy]; rfl, H83⟩
      have hk0 : ¬ takesS x.kind = 0 := by omega
      have hrt : resS cols st x = madeT x.kind (st.getD (st.length - takesS x.kind) type0) (st.getD (st.length - 1) type0) := if_neg hk0
      have hk7 : 7 ≤ x.kind := by
        refine Classical.byContradiction fun h => hk0 (takesS_zero'.2 (by omega))
      refine FW_region (Vf ?_)
      refine Ld H68 ?_
      refine Mv ?_
      refine FL_call (typed_ok (row_from (Sep_rdD H68 At2) hcb (Sep.capD H68 At2) hkn) (some2_of (d := type0) hk7 hkn) hk7 hk18) rfl rfl (fun v' w91 hv => ?_)
      obtain ⟨⟨tp, rfl, htp⟩, hkk⟩ := hv
      have H91 := H68.keep hkk
      refine Mv ?_
      refine Vx ?_
      refine Vx ?_
      refine FL_storeAll H91 (h := fun w96 H96 => ?_)
      refine Am ?_
      refine FL_nil ?_
      exact Qcut_normal tp ⟨rfl, rfl, rfl, rfl, by rw [hrt]; rfl, rfl, rfl, rfl, rfl, trivial⟩ ⟨fun y hy => by rw [hrt] at hy; exact htp y hy, H96⟩
    rintro tp τ w100 ⟨htp, H100⟩
    simp only [upds, like, upd_ds]
    refine FW_seq (Sr (Mv ?_))
    refine Vv (Gives.not rfl) (Qn ?_)
    refine Cd rfl (fun hc103 => ?_) (fun hc103 => ?_)
    · have hno : resS cols st x = none := by
        cases h : resS cols st x with
        | none => rfl
        | some y => rw [h] at hc103; cases hc103
      rw [hno] at hst
      rw [← hst] at hres
      have hfin : res = (type0, 220) := hres
      refine Sr (Vv (Gives.build (out := typeCells type0) Fills.nil) (FL_storeAll H100 (h := fun w107 H107 => ?_)))
      refine Am ?_
      refine Qn (Rs (Qblk_ret (Qseq_ret (Qround_ret (Qblk_ret (Qseq_ret (QfnC_ret (h := ?_))))))))
      exact ⟨_, resC2 H107, by rw [hfin]; rfl, H107.kept⟩
    obtain ⟨y, hy⟩ : ∃ y, resS cols st x = some y := by
      cases h : resS cols st x with
      | none => rw [h] at hc103; cases hc103
      | some y => exact ⟨y, rfl⟩
    have hty := htp y hy
    subst hty
    rw [hy] at hst
    refine Sk (FW_region (FL_loadAll H100 (h := ?_)))
    refine FL_buildSlice H100 (xs := [.tmp 56]) (out := [tp].flatMap typeCells) (Elems.many rfl rfl Elems.nil) rfl rfl rfl (fun bs w113 H113 k112 => ?_)
    obtain ⟨F0, hp0, hS0, hput0⟩ := H113.focus At4
    have htl : (st.take (st.length - takesS x.kind)).length = st.length - takesS x.kind := by rw [List.length_take]; omega
    have hRc := (Sep_rdD H113 At3).cut (st.length - takesS x.kind)
    have hn1 : RowIn _ (.slice (some ⟨bs, 0, none⟩) 1 1) typeCells 2 [tp] := ⟨some ⟨bs, 0, none⟩, 1, rfl, ⟨by simp, by omega⟩, Sep.blkRow H113 At0 rfl⟩
    refine FL_call (typesPut_ok (l := st.take (st.length - takesS x.kind)) (by rw [htl]; exact hp0) hRc hn1 (by simp) (by simp; omega)) rfl rfl (fun v' w115 hv => ?_)
    obtain ⟨v2, rfl, _, hkk, F1, hq, hs⟩ := hv
    have H115 := ((hput0 _ F1 _ hkk hq hs).front4).star0
    refine FL_nil (Qblk_normal (Qseq_normal (FW_region (Vv (Gives.addI rfl rfl rfl (by omega)) ?_))))
    refine Mv ?_
    refine FL_nil ?_
    exact Qround_normal (i + 1, st.take (st.length - takesS x.kind) ++ [tp], v2) ⟨rfl, rfl, rfl, rfl, rfl, rfl, trivial⟩ ⟨⟨by dsimp only; omega, by dsimp only; rw [List.length_append, htl]; simp; omega, hst⟩, (H115.front6.front1.front2).firsts (l := [_, _, _])⟩ (by dsimp only; omega)
  have hil : i = l.length := by omega
  rw [hil, List.drop_length, runT] at hst
  rw [← hst] at hres
  refine FW_exit (Qseq_exit (Qround_exit (Qblk_exit (Qseq_normal (FW_seq (Sr (Vf ?_)))))))
  refine Ld H21 ?_
  refine Vs ?_
  refine Vn ?_
  refine Qn (Cp rfl (fun hc124 => ?_) (fun hc124 => ?_))
  · have hfin : res = (type0, 220) := by
      rw [hres]
      match st, hc124 with
      | [], _ => rfl
      | [t], h => exact absurd rfl h
      | t :: u :: r, _ => rfl
    refine Sr (Vv (Gives.build (out := typeCells type0) Fills.nil) (FL_storeAll H21 (h := fun w128 H128 => ?_)))
    refine Am ?_
    refine Qn (Rs (QfnC_ret (h := ?_)))
    exact ⟨_, resC2 H128, by rw [hfin]; rfl, H128.kept⟩
  obtain ⟨t, ht⟩ : ∃ t, st = [t] := List.length_eq_one_iff.1 (by omega)
  have hg0 : st[0]? = some t := by rw [ht]; rfl
  have hfin : res = (t, 0) := by rw [hres, ht]
  refine Sk (Sr (Vf ?_))
  refine Ld H21 ?_
  refine Vv (Gives.idxR (i := 0) rfl rfl hB (by omega)) (Vv (Gives.loadW0 (i := 0) rfl hB hg0) ?_)
  refine FL_storeAll H21 (h := fun w137 H137 => ?_)
  refine Am ?_
  refine Qn (FW_ret (QfnC_ret (h := ?_)))
  exact ⟨_, resC2 H137, by rw [hfin]; rfl, H137.kept⟩
end
def cmpI (a b : Int) : Int := if a < b then -1 else if b < a then 1 else 0
def orI (l : List Int) : Int := (l.find? fun x => decide (x ≠ 0)).getD 0
theorem cmp_or (a b : CellM) (h : a.null = b.null) : orI [cmpI a.n b.n, compareBytes a.s b.s] = cmpC a b := by
 unfold orI cmpI cmpC
 rw [if_pos h]
 by_cases h1 : a.n < b.n
 ·rw [if_pos h1, if_pos h1]; rfl
 rw [if_neg h1, if_neg h1]
 by_cases h2 : b.n < a.n
 ·rw [if_pos h2, if_pos h2]; rfl
 rw [if_neg h2, if_neg h2]
 rcases cmp_three a.s b.s with e | e | e <;> rw [e] <;> rfl
theorem times_iff {a b : Int} (h0 : a ≠ 0) (ha : fits a) (hb : fits b) : (IntKind.i64.wrap ((IntKind.i64.wrap (a * b)).tdiv a) ≠ b ∨ (a = -1 ∧ b = -9223372036854775808)) ↔ ¬ fitsI (a * b) = true := by
 obtain ⟨ha1, ha2⟩ := ha
 obtain ⟨hb1, hb2⟩ := hb
 by_cases hm : a = -1
 ·subst hm
  have e : (-1 : Int) * b = -b := by omega
  rw [e]
  have hf : fitsI (-b) = decide (b ≠ -9223372036854775808) := by unfold fitsI; rw [decide_eq_decide]; omega
  rw [hf]
  by_cases hmin : b = -9223372036854775808
  ·subst hmin; decide
  have e2 : IntKind.i64.wrap (-b) = -b := wrap64 (by omega)
  have e3 : (-b).tdiv (-1) = b := by rw [Int.tdiv_neg, Int.tdiv_one]; omega
  rw [e2, e3, wrap64 ⟨hb1, hb2⟩]
  simp [hmin]
 have hq := quo_fits (n := IntKind.i64.wrap (a * b)) (by rw [IntKind.wrap_i64]; omega) h0 hm
 rw [wrap64 hq]
 have := prod_fits (a := b) (b := a) h0 ⟨ha1, ha2⟩
 rw [Int.mul_comm b a] at this
 rw [← this]
 constructor
 ·rintro (h | h)
  ·exact h
  exact absurd h.1 hm
 exact .inl
section
variable {w : World}
theorem flagE_ok (b : Bool) : Rets Tryz.prog 93 [.bool b] w fun v w' => v = agg (cellCells (flagC b)) ∧ Kept noB w w' := by
 have H := Sep.start0 w
 refine retsC1 Tryz.func93 rfl rfl rfl rfl ?_
 refine Sr (FL_alloc H (h := fun b1 w2 H2 k1 => ?_))
 refine Qn (FW_seq (Sr (Mv ?_)))
 refine Qn (Cd rfl (fun hc4 => ?_) (fun hc4 => ?_))
 ·have hb := hc4
  refine Sr (Vv (Gives.build (out := cellCells (flagC true)) (Fills.one rfl rfl rfl (by decide) rfl Fills.nil)) (FL_storeAll H2 (h := fun w8 H8 => ?_)))
  refine Qn (Rs (QfnC_ret (h := ?_)))
  exact ⟨_, resC1 H8, by rw [show b = true by simpa using hb]; rfl, H8.kept⟩
 have hb := hc4
 refine Sk (Sr (Vv (Gives.build (out := cellCells (flagC false)) Fills.nil) (FL_storeAll H2 (h := fun w13 H13 => ?_))))
 refine Qn (FW_ret (QfnC_ret (h := ?_)))
 exact ⟨_, resC1 H13, by rw [show b = false by simpa using hb]; rfl, H13.kept⟩
theorem isNaN_ok (n : Int) : Rets Tryz.prog 204 [I n] w fun v w' => v = .bool false ∧ w = w' := by
 have H := Sep.start0 w
 refine rets1 Tryz.func204 rfl rfl rfl rfl ?_
 refine Sr (Am ?_)
 refine Nx (Mv ?_)
 refine Mv ?_
 refine Vn ?_
 refine Am ?_
 refine Qn (FW_ret (Qfn_ret (hR := ?_)))
 exact ⟨congrArg Value.bool (by simp), rfl⟩
theorem cmpI_ok (a b : Int) : Rets Tryz.prog 160 [I a, I b] w fun v w' => v = I (cmpI a b) ∧ w = w' := by
 have H := Sep.start0 w
 refine rets2 Tryz.func160 rfl rfl rfl rfl ?_
 refine Sr (Am ?_)
 refine Nx (Mv ?_)
 refine FL_callS (isNaN_ok a) (h := ?_)
 refine Am ?_
 refine Nx (Mv ?_)
 refine FL_callS (isNaN_ok b) (h := ?_)
 refine Am ?_
 refine Qn (FW_seq (Sr (Mv ?_)))
 refine Qn (Cd rfl (fun hc9 => ?_) (fun hc9 => ?_))
 ·cases hc9
 refine Sk (FW_seq (Sr (Mv ?_)))
 refine Qn (Cd rfl (fun hc12 => ?_) (fun hc12 => ?_))
 ·cases hc12
 refine Sk (FW_seq (Sr (Mv ?_)))
 refine Mv ?_
 refine Vl ?_
 refine Qn (Cp rfl (fun hc17 => ?_) (fun hc17 => ?_))
 ·have h1 := hc17
  refine Sr (Am ?_)
  refine Qn (Rs (Qfn_ret (hR := ?_)))
  exact ⟨by unfold cmpI; rw [if_pos h1]; rfl, rfl⟩
 have h1 := hc17
 refine Sk (FW_seq (Sr (Mv ?_)))
 refine Mv ?_
 refine Vg ?_
 refine Qn (Cp rfl (fun hc25 => ?_) (fun hc25 => ?_))
 ·have h2 := hc25
  refine Sr (Am ?_)
  refine Qn (Rs (Qfn_ret (hR := ?_)))
  exact ⟨by unfold cmpI; rw [if_neg h1, if_pos (by omega)]; rfl, rfl⟩
 have h2 := hc25
 refine Sk (Sr (Am ?_))
 refine Qn (FW_ret (Qfn_ret (hR := ?_)))
 exact ⟨by unfold cmpI; rw [if_neg h1, if_neg (by omega)]; rfl, rfl⟩
theorem orI_ok {l : List Int} {v : Value} (hl : RowIn w v intCells 1 l) : Rets Tryz.prog 159 [v] w fun v w' => v = I (orI l) ∧ Kept noB w w' := by
 obtain ⟨A, m, rfl, ⟨hm, hm'⟩, hA⟩ := hl
 have H := Sep.start0 w
 refine rets1 Tryz.func159 rfl rfl rfl rfl ?_
 refine Sr (Am ?_)
 refine Nx (Am ?_)
 refine Qn (FW_seq (Sr (Mv ?_)))
 refine Vs ?_
 refine Mv ?_
 refine Qn (FW_block (FW_loop' (fun i : Nat => [(3, I 0), (6, .slice A l.length m), (7, I l.length), (8, I i)]) (fun i w' => (i ≤ l.length ∧ orI (l.drop i) = orI l) ∧ Sep w noB [] w') (fun i _ => l.length - i) 0 ⟨rfl, rfl, rfl, rfl, trivial⟩ ⟨⟨Nat.zero_le _, rfl⟩, H⟩ (fun i τ w7 hI => ?_)))
 obtain ⟨⟨hi, hst⟩, H7⟩ := hI
 try simp only [upds, like, upd_ds, und_ds]
 refine Sr (Vl ?_)
 refine Qn (FW_seq (Cp rfl (fun hc9 => ?_) (fun hc9 => ?_)))
 ·have hlt : i < l.length := by omega
  obtain ⟨y, hy⟩ := get_some hlt
  have hdr : l.drop i = y :: l.drop (i + 1) := by
   rw [List.drop_eq_getElem_cons hlt]; rw [List.getElem?_eq_getElem hlt] at hy; injection hy with hy; rw [hy]
  rw [hdr] at hst
  refine Sk (FW_seq (FW_block (Sr (Vv (Gives.idxR rfl rfl (by assumption) (by omega)) (Vv (Gives.loadE1 rfl H7 (by assumption) (by assumption) rfl) ?_)))))
  refine Am ?_
  refine Nx (Mv ?_)
  refine Mv ?_
  refine Vn ?_
  refine Qn (Cp rfl (fun hc17 => ?_) (fun hc17 => ?_))
  ·have hfin : orI l = y := by rw [← hst]; unfold orI; rw [List.find?_cons, decide_eq_true hc17]; rfl
   refine Sr (Mv ?_)
   refine Am ?_
   refine Qn (Rb (Qround_ret (Qblk_ret (Qseq_ret (Qfn_ret (hR := ?_))))))
   exact ⟨by rw [hfin]; rfl, H7.kept⟩
  have hnx : orI (l.drop (i + 1)) = orI l := by rw [← hst]; unfold orI; rw [List.find?_cons, decide_eq_false hc17]
  refine FW_skip (Qblk_normal (Qseq_normal (FW_region (Vv (Gives.addI rfl rfl rfl (by omega)) ?_))))
  refine Mv ?_
  refine FL_nil ?_
  exact Qround_normal (i + 1) ⟨rfl, rfl, rfl, rfl, trivial⟩ ⟨⟨by omega, hnx⟩, H7⟩ (by omega)
 have hil : i = l.length := by omega
 rw [hil, List.drop_length] at hst
 refine FW_exit (Qseq_exit (Qround_exit (Qblk_exit (Qseq_normal (Sr (Mv ?_))))))
 refine Am ?_
 refine Qn (FW_ret (Qfn_ret (hR := ?_)))
 exact ⟨by rw [← hst]; rfl, H7.kept⟩
theorem times_ok (a b : Int) (ha : fits a) (hb : fits b) : Rets Tryz.prog 162 [I a, I b] w fun v w' => (∃ c, v = .tuple #[I c, .bool (fitsI (a * b))] ∧ (fitsI (a * b) = true → c = a * b)) ∧ Kept noB w w' := by
 have H := Sep.start0 w
 refine rets2 Tryz.func162 rfl rfl rfl rfl ?_
 refine Sr (Am ?_)
 refine Am ?_
 refine Nx (Mv ?_)
 refine Mv ?_
 refine Vv (Gives.mulW (c := IntKind.i64.wrap (a * b)) rfl rfl rfl) (Am ?_)
 refine Qn (FW_seq (Sr (Mv ?_)))
 refine Vn ?_
 refine Mv ?_
 refine FL_splitP (t := 12) rfl (fun hs10 => ?_) (fun hs10 => ?_)
 ·have h0 : a ≠ 0 := by omega
  refine On (Mv ?_)
  refine On (Mv ?_)
  refine On (Vv (Gives.quoW (c := IntKind.i64.wrap ((IntKind.i64.wrap (a * b)).tdiv a)) rfl rfl (by omega) rfl) (On ?_))
  refine Mv ?_
  refine On (Vn ?_)
  refine On (Mv ?_)
  refine FL_splitP (t := 18) rfl (fun hs18 => ?_) (fun hs18 => ?_)
  ·have hA := hs18
   have hno : fitsI (a * b) = false := by simpa using (times_iff h0 ha hb).1 (.inl hA)
   refine Of (Of (Of (Ou (Ou (Of (On (Pt ?_)))))))
   refine Pt ?_
   refine Qn (FW_cond_true rfl ?_)
   refine Sr (Am ?_)
   refine Am ?_
   refine Qn (Rs (Qfn_ret (hR := ?_)))
   exact ⟨⟨0, by rw [hno]; rfl, fun h => by rw [hno] at h; cases h⟩, H.kept⟩
  have hA := hs18
  refine On (Mv ?_)
  refine On (Ve ?_)
  refine On (Mv ?_)
  refine FL_splitP (t := 21) rfl (fun hs29 => ?_) (fun hs29 => ?_)
  ·have hB := hs29
   refine On (Mv ?_)
   refine On (Ve ?_)
   refine On (Pt ?_)
   refine On (Pf ?_)
   refine Pt ?_
   refine Qn (Cp rfl (fun hc36 => ?_) (fun hc36 => ?_))
   ·have hno : fitsI (a * b) = false := by simpa using (times_iff h0 ha hb).1 (.inr ⟨hB, hc36⟩)
    refine Sr (Am ?_)
    refine Am ?_
    refine Qn (Rs (Qfn_ret (hR := ?_)))
    exact ⟨⟨0, by rw [hno]; rfl, fun h => by rw [hno] at h; cases h⟩, H.kept⟩
   have hyes : fitsI (a * b) = true := Classical.byContradiction fun h => by
    rcases (times_iff h0 ha hb).2 h with h1 | h1
    ·exact hA h1
    exact hc36 h1.2
   refine Sk (Sr (Mv ?_))
   refine Am ?_
   refine Am ?_
   refine Qn (FW_ret (Qfn_ret (hR := ?_)))
   exact ⟨⟨IntKind.i64.wrap (a * b), by rw [hyes]; rfl, fun h => wrap64 (of_decide_eq_true h)⟩, H.kept⟩
  have hB := hs29
  have hyes : fitsI (a * b) = true := Classical.byContradiction fun h => by
   rcases (times_iff h0 ha hb).2 h with h1 | h1
   ·exact hA h1
   exact hB h1.1
  refine Of (Of (On (Pf ?_)))
  refine On (Pf ?_)
  refine Pt ?_
  refine Qn (FW_cond_false rfl ?_)
  refine Sk (Sr (Mv ?_))
  refine Am ?_
  refine Am ?_
  refine Qn (FW_ret (Qfn_ret (hR := ?_)))
  exact ⟨⟨IntKind.i64.wrap (a * b), by rw [hyes]; rfl, fun h => wrap64 (of_decide_eq_true h)⟩, H.kept⟩
 have h0 : a = 0 := by omega
 have hyes : fitsI (a * b) = true := by rw [h0, Int.zero_mul]; rfl
 refine Of (Of (Of (Of (Of (Of (Ou (Ou (Ou (Ou (Ou (Ou (Of (Pf ?_)))))))))))))
 refine Qn (FW_cond_false rfl ?_)
 refine Sk (Sr (Mv ?_))
 refine Am ?_
 refine Am ?_
 refine Qn (FW_ret (Qfn_ret (hR := ?_)))
 exact ⟨⟨IntKind.i64.wrap (a * b), by rw [hyes]; rfl, fun h => wrap64 (of_decide_eq_true h)⟩, H.kept⟩
def reckS (k a b : Int) : Int := if k = 7 then a + b else if k = 8 then a - b else if k = 9 then a * b else -a
theorem reckon_ok (k a b : Int) (ha : fits a) (hb : fits b) : Rets Tryz.prog 95 [I k, I a, I b] w fun v w' => (∃ c, v = .tuple #[I c, .bool (fitsI (reckS k a b))] ∧ (fitsI (reckS k a b) = true → c = reckS k a b)) ∧ Kept noB w w' := by
 have H := Sep.start0 w
 have ha' := ha
 have hb' := hb
 obtain ⟨ha1, ha2⟩ := ha
 obtain ⟨hb1, hb2⟩ := hb
 obtain ⟨res, hres⟩ : ∃ res, res = reckS k a b := ⟨_, rfl⟩
 rw [← hres]
 unfold reckS at hres
 refine rets3 Tryz.func95 rfl rfl rfl rfl ?_
 refine Sr (Am ?_)
 refine Am ?_
 refine Qn (FW_seq (Sr (Mv ?_)))
 refine Qn (FW_block (Sr (Ve ?_)))
 refine Am ?_
 refine Qn (Cp rfl (fun hc6 => ?_) (fun hc6 => ?_))
 ·rw [if_pos hc6] at hres
  refine Sr (Mv ?_)
  refine Mv ?_
  refine Vv (Gives.addW (c := IntKind.i64.wrap (a + b)) rfl rfl rfl) (Am ?_)
  refine Nx (Mv ?_)
  refine Mv ?_
  refine Mv ?_
  refine Vg ?_
  refine Mv ?_
  refine Vg ?_
  refine Vv (Gives.eqlB rfl rfl) (Am ?_)
  refine Am ?_
  refine Qn (Rb (Qfn_ret (hR := ?_)))
  exact ⟨⟨_, congrArg (fun b => Value.tuple #[I _, .bool b]) (by rw [hres]; unfold fitsI; rw [Bool.eq_iff_iff, beq_iff_eq, decide_eq_decide, decide_eq_true_eq, IntKind.wrap_i64]; omega), fun h => by have := of_decide_eq_true h; rw [hres] at this ⊢; exact wrap64 this⟩, H.kept⟩
 rw [if_neg hc6] at hres
 refine Sr (Ve ?_)
 refine Am ?_
 refine Qn (Cp rfl (fun hc25 => ?_) (fun hc25 => ?_))
 ·rw [if_pos hc25] at hres
  refine Sr (Mv ?_)
  refine Mv ?_
  refine Vv (Gives.subW (c := IntKind.i64.wrap (a - b)) rfl rfl rfl) (Am ?_)
  refine Nx (Mv ?_)
  refine Mv ?_
  refine Mv ?_
  refine Vl ?_
  refine Mv ?_
  refine Vg ?_
  refine Vv (Gives.eqlB rfl rfl) (Am ?_)
  refine Am ?_
  refine Qn (Rb (Qfn_ret (hR := ?_)))
  exact ⟨⟨_, congrArg (fun b => Value.tuple #[I _, .bool b]) (by rw [hres]; unfold fitsI; rw [Bool.eq_iff_iff, beq_iff_eq, decide_eq_decide, decide_eq_true_eq, IntKind.wrap_i64]; omega), fun h => by have := of_decide_eq_true h; rw [hres] at this ⊢; exact wrap64 this⟩, H.kept⟩
 rw [if_neg hc25] at hres
 refine Sr (Ve ?_)
 refine Am ?_
 refine Qn (Cp rfl (fun hc44 => ?_) (fun hc44 => ?_))
 ·rw [if_pos hc44] at hres
  refine Sr (Mv ?_)
  refine Mv ?_
  refine FL_call (times_ok a b ha' hb') rfl rfl (fun v' w49 hv => ?_)
  obtain ⟨⟨cp, rfl, hcp⟩, hkk⟩ := hv
  have H49 := H.keep hkk
  refine Vx ?_
  refine Vx ?_
  refine Am ?_
  refine Am ?_
  refine Qn (Rb (Qfn_ret (hR := ?_)))
  exact ⟨⟨cp, by rw [hres]; rfl, fun h => by rw [hres] at h ⊢; exact hcp h⟩, H49.kept⟩
 rw [if_neg hc44] at hres
 refine FW_skip (Qblk_normal (Qseq_normal (Sr (Mv ?_))))
 refine Vv (Gives.negW (c := IntKind.i64.wrap (0 - a)) rfl rfl) (Mv ?_)
 refine Vn ?_
 refine Am ?_
 refine Am ?_
 refine Qn (FW_ret (Qfn_ret (hR := ?_)))
 exact ⟨⟨_, congrArg (fun b => Value.tuple #[I (IntKind.i64.wrap (0 - a)), .bool b]) (by rw [hres]; unfold fitsI; rw [decide_eq_decide]; omega), fun h => by have := of_decide_eq_true h; rw [hres] at this ⊢; rw [wrap64 (by omega)]; omega⟩, H.kept⟩
end
attribute [local irreducible] flagC
section
variable {w : World}
theorem compareE_ok (a b : CellM) : Rets Tryz.prog 94 [agg (cellCells a), agg (cellCells b)] w fun v w' => v = I (cmpC a b) ∧ Kept noB w w' := by
 have H := Sep.start0 w
 refine rets2 Tryz.func94 rfl rfl rfl rfl ?_
 refine Sr (FL_box H (cs := cellCells a) rfl (h := fun b0 w2 H2 k0 => ?_))
 refine FL_box H2 (cs := cellCells b) rfl (h := fun b1 w4 H4 k1 => ?_)
 refine Am ?_
 refine Qn (FW_seq (FW_block (Sr (Vf ?_))))
 refine Ld H4 ?_
 refine Vf ?_
 refine Ld H4 ?_
 refine Vv (Gives.eqlB rfl rfl) (Am ?_)
 refine Qn (Cp rfl (fun hc12 => ?_) (fun hc12 => ?_))
 ·have hn := hc12
  refine FW_seq (FW_drawS rfl H4 (h := fun hok14 w16 H16 => ?_))
  refine Gp hok14 0 rfl rfl (fun _ => (Gives.field0 rfl)) (FGload hok14 1 H16 (h := ?_))
  refine Gp hok14 2 rfl rfl (fun _ => (Gives.field0 rfl)) (FGload hok14 3 H16 (h := ?_))
  refine Gp hok14 5 rfl rfl (fun _ => (Gives.field0 rfl)) (FGload hok14 6 H16 (h := ?_))
  refine Gp hok14 7 rfl rfl (fun _ => (Gives.field0 rfl)) (FGload hok14 8 H16 (h := ?_))
  refine FGcallS hok14 4 [(8, false), (7, true), (6, false), (5, true)] H16 (cmpI_ok a.n b.n) (h := fun w26 H26 => ⟨Stab_load H26 (h := Stab_pure (Stab_load H26 (h := Stab_pure (Stab_nil)))), ?_⟩)
  refine FGcallS hok14 9 [] H26 (rets_same (Tryz.strings_Compare ⟨a.s.toArray⟩ ⟨b.s.toArray⟩ _)) (h := fun w28 H28 => ⟨Stab_nil, ?_⟩)
  refine FGbuildSlice hok14 10 [] H28 (xs := [.tmp 15, .tmp 20]) (out := [cmpI a.n b.n, compareBytes a.s b.s].flatMap intCells) (Elems.one rfl rfl (Elems.one rfl rfl Elems.nil)) (h := fun bs w30 H30 => ⟨Stab_nil, ?_⟩)
  have hrow : RowIn _ (.slice (some ⟨bs, 0, none⟩) 2 2) intCells 1 [cmpI a.n b.n, compareBytes a.s b.s] := ⟨some ⟨bs, 0, none⟩, 2, rfl, ⟨by simp, by omega⟩, Sep.blkRow H30 At0 rfl⟩
  refine FGcallQ hok14 11 [] H30 (orI_ok hrow) (h := fun w32 H32 k31 => ⟨Stab_nil, ?_⟩)
  refine Gp hok14 12 rfl rfl (fun _ => Gives.assign rfl) (FG_end hok14 (by kernel_rfl) ?_)
  refine Qseq_normal (Rb (Qfn_ret (hR := ?_)))
  exact ⟨by rw [← cmp_or a b hn]; rfl, H32.kept⟩
 have hn := hc12
 refine Sr (Vf ?_)
 refine Ld H4 ?_
 refine Am ?_
 refine Qn (Cd rfl (fun hc39 => ?_) (fun hc39 => ?_))
 ·have hna := hc39
  refine Sr (Am ?_)
  refine Qn (Rb (Qfn_ret (hR := ?_)))
  exact ⟨by unfold cmpC; rw [if_neg hn, if_pos hna]; rfl, H4.kept⟩
 have hna := hc39
 refine FW_skip (Qblk_normal (Qseq_normal (Sr (Am ?_))))
 refine Qn (FW_ret (Qfn_ret (hR := ?_)))
 exact ⟨by unfold cmpC; rw [if_neg hn, if_neg (by rw [hna]; simp)]; rfl, H4.kept⟩
theorem logic1_ok {b : Nat} {E : TypeId} {l : List CellM} {vl : Value} (c : CellM) (hb : w.heap[b]? = some (.cells #[vl] E (0, 0))) (hl : RowIn w vl cellCells 3 l) : Rets Tryz.prog 157 [agg (cellCells c), .pointer (some ⟨b, 0, none⟩)] w fun v w' => v = .bool (l.any fun y => decide (c = y)) ∧ Kept noB w w' := by
 have H := Sep.start0 w
 refine rets2 Tryz.func157 rfl rfl rfl rfl ?_
 refine Sr (FL_box H (cs := cellCells c) rfl (h := fun b0 w2 H2 k0 => ?_))
 refine Am ?_
 refine Nx (FL_loadB (cs := [vl]) (H2.kept.get hb id) (h := ?_))
 refine FL_loadAll H2 (h := ?_)
 refine FL_callQ H2 (cellsHas_ok c (hl.keep H2.kept)) (h := fun w7 H7 k6 => ?_)
 refine Am ?_
 refine Qn (FW_ret (Qfn_ret (hR := ?_)))
 exact ⟨rfl, H7.kept⟩
theorem has_dec {k : Int} {l : List CellM} {a b : CellM} (hs : Some2 k l a b) (c : CellM) : (l.any fun y => decide (c = y)) = decide (a = c ∨ b = c) := by
 rw [hs.any]
 rw [Bool.eq_iff_iff, Bool.or_eq_true, decide_eq_true_eq, decide_eq_true_eq, decide_eq_true_eq]
 exact ⟨fun h => h.imp Eq.symm Eq.symm, fun h => h.imp Eq.symm Eq.symm⟩
theorem logicE_ok {k : Int} {l : List CellM} {a b : CellM} {vl : Value} (hl : RowIn w vl cellCells 3 l) (hs : Some2 k l a b) : Rets Tryz.prog 92 [I k, vl] w fun v w' => v = agg (cellCells (logicC k a b)) ∧ Kept noB w w' := by
 have hll := hl
 obtain ⟨A, m, rfl, ⟨hm, hm'⟩, hA⟩ := hl
 have H := Sep.start0 w
 obtain ⟨hga, _, hl0⟩ := hs.get
 obtain ⟨res, hres⟩ : ∃ res, res = logicC k a b := ⟨_, rfl⟩
 rw [← hres]
 unfold logicC at hres
 refine retsC2 Tryz.func92 rfl rfl rfl rfl ?_
 refine Sr (FL_box H (cs := [.slice A l.length m]) rfl (h := fun b0 w2 H2 k0 => ?_))
 refine FL_alloc H2 (h := fun b1 w4 H4 k3 => ?_)
 refine Nx (Vv (Gives.makeFunc rfl rfl) (Am ?_))
 refine Qn (FW_seq (FW_block (FW_seq (Sr (Mv ?_)))))
 refine Ve ?_
 refine Mv ?_
 refine FL_splitP (t := 10) rfl (fun hs10 => ?_) (fun hs10 => ?_)
 ·have hk13 : k = 13 := hs10
  refine On (Mv ?_)
  refine On (FL_callQ H4 (flagE_ok _) (h := fun w14 H14 k13 => ?_))
  refine On ?_
  have hb0 := H14.obj At1
  refine FL_callV (fs := []) (cs := [.pointer (some ⟨b0, 0, none⟩)]) (vals := [_]) rfl (logic1_ok (flagC false) hb0 (hll.keep H14.kept)) rfl rfl (fun v' w16 hv => ?_)
  obtain ⟨rfl, hkk⟩ := hv
  have H16 := H14.keep hkk
  rw [has_dec hs]
  refine Pt ?_
  refine Am ?_
  refine Qn (Cp rfl (fun hc19 => ?_) (fun hc19 => ?_))
  ·rw [if_pos ⟨hk13, hc19⟩] at hres
   refine Sk (FW_cond_true (congrArg Value.bool (decide_eq_true hc19)) ?_)
   refine Sr (Mv ?_)
   refine Ve ?_
   refine FL_callQ H16 (flagE_ok _) (h := fun w24 H24 k23 => ?_)
   refine FL_storeAll H24 (h := fun w26 H26 => ?_)
   refine Qn (Rb (QfnC_ret (h := ?_)))
   exact ⟨_, resC1 H26, by rw [hres, show decide (k = 14) = false from decide_eq_false (by omega)]; rfl, H26.kept⟩
  rw [if_neg (fun h => hc19 h.2), if_neg (fun h => by omega)] at hres
  refine FW_region (Mv ?_)
  refine Ve ?_
  refine Mv ?_
  refine FL_splitP (t := 17) rfl (fun hs32 => ?_) (fun hs32 => ?_)
  ·exact absurd hs32 (by omega)
  refine Of (Of (Of (Pf ?_)))
  refine Am ?_
  refine Qn (FW_cond_false rfl ?_)
  refine Sr (Mv ?_)
  refine Vv (Gives.build (out := cellCells cellNull) (Fills.one rfl rfl rfl (by simp) rfl Fills.nil)) ?_
  have hb0 := H16.obj At1
  refine FL_callV (fs := []) (cs := [.pointer (some ⟨b0, 0, none⟩)]) (vals := [_]) rfl (logic1_ok cellNull hb0 (hll.keep H16.kept)) rfl rfl (fun v' w39 hv => ?_)
  obtain ⟨rfl, hkk⟩ := hv
  have H39 := H16.keep hkk
  rw [has_dec hs]
  refine Am ?_
  refine Qn (Cp rfl (fun hc41 => ?_) (fun hc41 => ?_))
  ·rw [if_pos hc41] at hres
   refine Sr (Vv (Gives.build (out := cellCells cellNull) (Fills.one rfl rfl rfl (by simp) rfl Fills.nil)) (FL_storeAll H39 (h := fun w45 H45 => ?_)))
   refine Qn (Rb (QfnC_ret (h := ?_)))
   exact ⟨_, resC1 H45, by rw [hres]; rfl, H45.kept⟩
  rw [if_neg hc41] at hres
  refine Sr (Mv ?_)
  refine Ve ?_
  refine Am ?_
  refine Qn (Cp rfl (fun hc51 => ?_) (fun hc51 => ?_))
  ·rw [if_pos hc51] at hres
   refine FW_seq (FW_drawS rfl H39 (h := fun hok53 w55 H55 => ?_))
   refine FGload hok53 0 H55 (h := ?_)
   refine Gp hok53 1 rfl rfl (fun _ => (Gives.idxR rfl rfl (by assumption) (by omega))) (Gl hok53 2 rfl rfl (Gives.loadE0 rfl H55 (by assumption) (by assumption)) ?_)
   refine FGcallQ hok53 3 [(2, false), (1, true), (0, false)] H55 (flagE_ok _) (h := fun w60 H60 k59 => ⟨(Stab_cons rfl (by kernel_rfl) (Gives.loadE0 (i := 0) rfl H60 hA hga) rfl (Stab_pure (Stab_load H60 (h := Stab_nil)))), ?_⟩)
   refine Gp hok53 4 rfl rfl (fun _ => (Gives.eqlG (enc := cellCells) _ _ rfl rfl)) (FGcallQ hok53 5 [] H60 (flagE_ok _) (h := fun w63 H63 k62 => ⟨Stab_nil, ?_⟩))
   refine FGstoreAll hok53 6 [] H63 (h := fun w65 H65 => ⟨Stab_nil, ?_⟩)
   refine FG_end hok53 (by kernel_rfl) ?_
   refine Qseq_normal (Rb (QfnC_ret (h := ?_)))
   exact ⟨_, resC1 H65, by rw [hres]; rfl, H65.kept⟩
  rw [if_neg hc51] at hres
  refine FW_skip (Qblk_normal (Qseq_normal (Sr (Mv ?_))))
  refine Ve ?_
  refine FL_callQ H39 (flagE_ok _) (h := fun w71 H71 k70 => ?_)
  refine FL_storeAll H71 (h := fun w73 H73 => ?_)
  refine Qn (FW_ret (QfnC_ret (h := ?_)))
  exact ⟨_, resC1 H73, by rw [hres]; rfl, H73.kept⟩
 have hk13 : ¬ k = 13 := hs10
 rw [if_neg (fun h => hk13 h.1)] at hres
 refine Of (Of (Of (Pf ?_)))
 refine Am ?_
 refine Qn (FW_cond_false rfl ?_)
 refine FW_region (Mv ?_)
 refine Ve ?_
 refine Mv ?_
 refine FL_splitP (t := 17) rfl (fun hs81 => ?_) (fun hs81 => ?_)
 ·have hk14 : k = 14 := hs81
  refine On (Mv ?_)
  refine On (FL_callQ H4 (flagE_ok _) (h := fun w85 H85 k84 => ?_))
  refine On ?_
  have hb0 := H85.obj At1
  refine FL_callV (fs := []) (cs := [.pointer (some ⟨b0, 0, none⟩)]) (vals := [_]) rfl (logic1_ok (flagC true) hb0 (hll.keep H85.kept)) rfl rfl (fun v' w87 hv => ?_)
  obtain ⟨rfl, hkk⟩ := hv
  have H87 := H85.keep hkk
  rw [has_dec hs]
  refine Pt ?_
  refine Am ?_
  refine Qn (Cp rfl (fun hc90 => ?_) (fun hc90 => ?_))
  ·rw [if_pos ⟨hk14, hc90⟩] at hres
   refine Sr (Mv ?_)
   refine Ve ?_
   refine FL_callQ H87 (flagE_ok _) (h := fun w95 H95 k94 => ?_)
   refine FL_storeAll H95 (h := fun w97 H97 => ?_)
   refine Qn (Rb (QfnC_ret (h := ?_)))
   exact ⟨_, resC1 H97, by rw [hres, show decide (k = 14) = true from decide_eq_true (by omega)]; rfl, H97.kept⟩
  rw [if_neg (fun h => hc90 h.2)] at hres
  refine Sr (Mv ?_)
  refine Vv (Gives.build (out := cellCells cellNull) (Fills.one rfl rfl rfl (by simp) rfl Fills.nil)) ?_
  have hb0 := H87.obj At1
  refine FL_callV (fs := []) (cs := [.pointer (some ⟨b0, 0, none⟩)]) (vals := [_]) rfl (logic1_ok cellNull hb0 (hll.keep H87.kept)) rfl rfl (fun v' w103 hv => ?_)
  obtain ⟨rfl, hkk⟩ := hv
  have H103 := H87.keep hkk
  rw [has_dec hs]
  refine Am ?_
  refine Qn (Cp rfl (fun hc105 => ?_) (fun hc105 => ?_))
  ·rw [if_pos hc105] at hres
   refine Sr (Vv (Gives.build (out := cellCells cellNull) (Fills.one rfl rfl rfl (by simp) rfl Fills.nil)) (FL_storeAll H103 (h := fun w109 H109 => ?_)))
   refine Qn (Rb (QfnC_ret (h := ?_)))
   exact ⟨_, resC1 H109, by rw [hres]; rfl, H109.kept⟩
  rw [if_neg hc105] at hres
  refine Sr (Mv ?_)
  refine Ve ?_
  refine Am ?_
  refine Qn (Cp rfl (fun hc115 => ?_) (fun hc115 => ?_))
  ·rw [if_pos hc115] at hres
   refine FW_seq (FW_drawS rfl H103 (h := fun hok117 w119 H119 => ?_))
   refine FGload hok117 0 H119 (h := ?_)
   refine Gp hok117 1 rfl rfl (fun _ => (Gives.idxR rfl rfl (by assumption) (by omega))) (Gl hok117 2 rfl rfl (Gives.loadE0 rfl H119 (by assumption) (by assumption)) ?_)
   refine FGcallQ hok117 3 [(2, false), (1, true), (0, false)] H119 (flagE_ok _) (h := fun w124 H124 k123 => ⟨(Stab_cons rfl (by kernel_rfl) (Gives.loadE0 (i := 0) rfl H124 hA hga) rfl (Stab_pure (Stab_load H124 (h := Stab_nil)))), ?_⟩)
   refine Gp hok117 4 rfl rfl (fun _ => (Gives.eqlG (enc := cellCells) _ _ rfl rfl)) (FGcallQ hok117 5 [] H124 (flagE_ok _) (h := fun w127 H127 k126 => ⟨Stab_nil, ?_⟩))
   refine FGstoreAll hok117 6 [] H127 (h := fun w129 H129 => ⟨Stab_nil, ?_⟩)
   refine FG_end hok117 (by kernel_rfl) ?_
   refine Qseq_normal (Rb (QfnC_ret (h := ?_)))
   exact ⟨_, resC1 H129, by rw [hres]; rfl, H129.kept⟩
  rw [if_neg hc115] at hres
  refine FW_skip (Qblk_normal (Qseq_normal (Sr (Mv ?_))))
  refine Ve ?_
  refine FL_callQ H103 (flagE_ok _) (h := fun w135 H135 k134 => ?_)
  refine FL_storeAll H135 (h := fun w137 H137 => ?_)
  refine Qn (FW_ret (QfnC_ret (h := ?_)))
  exact ⟨_, resC1 H137, by rw [hres]; rfl, H137.kept⟩
 have hk14 : ¬ k = 14 := hs81
 rw [if_neg (fun h => hk14 h.1)] at hres
 refine Of (Of (Of (Pf ?_)))
 refine Am ?_
 refine Qn (FW_cond_false rfl ?_)
 refine Sr (Mv ?_)
 refine Vv (Gives.build (out := cellCells cellNull) (Fills.one rfl rfl rfl (by simp) rfl Fills.nil)) ?_
 have hb0 := H4.obj At1
 refine FL_callV (fs := []) (cs := [.pointer (some ⟨b0, 0, none⟩)]) (vals := [_]) rfl (logic1_ok cellNull hb0 (hll.keep H4.kept)) rfl rfl (fun v' w145 hv => ?_)
 obtain ⟨rfl, hkk⟩ := hv
 have H145 := H4.keep hkk
 rw [has_dec hs]
 refine Am ?_
 refine Qn (Cp rfl (fun hc147 => ?_) (fun hc147 => ?_))
 ·rw [if_pos hc147] at hres
  refine Sr (Vv (Gives.build (out := cellCells cellNull) (Fills.one rfl rfl rfl (by simp) rfl Fills.nil)) (FL_storeAll H145 (h := fun w151 H151 => ?_)))
  refine Qn (Rb (QfnC_ret (h := ?_)))
  exact ⟨_, resC1 H151, by rw [hres]; rfl, H151.kept⟩
 rw [if_neg hc147] at hres
 refine Sr (Mv ?_)
 refine Ve ?_
 refine Am ?_
 refine Qn (Cp rfl (fun hc157 => ?_) (fun hc157 => ?_))
 ·rw [if_pos hc157] at hres
  refine FW_seq (FW_drawS rfl H145 (h := fun hok159 w161 H161 => ?_))
  refine FGload hok159 0 H161 (h := ?_)
  refine Gp hok159 1 rfl rfl (fun _ => (Gives.idxR rfl rfl (by assumption) (by omega))) (Gl hok159 2 rfl rfl (Gives.loadE0 rfl H161 (by assumption) (by assumption)) ?_)
  refine FGcallQ hok159 3 [(2, false), (1, true), (0, false)] H161 (flagE_ok _) (h := fun w166 H166 k165 => ⟨(Stab_cons rfl (by kernel_rfl) (Gives.loadE0 (i := 0) rfl H166 hA hga) rfl (Stab_pure (Stab_load H166 (h := Stab_nil)))), ?_⟩)
  refine Gp hok159 4 rfl rfl (fun _ => (Gives.eqlG (enc := cellCells) _ _ rfl rfl)) (FGcallQ hok159 5 [] H166 (flagE_ok _) (h := fun w169 H169 k168 => ⟨Stab_nil, ?_⟩))
  refine FGstoreAll hok159 6 [] H169 (h := fun w171 H171 => ⟨Stab_nil, ?_⟩)
  refine FG_end hok159 (by kernel_rfl) ?_
  refine Qseq_normal (Rb (QfnC_ret (h := ?_)))
  exact ⟨_, resC1 H171, by rw [hres]; rfl, H171.kept⟩
 rw [if_neg hc157] at hres
 refine FW_skip (Qblk_normal (Qseq_normal (Sr (Mv ?_))))
 refine Ve ?_
 refine FL_callQ H145 (flagE_ok _) (h := fun w177 H177 k176 => ?_)
 refine FL_storeAll H177 (h := fun w179 H179 => ?_)
 refine Qn (FW_ret (QfnC_ret (h := ?_)))
 exact ⟨_, resC1 H179, by rw [hres]; rfl, H179.kept⟩
end
end Go.Proofs.YtmkaahkbhdlniaaGreatDoor
