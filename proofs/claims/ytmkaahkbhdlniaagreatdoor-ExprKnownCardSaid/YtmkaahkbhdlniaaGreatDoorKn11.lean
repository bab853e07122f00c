/-
 The document's Unquote, walked.
-/
import Derived.Test.YtmkaahkbhdlniaaGreatDoorKn10
set_option linter.unusedVariables false
set_option linter.unusedSimpArgs false
namespace Go.Proofs.YtmkaahkbhdlniaaGreatDoor
open Go Go.Mw Go.Lib
set_option maxRecDepth 4000

def unqAt (l : List UInt8) (i : Nat) (out : List UInt8) : List UInt8 × Nat × Int := unqR (l.length + 1 - i) (l.drop i) i out
theorem unqAt_end {l : List UInt8} {i : Nat} {out : List UInt8} (h : l.length ≤ i) : unqAt l i out = ([], 0, 3) := by
 unfold unqAt
 rw [List.drop_of_length_le h]
 cases l.length + 1 - i <;> rfl
theorem unqAt_more {l : List UInt8} {i f : Nat} {out : List UInt8} (hf : l.length - i < f) : unqR f (l.drop i) i out = unqAt l i out := by
 rcases Nat.lt_or_ge i (l.length + 1) with h | h
 ·exact unqR_more (by rw [List.length_drop]; omega) (by rw [List.length_drop]; omega)
 rw [unqAt_end (by omega), List.drop_of_length_le (by omega)]
 cases f <;> rfl
theorem drop_cons {l : List UInt8} {i : Nat} (h : i < l.length) : l.drop i = l.getD i 0 :: l.drop (i + 1) := by
 rw [List.drop_eq_getElem_cons h, List.getD_eq_getElem?_getD, List.getElem?_eq_getElem h]; rfl
theorem unqAt_step {l : List UInt8} {i : Nat} {out : List UInt8} {c : UInt8} (h : i < l.length) (hc : c = l.getD i 0) : unqAt l i out =
    if c = 34 then (out, i + 1, 0) else if c < 32 then ([], 0, 41) else if c = 92 then (if (escL (l.drop i)).2.2 ≠ 0 then ([], 0, (escL (l.drop i)).2.2) else unqAt l (i + (escL (l.drop i)).2.1) (out ++ (escL (l.drop i)).1))
    else if (nextL (l.drop i)).isSome = true then unqAt l (i + (nextP (l.drop i)).2) (out ++ (l.drop i).take (nextP (l.drop i)).2) else ([], 0, if beginsL (l.drop i) then 3 else 40) := by
  have hd := drop_cons h
  rw [← hc] at hd
  have hrec : ∀ n o, 1 ≤ n → unqR (l.length - i) ((l.drop i).drop n) (i + n) o = unqAt l (i + n) o := fun n o hn => by
    rw [List.drop_drop]
    exact unqAt_more (by omega)
  rw [show unqAt l i out = unqR (l.length - i + 1) (l.drop i) i out by unfold unqAt; congr 1; omega]
  rw [hd] at hrec ⊢
  rw [unqR]
  by_cases h1 : c = 34
  · rw [if_pos h1, if_pos h1]
  rw [if_neg h1, if_neg h1]
  by_cases h2 : c < 32
  · rw [if_pos h2, if_pos h2]
  rw [if_neg h2, if_neg h2]
  by_cases h3 : c = 92
  · rw [if_pos h3, if_pos h3]
    dsimp only
    by_cases h4 : (escL (c :: l.drop (i + 1))).2.2 ≠ 0
    · rw [if_pos h4, if_pos h4]
    rw [if_neg h4, if_neg h4]
    refine hrec _ _ ?_
    rcases escL_cases (c :: l.drop (i + 1)) with ⟨e, h0, hx⟩ | ⟨b, n, hn, hx⟩
    · rw [hx] at h4; exact absurd h0 h4
    rw [hx]; exact hn
  rw [if_neg h3, if_neg h3]
  unfold nextP
  cases hn : nextL (c :: l.drop (i + 1)) with
  | none => rfl
  | some x =>
    obtain ⟨r, n⟩ := x
    obtain ⟨k1, _, _, _, _⟩ := next_ok hn
    exact hrec n _ k1
theorem enc_len (r : Int) : (encodeRune r).length ≤ 4 := by
 unfold encodeRune encodeRuneZ
 repeat' split
 all_goals simp
theorem esc_len (s : List UInt8) : (escL s).1.length ≤ 4 ∧ (escL s).2.1 ≤ 12 := by
 obtain ⟨x, hx⟩ : ∃ x, x = escL s := ⟨_, rfl⟩
 rw [← hx]
 unfold escL escT at hx
 dsimp only at hx
 repeat' split at hx
 all_goals subst hx
 all_goals first
  | exact ⟨enc_len _, by simp⟩
  | exact ⟨by simp, by simp⟩
theorem unqL_at {l : List UInt8} (h : l.getD 0 0 = 34) (hne : l ≠ []) : unqL l = unqAt l 1 [] := by
 cases l with
 | nil => exact absurd rfl hne
 | cons c t =>
  have hc : c = 34 := h
  unfold unqL unqAt
  simp [hc]
section
variable {w : World} {l : List UInt8}
theorem unquote_ok4 (l : List UInt8) (hl : l.length ≤ 10000000) : Rets Tryz.prog 146 [str l] w fun v w' => v = .tuple #[str (unqL l).1, I (unqL l).2.1, I (unqL l).2.2] ∧ Kept noB w w' := by
  have H := Sep.start0 w
  refine rets1 Tryz.func146 rfl rfl rfl rfl ?_
  refine Sr (Am ?_)
  refine Am ?_
  refine Am ?_
  refine Qn (FW_seq (Sr (Mv ?_)))
  refine Vv (Gives.eqlT (b := []) rfl rfl) (Qn ?_)
  refine Cp rfl (fun hc6 => ?_) (fun hc6 => ?_)
  · have hfin : unqL l = ([], 0, 3) := by rw [hc6]; rfl
    refine Sr (Am ?_)
    refine Am ?_
    refine Am ?_
    refine Qn (Rs (Qfn_ret (hR := ?_)))
    exact ⟨by rw [hfin]; rfl, H.kept⟩
  have hpos : 0 < l.length := List.length_pos_iff.2 hc6
  have hd0 := drop_cons hpos
  refine Sk (FW_seq (Sr (Mv ?_)))
  refine Vv (Gives.idxD (i := 0) rfl rfl (by omega)) (Vn ?_)
  refine Qn (Cp rfl (fun hc16 => ?_) (fun hc16 => ?_))
  · have hfin : unqL l = ([], 0, 41) := by
      rw [List.drop_zero] at hd0
      rw [hd0]; unfold unqL
      dsimp only
      rw [if_pos (fun e => by rw [e] at hc16; exact hc16 rfl)]
    refine Sr (Am ?_)
    refine Am ?_
    refine Am ?_
    refine Qn (Rs (Qfn_ret (hR := ?_)))
    exact ⟨by rw [hfin]; rfl, H.kept⟩
  have h34 : l.getD 0 0 = 34 := UInt8.toNat_inj.1 (by show (l.getD 0 0).toNat = 34; omega)
  have hst := unqL_at h34 (List.length_pos_iff.1 hpos)
  obtain ⟨res, hr0⟩ : ∃ res, res = unqL l := ⟨_, rfl⟩
  rw [← hr0] at hst ⊢
  refine Sk (Sr (Am ?_))
  refine Nx (Am ?_)
  refine Qn (FW_seq (FW_block ?_))
  have H26 := Sep.nilBytes H 5
  refine FW_loop' (fun x : Nat × List UInt8 × Value => [(0, str l), (5, x.2.2), (6, I x.1)]) (fun x w' => (1 ≤ x.1 ∧ x.1 ≤ l.length + 12 ∧ x.2.1.length ≤ 4 * x.1 ∧ res = unqAt l x.1 x.2.1) ∧ Sep w noB [bytesH 5 x.2.2 x.2.1] w') (fun x _ => l.length - x.1) (1, [], _) ⟨rfl, rfl, rfl, trivial⟩ ⟨⟨Nat.le_refl _, by dsimp only; omega, by simp, hst⟩, H26⟩ (fun x τ w26 hI => ?_)
  obtain ⟨i, out, v1⟩ := x
  obtain ⟨⟨hi1, hi2, hol, hst⟩, H26⟩ := hI
  dsimp only at hi1 hi2 hol hst H26
  try simp only [upds, like, upd_ds, und_ds]
  refine FW_seq (Sr (Mv ?_))
  refine Mv ?_
  refine Vt ?_
  refine Vl ?_
  refine Qn (Cp rfl (fun hc31 => ?_) (fun hc31 => ?_))
  · have hlt : i < l.length := by omega
    obtain ⟨c, hc⟩ : ∃ c, c = l.getD i 0 := ⟨_, rfl⟩
    have hcl := c.toNat_lt
    have hs := unqAt_step (out := out) hlt hc
    rw [← hst] at hs
    have el : (c < 32) = (c.toNat < 32) := propext UInt8.lt_iff_toNat_lt
    have ee : ∀ k : UInt8, (c = k) = (c.toNat = k.toNat) := fun k => propext UInt8.toNat_inj.symm
    have e34 : (34 : UInt8).toNat = 34 := rfl
    have e92 : (92 : UInt8).toNat = 92 := rfl
    simp only [el, ee, e34, e92] at hs
    have hdr : (l.drop i).length = l.length - i := List.length_drop
    refine Sk (FW_block (FW_seq (Sr (Mv ?_))))
    refine Mv ?_
    refine Vv (Gives.idxD rfl rfl hlt) ?_
    rw [← hc]
    refine Ve ?_
    refine Qn (Cp rfl (fun hc37 => ?_) (fun hc37 => ?_))
    · have hfin : res = (out, i + 1, 0) := by rw [hs, if_pos (by omega)]
      refine Sr (Mv ?_)
      refine Vv (Gives.bytesO H26 At0 rfl) (Mv ?_)
      refine Vv (Gives.addI rfl rfl rfl (by omega)) (Am ?_)
      refine Am ?_
      refine Am ?_
      refine Qn (Rs (Qblk_ret (Qround_ret (Qblk_ret (Qseq_ret (Qfn_ret (hR := ?_)))))))
      exact ⟨by rw [hfin]; rfl, H26.kept⟩
    refine Sk (FW_seq (Sr (Mv ?_)))
    refine Mv ?_
    refine Vv (Gives.idxD rfl rfl hlt) ?_
    rw [← hc]
    refine Vl ?_
    refine Qn (Cp rfl (fun hc51 => ?_) (fun hc51 => ?_))
    · have hfin : res = ([], 0, 41) := by rw [hs, if_neg (by omega), if_pos (by omega)]
      refine Sr (Am ?_)
      refine Am ?_
      refine Am ?_
      refine Qn (Rs (Qblk_ret (Qround_ret (Qblk_ret (Qseq_ret (Qfn_ret (hR := ?_)))))))
      exact ⟨by rw [hfin]; rfl, H26.kept⟩
    refine Sk (FW_seq (Sr (Mv ?_)))
    refine Mv ?_
    refine Vv (Gives.idxD rfl rfl hlt) ?_
    rw [← hc]
    refine Ve ?_
    refine Qn (Cp rfl (fun hc61 => ?_) (fun hc61 => ?_))
    · rw [if_neg (by omega), if_neg (by omega), if_pos (by omega)] at hs
      have hel := esc_len (l.drop i)
      obtain ⟨e, he⟩ : ∃ e, e = escL (l.drop i) := ⟨_, rfl⟩
      have hcs := escL_cases (l.drop i)
      rw [← he] at hs hel hcs
      refine Sr (Mv ?_)
      refine Mv ?_
      refine Vv (Gives.sliceFromT rfl rfl (by omega)) (FL_callQ H26 (escape_ok4 (l.drop i) (by omega)) (h := fun w67 H67 _ => ?_))
      rw [← he]
      refine Mv ?_
      refine Vx ?_
      refine Vx ?_
      refine Vx ?_
      refine Am ?_
      refine Am ?_
      refine Am ?_
      refine Qn (FW_seq (Sr (Mv ?_)))
      refine Vn ?_
      refine Qn (Cp rfl (fun hc77 => ?_) (fun hc77 => ?_))
      · have hfin : res = ([], 0, e.2.2) := by rw [hs, if_pos hc77]
        refine Sr (Mv ?_)
        refine Am ?_
        refine Am ?_
        refine Am ?_
        refine Qn (Rs (Qseq_ret (Qblk_ret (Qround_ret (Qblk_ret (Qseq_ret (Qfn_ret (hR := ?_))))))))
        exact ⟨by rw [hfin]; rfl, H67.kept⟩
      have e20 : e.2.2 = 0 := by simpa using hc77
      rw [if_neg (by simpa using e20)] at hs
      have hn1 : 1 ≤ e.2.1 := by
        rcases hcs with ⟨x, h0, hx⟩ | ⟨b, n, hn, hx⟩
        · rw [hx] at e20; exact absurd e20 h0
        rw [hx]; exact hn
      clear hcs
      refine Sk (Sr (Mv ?_))
      refine Mv ?_
      refine FL_appendT H67 (xs := out) (news := e.1) At0 (by omega) (h := fun v2 w88 H88 => ?_)
      refine Am ?_
      refine Nx (Mv ?_)
      refine Mv ?_
      refine Vv (Gives.addI rfl rfl rfl (by omega)) (Am ?_)
      refine Qn (FW_exit (Qseq_exit (Qblk_exit ?_)))
      exact Qround_normal (i + e.2.1, out ++ e.1, v2) ⟨rfl, rfl, rfl, trivial⟩ ⟨⟨by dsimp only; omega, by dsimp only; omega, by dsimp only; rw [List.length_append]; omega, hs⟩, H88⟩ (by dsimp only; omega)
    rw [if_neg (by omega), if_neg (by omega), if_neg (by omega)] at hs
    refine Sk (Sr (Mv ?_))
    refine Mv ?_
    refine Vv (Gives.sliceFromT rfl rfl (by omega)) (FL_callQ H26 (next_ok4 (l.drop i) (by omega)) (h := fun w100 H100 _ => ?_))
    refine Mv ?_
    refine Vx ?_
    refine Vx ?_
    refine Vx ?_
    refine Am ?_
    refine Am ?_
    refine Am ?_
    refine Qn (FW_seq (Sr (Mv ?_)))
    refine Vv (Gives.not rfl) (Mv ?_)
    refine FL_split (t := 65) rfl (fun hs111 => ?_) (fun hs111 => ?_)
    · have hnn : nextL (l.drop i) = none := by
        cases h : nextL (l.drop i) with
        | none => rfl
        | some x => rw [h] at hs111; cases hs111
      have hn0 : (nextL (l.drop i)).isSome = false := by rw [hnn]; rfl
      rw [if_neg (by rw [hn0]; simp)] at hs
      refine On (Mv ?_)
      refine On (Mv ?_)
      refine On (Vv (Gives.sliceFromT rfl rfl (by omega)) (On ?_))
      refine FL_callQ H100 (begins_ok4 (l.drop i) (fun e => by rw [e] at hdr; simp at hdr; omega) hnn (by omega)) (h := fun w117 H117 _ => ?_)
      refine Pt ?_
      refine Qn (Cd rfl (fun hc119 => ?_) (fun hc119 => ?_))
      · have hfin : res = ([], 0, 3) := by rw [hs, hc119]; rfl
        refine Sr (Am ?_)
        refine Am ?_
        refine Am ?_
        refine Qn (Rs (Qblk_ret (Qround_ret (Qblk_ret (Qseq_ret (Qfn_ret (hR := ?_)))))))
        exact ⟨by rw [hfin]; rfl, H117.kept⟩
      have hb0 : beginsL (l.drop i) = false := by simpa using hc119
      have hfin : res = ([], 0, 40) := by rw [hs, hb0]; rfl
      refine Sk (FW_seq (Sr (Mv ?_)))
      refine Vv (Gives.not rfl) (Qn ?_)
      refine Cd rfl (fun hc128 => ?_) (fun hc128 => ?_)
      · refine Sr (Am ?_)
        refine Am ?_
        refine Am ?_
        refine Qn (Rs (Qblk_ret (Qround_ret (Qblk_ret (Qseq_ret (Qfn_ret (hR := ?_)))))))
        exact ⟨by rw [hfin]; rfl, H117.kept⟩
      (rw [hn0] at hc128; cases hc128)
    have hn1 : (nextL (l.drop i)).isSome = true := by simpa using hs111
    have hle := nextP_le hn1
    rw [if_pos hn1] at hs
    refine Of (Of (Of (Of (Pf ?_))))
    refine Qn (FW_cond_false rfl ?_)
    refine Sk (FW_seq (Sr (Mv ?_)))
    refine Vv (Gives.not rfl) (Qn ?_)
    refine Cd rfl (fun hc138 => ?_) (fun hc138 => ?_)
    · (rw [hn1] at hc138; cases hc138)
    refine Sk (Sr (Mv ?_))
    refine Mv ?_
    refine Mv ?_
    refine Mv ?_
    refine Mv ?_
    refine Vv (Gives.addI rfl rfl rfl (by omega)) (Vv (Gives.sliceBothT (i := i) (m := i + (nextP (l.drop i)).2) rfl rfl rfl (by omega) (by omega)) ?_)
    rw [List.drop_take, Nat.add_sub_cancel_left]
    refine FL_appendT H100 (xs := out) (news := (l.drop i).take (nextP (l.drop i)).2) At0 (by rw [List.length_take]; omega) (h := fun v2 w148 H148 => ?_)
    refine Am ?_
    refine Qn (FW_region (Mv ?_))
    refine Mv ?_
    refine Vv (Gives.addI rfl rfl rfl (by omega)) (Am ?_)
    refine FL_nil (Qblk_normal ?_)
    exact Qround_normal (i + (nextP (l.drop i)).2, out ++ (l.drop i).take (nextP (l.drop i)).2, v2) ⟨rfl, rfl, rfl, trivial⟩ ⟨⟨by dsimp only; omega, by dsimp only; omega, by dsimp only; rw [List.length_append, List.length_take]; omega, hs⟩, H148⟩ (by dsimp only; omega)
  have hfin : res = ([], 0, 3) := hst.trans (unqAt_end (by omega))
  refine FW_exit (Qseq_exit (Qround_exit (Qblk_exit (Qseq_normal (Sr (Am ?_))))))
  refine Am ?_
  refine Am ?_
  refine Qn (FW_ret (Qfn_ret (hR := ?_)))
  exact ⟨by rw [hfin]; rfl, H26.kept⟩
end

def typeCells (t : TypeM) : List Value := [I t.kind, .bool t.null]
def cellCells (c : CellM) : List Value := [.bool c.null, I c.n, str c.s]
def stepCells (x : StepM) : List Value := [I x.kind, I x.n, str x.s]
def colCells (c : ColM) : List Value := [I c.id, str c.name, I c.type.kind, .bool c.type.null, .bool c.dflt.null, I c.dflt.n, str c.dflt.s]
def agg (cs : List Value) : Value := .agg cs.toArray
theorem str_eq_iff {a b : List UInt8} : (((⟨a.toArray⟩ : ByteArray).toList == (⟨b.toArray⟩ : ByteArray).toList) = true) ↔ a = b := by
 rw [ByteArray.toList_mk, ByteArray.toList_mk]; simp
section
variable {P : Program} {w : World} {d : Nat} {f : Field} {fs : List Field} {xs ys : List Value} {u v : Value} {e : Bool}
theorem eqF1 (hn : (f.name != "_") = true) (h1 : OneCell P f.type) (hu : xs[f.offset]? = some u) (hv : ys[f.offset]? = some v) (he : (Op.equalIn d f.type u v).run P w = .ok e w) :
    (Op.eqFields d xs.toArray ys.toArray (f :: fs)).run P w = if e = true then (Op.eqFields d xs.toArray ys.toArray fs).run P w else .ok false w := by
  have hn' : f.name ≠ "_" := by simpa using hn
  simp only [Op.eqFields, if_pos hn', Sem.run_bind, run_part1 hu, run_part1 hv, Result.andThen_ok, he]
  cases e <;> simp
theorem eqFN {k : Nat} {us vs : List Value} (hn : (f.name != "_") = true) (h1 : Agg P f.type k) (hu : (xs.drop f.offset).take k = us) (hv : (ys.drop f.offset).take k = vs) (he : (Op.equalIn d f.type (.agg us.toArray) (.agg vs.toArray)).run P w = .ok e w) :
    (Op.eqFields d xs.toArray ys.toArray (f :: fs)).run P w = if e = true then (Op.eqFields d xs.toArray ys.toArray fs).run P w else .ok false w := by
  have hn' : f.name ≠ "_" := by simpa using hn
  simp only [Op.eqFields, if_pos hn', Sem.run_bind, run_partN hu, run_partN hv, Result.andThen_ok, he]
  cases e <;> simp
theorem eqF0 : (Op.eqFields d xs.toArray ys.toArray []).run P w = .ok true w := rfl
theorem equalI {t : TypeId} (a b : Int) (h : P.underlying t = some (.int .i64)) : (Op.equalIn (d + 1) t (I a) (I b)).run P w = .ok (decide (a = b)) w := by
 rw [show I a = .int .i64 a from rfl, show I b = .int .i64 b from rfl, run_equalIn_int w d t .i64 .i64 a b h]
 rfl
theorem equalB {t : TypeId} (a b : Bool) (h : P.underlying t = some .bool) : (Op.equalIn (d + 1) t (.bool a) (.bool b)).run P w = .ok (decide (a = b)) w := by
 rw [run_equalIn_bool' w d t a b h]
 cases a <;> cases b <;> rfl
theorem equalT {t : TypeId} (a b : List UInt8) (h : P.underlying t = some .string) : (Op.equalIn (d + 1) t (str a) (str b)).run P w = .ok (decide (a = b)) w := by
 rw [show str a = .string ⟨a.toArray⟩ from rfl, show str b = .string ⟨b.toArray⟩ from rfl, run_equalIn_string w d t _ _ h]
 congr 1
 rw [Bool.eq_iff_iff, str_eq_iff, decide_eq_true_eq]
end
theorem eqCell {d : Nat} (a b : CellM) (w : World) : (Op.equalIn (d + 2) 34 (.agg (cellCells a).toArray) (.agg (cellCells b).toArray)).run Tryz.prog w = .ok (decide (a = b)) w := by
 rw [run_equalIn_agg w (d + 1) _ _ _ (by kernel_rfl) (by kernel_rfl)]
 simp only [Program.fieldsOf, Tryz.underlying34]
 rw [eqF1 rfl oc_4 rfl rfl (equalB a.null b.null (by kernel_rfl)), eqF1 rfl oc_2 rfl rfl (equalI a.n b.n (by kernel_rfl)), eqF1 rfl oc_9 rfl rfl (equalT a.s b.s (by kernel_rfl)), eqF0]
 have e : (a = b) = (a.null = b.null ∧ a.n = b.n ∧ a.s = b.s) := propext ⟨fun h => by subst h; exact ⟨rfl, rfl, rfl⟩, fun h => CellM.ext' h.1 h.2.1 h.2.2⟩
 simp only [e]
 by_cases h1 : a.null = b.null <;> by_cases h2 : a.n = b.n <;> by_cases h3 : a.s = b.s <;> simp [h1, h2, h3]
theorem eqType {d : Nat} (a b : TypeM) (w : World) : (Op.equalIn (d + 2) 29 (.agg (typeCells a).toArray) (.agg (typeCells b).toArray)).run Tryz.prog w = .ok (decide (a = b)) w := by
 rw [run_equalIn_agg w (d + 1) _ _ _ (by kernel_rfl) (by kernel_rfl)]
 simp only [Program.fieldsOf, Tryz.underlying29]
 rw [eqF1 rfl oc_3 rfl rfl (equalI a.kind b.kind (by kernel_rfl)), eqF1 rfl oc_4 rfl rfl (equalB a.null b.null (by kernel_rfl)), eqF0]
 have e : (a = b) = (a.kind = b.kind ∧ a.null = b.null) := propext ⟨fun h => by subst h; exact ⟨rfl, rfl⟩, fun h => TypeM.ext' h.1 h.2⟩
 simp only [e]
 by_cases h1 : a.kind = b.kind <;> by_cases h2 : a.null = b.null <;> simp [h1, h2]
theorem eqStep {d : Nat} (a b : StepM) (w : World) : (Op.equalIn (d + 2) 57 (.agg (stepCells a).toArray) (.agg (stepCells b).toArray)).run Tryz.prog w = .ok (decide (a = b)) w := by
 rw [run_equalIn_agg w (d + 1) _ _ _ (by kernel_rfl) (by kernel_rfl)]
 simp only [Program.fieldsOf, Tryz.underlying57]
 rw [eqF1 rfl oc_3 rfl rfl (equalI a.kind b.kind (by kernel_rfl)), eqF1 rfl oc_2 rfl rfl (equalI a.n b.n (by kernel_rfl)), eqF1 rfl oc_9 rfl rfl (equalT a.s b.s (by kernel_rfl)), eqF0]
 have e : (a = b) = (a.kind = b.kind ∧ a.n = b.n ∧ a.s = b.s) := propext ⟨fun h => by subst h; exact ⟨rfl, rfl, rfl⟩, fun h => StepM.ext' h.1 h.2.1 h.2.2⟩
 simp only [e]
 by_cases h1 : a.kind = b.kind <;> by_cases h2 : a.n = b.n <;> by_cases h3 : a.s = b.s <;> simp [h1, h2, h3]
theorem eqCol {d : Nat} (a b : ColM) (w : World) : (Op.equalIn (d + 3) 74 (.agg (colCells a).toArray) (.agg (colCells b).toArray)).run Tryz.prog w = .ok (decide (a = b)) w := by
 rw [run_equalIn_agg w (d + 2) _ _ _ (by kernel_rfl) (by kernel_rfl)]
 simp only [Program.fieldsOf, Tryz.underlying74]
 rw [eqF1 rfl oc_3 rfl rfl (equalI a.id b.id (by kernel_rfl)), eqF1 rfl oc_9 rfl rfl (equalT a.name b.name (by kernel_rfl)), eqFN (k := 2) rfl ag_29 rfl rfl (eqType a.type b.type w), eqFN (k := 3) rfl ag_34 rfl rfl (eqCell a.dflt b.dflt w), eqF0]
 have e : (a = b) = (a.id = b.id ∧ a.name = b.name ∧ a.type = b.type ∧ a.dflt = b.dflt) := propext ⟨fun h => by subst h; exact ⟨rfl, rfl, rfl, rfl⟩, fun h => ColM.ext' h.1 h.2.1 h.2.2.1 h.2.2.2⟩
 simp only [e]
 by_cases h1 : a.id = b.id <;> by_cases h2 : a.name = b.name <;> by_cases h3 : a.type = b.type <;> by_cases h4 : a.dflt = b.dflt <;> simp [h1, h2, h3, h4]
instance : EqData Tryz.prog 34 CellM cellCells := ⟨fun a b w => eqCell (d := 9998) a b w, by kernel_rfl⟩
instance : EqData Tryz.prog 29 TypeM typeCells := ⟨fun a b w => eqType (d := 9998) a b w, by kernel_rfl⟩
instance : EqData Tryz.prog 57 StepM stepCells := ⟨fun a b w => eqStep (d := 9998) a b w, by kernel_rfl⟩
instance : EqData Tryz.prog 74 ColM colCells := ⟨fun a b w => eqCol (d := 9997) a b w, by kernel_rfl⟩
end Go.Proofs.YtmkaahkbhdlniaaGreatDoor
namespace Go.Mw
open Go.RowKit
section rules
variable {P : Program} {r : Option Nat} {n : Nat} {ops : Array Oper} {Q : Post} {rest : List Oper} {σ : St} {w w' w₀ : World} {S : Nat → Prop} {rs : List HP} {put : HP → List HP} {ty : TypeId} {pos : String} {after : Array Edge} {guard : Option (Nat × Bool)} {lv : List Bool} {pd pd' : List (Nat × Bool)}
theorem FL_loadAll {d b k : Nat} {x : Operand} {T : TypeId} [Agg P T k] {cs : List Value} {E : TypeId} (H : Sep w₀ S rs w) (hx : evF σ x = .pointer (some ⟨b, 0, none⟩) := by exact rfl)
    (hat : At rs (blk b cs E) put := by first | exact At0 | exact At1 | exact At2 | exact At3 | exact At4 | exact At5 | exact At6 | exact At7 | exact At8 | exact At9) (hk : cs.length = k := by exact rfl) (hd : Nat.blt d n = true := by exact rfl) (h : FL P r n ops Q rest (upd σ d (.agg cs.toArray)) w) :
    FL P r n ops Q ({ dst := some d, op := .load T x, type := ty, pos := pos, after := after, guard := none } :: rest) σ w :=
  FL_loadN H hx hat (us := cs) (by rw [List.drop_zero, ← hk, List.take_length]) hk hd h
theorem FGloadAll (hok : okOps n ops = true) (i : Nat) {d b k : Nat} {x : Operand} {T : TypeId} [Agg P T k] {cs : List Value} {E : TypeId} (H : Sep w₀ S rs w) (ho : ops[i]? = some { dst := some d, op := .load T x, type := ty, pos := pos, after := after, guard := guard } := by exact rfl)
    (hw : Region.wanted { dst := some d, op := .load T x, type := ty, pos := pos, after := after, guard := guard } (yieldF ops σ) = true := by kernel_rfl) (hx : evF σ x = .pointer (some ⟨b, 0, none⟩) := by exact rfl)
    (hat : At rs (blk b cs E) put := by first | exact At0 | exact At1 | exact At2 | exact At3 | exact At4 | exact At5 | exact At6 | exact At7 | exact At8 | exact At9) (hk : cs.length = k := by exact rfl) (hck : quietOk ops lv (pd.map (·.1)) i = true := by kernel_rfl)
    (h : FG P r n ops Q (lv.set i true) ((i, false) :: pd) (upd σ d (.agg cs.toArray)) w) : FG P r n ops Q lv pd σ w :=
  FGloadN hok i H ho hw hx hat (us := cs) (by rw [List.drop_zero, ← hk, List.take_length]) hk hck h
theorem FL_storeAll {b k : Nat} {x y : Operand} {T : TypeId} [Agg P T k] {cs us : List Value} {E : TypeId} (H : Sep w₀ S rs w) (hx : evF σ x = .pointer (some ⟨b, 0, none⟩) := by exact rfl) (hy : evF σ y = .agg us.toArray := by exact rfl)
    (hat : At rs (blk b cs E) put := by first | exact At0 | exact At1 | exact At2 | exact At3 | exact At4 | exact At5 | exact At6 | exact At7 | exact At8 | exact At9) (hk : us.length = k := by exact rfl) (hl : cs.length = k := by exact rfl) (hv : us.all Value.oneCell' = true := by exact rfl)
    (h : ∀ w', Sep w₀ S (put (blk b us E)) w' → FL P r n ops Q rest σ w') :
    FL P r n ops Q ({ dst := none, op := .store T x y, type := ty, pos := pos, after := after, guard := none } :: rest) σ w :=
  FL_storeN H hx hy hk (fun u hu => List.all_eq_true.1 hv u hu) hat (by omega) (by rw [List.take_zero, List.nil_append, List.drop_of_length_le (by omega), List.append_nil]) h
theorem acts_storeAll {ρ : Operand → Value} {b k : Nat} {x y : Operand} {T : TypeId} [h1 : Agg P T k] {cs us : List Value} {E : TypeId} (H : Sep w₀ S rs w) (hx : ρ x = .pointer (some ⟨b, 0, none⟩)) (hy : ρ y = .agg us.toArray)
    (hat : At rs (blk b cs E) put) (hk : us.length = k) (hl : cs.length = k) (hv : us.all Value.oneCell' = true) : ∃ w', Acts P ρ (.store T x y) ty w w' ∧ Sep w₀ S (put (blk b us E)) w' := by
  have hb := H.obj hat
  have hst := run_storeCells_at P b 0 E us 0 cs.toArray w hb (by simp; omega) (fun u hu => List.all_eq_true.1 hv u hu)
  have hs : cs.take 0 ++ us ++ cs.drop (0 + us.length) = us := by rw [List.take_zero, List.nil_append, List.drop_of_length_le (by omega), List.append_nil]
  refine ⟨w.setRow b (cs.take 0 ++ us ++ cs.drop (0 + us.length)).toArray, fun _ _ _ _ => ?_, ?_⟩
  · simp only [Nat.add_zero] at hst
    simp [execOp, hx, hy, Instr.storeAt, Instr.sureAddr, storeVar, h1.size, Value.cells, hk]
    simp [hk] at hst
    rw [hst]
    simp
  rw [hs]
  refine H.setObj hat ⟨rfl, rfl, rfl, by simp, fun j hj hS => ?_⟩ ?_
  · simp only [World.setRow, Array.getElem?_modify]; rw [if_neg (fun e => hS e.symm)]
  simp only [World.setRow, Array.getElem?_modify, if_true, hb, Option.map_some]
theorem FGstoreAll (hok : okOps n ops = true) (e : Nat) (pd' : List (Nat × Bool)) {b k : Nat} {x y : Operand} {T : TypeId} [Agg P T k] {cs us : List Value} {E : TypeId} (H : Sep w₀ S rs w) (ho : ops[e]? = some { dst := none, op := .store T x y, type := ty, pos := pos, after := after, guard := guard } := by exact rfl)
    (hw : Region.wanted { dst := none, op := .store T x y, type := ty, pos := pos, after := after, guard := guard } (yieldF ops σ) = true := by kernel_rfl) (hx : evF σ x = .pointer (some ⟨b, 0, none⟩) := by exact rfl) (hy : evF σ y = .agg us.toArray := by exact rfl)
    (hat : At rs (blk b cs E) put := by first | exact At0 | exact At1 | exact At2 | exact At3 | exact At4 | exact At5 | exact At6 | exact At7 | exact At8 | exact At9) (hk : us.length = k := by exact rfl) (hl : cs.length = k := by exact rfl) (hv : us.all Value.oneCell' = true := by exact rfl)
    (hck : effectOk ops lv (pd.map (·.1)) e = true := by kernel_rfl) (hpd : pd.filter (fun p => !((above ops e).contains p.1)) = pd' := by kernel_rfl)
    (h : ∀ w', Sep w₀ S (put (blk b us E)) w' → Stab P ops σ w' pd' ∧ FG P r n ops Q (lv.set e true) pd' σ w') : FG P r n ops Q lv pd σ w :=
  FGact hok e pd' ho hw (acts_storeAll H hx hy hat hk hl hv) hck hpd h
end rules
end Go.Mw
namespace Go.Proofs.YtmkaahkbhdlniaaGreatDoor
open Go Go.Mw Go.Lib
set_option maxRecDepth 4000

theorem boolE {a b : Bool} (h : a = true ↔ b = true) : Value.bool a = .bool b := congrArg Value.bool (Bool.eq_iff_iff.2 h)
def ofC (t : TypeM) (c : CellM) : Bool := if c.null = true then decide (t.null = true ∧ c.n = 0 ∧ c.s = []) else isC t.kind c
theorem checkC_of (t : TypeM) (c : CellM) : checkC t c = if mayT t = false then 2 else if ofC t c = false then 90 else 0 := by
 unfold checkC ofC
 by_cases h1 : mayT t = false
 ·rw [if_pos h1, if_pos h1]
 rw [if_neg h1, if_neg h1]
 by_cases h2 : c.null = true
 ·rw [if_pos h2, if_pos h2]
  have e : (c = cellNull) = (c.n = 0 ∧ c.s = []) := propext ⟨fun h => by rw [h]; exact ⟨rfl, rfl⟩, fun h => CellM.ext' h2 h.1 h.2⟩
  simp only [e]
  by_cases h3 : t.null = true ∧ c.n = 0 ∧ c.s = []
  ·rw [if_pos h3, if_neg (by simp [h3])]
  rw [if_neg h3, if_pos (by simpa using h3)]
 rw [if_neg h2, if_neg h2]
 cases isC t.kind c <;> rfl
section
variable {w : World}
theorem may_ok9 (t : TypeM) : Rets Tryz.prog 89 [agg (typeCells t)] w fun v w' => v = .bool (mayT t) ∧ Kept noB w w' := by
 have H := Sep.start0 w
 refine rets1 Tryz.func89 rfl rfl rfl rfl ?_
 refine Sr (FL_box H (h := fun b1 w2 H2 k1 => ?_))
 refine Am ?_
 refine Nx (Vf ?_)
 refine Ld H2 ?_
 refine Vv (Gives.geq rfl rfl) (Mv ?_)
 refine FL_splitP (t := 6) rfl (fun hs8 => ?_) (fun hs8 => ?_)
 ·refine On (Vf ?_)
  refine On (Ld H2 ?_)
  refine On (Vv (Gives.leq rfl rfl) (Pt ?_))
  refine Am ?_
  refine Qn (FW_ret (Qfn_ret (hR := ?_)))
  exact ⟨boolE (by unfold mayT; simp; omega), H2.kept⟩
 refine Of (Of (Of (Pf ?_)))
 refine Am ?_
 refine Qn (FW_ret (Qfn_ret (hR := ?_)))
 exact ⟨boolE (by unfold mayT; simp; omega), H2.kept⟩
theorem of_ok9 (t : TypeM) (c : CellM) : Rets Tryz.prog 163 [agg (typeCells t), agg (cellCells c)] w fun v w' => v = .bool (ofC t c) ∧ Kept noB w w' := by
 have H := Sep.start0 w
 refine rets2 Tryz.func163 rfl rfl rfl rfl ?_
 refine Sr (FL_box H (h := fun b1 w2 H2 k1 => ?_))
 refine FL_box H2 (h := fun b3 w4 H4 k3 => ?_)
 refine Am ?_
 refine Qn (FW_seq (Sr (Vf ?_)))
 refine Ld H4 ?_
 refine Qn (Cd rfl (fun hc8 => ?_) (fun hc8 => ?_))
 ·have hof : ofC t c = decide (t.null = true ∧ c.n = 0 ∧ c.s = []) := by unfold ofC; rw [if_pos hc8]
  refine Sr (Vf ?_)
  refine Ld H4 ?_
  refine Mv ?_
  refine FL_split (t := 9) rfl (fun hs13 => ?_) (fun hs13 => ?_)
  ·refine On (Vf ?_)
   refine On (Ld H4 ?_)
   refine On (Ve ?_)
   refine Pt ?_
   refine Mv ?_
   refine FL_splitP (t := 14) rfl (fun hs19 => ?_) (fun hs19 => ?_)
   ·refine On (Vf ?_)
    refine On (Ld H4 ?_)
    refine On (Vv (Gives.eqlT rfl rfl) (Pt ?_))
    refine Am ?_
    refine Qn (Rs (Qfn_ret (hR := ?_)))
    exact ⟨boolE (by rw [hof]; first | (unfold isC; simp_all; done) | (simp_all; done) | (unfold isC; simp_all; omega)), H4.kept⟩
   refine Of (Of (Of (Pf ?_)))
   refine Am ?_
   refine Qn (Rs (Qfn_ret (hR := ?_)))
   exact ⟨boolE (by rw [hof]; first | (unfold isC; simp_all; done) | (simp_all; done) | (unfold isC; simp_all; omega)), H4.kept⟩
  refine Of (Of (Of (Pf ?_)))
  refine Mv ?_
  refine Of (Of (Of (Pf ?_)))
  refine Am ?_
  refine Qn (Rs (Qfn_ret (hR := ?_)))
  exact ⟨boolE (by rw [hof]; first | (unfold isC; simp_all; done) | (simp_all; done) | (unfold isC; simp_all; omega)), H4.kept⟩
 have hof : ofC t c = isC t.kind c := by unfold ofC; rw [if_neg (by rw [hc8]; simp)]
 refine Sk (FW_seq (Sr (Vf ?_)))
 refine Ld H4 ?_
 refine Qn (FW_block (Sr (Ve ?_)))
 refine Am ?_
 refine Qn (Cp rfl (fun hc39 => ?_) (fun hc39 => ?_))
 ·refine Sr (Vf ?_)
  refine Ld H4 ?_
  refine Vv (Gives.eqlT rfl rfl) (Mv ?_)
  refine FL_splitP (t := 26) rfl (fun hs44 => ?_) (fun hs44 => ?_)
  ·refine On (Vf ?_)
   refine On (Ld H4 ?_)
   refine On (Ve ?_)
   refine On (Mv ?_)
   refine FL_splitP (t := 30) rfl (fun hs49 => ?_) (fun hs49 => ?_)
   ·refine Of (Of (Of (On (Pt ?_))))
    refine Pt ?_
    refine Am ?_
    refine Qn (Rb (Qfn_ret (hR := ?_)))
    exact ⟨boolE (by rw [hof]; first | (unfold isC; simp_all; done) | (simp_all; done) | (unfold isC; simp_all; omega)), H4.kept⟩
   refine On (Vf ?_)
   refine On (Ld H4 ?_)
   refine On (Ve ?_)
   refine On (Pf ?_)
   refine Pt ?_
   refine Am ?_
   refine Qn (Rb (Qfn_ret (hR := ?_)))
   exact ⟨boolE (by rw [hof]; first | (unfold isC; simp_all; done) | (simp_all; done) | (unfold isC; simp_all; omega)), H4.kept⟩
  refine Of (Of (Of (Of (Ou (Ou (Ou (Of (Pf ?_))))))))
  refine Am ?_
  refine Qn (Rb (Qfn_ret (hR := ?_)))
  exact ⟨boolE (by rw [hof]; first | (unfold isC; simp_all; done) | (simp_all; done) | (unfold isC; simp_all; omega)), H4.kept⟩
 refine Sr (Ve ?_)
 refine Am ?_
 refine Qn (Cp rfl (fun hc66 => ?_) (fun hc66 => ?_))
 ·refine Sr (Vf ?_)
  refine Ld H4 ?_
  refine Vv (Gives.eqlT rfl rfl) (Mv ?_)
  refine FL_splitP (t := 41) rfl (fun hs71 => ?_) (fun hs71 => ?_)
  ·refine On (Vf ?_)
   refine On (Ld H4 ?_)
   refine On (Vv (Gives.geq rfl rfl) (Pt ?_))
   refine Mv ?_
   refine FL_splitP (t := 46) rfl (fun hs77 => ?_) (fun hs77 => ?_)
   ·refine On (Vf ?_)
    refine On (Ld H4 ?_)
    refine On (Vv (Gives.leq rfl rfl) (Pt ?_))
    refine Am ?_
    refine Qn (Rb (Qfn_ret (hR := ?_)))
    exact ⟨boolE (by rw [hof]; first | (unfold isC; simp_all; done) | (simp_all; done) | (unfold isC; simp_all; omega)), H4.kept⟩
   refine Of (Of (Of (Pf ?_)))
   refine Am ?_
   refine Qn (Rb (Qfn_ret (hR := ?_)))
   exact ⟨boolE (by rw [hof]; first | (unfold isC; simp_all; done) | (simp_all; done) | (unfold isC; simp_all; omega)), H4.kept⟩
  refine Of (Of (Of (Pf ?_)))
  refine Mv ?_
  refine Of (Of (Of (Pf ?_)))
  refine Am ?_
  refine Qn (Rb (Qfn_ret (hR := ?_)))
  exact ⟨boolE (by rw [hof]; first | (unfold isC; simp_all; done) | (simp_all; done) | (unfold isC; simp_all; omega)), H4.kept⟩
 refine Sr (Ve ?_)
 refine Am ?_
 refine Qn (Cp rfl (fun hc94 => ?_) (fun hc94 => ?_))
 ·refine Sr (Vf ?_)
  refine Ld H4 ?_
  refine Vv (Gives.eqlT rfl rfl) (Am ?_)
  refine Qn (Rb (Qfn_ret (hR := ?_)))
  exact ⟨boolE (by rw [hof]; first | (unfold isC; simp_all; done) | (simp_all; done) | (unfold isC; simp_all; omega)), H4.kept⟩
 refine Sr (Ve ?_)
 refine Am ?_
 refine Qn (Cp rfl (fun hc102 => ?_) (fun hc102 => ?_))
 ·refine Sr (Vf ?_)
  refine Ld H4 ?_
  refine Ve ?_
  refine Mv ?_
  refine FL_splitP (t := 61) rfl (fun hs107 => ?_) (fun hs107 => ?_)
  ·refine On (Vf ?_)
   refine On (Ld H4 ?_)
   refine On (Vt ?_)
   refine On (Vv (Gives.leq rfl rfl) (Pt ?_))
   refine Mv ?_
   refine FL_splitP (t := 67) rfl (fun hs114 => ?_) (fun hs114 => ?_)
   ·refine On (Vf ?_)
    refine On (Ld H4 ?_)
    refine On (FL_callQ H4 (valid_ok4 c.s (by omega)) (h := fun w118 H118 _ => ?_))
    refine Pt ?_
    refine Am ?_
    refine Qn (Rb (Qfn_ret (hR := ?_)))
    exact ⟨boolE (by rw [hof]; first | (unfold isC; simp_all; done) | (simp_all; done) | (unfold isC; simp_all; omega)), H118.kept⟩
   refine Of (Of (Of (Pf ?_)))
   refine Am ?_
   refine Qn (Rb (Qfn_ret (hR := ?_)))
   exact ⟨boolE (by rw [hof]; first | (unfold isC; simp_all; done) | (simp_all; done) | (unfold isC; simp_all; omega)), H4.kept⟩
  refine Of (Of (Of (Of (Pf ?_))))
  refine Mv ?_
  refine Of (Of (Of (Pf ?_)))
  refine Am ?_
  refine Qn (Rb (Qfn_ret (hR := ?_)))
  exact ⟨boolE (by rw [hof]; first | (unfold isC; simp_all; done) | (simp_all; done) | (unfold isC; simp_all; omega)), H4.kept⟩
 refine FW_skip (Qblk_normal (Qseq_normal (Sr (Vf ?_))))
 refine Ld H4 ?_
 refine Ve ?_
 refine Mv ?_
 refine FL_splitP (t := 75) rfl (fun hs134 => ?_) (fun hs134 => ?_)
 ·refine On (Vf ?_)
  refine On (Ld H4 ?_)
  refine On (Vt ?_)
  refine On (Vv (Gives.leq rfl rfl) (Pt ?_))
  refine Am ?_
  refine Qn (FW_ret (Qfn_ret (hR := ?_)))
  exact ⟨boolE (by rw [hof]; first | (unfold isC; simp_all; done) | (simp_all; done) | (unfold isC; simp_all; omega)), H4.kept⟩
 refine Of (Of (Of (Of (Pf ?_))))
 refine Am ?_
 refine Qn (FW_ret (Qfn_ret (hR := ?_)))
 exact ⟨boolE (by rw [hof]; first | (unfold isC; simp_all; done) | (simp_all; done) | (unfold isC; simp_all; omega)), H4.kept⟩
end

theorem bytesLess_cmp : ∀ a b : List UInt8, Op.bytesLess a b = decide (compareBytes a b = -1)
 | [], [] => rfl
 | [], _ :: _ => rfl
 | _ :: _, [] => rfl
 | a :: x1, b :: y1 => by
  rw [Op.bytesLess, compareBytes, bytesLess_cmp x1 y1]
  by_cases h1 : a < b
  ·simp [h1]
  by_cases h2 : b < a
  ·have : a ≠ b := fun e => by subst e; exact h1 h2
   simp [h1, h2, this]
  have : a = b := UInt8.le_antisymm (UInt8.not_lt.1 h2) (UInt8.not_lt.1 h1)
  subst this
  simp [h1]
theorem cmp_zero : ∀ {a b : List UInt8}, compareBytes a b = 0 → a = b
 | [], [], _ => rfl
 | [], _ :: _, h => by cases h
 | _ :: _, [], h => by cases h
 | a :: x1, b :: y1, h => by
  rw [compareBytes] at h
  by_cases h1 : a < b
  ·rw [if_pos h1] at h; cases h
  by_cases h2 : b < a
  ·rw [if_neg h1, if_pos h2] at h; cases h
  rw [if_neg h1, if_neg h2] at h
  rw [cmp_zero h, UInt8.le_antisymm (UInt8.not_lt.1 h2) (UInt8.not_lt.1 h1)]
theorem cmp_three : ∀ a b : List UInt8, compareBytes a b = -1 ∨ compareBytes a b = 0 ∨ compareBytes a b = 1
 | [], [] => .inr (.inl rfl)
 | [], _ :: _ => .inl rfl
 | _ :: _, [] => .inr (.inr rfl)
 | a :: x1, b :: y1 => by
  rw [compareBytes]
  by_cases h1 : a < b
  ·rw [if_pos h1]; exact .inl rfl
  by_cases h2 : b < a
  ·rw [if_neg h1, if_pos h2]; exact .inr (.inr rfl)
  rw [if_neg h1, if_neg h2]; exact cmp_three x1 y1
theorem cmp_self : ∀ a : List UInt8, compareBytes a a = 0
 | [] => rfl
 | a :: x1 => by rw [compareBytes, if_neg (UInt8.lt_irrefl a), if_neg (UInt8.lt_irrefl a), cmp_self x1]
theorem cmp_lt {a b : CellM} (hn : a.null = b.null) (h : a.n < b.n ∨ (a.n = b.n ∧ Op.bytesLess a.s b.s = true)) : cmpC a b = -1 := by
 unfold cmpC
 rw [if_pos hn]
 rcases h with h | ⟨h, hs⟩
 ·rw [if_pos h]
 rw [if_neg (by omega), if_neg (by omega)]
 rw [bytesLess_cmp] at hs
 exact of_decide_eq_true hs
theorem cmp_gt {a b : CellM} (hne : a ≠ b) (hn : a.null = b.null) (h1 : ¬ a.n < b.n) (h2 : a.n = b.n → Op.bytesLess a.s b.s = false) : cmpC a b = 1 := by
 unfold cmpC
 rw [if_pos hn, if_neg h1]
 by_cases h : b.n < a.n
 ·rw [if_pos h]
 rw [if_neg h]
 have e : a.n = b.n := by omega
 have hs := h2 e
 rw [bytesLess_cmp] at hs
 rcases cmp_three a.s b.s with k | k | k
 ·exact absurd k (of_decide_eq_false hs)
 ·exact absurd (CellM.ext' hn e (cmp_zero k)) hne
 exact k
attribute [local irreducible] mayT ofC
section
variable {w : World}
theorem check_ok9 (t : TypeM) (c : CellM) : Rets Tryz.prog 98 [agg (typeCells t), agg (cellCells c)] w fun v w' => v = I (checkC t c) ∧ Kept noB w w' := by
 have H := Sep.start0 w
 refine rets2 Tryz.func98 rfl rfl rfl rfl ?_
 have hch := checkC_of t c
 refine Sr (FL_box H (h := fun b1 w2 H2 k1 => ?_))
 refine FL_box H2 (h := fun b3 w4 H4 k3 => ?_)
 refine Am ?_
 refine Qn (FW_seq (Sr (FL_loadAll H4 (h := ?_))))
 refine FL_callQ H4 (may_ok9 _) (h := fun w8 H8 k7 => ?_)
 refine Vv (Gives.not rfl) (Qn ?_)
 refine Cd rfl (fun hc10 => ?_) (fun hc10 => ?_)
 ·have hfin : checkC t c = 2 := by rw [hch, if_pos (by simpa using hc10)]
  refine Sr (Am ?_)
  refine Qn (Rs (Qfn_ret (hR := ?_)))
  exact ⟨by rw [hfin]; rfl, H8.kept⟩
 rw [if_neg (by simpa using hc10)] at hch
 refine Sk (FW_seq (Sr (FL_loadAll H8 (h := ?_))))
 refine FL_loadAll H8 (h := ?_)
 refine FL_callQ H8 (of_ok9 _ _) (h := fun w18 H18 k17 => ?_)
 refine Vv (Gives.not rfl) (Qn ?_)
 refine Cd rfl (fun hc20 => ?_) (fun hc20 => ?_)
 ·have hfin : checkC t c = 90 := by rw [hch, if_pos (by simpa using hc20)]
  refine Sr (Am ?_)
  refine Qn (Rs (Qfn_ret (hR := ?_)))
  exact ⟨by rw [hfin]; rfl, H18.kept⟩
 have hfin : checkC t c = 0 := by rw [hch, if_neg (by simpa using hc20)]
 refine Sk (Sr (Am ?_))
 refine Qn (FW_ret (Qfn_ret (hR := ?_)))
 exact ⟨by rw [hfin]; rfl, H18.kept⟩
theorem compare_ok9 (a b : CellM) : Rets Tryz.prog 103 [agg (cellCells a), agg (cellCells b)] w fun v w' => v = I (cmpC a b) ∧ Kept noB w w' := by
 have H := Sep.start0 w
 refine rets2 Tryz.func103 rfl rfl rfl rfl ?_
 refine Sr (FL_box H (h := fun b1 w2 H2 k1 => ?_))
 refine FL_box H2 (h := fun b3 w4 H4 k3 => ?_)
 refine Am ?_
 refine Qn (FW_seq (Sr (FL_loadAll H4 (h := ?_))))
 refine FL_loadAll H4 (h := ?_)
 refine Vv (Gives.eqlG (enc := cellCells) _ _ rfl rfl) (Qn ?_)
 refine Cp rfl (fun hc9 => ?_) (fun hc9 => ?_)
 ·have hfin : cmpC a b = 0 := by rw [hc9]; unfold cmpC; rw [if_pos rfl, if_neg (Int.lt_irrefl _), if_neg (Int.lt_irrefl _), cmp_self]
  refine Sr (Am ?_)
  refine Qn (Rs (Qfn_ret (hR := ?_)))
  exact ⟨by first | (rw [hfin]; rfl) | (rw [cmp_lt hnn (.inl (by assumption))]; rfl) | (rw [cmp_gt hne hnn (by assumption) (fun h => absurd h (by assumption))]; rfl), H4.kept⟩
 have hne := hc9
 refine Sk (FW_seq (Sr (Vf ?_)))
 refine Ld H4 ?_
 refine Vf ?_
 refine Ld H4 ?_
 refine Vv (Gives.neqB rfl rfl) (Qn ?_)
 refine Cd rfl (fun hc19 => ?_) (fun hc19 => ?_)
 ·have hd : cmpC a b = if a.null = true then -1 else 1 := by unfold cmpC; rw [if_neg (by simpa using hc19)]
  refine FW_seq (Sr (Vf ?_))
  refine Ld H4 ?_
  refine Qn (Cd rfl (fun hc23 => ?_) (fun hc23 => ?_))
  ·have hfin : cmpC a b = -1 := by rw [hd, if_pos hc23]
   refine Sr (Am ?_)
   refine Qn (Rs (Qseq_ret (Qfn_ret (hR := ?_))))
   exact ⟨by first | (rw [hfin]; rfl) | (rw [cmp_lt hnn (.inl (by assumption))]; rfl) | (rw [cmp_gt hne hnn (by assumption) (fun h => absurd h (by assumption))]; rfl), H4.kept⟩
  have hfin : cmpC a b = 1 := by rw [hd, if_neg (by rw [hc23]; simp)]
  refine Sk (Sr (Am ?_))
  refine Qn (Rs (Qfn_ret (hR := ?_)))
  exact ⟨by first | (rw [hfin]; rfl) | (rw [cmp_lt hnn (.inl (by assumption))]; rfl) | (rw [cmp_gt hne hnn (by assumption) (fun h => absurd h (by assumption))]; rfl), H4.kept⟩
 have hnn : a.null = b.null := by simpa using hc19
 refine Sk (FW_seq (Sr (Vf ?_)))
 refine Ld H4 ?_
 refine Vf ?_
 refine Ld H4 ?_
 refine Vl ?_
 refine Mv ?_
 refine FL_splitP (t := 20) rfl (fun hs37 => ?_) (fun hs37 => ?_)
 ·refine Of (Of (Of (Of (Of (Of (Ou (Ou (Ou (Ou (Ou (Of (Pt ?_))))))))))))
  refine Qn (FW_cond_true rfl ?_)
  refine Sr (Am ?_)
  refine Qn (Rs (Qfn_ret (hR := ?_)))
  exact ⟨by first | (rw [hfin]; rfl) | (rw [cmp_lt hnn (.inl (by assumption))]; rfl) | (rw [cmp_gt hne hnn (by assumption) (fun h => absurd h (by assumption))]; rfl), H4.kept⟩
 refine On (Vf ?_)
 refine On (Ld H4 ?_)
 refine On (Vf ?_)
 refine On (Ld H4 ?_)
 refine On (Ve ?_)
 refine On (Mv ?_)
 refine FL_splitP (t := 26) rfl (fun hs47 => ?_) (fun hs47 => ?_)
 ·refine On (Vf ?_)
  refine On (Ld H4 ?_)
  refine On (Vf ?_)
  refine On (Ld H4 ?_)
  refine On (Vv (Gives.lssT rfl rfl) (On ?_))
  refine Pt ?_
  refine Pf ?_
  refine Qn (Cd rfl (fun hc55 => ?_) (fun hc55 => ?_))
  ·have hfin : cmpC a b = -1 := cmp_lt hnn (.inr ⟨by assumption, by assumption⟩)
   refine Sr (Am ?_)
   refine Qn (Rs (Qfn_ret (hR := ?_)))
   exact ⟨by first | (rw [hfin]; rfl) | (rw [cmp_lt hnn (.inl (by assumption))]; rfl) | (rw [cmp_gt hne hnn (by assumption) (fun h => absurd h (by assumption))]; rfl), H4.kept⟩
  have hfin : cmpC a b = 1 := cmp_gt hne hnn (by assumption) (fun _ => by assumption)
  refine Sk (Sr (Am ?_))
  refine Qn (FW_ret (Qfn_ret (hR := ?_)))
  exact ⟨by first | (rw [hfin]; rfl) | (rw [cmp_lt hnn (.inl (by assumption))]; rfl) | (rw [cmp_gt hne hnn (by assumption) (fun h => absurd h (by assumption))]; rfl), H4.kept⟩
 refine Of (Of (Of (Of (Of (On (Pf ?_))))))
 refine Pf ?_
 refine Qn (FW_cond_false rfl ?_)
 refine Sk (Sr (Am ?_))
 refine Qn (FW_ret (Qfn_ret (hR := ?_)))
 exact ⟨by first | (rw [hfin]; rfl) | (rw [cmp_lt hnn (.inl (by assumption))]; rfl) | (rw [cmp_gt hne hnn (by assumption) (fun h => absurd h (by assumption))]; rfl), H4.kept⟩
end
theorem wrapU {n : Int} (h : 0 ≤ n ∧ n ≤ 18446744073709551615) : IntKind.u64.wrap n = n := by simp [IntKind.wrap, IntKind.bits, IntKind.signed]; omega
theorem wrapB {n : Int} (h : 0 ≤ n ∧ n ≤ 255) : IntKind.u8.wrap n = n := by rw [IntKind.wrap_u8]; omega
end Go.Proofs.YtmkaahkbhdlniaaGreatDoor
namespace Go.Mw
section gives
variable {P : Program} {ρ : Operand → Value} {ty : TypeId} {w : World} {x y : Operand} {T U : TypeId} {k : IntKind} {a b c : Int}
theorem Gives.addW (hx : ρ x = .int k a) (hy : ρ y = .int k b) (he : k.wrap (a + b) = c) : Gives P ρ (.binOp .add T x y U) ty w (.int k c) w := by subst he; exact Gives.add hx hy
theorem Gives.subW (hx : ρ x = .int k a) (hy : ρ y = .int k b) (he : k.wrap (a - b) = c) : Gives P ρ (.binOp .sub T x y U) ty w (.int k c) w := by subst he; exact Gives.sub hx hy
theorem Gives.mulW (hx : ρ x = .int k a) (hy : ρ y = .int k b) (he : k.wrap (a * b) = c) : Gives P ρ (.binOp .mul T x y U) ty w (.int k c) w := by subst he; exact Gives.mul hx hy
theorem Gives.quoW (hx : ρ x = .int k a) (hy : ρ y = .int k b) (h0 : b ≠ 0) (he : k.wrap (a.tdiv b) = c) : Gives P ρ (.binOp .quo T x y U) ty w (.int k c) w := by subst he; exact Gives.quo hx hy h0
theorem Gives.negW (hx : ρ x = .int k a) (he : k.wrap (0 - a) = c) : Gives P ρ (.unOp .neg T x) ty w (.int k c) w := by subst he; exact Gives.neg hx
theorem Gives.convW {s t : TypeId} {j : IntKind} [hs : IsInt P s j] [ht : IsInt P t k] (hx : ρ x = .int j a) (he : k.wrap a = c) : Gives P ρ (.convert s t x) ty w (.int k c) w := by subst he; exact Gives.conv hx
end gives
end Go.Mw
namespace Go.Proofs.YtmkaahkbhdlniaaGreatDoor
open Go Go.Mw Go.Lib
def decS : List UInt8 := [48, 49, 50, 51, 52, 53, 54, 55, 56, 57]
theorem dec_piece {d : Nat} (h : d < 10) : (decS.take (d + 1)).drop d = [UInt8.ofNat (48 + d)] := by
 have key : ∀ i : Fin 10, (decS.take (i.val + 1)).drop i.val = [UInt8.ofNat (48 + i.val)] := by decide
 exact key ⟨d, h⟩
def hexS : List UInt8 := [48, 49, 50, 51, 52, 53, 54, 55, 56, 57, 97, 98, 99, 100, 101, 102]
theorem hex_piece {d : Nat} (h : d < 16) : (hexS.take (d + 1)).drop d = [hexB d] := by
 have key : ∀ i : Fin 16, (hexS.take (i.val + 1)).drop i.val = [hexB i.val] := by decide
 exact key ⟨d, h⟩
theorem dec_len64 {n : Nat} (h : n < 18446744073709551616) : (decDigits n).length ≤ 20 := decDigits_len 19 n (by omega)
theorem tdivN (a b : Nat) : (a : Int).tdiv (b : Int) = ((a / b : Nat) : Int) := by rw [Int.tdiv_eq_ediv_of_nonneg (by omega)]; rfl
theorem hexL_succ {l : List UInt8} {i : Nat} (h : i < l.length) : hexL (l.take (i + 1)) = hexL (l.take i) ++ [hexB ((l.getD i 0).toNat / 16), hexB ((l.getD i 0).toNat % 16)] := by
 unfold hexL
 rw [List.take_add_one, List.getElem?_eq_getElem h, List.flatMap_append]
 simp [List.getD_eq_getElem?_getD, List.getElem?_eq_getElem h]
theorem hexL_length (l : List UInt8) : (hexL l).length = 2 * l.length := by
 induction l with
 | nil => rfl
 | cons c l ih => unfold hexL at *; rw [List.flatMap_cons, List.length_append, ih]; simp; omega
theorem figures_ok9 : ∀ (n : Nat), n < 18446744073709551616 → ∀ w : World, Rets Tryz.prog 184 [.int .u64 n] w fun v w' => v = str (decDigits n) ∧ w = w' := by
 intro n
 induction n using Nat.strongRecOn with
 | _ n ih =>
 intro hn w
 have H := Sep.start0 w
 have hd := Nat.mod_lt n (show 0 < 10 by decide)
 refine rets1 Tryz.func184 rfl rfl rfl rfl ?_
 refine Sr (Am ?_)
 refine Nx (Mv ?_)
 refine Vv (Gives.remN (b := 10) rfl rfl (by omega)) (Mv ?_)
 refine Vv (Gives.remN (b := 10) rfl rfl (by omega)) (Vv (Gives.addW (c := ((n % 10 + 1 : Nat) : Int)) rfl rfl (by rw [wrapU (by omega)]; omega)) ?_)
 refine Vv (Gives.sliceBothT (l := decS) (i := n % 10) (m := n % 10 + 1) rfl rfl rfl (by omega) (by show n % 10 + 1 ≤ 10; omega)) ?_
 rw [dec_piece hd]
 refine Am ?_
 refine Qn (FW_seq (Sr (Mv ?_)))
 refine Vl ?_
 refine Qn (Cp rfl (fun hc11 => ?_) (fun hc11 => ?_))
 ·have hlt : n < 10 := by omega
  have hfin : decDigits n = [UInt8.ofNat (48 + n % 10)] := by rw [decDigits_one hlt, Nat.mod_eq_of_lt hlt]
  refine Sr (Mv ?_)
  refine Am ?_
  refine Qn (Rs (Qfn_ret (hR := ?_)))
  exact ⟨by rw [hfin]; rfl, rfl⟩
 have hge : ¬ n < 10 := by omega
 have hfin : decDigits n = decDigits (n / 10) ++ [UInt8.ofNat (48 + n % 10)] := by rw [decDigits, dif_neg hge]
 have hq : n / 10 < n := by omega
 have hlq := dec_len64 (n := n / 10) (by omega)
 refine Sk (Sr (Mv ?_))
 refine Vv (Gives.quoW (c := ((n / 10 : Nat) : Int)) rfl rfl (by decide) (by rw [show (10 : Int) = ((10 : Nat) : Int) from rfl, tdivN, wrapU (by omega)])) ?_
 refine FL_callS (ih (n / 10) hq (by omega) _) (h := ?_)
 refine Mv ?_
 refine Vv (Gives.catT rfl rfl (by first | omega | (simp; done) | (simp; omega))) ?_
 refine Am ?_
 refine Qn (FW_ret (Qfn_ret (hR := ?_)))
 exact ⟨by rw [hfin]; rfl, rfl⟩
section
variable {w : World}
theorem digits_ok9 (n : Int) (hn : fits n) : Rets Tryz.prog 136 [I n] w fun v w' => v = str (itoa n) ∧ Kept noB w w' := by
 have H := Sep.start0 w
 obtain ⟨hn1, hn2⟩ := hn
 refine rets1 Tryz.func136 rfl rfl rfl rfl ?_
 refine Sr (Am ?_)
 refine Qn (FW_seq (Sr (Mv ?_)))
 refine Vl ?_
 refine Qn (Cp rfl (fun hc4 => ?_) (fun hc4 => ?_))
 ·have hfin : itoa n = 45 :: decDigits n.natAbs := if_pos hc4
  have hl := dec_len64 (n := n.natAbs) (by omega)
  refine Sr (Mv ?_)
  refine Vv (Gives.addI (c := n + 1) rfl rfl rfl (by omega)) (Vv (Gives.negW (c := -(n + 1)) rfl (by rw [wrap64 (by omega)]; omega)) ?_)
  refine Vv (Gives.convW (k := .u64) (c := -(n + 1)) rfl (wrapU (by omega))) (Vv (Gives.addW (c := (n.natAbs : Int)) rfl rfl (by rw [wrapU (by omega)]; omega)) ?_)
  refine FL_callS (figures_ok9 n.natAbs (by omega) _) (h := ?_)
  refine Vv (Gives.catT rfl rfl (by first | omega | (simp; done) | (simp; omega))) ?_
  refine Am ?_
  refine Qn (Rs (Qfn_ret (hR := ?_)))
  exact ⟨by rw [hfin]; rfl, Kept.refl _ _⟩
 have hfin : itoa n = decDigits n.toNat := if_neg hc4
 refine Sk (Sr (Mv ?_))
 refine Vv (Gives.convW (k := .u64) (c := (n.toNat : Int)) rfl (by rw [wrapU (by omega)]; omega)) ?_
 refine FL_callS (figures_ok9 n.toNat (by omega) _) (h := ?_)
 refine Am ?_
 refine Qn (FW_ret (Qfn_ret (hR := ?_)))
 exact ⟨by rw [hfin]; rfl, Kept.refl _ _⟩
end
end Go.Proofs.YtmkaahkbhdlniaaGreatDoor
