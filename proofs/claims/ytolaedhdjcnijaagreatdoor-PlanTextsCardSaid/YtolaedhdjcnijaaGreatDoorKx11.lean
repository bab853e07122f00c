/-
 The document's Unquote, walked.
-/
import Derived.Test.YtolaedhdjcnijaaGreatDoorKx10
set_option linter.unusedVariables false
set_option linter.unusedSimpArgs false
namespace Go.Proofs.YtolaedhdjcnijaaGreatDoor
open Go Go.Mw Go.Lib
set_option maxRecDepth 4000

def unqAt (l : List UInt8) (i : Nat) (out : List UInt8) : List UInt8 × Nat × Int := unqR (l.length + 1 - i) (l.drop i) i out
theorem unqAt_end {l : List UInt8} {i : Nat} {out : List UInt8} (h : l.length ≤ i) : unqAt l i out = ([], 0, 3) := by
 unfold unqAt
 rw [List.drop_of_length_le h]
 cases l.length + 1 - i <;> rfl
theorem unqAt_more {l : List UInt8} {i f : Nat} {out : List UInt8} (hf : l.length - i < f) : unqR f (l.drop i) i out = unqAt l i out := by
 rcases Nat.lt_or_ge i (l.length + 1) with h | h
 ·exact unqR_more (by rw [List.length_drop]; omega) (by rw [List.length_drop]; omega)
 rw [unqAt_end (by omega), List.drop_of_length_le (by omega)]
 cases f <;> rfl
theorem drop_cons {l : List UInt8} {i : Nat} (h : i < l.length) : l.drop i = l.getD i 0 :: l.drop (i + 1) := by
 rw [List.drop_eq_getElem_cons h, List.getD_eq_getElem?_getD, List.getElem?_eq_getElem h]; rfl
theorem unqAt_step {l : List UInt8} {i : Nat} {out : List UInt8} {c : UInt8} (h : i < l.length) (hc : c = l.getD i 0) : unqAt l i out =
    if c = 34 then (out, i + 1, 0) else if c < 32 then ([], 0, 41) else if c = 92 then (if (escL (l.drop i)).2.2 ≠ 0 then ([], 0, (escL (l.drop i)).2.2) else unqAt l (i + (escL (l.drop i)).2.1) (out ++ (escL (l.drop i)).1))
    else if (nextL (l.drop i)).isSome = true then unqAt l (i + (nextP (l.drop i)).2) (out ++ (l.drop i).take (nextP (l.drop i)).2) else ([], 0, if beginsL (l.drop i) then 3 else 40) := by
  have hd := drop_cons h
  rw [← hc] at hd
  have hrec : ∀ n o, 1 ≤ n → unqR (l.length - i) ((l.drop i).drop n) (i + n) o = unqAt l (i + n) o := fun n o hn => by
    rw [List.drop_drop]
    exact unqAt_more (by omega)
  rw [show unqAt l i out = unqR (l.length - i + 1) (l.drop i) i out by unfold unqAt; congr 1; omega]
  rw [hd] at hrec ⊢
  rw [unqR]
  by_cases h1 : c = 34
  · rw [if_pos h1, if_pos h1]
  rw [if_neg h1, if_neg h1]
  by_cases h2 : c < 32
  · rw [if_pos h2, if_pos h2]
  rw [if_neg h2, if_neg h2]
  by_cases h3 : c = 92
  · rw [if_pos h3, if_pos h3]
    dsimp only
    by_cases h4 : (escL (c :: l.drop (i + 1))).2.2 ≠ 0
    · rw [if_pos h4, if_pos h4]
    rw [if_neg h4, if_neg h4]
    refine hrec _ _ ?_
    rcases escL_cases (c :: l.drop (i + 1)) with ⟨e, h0, hx⟩ | ⟨b, n, hn, hx⟩
    · rw [hx] at h4; exact absurd h0 h4
    rw [hx]; exact hn
  rw [if_neg h3, if_neg h3]
  unfold nextP
  cases hn : nextL (c :: l.drop (i + 1)) with
  | none => rfl
  | some x =>
    obtain ⟨r, n⟩ := x
    obtain ⟨k1, _, _, _, _⟩ := next_ok hn
    exact hrec n _ k1
theorem enc_len (r : Int) : (encodeRune r).length ≤ 4 := by
 unfold encodeRune encodeRuneZ
 repeat' split
 all_goals simp
theorem esc_len (s : List UInt8) : (escL s).1.length ≤ 4 ∧ (escL s).2.1 ≤ 12 := by
 obtain ⟨x, hx⟩ : ∃ x, x = escL s := ⟨_, rfl⟩
 rw [← hx]
 unfold escL escT at hx
 dsimp only at hx
 repeat' split at hx
 all_goals subst hx
 all_goals first
  | exact ⟨enc_len _, by simp⟩
  | exact ⟨by simp, by simp⟩
theorem unqL_at {l : List UInt8} (h : l.getD 0 0 = 34) (hne : l ≠ []) : unqL l = unqAt l 1 [] := by
 cases l with
 | nil => exact absurd rfl hne
 | cons c t =>
  have hc : c = 34 := h
  unfold unqL unqAt
  simp [hc]
section
variable {w : World} {l : List UInt8}
theorem unquote_ok4 (l : List UInt8) (hl : l.length ≤ 10000000) : Rets Tryz.prog 197 [str l] w fun v w' => v = .tuple #[str (unqL l).1, I (unqL l).2.1, I (unqL l).2.2] ∧ Kept noB w w' := by
  have H := Sep.start0 w
  refine rets1 Tryz.func197 rfl rfl rfl rfl ?_
  refine Sr (Am ?_)
  refine Am ?_
  refine Am ?_
  refine Qn (FW_seq (Sr (Mv ?_)))
  refine Vv (Gives.eqlT (b := []) rfl rfl) (Qn ?_)
  refine Cp rfl (fun hc6 => ?_) (fun hc6 => ?_)
  · have hfin : unqL l = ([], 0, 3) := by rw [hc6]; rfl
    refine Sr (Am ?_)
    refine Am ?_
    refine Am ?_
    refine Qn (Rs (Qfn_ret (hR := ?_)))
    exact ⟨by rw [hfin]; rfl, H.kept⟩
  have hpos : 0 < l.length := List.length_pos_iff.2 hc6
  have hd0 := drop_cons hpos
  refine Sk (FW_seq (Sr (Mv ?_)))
  refine Vv (Gives.idxD (i := 0) rfl rfl (by omega)) (Vn ?_)
  refine Qn (Cp rfl (fun hc16 => ?_) (fun hc16 => ?_))
  · have hfin : unqL l = ([], 0, 41) := by
      rw [List.drop_zero] at hd0
      rw [hd0]; unfold unqL
      dsimp only
      rw [if_pos (fun e => by rw [e] at hc16; exact hc16 rfl)]
    refine Sr (Am ?_)
    refine Am ?_
    refine Am ?_
    refine Qn (Rs (Qfn_ret (hR := ?_)))
    exact ⟨by rw [hfin]; rfl, H.kept⟩
  have h34 : l.getD 0 0 = 34 := UInt8.toNat_inj.1 (by show (l.getD 0 0).toNat = 34; omega)
  have hst := unqL_at h34 (List.length_pos_iff.1 hpos)
  obtain ⟨res, hr0⟩ : ∃ res, res = unqL l := ⟨_, rfl⟩
  rw [← hr0] at hst ⊢
  refine Sk (Sr (Am ?_))
  refine Nx (Am ?_)
  refine Qn (FW_seq (FW_block ?_))
  have H26 := Sep.nilBytes H 5
  refine FW_loop' (fun x : Nat × List UInt8 × Value => [(0, str l), (5, x.2.2), (6, I x.1)]) (fun x w' => (1 ≤ x.1 ∧ x.1 ≤ l.length + 12 ∧ x.2.1.length ≤ 4 * x.1 ∧ res = unqAt l x.1 x.2.1) ∧ Sep w noB [bytesH 5 x.2.2 x.2.1] w') (fun x _ => l.length - x.1) (1, [], _) ⟨rfl, rfl, rfl, trivial⟩ ⟨⟨Nat.le_refl _, by dsimp only; omega, by simp, hst⟩, H26⟩ (fun x τ w26 hI => ?_)
  obtain ⟨i, out, v1⟩ := x
  obtain ⟨⟨hi1, hi2, hol, hst⟩, H26⟩ := hI
  dsimp only at hi1 hi2 hol hst H26
  try simp only [upds, like, upd_ds, und_ds]
  refine FW_seq (Sr (Mv ?_))
  refine Mv ?_
  refine Vt ?_
  refine Vl ?_
  refine Qn (Cp rfl (fun hc31 => ?_) (fun hc31 => ?_))
  · have hlt : i < l.length := by omega
    obtain ⟨c, hc⟩ : ∃ c, c = l.getD i 0 := ⟨_, rfl⟩
    have hcl := c.toNat_lt
    have hs := unqAt_step (out := out) hlt hc
    rw [← hst] at hs
    have el : (c < 32) = (c.toNat < 32) := propext UInt8.lt_iff_toNat_lt
    have ee : ∀ k : UInt8, (c = k) = (c.toNat = k.toNat) := fun k => propext UInt8.toNat_inj.symm
    have e34 : (34 : UInt8).toNat = 34 := rfl
    have e92 : (92 : UInt8).toNat = 92 := rfl
    simp only [el, ee, e34, e92] at hs
    have hdr : (l.drop i).length = l.length - i := List.length_drop
    refine Sk (FW_block (FW_seq (Sr (Mv ?_))))
    refine Mv ?_
    refine Vv (Gives.idxD rfl rfl hlt) ?_
    rw [← hc]
    refine Ve ?_
    refine Qn (Cp rfl (fun hc37 => ?_) (fun hc37 => ?_))
    · have hfin : res = (out, i + 1, 0) := by rw [hs, if_pos (by omega)]
      refine Sr (Mv ?_)
      refine Vv (Gives.bytesO H26 At0 rfl) (Mv ?_)
      refine Vv (Gives.addI rfl rfl rfl (by omega)) (Am ?_)
      refine Am ?_
      refine Am ?_
      refine Qn (Rs (Qblk_ret (Qround_ret (Qblk_ret (Qseq_ret (Qfn_ret (hR := ?_)))))))
      exact ⟨by rw [hfin]; rfl, H26.kept⟩
    refine Sk (FW_seq (Sr (Mv ?_)))
    refine Mv ?_
    refine Vv (Gives.idxD rfl rfl hlt) ?_
    rw [← hc]
    refine Vl ?_
    refine Qn (Cp rfl (fun hc51 => ?_) (fun hc51 => ?_))
    · have hfin : res = ([], 0, 41) := by rw [hs, if_neg (by omega), if_pos (by omega)]
      refine Sr (Am ?_)
      refine Am ?_
      refine Am ?_
      refine Qn (Rs (Qblk_ret (Qround_ret (Qblk_ret (Qseq_ret (Qfn_ret (hR := ?_)))))))
      exact ⟨by rw [hfin]; rfl, H26.kept⟩
    refine Sk (FW_seq (Sr (Mv ?_)))
    refine Mv ?_
    refine Vv (Gives.idxD rfl rfl hlt) ?_
    rw [← hc]
    refine Ve ?_
    refine Qn (Cp rfl (fun hc61 => ?_) (fun hc61 => ?_))
    · rw [if_neg (by omega), if_neg (by omega), if_pos (by omega)] at hs
      have hel := esc_len (l.drop i)
      obtain ⟨e, he⟩ : ∃ e, e = escL (l.drop i) := ⟨_, rfl⟩
      have hcs := escL_cases (l.drop i)
      rw [← he] at hs hel hcs
      refine Sr (Mv ?_)
      refine Mv ?_
      refine Vv (Gives.sliceFromT rfl rfl (by omega)) (FL_callQ H26 (escape_ok4 (l.drop i) (by omega)) (h := fun w67 H67 _ => ?_))
      rw [← he]
      refine Mv ?_
      refine Vx ?_
      refine Vx ?_
      refine Vx ?_
      refine Am ?_
      refine Am ?_
      refine Am ?_
      refine Qn (FW_seq (Sr (Mv ?_)))
      refine Vn ?_
      refine Qn (Cp rfl (fun hc77 => ?_) (fun hc77 => ?_))
      · have hfin : res = ([], 0, e.2.2) := by rw [hs, if_pos hc77]
        refine Sr (Mv ?_)
        refine Am ?_
        refine Am ?_
        refine Am ?_
        refine Qn (Rs (Qseq_ret (Qblk_ret (Qround_ret (Qblk_ret (Qseq_ret (Qfn_ret (hR := ?_))))))))
        exact ⟨by rw [hfin]; rfl, H67.kept⟩
      have e20 : e.2.2 = 0 := by simpa using hc77
      rw [if_neg (by simpa using e20)] at hs
      have hn1 : 1 ≤ e.2.1 := by
        rcases hcs with ⟨x, h0, hx⟩ | ⟨b, n, hn, hx⟩
        · rw [hx] at e20; exact absurd e20 h0
        rw [hx]; exact hn
      clear hcs
      refine Sk (Sr (Mv ?_))
      refine Mv ?_
      refine FL_appendT H67 (xs := out) (news := e.1) At0 (by omega) (h := fun v2 w88 H88 => ?_)
      refine Am ?_
      refine Nx (Mv ?_)
      refine Mv ?_
      refine Vv (Gives.addI rfl rfl rfl (by omega)) (Am ?_)
      refine Qn (FW_exit (Qseq_exit (Qblk_exit ?_)))
      exact Qround_normal (i + e.2.1, out ++ e.1, v2) ⟨rfl, rfl, rfl, trivial⟩ ⟨⟨by dsimp only; omega, by dsimp only; omega, by dsimp only; rw [List.length_append]; omega, hs⟩, H88⟩ (by dsimp only; omega)
    rw [if_neg (by omega), if_neg (by omega), if_neg (by omega)] at hs
    refine Sk (Sr (Mv ?_))
    refine Mv ?_
    refine Vv (Gives.sliceFromT rfl rfl (by omega)) (FL_callQ H26 (next_ok4 (l.drop i) (by omega)) (h := fun w100 H100 _ => ?_))
    refine Mv ?_
    refine Vx ?_
    refine Vx ?_
    refine Vx ?_
    refine Am ?_
    refine Am ?_
    refine Am ?_
    refine Qn (FW_seq (Sr (Mv ?_)))
    refine Vv (Gives.not rfl) (Mv ?_)
    refine FL_split (t := 65) rfl (fun hs111 => ?_) (fun hs111 => ?_)
    · have hnn : nextL (l.drop i) = none := by
        cases h : nextL (l.drop i) with
        | none => rfl
        | some x => rw [h] at hs111; cases hs111
      have hn0 : (nextL (l.drop i)).isSome = false := by rw [hnn]; rfl
      rw [if_neg (by rw [hn0]; simp)] at hs
      refine On (Mv ?_)
      refine On (Mv ?_)
      refine On (Vv (Gives.sliceFromT rfl rfl (by omega)) (On ?_))
      refine FL_callQ H100 (begins_ok4 (l.drop i) (fun e => by rw [e] at hdr; simp at hdr; omega) hnn (by omega)) (h := fun w117 H117 _ => ?_)
      refine Pt ?_
      refine Qn (Cd rfl (fun hc119 => ?_) (fun hc119 => ?_))
      · have hfin : res = ([], 0, 3) := by rw [hs, hc119]; rfl
        refine Sr (Am ?_)
        refine Am ?_
        refine Am ?_
        refine Qn (Rs (Qblk_ret (Qround_ret (Qblk_ret (Qseq_ret (Qfn_ret (hR := ?_)))))))
        exact ⟨by rw [hfin]; rfl, H117.kept⟩
      have hb0 : beginsL (l.drop i) = false := by simpa using hc119
      have hfin : res = ([], 0, 40) := by rw [hs, hb0]; rfl
      refine Sk (FW_seq (Sr (Mv ?_)))
      refine Vv (Gives.not rfl) (Qn ?_)
      refine Cd rfl (fun hc128 => ?_) (fun hc128 => ?_)
      · refine Sr (Am ?_)
        refine Am ?_
        refine Am ?_
        refine Qn (Rs (Qblk_ret (Qround_ret (Qblk_ret (Qseq_ret (Qfn_ret (hR := ?_)))))))
        exact ⟨by rw [hfin]; rfl, H117.kept⟩
      (rw [hn0] at hc128; cases hc128)
    have hn1 : (nextL (l.drop i)).isSome = true := by simpa using hs111
    have hle := nextP_le hn1
    rw [if_pos hn1] at hs
    refine Of (Of (Of (Of (Pf ?_))))
    refine Qn (FW_cond_false rfl ?_)
    refine Sk (FW_seq (Sr (Mv ?_)))
    refine Vv (Gives.not rfl) (Qn ?_)
    refine Cd rfl (fun hc138 => ?_) (fun hc138 => ?_)
    · (rw [hn1] at hc138; cases hc138)
    refine Sk (Sr (Mv ?_))
    refine Mv ?_
    refine Mv ?_
    refine Mv ?_
    refine Mv ?_
    refine Vv (Gives.addI rfl rfl rfl (by omega)) (Vv (Gives.sliceBothT (i := i) (m := i + (nextP (l.drop i)).2) rfl rfl rfl (by omega) (by omega)) ?_)
    rw [List.drop_take, Nat.add_sub_cancel_left]
    refine FL_appendT H100 (xs := out) (news := (l.drop i).take (nextP (l.drop i)).2) At0 (by rw [List.length_take]; omega) (h := fun v2 w148 H148 => ?_)
    refine Am ?_
    refine Qn (FW_region (Mv ?_))
    refine Mv ?_
    refine Vv (Gives.addI rfl rfl rfl (by omega)) (Am ?_)
    refine FL_nil (Qblk_normal ?_)
    exact Qround_normal (i + (nextP (l.drop i)).2, out ++ (l.drop i).take (nextP (l.drop i)).2, v2) ⟨rfl, rfl, rfl, trivial⟩ ⟨⟨by dsimp only; omega, by dsimp only; omega, by dsimp only; rw [List.length_append, List.length_take]; omega, hs⟩, H148⟩ (by dsimp only; omega)
  have hfin : res = ([], 0, 3) := hst.trans (unqAt_end (by omega))
  refine FW_exit (Qseq_exit (Qround_exit (Qblk_exit (Qseq_normal (Sr (Am ?_))))))
  refine Am ?_
  refine Am ?_
  refine Qn (FW_ret (Qfn_ret (hR := ?_)))
  exact ⟨by rw [hfin]; rfl, H26.kept⟩
end

def typeCells (t : TypeM) : List Value := [I t.kind, .bool t.null]
def cellCells (c : CellM) : List Value := [.bool c.null, I c.n, str c.s]
def stepCells (x : StepM) : List Value := [I x.kind, I x.n, str x.s]
def colCells (c : ColM) : List Value := [I c.id, str c.name, I c.type.kind, .bool c.type.null, .bool c.dflt.null, I c.dflt.n, str c.dflt.s]
def agg (cs : List Value) : Value := .agg cs.toArray
theorem str_eq_iff {a b : List UInt8} : (((⟨a.toArray⟩ : ByteArray).toList == (⟨b.toArray⟩ : ByteArray).toList) = true) ↔ a = b := by
 rw [ByteArray.toList_mk, ByteArray.toList_mk]; simp
section
variable {P : Program} {w : World} {d : Nat} {f : Field} {fs : List Field} {xs ys : List Value} {u v : Value} {e : Bool}
theorem eqF1 (hn : (f.name != "_") = true) (h1 : OneCell P f.type) (hu : xs[f.offset]? = some u) (hv : ys[f.offset]? = some v) (he : (Op.equalIn d f.type u v).run P w = .ok e w) :
    (Op.eqFields d xs.toArray ys.toArray (f :: fs)).run P w = if e = true then (Op.eqFields d xs.toArray ys.toArray fs).run P w else .ok false w := by
  have hn' : f.name ≠ "_" := by simpa using hn
  simp only [Op.eqFields, if_pos hn', Sem.run_bind, run_part1 hu, run_part1 hv, Result.andThen_ok, he]
  cases e <;> simp
theorem eqFN {k : Nat} {us vs : List Value} (hn : (f.name != "_") = true) (h1 : Agg P f.type k) (hu : (xs.drop f.offset).take k = us) (hv : (ys.drop f.offset).take k = vs) (he : (Op.equalIn d f.type (.agg us.toArray) (.agg vs.toArray)).run P w = .ok e w) :
    (Op.eqFields d xs.toArray ys.toArray (f :: fs)).run P w = if e = true then (Op.eqFields d xs.toArray ys.toArray fs).run P w else .ok false w := by
  have hn' : f.name ≠ "_" := by simpa using hn
  simp only [Op.eqFields, if_pos hn', Sem.run_bind, run_partN hu, run_partN hv, Result.andThen_ok, he]
  cases e <;> simp
theorem eqF0 : (Op.eqFields d xs.toArray ys.toArray []).run P w = .ok true w := rfl
theorem equalI {t : TypeId} (a b : Int) (h : P.underlying t = some (.int .i64)) : (Op.equalIn (d + 1) t (I a) (I b)).run P w = .ok (decide (a = b)) w := by
 rw [show I a = .int .i64 a from rfl, show I b = .int .i64 b from rfl, run_equalIn_int w d t .i64 .i64 a b h]
 rfl
theorem equalB {t : TypeId} (a b : Bool) (h : P.underlying t = some .bool) : (Op.equalIn (d + 1) t (.bool a) (.bool b)).run P w = .ok (decide (a = b)) w := by
 rw [run_equalIn_bool' w d t a b h]
 cases a <;> cases b <;> rfl
theorem equalT {t : TypeId} (a b : List UInt8) (h : P.underlying t = some .string) : (Op.equalIn (d + 1) t (str a) (str b)).run P w = .ok (decide (a = b)) w := by
 rw [show str a = .string ⟨a.toArray⟩ from rfl, show str b = .string ⟨b.toArray⟩ from rfl, run_equalIn_string w d t _ _ h]
 congr 1
 rw [Bool.eq_iff_iff, str_eq_iff, decide_eq_true_eq]
end
theorem eqCell {d : Nat} (a b : CellM) (w : World) : (Op.equalIn (d + 2) 47 (.agg (cellCells a).toArray) (.agg (cellCells b).toArray)).run Tryz.prog w = .ok (decide (a = b)) w := by
 rw [run_equalIn_agg w (d + 1) _ _ _ (by kernel_rfl) (by kernel_rfl)]
 simp only [Program.fieldsOf, Tryz.underlying47]
 rw [eqF1 rfl oc_4 rfl rfl (equalB a.null b.null (by kernel_rfl)), eqF1 rfl oc_2 rfl rfl (equalI a.n b.n (by kernel_rfl)), eqF1 rfl oc_9 rfl rfl (equalT a.s b.s (by kernel_rfl)), eqF0]
 have e : (a = b) = (a.null = b.null ∧ a.n = b.n ∧ a.s = b.s) := propext ⟨fun h => by subst h; exact ⟨rfl, rfl, rfl⟩, fun h => CellM.ext' h.1 h.2.1 h.2.2⟩
 simp only [e]
 by_cases h1 : a.null = b.null <;> by_cases h2 : a.n = b.n <;> by_cases h3 : a.s = b.s <;> simp [h1, h2, h3]
theorem eqType {d : Nat} (a b : TypeM) (w : World) : (Op.equalIn (d + 2) 45 (.agg (typeCells a).toArray) (.agg (typeCells b).toArray)).run Tryz.prog w = .ok (decide (a = b)) w := by
 rw [run_equalIn_agg w (d + 1) _ _ _ (by kernel_rfl) (by kernel_rfl)]
 simp only [Program.fieldsOf, Tryz.underlying45]
 rw [eqF1 rfl oc_3 rfl rfl (equalI a.kind b.kind (by kernel_rfl)), eqF1 rfl oc_4 rfl rfl (equalB a.null b.null (by kernel_rfl)), eqF0]
 have e : (a = b) = (a.kind = b.kind ∧ a.null = b.null) := propext ⟨fun h => by subst h; exact ⟨rfl, rfl⟩, fun h => TypeM.ext' h.1 h.2⟩
 simp only [e]
 by_cases h1 : a.kind = b.kind <;> by_cases h2 : a.null = b.null <;> simp [h1, h2]
theorem eqStep {d : Nat} (a b : StepM) (w : World) : (Op.equalIn (d + 2) 60 (.agg (stepCells a).toArray) (.agg (stepCells b).toArray)).run Tryz.prog w = .ok (decide (a = b)) w := by
 rw [run_equalIn_agg w (d + 1) _ _ _ (by kernel_rfl) (by kernel_rfl)]
 simp only [Program.fieldsOf, Tryz.underlying60]
 rw [eqF1 rfl oc_3 rfl rfl (equalI a.kind b.kind (by kernel_rfl)), eqF1 rfl oc_2 rfl rfl (equalI a.n b.n (by kernel_rfl)), eqF1 rfl oc_9 rfl rfl (equalT a.s b.s (by kernel_rfl)), eqF0]
 have e : (a = b) = (a.kind = b.kind ∧ a.n = b.n ∧ a.s = b.s) := propext ⟨fun h => by subst h; exact ⟨rfl, rfl, rfl⟩, fun h => StepM.ext' h.1 h.2.1 h.2.2⟩
 simp only [e]
 by_cases h1 : a.kind = b.kind <;> by_cases h2 : a.n = b.n <;> by_cases h3 : a.s = b.s <;> simp [h1, h2, h3]
theorem eqCol {d : Nat} (a b : ColM) (w : World) : (Op.equalIn (d + 3) 49 (.agg (colCells a).toArray) (.agg (colCells b).toArray)).run Tryz.prog w = .ok (decide (a = b)) w := by
 rw [run_equalIn_agg w (d + 2) _ _ _ (by kernel_rfl) (by kernel_rfl)]
 simp only [Program.fieldsOf, Tryz.underlying49]
 rw [eqF1 rfl oc_3 rfl rfl (equalI a.id b.id (by kernel_rfl)), eqF1 rfl oc_9 rfl rfl (equalT a.name b.name (by kernel_rfl)), eqFN (k := 2) rfl ag_45 rfl rfl (eqType a.type b.type w), eqFN (k := 3) rfl ag_47 rfl rfl (eqCell a.dflt b.dflt w), eqF0]
 have e : (a = b) = (a.id = b.id ∧ a.name = b.name ∧ a.type = b.type ∧ a.dflt = b.dflt) := propext ⟨fun h => by subst h; exact ⟨rfl, rfl, rfl, rfl⟩, fun h => ColM.ext' h.1 h.2.1 h.2.2.1 h.2.2.2⟩
 simp only [e]
 by_cases h1 : a.id = b.id <;> by_cases h2 : a.name = b.name <;> by_cases h3 : a.type = b.type <;> by_cases h4 : a.dflt = b.dflt <;> simp [h1, h2, h3, h4]
instance : EqData Tryz.prog 47 CellM cellCells := ⟨fun a b w => eqCell (d := 9998) a b w, by kernel_rfl⟩
instance : EqData Tryz.prog 45 TypeM typeCells := ⟨fun a b w => eqType (d := 9998) a b w, by kernel_rfl⟩
instance : EqData Tryz.prog 60 StepM stepCells := ⟨fun a b w => eqStep (d := 9998) a b w, by kernel_rfl⟩
instance : EqData Tryz.prog 49 ColM colCells := ⟨fun a b w => eqCol (d := 9997) a b w, by kernel_rfl⟩
end Go.Proofs.YtolaedhdjcnijaaGreatDoor
namespace Go.Mw
open Go.RowKit
section rules
variable {P : Program} {r : Option Nat} {n : Nat} {ops : Array Oper} {Q : Post} {rest : List Oper} {σ : St} {w w' w₀ : World} {S : Nat → Prop} {rs : List HP} {put : HP → List HP} {ty : TypeId} {pos : String} {after : Array Edge} {guard : Option (Nat × Bool)} {lv : List Bool} {pd pd' : List (Nat × Bool)}
theorem FL_loadAll {d b k : Nat} {x : Operand} {T : TypeId} [Agg P T k] {cs : List Value} {E : TypeId} (H : Sep w₀ S rs w) (hx : evF σ x = .pointer (some ⟨b, 0, none⟩) := by exact rfl)
    (hat : At rs (blk b cs E) put := by first | exact At0 | exact At1 | exact At2 | exact At3 | exact At4 | exact At5 | exact At6 | exact At7 | exact At8 | exact At9) (hk : cs.length = k := by exact rfl) (hd : Nat.blt d n = true := by exact rfl) (h : FL P r n ops Q rest (upd σ d (.agg cs.toArray)) w) :
    FL P r n ops Q ({ dst := some d, op := .load T x, type := ty, pos := pos, after := after, guard := none } :: rest) σ w :=
  FL_loadN H hx hat (us := cs) (by rw [List.drop_zero, ← hk, List.take_length]) hk hd h
theorem FGloadAll (hok : okOps n ops = true) (i : Nat) {d b k : Nat} {x : Operand} {T : TypeId} [Agg P T k] {cs : List Value} {E : TypeId} (H : Sep w₀ S rs w) (ho : ops[i]? = some { dst := some d, op := .load T x, type := ty, pos := pos, after := after, guard := guard } := by exact rfl)
    (hw : Region.wanted { dst := some d, op := .load T x, type := ty, pos := pos, after := after, guard := guard } (yieldF ops σ) = true := by kernel_rfl) (hx : evF σ x = .pointer (some ⟨b, 0, none⟩) := by exact rfl)
    (hat : At rs (blk b cs E) put := by first | exact At0 | exact At1 | exact At2 | exact At3 | exact At4 | exact At5 | exact At6 | exact At7 | exact At8 | exact At9) (hk : cs.length = k := by exact rfl) (hck : quietOk ops lv (pd.map (·.1)) i = true := by kernel_rfl)
    (h : FG P r n ops Q (lv.set i true) ((i, false) :: pd) (upd σ d (.agg cs.toArray)) w) : FG P r n ops Q lv pd σ w :=
  FGloadN hok i H ho hw hx hat (us := cs) (by rw [List.drop_zero, ← hk, List.take_length]) hk hck h
theorem FL_storeAll {b k : Nat} {x y : Operand} {T : TypeId} [Agg P T k] {cs us : List Value} {E : TypeId} (H : Sep w₀ S rs w) (hx : evF σ x = .pointer (some ⟨b, 0, none⟩) := by exact rfl) (hy : evF σ y = .agg us.toArray := by exact rfl)
    (hat : At rs (blk b cs E) put := by first | exact At0 | exact At1 | exact At2 | exact At3 | exact At4 | exact At5 | exact At6 | exact At7 | exact At8 | exact At9) (hk : us.length = k := by exact rfl) (hl : cs.length = k := by exact rfl) (hv : us.all Value.oneCell' = true := by exact rfl)
    (h : ∀ w', Sep w₀ S (put (blk b us E)) w' → FL P r n ops Q rest σ w') :
    FL P r n ops Q ({ dst := none, op := .store T x y, type := ty, pos := pos, after := after, guard := none } :: rest) σ w :=
  FL_storeN H hx hy hk (fun u hu => List.all_eq_true.1 hv u hu) hat (by omega) (by rw [List.take_zero, List.nil_append, List.drop_of_length_le (by omega), List.append_nil]) h
theorem acts_storeAll {ρ : Operand → Value} {b k : Nat} {x y : Operand} {T : TypeId} [h1 : Agg P T k] {cs us : List Value} {E : TypeId} (H : Sep w₀ S rs w) (hx : ρ x = .pointer (some ⟨b, 0, none⟩)) (hy : ρ y = .agg us.toArray)
    (hat : At rs (blk b cs E) put) (hk : us.length = k) (hl : cs.length = k) (hv : us.all Value.oneCell' = true) : ∃ w', Acts P ρ (.store T x y) ty w w' ∧ Sep w₀ S (put (blk b us E)) w' := by
  have hb := H.obj hat
  have hst := run_storeCells_at P b 0 E us 0 cs.toArray w hb (by simp; omega) (fun u hu => List.all_eq_true.1 hv u hu)
  have hs : cs.take 0 ++ us ++ cs.drop (0 + us.length) = us := by rw [List.take_zero, List.nil_append, List.drop_of_length_le (by omega), List.append_nil]
  refine ⟨w.setRow b (cs.take 0 ++ us ++ cs.drop (0 + us.length)).toArray, fun _ _ _ _ => ?_, ?_⟩
  · simp only [Nat.add_zero] at hst
    simp [execOp, hx, hy, Instr.storeAt, Instr.sureAddr, storeVar, h1.size, Value.cells, hk]
    simp [hk] at hst
    rw [hst]
    simp
  rw [hs]
  refine H.setObj hat ⟨rfl, rfl, rfl, by simp, fun j hj hS => ?_⟩ ?_
  · simp only [World.setRow, Array.getElem?_modify]; rw [if_neg (fun e => hS e.symm)]
  simp only [World.setRow, Array.getElem?_modify, if_true, hb, Option.map_some]
theorem FGstoreAll (hok : okOps n ops = true) (e : Nat) (pd' : List (Nat × Bool)) {b k : Nat} {x y : Operand} {T : TypeId} [Agg P T k] {cs us : List Value} {E : TypeId} (H : Sep w₀ S rs w) (ho : ops[e]? = some { dst := none, op := .store T x y, type := ty, pos := pos, after := after, guard := guard } := by exact rfl)
    (hw : Region.wanted { dst := none, op := .store T x y, type := ty, pos := pos, after := after, guard := guard } (yieldF ops σ) = true := by kernel_rfl) (hx : evF σ x = .pointer (some ⟨b, 0, none⟩) := by exact rfl) (hy : evF σ y = .agg us.toArray := by exact rfl)
    (hat : At rs (blk b cs E) put := by first | exact At0 | exact At1 | exact At2 | exact At3 | exact At4 | exact At5 | exact At6 | exact At7 | exact At8 | exact At9) (hk : us.length = k := by exact rfl) (hl : cs.length = k := by exact rfl) (hv : us.all Value.oneCell' = true := by exact rfl)
    (hck : effectOk ops lv (pd.map (·.1)) e = true := by kernel_rfl) (hpd : pd.filter (fun p => !((above ops e).contains p.1)) = pd' := by kernel_rfl)
    (h : ∀ w', Sep w₀ S (put (blk b us E)) w' → Stab P ops σ w' pd' ∧ FG P r n ops Q (lv.set e true) pd' σ w') : FG P r n ops Q lv pd σ w :=
  FGact hok e pd' ho hw (acts_storeAll H hx hy hat hk hl hv) hck hpd h
end rules
end Go.Mw
namespace Go.Proofs.YtolaedhdjcnijaaGreatDoor
open Go Go.Mw Go.Lib
set_option maxRecDepth 4000

theorem boolE {a b : Bool} (h : a = true ↔ b = true) : Value.bool a = .bool b := congrArg Value.bool (Bool.eq_iff_iff.2 h)
section
variable {w : World}
end

attribute [local irreducible] mayT
section
variable {w : World}
end
theorem wrapU {n : Int} (h : 0 ≤ n ∧ n ≤ 18446744073709551615) : IntKind.u64.wrap n = n := by simp [IntKind.wrap, IntKind.bits, IntKind.signed]; omega
theorem wrapB {n : Int} (h : 0 ≤ n ∧ n ≤ 255) : IntKind.u8.wrap n = n := by rw [IntKind.wrap_u8]; omega
end Go.Proofs.YtolaedhdjcnijaaGreatDoor
namespace Go.Mw
section gives
variable {P : Program} {ρ : Operand → Value} {ty : TypeId} {w : World} {x y : Operand} {T U : TypeId} {k : IntKind} {a b c : Int}
theorem Gives.addW (hx : ρ x = .int k a) (hy : ρ y = .int k b) (he : k.wrap (a + b) = c) : Gives P ρ (.binOp .add T x y U) ty w (.int k c) w := by subst he; exact Gives.add hx hy
theorem Gives.subW (hx : ρ x = .int k a) (hy : ρ y = .int k b) (he : k.wrap (a - b) = c) : Gives P ρ (.binOp .sub T x y U) ty w (.int k c) w := by subst he; exact Gives.sub hx hy
theorem Gives.mulW (hx : ρ x = .int k a) (hy : ρ y = .int k b) (he : k.wrap (a * b) = c) : Gives P ρ (.binOp .mul T x y U) ty w (.int k c) w := by subst he; exact Gives.mul hx hy
theorem Gives.quoW (hx : ρ x = .int k a) (hy : ρ y = .int k b) (h0 : b ≠ 0) (he : k.wrap (a.tdiv b) = c) : Gives P ρ (.binOp .quo T x y U) ty w (.int k c) w := by subst he; exact Gives.quo hx hy h0
theorem Gives.negW (hx : ρ x = .int k a) (he : k.wrap (0 - a) = c) : Gives P ρ (.unOp .neg T x) ty w (.int k c) w := by subst he; exact Gives.neg hx
theorem Gives.convW {s t : TypeId} {j : IntKind} [hs : IsInt P s j] [ht : IsInt P t k] (hx : ρ x = .int j a) (he : k.wrap a = c) : Gives P ρ (.convert s t x) ty w (.int k c) w := by subst he; exact Gives.conv hx
end gives
end Go.Mw
namespace Go.Proofs.YtolaedhdjcnijaaGreatDoor
open Go Go.Mw Go.Lib
def decS : List UInt8 := [48, 49, 50, 51, 52, 53, 54, 55, 56, 57]
theorem dec_piece {d : Nat} (h : d < 10) : (decS.take (d + 1)).drop d = [UInt8.ofNat (48 + d)] := by
 have key : ∀ i : Fin 10, (decS.take (i.val + 1)).drop i.val = [UInt8.ofNat (48 + i.val)] := by decide
 exact key ⟨d, h⟩
def hexS : List UInt8 := [48, 49, 50, 51, 52, 53, 54, 55, 56, 57, 97, 98, 99, 100, 101, 102]
theorem hex_piece {d : Nat} (h : d < 16) : (hexS.take (d + 1)).drop d = [hexB d] := by
 have key : ∀ i : Fin 16, (hexS.take (i.val + 1)).drop i.val = [hexB i.val] := by decide
 exact key ⟨d, h⟩
theorem dec_len64 {n : Nat} (h : n < 18446744073709551616) : (decDigits n).length ≤ 20 := decDigits_len 19 n (by omega)
theorem tdivN (a b : Nat) : (a : Int).tdiv (b : Int) = ((a / b : Nat) : Int) := by rw [Int.tdiv_eq_ediv_of_nonneg (by omega)]; rfl
theorem hexL_succ {l : List UInt8} {i : Nat} (h : i < l.length) : hexL (l.take (i + 1)) = hexL (l.take i) ++ [hexB ((l.getD i 0).toNat / 16), hexB ((l.getD i 0).toNat % 16)] := by
 unfold hexL
 rw [List.take_add_one, List.getElem?_eq_getElem h, List.flatMap_append]
 simp [List.getD_eq_getElem?_getD, List.getElem?_eq_getElem h]
theorem hexL_length (l : List UInt8) : (hexL l).length = 2 * l.length := by
 induction l with
 | nil => rfl
 | cons c l ih => unfold hexL at *; rw [List.flatMap_cons, List.length_append, ih]; simp; omega
theorem figures_ok9 : ∀ (n : Nat), n < 18446744073709551616 → ∀ w : World, Rets Tryz.prog 189 [.int .u64 n] w fun v w' => v = str (decDigits n) ∧ w = w' := by
 intro n
 induction n using Nat.strongRecOn with
 | _ n ih =>
 intro hn w
 have H := Sep.start0 w
 have hd := Nat.mod_lt n (show 0 < 10 by decide)
 refine rets1 Tryz.func189 rfl rfl rfl rfl ?_
 refine Sr (Am ?_)
 refine Nx (Mv ?_)
 refine Vv (Gives.remN (b := 10) rfl rfl (by omega)) (Mv ?_)
 refine Vv (Gives.remN (b := 10) rfl rfl (by omega)) (Vv (Gives.addW (c := ((n % 10 + 1 : Nat) : Int)) rfl rfl (by rw [wrapU (by omega)]; omega)) ?_)
 refine Vv (Gives.sliceBothT (l := decS) (i := n % 10) (m := n % 10 + 1) rfl rfl rfl (by omega) (by show n % 10 + 1 ≤ 10; omega)) ?_
 rw [dec_piece hd]
 refine Am ?_
 refine Qn (FW_seq (Sr (Mv ?_)))
 refine Vl ?_
 refine Qn (Cp rfl (fun hc11 => ?_) (fun hc11 => ?_))
 ·have hlt : n < 10 := by omega
  have hfin : decDigits n = [UInt8.ofNat (48 + n % 10)] := by rw [decDigits_one hlt, Nat.mod_eq_of_lt hlt]
  refine Sr (Mv ?_)
  refine Am ?_
  refine Qn (Rs (Qfn_ret (hR := ?_)))
  exact ⟨by rw [hfin]; rfl, rfl⟩
 have hge : ¬ n < 10 := by omega
 have hfin : decDigits n = decDigits (n / 10) ++ [UInt8.ofNat (48 + n % 10)] := by rw [decDigits, dif_neg hge]
 have hq : n / 10 < n := by omega
 have hlq := dec_len64 (n := n / 10) (by omega)
 refine Sk (Sr (Mv ?_))
 refine Vv (Gives.quoW (c := ((n / 10 : Nat) : Int)) rfl rfl (by decide) (by rw [show (10 : Int) = ((10 : Nat) : Int) from rfl, tdivN, wrapU (by omega)])) ?_
 refine FL_callS (ih (n / 10) hq (by omega) _) (h := ?_)
 refine Mv ?_
 refine Vv (Gives.catT rfl rfl (by first | omega | (simp; done) | (simp; omega))) ?_
 refine Am ?_
 refine Qn (FW_ret (Qfn_ret (hR := ?_)))
 exact ⟨by rw [hfin]; rfl, rfl⟩
section
variable {w : World}
theorem digits_ok9 (n : Int) (hn : fits n) : Rets Tryz.prog 132 [I n] w fun v w' => v = str (itoa n) ∧ Kept noB w w' := by
 have H := Sep.start0 w
 obtain ⟨hn1, hn2⟩ := hn
 refine rets1 Tryz.func132 rfl rfl rfl rfl ?_
 refine Sr (Am ?_)
 refine Qn (FW_seq (Sr (Mv ?_)))
 refine Vl ?_
 refine Qn (Cp rfl (fun hc4 => ?_) (fun hc4 => ?_))
 ·have hfin : itoa n = 45 :: decDigits n.natAbs := if_pos hc4
  have hl := dec_len64 (n := n.natAbs) (by omega)
  refine Sr (Mv ?_)
  refine Vv (Gives.addI (c := n + 1) rfl rfl rfl (by omega)) (Vv (Gives.negW (c := -(n + 1)) rfl (by rw [wrap64 (by omega)]; omega)) ?_)
  refine Vv (Gives.convW (k := .u64) (c := -(n + 1)) rfl (wrapU (by omega))) (Vv (Gives.addW (c := (n.natAbs : Int)) rfl rfl (by rw [wrapU (by omega)]; omega)) ?_)
  refine FL_callS (figures_ok9 n.natAbs (by omega) _) (h := ?_)
  refine Vv (Gives.catT rfl rfl (by first | omega | (simp; done) | (simp; omega))) ?_
  refine Am ?_
  refine Qn (Rs (Qfn_ret (hR := ?_)))
  exact ⟨by rw [hfin]; rfl, Kept.refl _ _⟩
 have hfin : itoa n = decDigits n.toNat := if_neg hc4
 refine Sk (Sr (Mv ?_))
 refine Vv (Gives.convW (k := .u64) (c := (n.toNat : Int)) rfl (by rw [wrapU (by omega)]; omega)) ?_
 refine FL_callS (figures_ok9 n.toNat (by omega) _) (h := ?_)
 refine Am ?_
 refine Qn (FW_ret (Qfn_ret (hR := ?_)))
 exact ⟨by rw [hfin]; rfl, Kept.refl _ _⟩
end
end Go.Proofs.YtolaedhdjcnijaaGreatDoor
namespace Go.Proofs.YtolaedhdjcnijaaGreatDoor
open Go Go.Mw Go.Lib
set_option maxRecDepth 4000
def wholeM (b : Bool) (m : List UInt8) : Int × Bool :=
 if m.length < 1 ∨ 19 < m.length then (0, false) else match digitsD m 0 with
  | none => (0, false)
  | some n => if b = true ∧ n ≤ 9223372036854775808 then (-(n : Int), true) else (IntKind.i64.wrap n, decide (b = false ∧ n < 9223372036854775808))
theorem whole_m (l : List UInt8) : wholeL l = if l.head? = some 45 then wholeM true (l.drop 1) else wholeM false l := by
 unfold wholeL wholeM
 split
 ·split
  ·rfl
  cases digitsD (l.drop 1) 0 with
  | none => rfl
  | some n => simp
 split
 ·rfl
 cases digitsD l 0 with
 | none => rfl
 | some n => simp
theorem wrap_neg {n : Nat} (h : n ≤ 9223372036854775808) : IntKind.i64.wrap (IntKind.u64.wrap (0 - (n : Int))) = -(n : Int) := by
 have e : IntKind.u64.wrap (0 - (n : Int)) = (0 - (n : Int)) % 18446744073709551616 := by simp [IntKind.wrap, IntKind.bits, IntKind.signed]
 rw [e, IntKind.wrap_i64]; omega
theorem head_45 {l : List UInt8} (h : 0 < l.length) : (l.head? = some 45) ↔ (l.getD 0 0).toNat = 45 := by
 cases l with
 | nil => cases h
 | cons c t =>
  simp
  exact ⟨fun e => by rw [e]; rfl, fun e => UInt8.toNat_inj.1 e⟩
section
variable {w : World}
theorem whole_ok9 (l : List UInt8) (hl : l.length ≤ 9223372036854775807) : Rets Tryz.prog 196 [str l] w fun v w' => v = .tuple #[I (wholeL l).1, .bool (wholeL l).2] ∧ w = w' := by
  have H := Sep.start0 w
  obtain ⟨res, hres⟩ : ∃ res, res = wholeL l := ⟨_, rfl⟩
  have hwm := whole_m l
  rw [← hres] at hwm ⊢
  refine rets1 Tryz.func196 rfl rfl rfl rfl ?_
  refine Sr (Am ?_)
  refine Am ?_
  refine Nx (Mv ?_)
  refine Vt ?_
  refine Vg ?_
  refine Mv ?_
  refine FL_splitP (t := 10) rfl (fun hs7 => ?_) (fun hs7 => ?_)
  · have hpos : 0 < l.length := by omega
    refine On (Mv ?_)
    refine On (Vv (Gives.idxD (i := 0) rfl rfl (by omega)) (On ?_))
    refine Ve ?_
    obtain ⟨b, hb⟩ : ∃ b, b = decide (((l.getD 0 0).toNat : Int) = 45) := ⟨_, rfl⟩
    rw [← hb]
    refine Pt ?_
    refine Am ?_
    refine Qn (FW_seq (Sr (Mv ?_)))
    refine Qn (Cd rfl (fun hc15 => ?_) (fun hc15 => ?_))
    · have hbt := hc15
      have h45 : (l.getD 0 0).toNat = 45 := by rw [hc15] at hb; have := of_decide_eq_true hb.symm; omega
      obtain ⟨m, hm⟩ : ∃ m, m = l.drop 1 := ⟨_, rfl⟩
      have hlm : m.length ≤ l.length := by rw [hm, List.length_drop]; omega
      rw [if_pos ((head_45 hpos).2 h45), ← hm, ← hc15] at hwm
      refine FW_region (Mv ?_)
      refine Vv (Gives.sliceFromT (i := 1) rfl rfl (by omega)) ?_
      rw [← hm]
      refine Am ?_
      refine Qn (FW_seq (Sr (Mv ?_)))
      refine Vt ?_
      refine Vl ?_
      refine Mv ?_
      refine FL_splitP (t := 21) rfl (fun hs24 => ?_) (fun hs24 => ?_)
      · refine Of (Of (Of (Pt ?_)))
        refine Qn (FW_cond_true rfl ?_)
        refine Sr (Am ?_)
        refine Am ?_
        refine Qn (Rs (Qfn_ret (hR := ?_)))
        exact ⟨by first | (rw [hfin]; rfl) | (rw [hwm]; unfold wholeM; rw [if_pos (by omega)]; rfl), rfl⟩
      refine On (Mv ?_)
      refine On (Vt ?_)
      refine On (Vg ?_)
      refine Pf ?_
      refine Qn (Cp rfl (fun hc33 => ?_) (fun hc33 => ?_))
      · have hmm : 19 < m.length := by omega
        refine Sr (Am ?_)
        refine Am ?_
        refine Qn (Rs (Qfn_ret (hR := ?_)))
        exact ⟨by first | (rw [hfin]; rfl) | (rw [hwm]; unfold wholeM; rw [if_pos (by omega)]; rfl), rfl⟩
      have hmm : ¬ (m.length < 1 ∨ 19 < m.length) := by omega
      refine Sk (Sr (Am ?_))
      refine Qn (FW_seq (Sr (Am ?_)))
      refine Qn (FW_block ?_)
      obtain ⟨dm, hdm⟩ : ∃ dm, dm = digitsD m 0 := ⟨_, rfl⟩
      unfold wholeM at hwm
      rw [if_neg hmm, ← hdm] at hwm
      refine FW_loop' (fun x : Nat × Nat => [(0, str m), (4, .bool b), (5, .int .u64 x.2), (6, I x.1)]) (fun x w' => (x.1 ≤ m.length ∧ x.2 < 10 ^ x.1 ∧ digitsD (m.drop x.1) x.2 = dm) ∧ w = w') (fun x _ => m.length - x.1) (0, 0) ⟨rfl, rfl, rfl, rfl, trivial⟩ ⟨⟨Nat.zero_le _, by decide, by rw [List.drop_zero, hdm]⟩, rfl⟩ (fun x τ w42 hI => ?_)
      obtain ⟨i, acc⟩ := x
      obtain ⟨⟨hi, hacc, hst⟩, rfl⟩ := hI
      dsimp only at hi hacc hst
      try simp only [upds, like, upd_ds, und_ds]
      refine FW_seq (Sr (Mv ?_))
      refine Mv ?_
      refine Vt ?_
      refine Vl ?_
      refine Qn (Cp rfl (fun hc47 => ?_) (fun hc47 => ?_))
      · have hlt : i < m.length := by omega
        obtain ⟨c, hc⟩ : ∃ c, c = m.getD i 0 := ⟨_, rfl⟩
        have hcl := c.toNat_lt
        rw [drop_cons hlt, ← hc, digitsD] at hst
        have hp : 10 ^ i ≤ 10 ^ 18 := Nat.pow_le_pow_right (by decide) (by omega)
        have hps : 10 ^ (i + 1) = 10 ^ i * 10 := Nat.pow_succ 10 i
        have hps' : (10 : Nat) ^ 18 = 1000000000000000000 := by decide
        refine Sk (FW_seq (FW_block (FW_seq (Sr (Mv ?_)))))
        refine Mv ?_
        refine Vv (Gives.idxD rfl rfl hlt) ?_
        rw [← hc]
        refine Vl ?_
        refine Mv ?_
        refine FL_splitP (t := 36) rfl (fun hs54 => ?_) (fun hs54 => ?_)
        · refine Of (Of (Of (Of (Pt ?_))))
          refine Qn (FW_cond_true rfl ?_)
          refine Sr (Am ?_)
          refine Am ?_
          refine Qn (Rs (Qblk_ret (Qseq_ret (Qround_ret (Qblk_ret (Qseq_ret (Qfn_ret (hR := ?_))))))))
          have hd : ¬ isDig c = true := fun h => by have := of_decide_eq_true h; omega
          rw [if_neg hd] at hst
          rw [← hst] at hwm
          exact ⟨by rw [hwm]; rfl, rfl⟩
        refine On (Mv ?_)
        refine On (Mv ?_)
        refine On (Vv (Gives.idxD rfl rfl hlt) ?_)
        rw [← hc]
        refine On (Vg ?_)
        refine Pf ?_
        refine Qn (Cp rfl (fun hc64 => ?_) (fun hc64 => ?_))
        · refine Sr (Am ?_)
          refine Am ?_
          refine Qn (Rs (Qblk_ret (Qseq_ret (Qround_ret (Qblk_ret (Qseq_ret (Qfn_ret (hR := ?_))))))))
          have hd : ¬ isDig c = true := fun h => by have := of_decide_eq_true h; omega
          rw [if_neg hd] at hst
          rw [← hst] at hwm
          exact ⟨by rw [hwm]; rfl, rfl⟩
        have hd : isDig c = true := decide_eq_true (by omega)
        refine Sk (FW_region (Mv ?_))
        refine Vv (Gives.mulW (c := ((10 * acc : Nat) : Int)) rfl rfl (by rw [wrapU (by omega)]; omega)) ?_
        refine Mv ?_
        refine Mv ?_
        refine Vv (Gives.idxD rfl rfl hlt) ?_
        rw [← hc]
        refine Vv (Gives.subW (c := ((c.toNat - 48 : Nat) : Int)) rfl rfl (by rw [wrapB (by omega)]; omega)) ?_
        refine Vv (Gives.convW (k := .u64) (c := ((c.toNat - 48 : Nat) : Int)) rfl (wrapU (by omega))) (Vv (Gives.addW (c := ((10 * acc + (c.toNat - 48) : Nat) : Int)) rfl rfl (by rw [wrapU (by omega)]; omega)) ?_)
        refine Am ?_
        refine FL_nil (Qblk_normal (Qseq_normal (FW_region (Mv ?_))))
        refine Vv (Gives.addI rfl rfl rfl (by omega)) (Am ?_)
        refine FL_nil ?_
        exact Qround_normal (i + 1, 10 * acc + (c.toNat - 48)) ⟨rfl, rfl, rfl, rfl, trivial⟩ ⟨⟨by dsimp only; omega, by dsimp only; omega, by dsimp only; rw [if_pos hd] at hst; exact hst⟩, rfl⟩ (by dsimp only; omega)
      have him : i = m.length := by omega
      have hp : 10 ^ i ≤ 10 ^ 19 := Nat.pow_le_pow_right (by decide) (by omega)
      have hps' : (10 : Nat) ^ 19 = 10000000000000000000 := by decide
      rw [him, List.drop_length, digitsD] at hst
      rw [← hst] at hwm
      dsimp only at hwm
      refine FW_exit (Qseq_exit (Qround_exit (Qblk_exit (Qseq_normal (FW_seq (Sr (Mv ?_)))))))
      refine Mv ?_
      refine FL_split (t := 51) rfl (fun hs85 => ?_) (fun hs85 => ?_)
      · refine On (Mv ?_)
        refine On (Vv (Gives.leq rfl rfl) (Pt ?_))
        refine Qn (Cp rfl (fun hc89 => ?_) (fun hc89 => ?_))
        · refine Sr (Mv ?_)
          refine Vv (Gives.negW (c := IntKind.u64.wrap (0 - (acc : Int))) rfl rfl) (Vv (Gives.convW (k := .i64) (c := -(acc : Int)) rfl (wrap_neg (by omega))) ?_)
          refine Am ?_
          refine Am ?_
          refine Qn (Rs (Qfn_ret (hR := ?_)))
          exact ⟨by rw [hwm, if_pos ⟨hbt, by omega⟩]; rfl, rfl⟩
        refine Sk (Sr (Mv ?_))
        refine Vv (Gives.convW (k := .i64) (c := IntKind.i64.wrap (acc : Int)) rfl rfl) (Mv ?_)
        refine Vv (Gives.not rfl) (Mv ?_)
        refine FL_split (t := 62) rfl (fun hs101 => ?_) (fun hs101 => ?_)
        · (rw [hbt] at hs101; cases hs101)
        have hee : decide (b = false ∧ acc < 9223372036854775808) = false := decide_eq_false (fun h => by rw [hbt] at h; cases h.1)
        have hfin : res = (IntKind.i64.wrap (acc : Int), false) := by rw [hwm, if_neg (fun h => by omega), hee]
        refine Of (Of (Pf ?_))
        refine Am ?_
        refine Am ?_
        refine Qn (FW_ret (Qfn_ret (hR := ?_)))
        refine ⟨?_, rfl⟩; rw [hfin]; simp only [resPack, upd_same, upd_ne, ne_eq, Nat.reduceEqDiff, not_false_eq_true, List.map_cons, List.map_nil, updO]; rfl
      (rw [hbt] at hs85; cases hs85)
    have hbt := hc15
    have h45 : (l.getD 0 0).toNat ≠ 45 := by rw [hc15] at hb; have := of_decide_eq_false hb.symm; omega
    obtain ⟨m, hm⟩ : ∃ m, m = l := ⟨_, rfl⟩
    have hlm : m.length ≤ l.length := by rw [hm]; omega
    rw [if_neg (fun h => h45 ((head_45 hpos).1 h)), ← hm, ← hc15] at hwm
    rw [← hm]
    refine Sk (FW_seq (Sr (Mv ?_)))
    refine Vt ?_
    refine Vl ?_
    refine Mv ?_
    refine FL_splitP (t := 21) rfl (fun hs114 => ?_) (fun hs114 => ?_)
    · refine Of (Of (Of (Pt ?_)))
      refine Qn (FW_cond_true rfl ?_)
      refine Sr (Am ?_)
      refine Am ?_
      refine Qn (Rs (Qfn_ret (hR := ?_)))
      exact ⟨by first | (rw [hfin]; rfl) | (rw [hwm]; unfold wholeM; rw [if_pos (by omega)]; rfl), rfl⟩
    refine On (Mv ?_)
    refine On (Vt ?_)
    refine On (Vg ?_)
    refine Pf ?_
    refine Qn (Cp rfl (fun hc123 => ?_) (fun hc123 => ?_))
    · have hmm : 19 < m.length := by omega
      refine Sr (Am ?_)
      refine Am ?_
      refine Qn (Rs (Qfn_ret (hR := ?_)))
      exact ⟨by first | (rw [hfin]; rfl) | (rw [hwm]; unfold wholeM; rw [if_pos (by omega)]; rfl), rfl⟩
    have hmm : ¬ (m.length < 1 ∨ 19 < m.length) := by omega
    refine Sk (Sr (Am ?_))
    refine Qn (FW_seq (Sr (Am ?_)))
    refine Qn (FW_block ?_)
    obtain ⟨dm, hdm⟩ : ∃ dm, dm = digitsD m 0 := ⟨_, rfl⟩
    unfold wholeM at hwm
    rw [if_neg hmm, ← hdm] at hwm
    refine FW_loop' (fun x : Nat × Nat => [(0, str m), (4, .bool b), (5, .int .u64 x.2), (6, I x.1)]) (fun x w' => (x.1 ≤ m.length ∧ x.2 < 10 ^ x.1 ∧ digitsD (m.drop x.1) x.2 = dm) ∧ w = w') (fun x _ => m.length - x.1) (0, 0) ⟨rfl, rfl, rfl, rfl, trivial⟩ ⟨⟨Nat.zero_le _, by decide, by rw [List.drop_zero, hdm]⟩, rfl⟩ (fun x τ w132 hI => ?_)
    obtain ⟨i, acc⟩ := x
    obtain ⟨⟨hi, hacc, hst⟩, rfl⟩ := hI
    dsimp only at hi hacc hst
    try simp only [upds, like, upd_ds, und_ds]
    refine FW_seq (Sr (Mv ?_))
    refine Mv ?_
    refine Vt ?_
    refine Vl ?_
    refine Qn (Cp rfl (fun hc137 => ?_) (fun hc137 => ?_))
    · have hlt : i < m.length := by omega
      obtain ⟨c, hc⟩ : ∃ c, c = m.getD i 0 := ⟨_, rfl⟩
      have hcl := c.toNat_lt
      rw [drop_cons hlt, ← hc, digitsD] at hst
      have hp : 10 ^ i ≤ 10 ^ 18 := Nat.pow_le_pow_right (by decide) (by omega)
      have hps : 10 ^ (i + 1) = 10 ^ i * 10 := Nat.pow_succ 10 i
      have hps' : (10 : Nat) ^ 18 = 1000000000000000000 := by decide
      refine Sk (FW_seq (FW_block (FW_seq (Sr (Mv ?_)))))
      refine Mv ?_
      refine Vv (Gives.idxD rfl rfl hlt) ?_
      rw [← hc]
      refine Vl ?_
      refine Mv ?_
      refine FL_splitP (t := 36) rfl (fun hs144 => ?_) (fun hs144 => ?_)
      · refine Of (Of (Of (Of (Pt ?_))))
        refine Qn (FW_cond_true rfl ?_)
        refine Sr (Am ?_)
        refine Am ?_
        refine Qn (Rs (Qblk_ret (Qseq_ret (Qround_ret (Qblk_ret (Qseq_ret (Qfn_ret (hR := ?_))))))))
        have hd : ¬ isDig c = true := fun h => by have := of_decide_eq_true h; omega
        rw [if_neg hd] at hst
        rw [← hst] at hwm
        exact ⟨by rw [hwm]; rfl, rfl⟩
      refine On (Mv ?_)
      refine On (Mv ?_)
      refine On (Vv (Gives.idxD rfl rfl hlt) ?_)
      rw [← hc]
      refine On (Vg ?_)
      refine Pf ?_
      refine Qn (Cp rfl (fun hc154 => ?_) (fun hc154 => ?_))
      · refine Sr (Am ?_)
        refine Am ?_
        refine Qn (Rs (Qblk_ret (Qseq_ret (Qround_ret (Qblk_ret (Qseq_ret (Qfn_ret (hR := ?_))))))))
        have hd : ¬ isDig c = true := fun h => by have := of_decide_eq_true h; omega
        rw [if_neg hd] at hst
        rw [← hst] at hwm
        exact ⟨by rw [hwm]; rfl, rfl⟩
      have hd : isDig c = true := decide_eq_true (by omega)
      refine Sk (FW_region (Mv ?_))
      refine Vv (Gives.mulW (c := ((10 * acc : Nat) : Int)) rfl rfl (by rw [wrapU (by omega)]; omega)) ?_
      refine Mv ?_
      refine Mv ?_
      refine Vv (Gives.idxD rfl rfl hlt) ?_
      rw [← hc]
      refine Vv (Gives.subW (c := ((c.toNat - 48 : Nat) : Int)) rfl rfl (by rw [wrapB (by omega)]; omega)) ?_
      refine Vv (Gives.convW (k := .u64) (c := ((c.toNat - 48 : Nat) : Int)) rfl (wrapU (by omega))) (Vv (Gives.addW (c := ((10 * acc + (c.toNat - 48) : Nat) : Int)) rfl rfl (by rw [wrapU (by omega)]; omega)) ?_)
      refine Am ?_
      refine FL_nil (Qblk_normal (Qseq_normal (FW_region (Mv ?_))))
      refine Vv (Gives.addI rfl rfl rfl (by omega)) (Am ?_)
      refine FL_nil ?_
      exact Qround_normal (i + 1, 10 * acc + (c.toNat - 48)) ⟨rfl, rfl, rfl, rfl, trivial⟩ ⟨⟨by dsimp only; omega, by dsimp only; omega, by dsimp only; rw [if_pos hd] at hst; exact hst⟩, rfl⟩ (by dsimp only; omega)
    have him : i = m.length := by omega
    have hp : 10 ^ i ≤ 10 ^ 19 := Nat.pow_le_pow_right (by decide) (by omega)
    have hps' : (10 : Nat) ^ 19 = 10000000000000000000 := by decide
    rw [him, List.drop_length, digitsD] at hst
    rw [← hst] at hwm
    dsimp only at hwm
    refine FW_exit (Qseq_exit (Qround_exit (Qblk_exit (Qseq_normal (FW_seq (Sr (Mv ?_)))))))
    refine Mv ?_
    refine FL_split (t := 51) rfl (fun hs175 => ?_) (fun hs175 => ?_)
    · (rw [hbt] at hs175; cases hs175)
    refine Of (Of (Pf ?_))
    refine Qn (FW_cond_false rfl ?_)
    refine Sk (Sr (Mv ?_))
    refine Vv (Gives.convW (k := .i64) (c := IntKind.i64.wrap (acc : Int)) rfl rfl) (Mv ?_)
    refine Vv (Gives.not rfl) (Mv ?_)
    refine FL_split (t := 62) rfl (fun hs183 => ?_) (fun hs183 => ?_)
    · have hee : decide (b = false ∧ acc < 9223372036854775808) = decide ((acc : Int) < 9223372036854775808) := by
        rw [decide_eq_decide]; exact ⟨fun h => by omega, fun h => ⟨hbt, by omega⟩⟩
      have hfin : res = (IntKind.i64.wrap (acc : Int), decide ((acc : Int) < 9223372036854775808)) := by rw [hwm, if_neg (by rw [hbt]; simp), hee]
      refine On (Mv ?_)
      refine On (Vl ?_)
      refine Pt ?_
      refine Am ?_
      refine Am ?_
      refine Qn (FW_ret (Qfn_ret (hR := ?_)))
      refine ⟨?_, rfl⟩; rw [hfin]; simp only [resPack, upd_same, upd_ne, ne_eq, Nat.reduceEqDiff, not_false_eq_true, List.map_cons, List.map_nil, updO]; rfl
    (rw [hbt] at hs183; cases hs183)
  have hnil : l = [] := List.eq_nil_of_length_eq_zero (by omega)
  have hfin : res = (0, false) := by rw [hwm, hnil]; rfl
  refine Of (Of (Of (Pf ?_)))
  refine Am ?_
  refine Qn (FW_seq (Sr (Mv ?_)))
  refine Qn (FW_cond_false rfl ?_)
  refine Sk (FW_seq (Sr (Mv ?_)))
  refine Vt ?_
  refine Vl ?_
  refine Mv ?_
  refine FL_splitP (t := 21) rfl (fun hs200 => ?_) (fun hs200 => ?_)
  · refine Of (Of (Of (Pt ?_)))
    refine Qn (FW_cond_true rfl ?_)
    refine Sr (Am ?_)
    refine Am ?_
    refine Qn (Rs (Qfn_ret (hR := ?_)))
    exact ⟨by first | (rw [hfin]; rfl) | (rw [hwm]; unfold wholeM; rw [if_pos (by omega)]; rfl), rfl⟩
  omega
end
end Go.Proofs.YtolaedhdjcnijaaGreatDoor
