/-
 The document's literals, walked.
-/
import Derived.Test.YtolaedhdjcnijaaGreatDoorKt8
set_option linter.unusedVariables false
set_option linter.unusedSimpArgs false
namespace Go.Proofs.YtolaedhdjcnijaaGreatDoor
open Go Go.Mw Go.Lib
set_option maxRecDepth 4000

section
variable {w : World} {l : List UInt8}
theorem valid_ok4 (l : List UInt8) (hl : l.length ≤ 9223372036854775807) : Rets Tryz.prog 131 [str l] w fun v w' => v = .bool (validD l) ∧ Kept noB w w' := by
 have H := Sep.start0 w
 refine rets1 Tryz.func131 rfl rfl rfl rfl ?_
 refine Sr (Am ?_)
 refine Qn (FW_seq (FW_block (FW_loop' (fun m : List UInt8 => [(0, str m)]) (fun m w' => (m.length ≤ l.length ∧ validD m = validD l) ∧ Sep w noB [] w') (fun m _ => m.length) l ⟨rfl, trivial⟩ ⟨⟨Nat.le_refl _, rfl⟩, H⟩ (fun m τ w3 hI => ?_))))
 obtain ⟨⟨hm1, hm2⟩, H3⟩ := hI
 try simp only [upds, like, upd_ds, und_ds]
 refine FW_seq (Sr (Mv ?_))
 refine Vt ?_
 refine Vg ?_
 refine Qn (Cp rfl (fun hc7 => ?_) (fun hc7 => ?_))
 ·have hne : m ≠ [] := fun e => by rw [e] at hc7; simp at hc7
  have hst := valid_next hne
  refine Sk (FW_block (Sr (Mv ?_)))
  refine FL_callQ H3 (next_ok4 m (by omega)) (h := fun w11 H11 _ => ?_)
  refine Mv ?_
  refine Vx ?_
  refine Vx ?_
  refine Vx ?_
  refine Am ?_
  refine Am ?_
  refine Am ?_
  refine Qn (FW_seq (Sr (Mv ?_)))
  refine Vv (Gives.not rfl) (Qn ?_)
  refine Cd rfl (fun hc21 => ?_) (fun hc21 => ?_)
  ·have hv : validD l = false := by rw [← hm2, hst, if_neg (by simpa using hc21)]
   refine Sr (Am ?_)
   refine Qn (Rs (Qblk_ret (Qround_ret (Qblk_ret (Qseq_ret (Qfn_ret (hR := ?_)))))))
   exact ⟨by rw [hv]; rfl, H11.kept⟩
  have hs : (nextL m).isSome = true := by simpa using hc21
  have hle := nextP_le hs
  refine Sk (FW_region (Mv ?_))
  refine Mv ?_
  refine Vv (Gives.sliceFromT rfl rfl (by omega)) (Am ?_)
  refine FL_nil (Qblk_normal ?_)
  exact Qround_normal (m.drop (nextP m).2) ⟨rfl, trivial⟩ ⟨⟨by rw [List.length_drop]; omega, by rw [← hm2, hst, if_pos hs]⟩, H11⟩ (by rw [List.length_drop]; omega)
 have he : m = [] := List.eq_nil_of_length_eq_zero (by omega)
 have hv : validD l = true := by rw [← hm2, he]; rfl
 refine FW_exit (Qseq_exit (Qround_exit (Qblk_exit (Qseq_normal (Sr (Am ?_))))))
 refine Qn (FW_ret (Qfn_ret (hR := ?_)))
 exact ⟨by rw [hv]; rfl, H3.kept⟩
end

theorem quoteB_nat (c : UInt8) : quoteB c = if c.toNat = 34 then [92, 34] else if c.toNat = 92 then [92, 92] else if c.toNat = 8 then [92, 98] else if c.toNat = 12 then [92, 102] else if c.toNat = 10 then [92, 110] else if c.toNat = 13 then [92, 114] else if c.toNat = 9 then [92, 116]
    else if c.toNat < 32 then [92, 117, 48, 48, hexB (c.toNat / 16), hexB (c.toNat % 16)] else [c] := by
  have e : ∀ k : UInt8, (c = k) = (c.toNat = k.toNat) := fun k => propext UInt8.toNat_inj.symm
  have e2 : (c < 32) = (c.toNat < 32) := propext UInt8.lt_iff_toNat_lt
  unfold quoteB
  simp only [e, e2]
  rfl
theorem len_quoteB (c : UInt8) : (quoteB c).length ≤ 6 := by
 unfold quoteB
 repeat' split
 all_goals simp
def outQ (l : List UInt8) (i : Nat) : List UInt8 := 34 :: (l.take i).flatMap quoteB
theorem outQ_len (l : List UInt8) (i : Nat) : (outQ l i).length ≤ 6 * i + 1 := by
 have h := len_flat len_quoteB (l.take i)
 have h2 : (l.take i).length ≤ i := by rw [List.length_take]; omega
 unfold outQ
 simp only [List.length_cons]
 omega
section
variable {w : World} {l : List UInt8}
def quoteP (l : List UInt8) : List UInt8 × Int := if validD l = true then (quoteL l, 0) else ([], 40)
end

theorem digitL_lt {c : UInt8} {d : Nat} (e : digitL c = some d) : d < 16 := by
 have := c.toNat_lt
 unfold digitL at e
 repeat' split at e
 all_goals first | (injection e with e; omega) | cases e
section
variable {w : World} {l : List UInt8}
end

section
variable {w : World} {l : List UInt8}
end

def unqAt (l : List UInt8) (i : Nat) (out : List UInt8) : List UInt8 × Nat × Int := unqR (l.length + 1 - i) (l.drop i) i out
theorem unqAt_end {l : List UInt8} {i : Nat} {out : List UInt8} (h : l.length ≤ i) : unqAt l i out = ([], 0, 3) := by
 unfold unqAt
 rw [List.drop_of_length_le h]
 cases l.length + 1 - i <;> rfl
theorem unqAt_more {l : List UInt8} {i f : Nat} {out : List UInt8} (hf : l.length - i < f) : unqR f (l.drop i) i out = unqAt l i out := by
 rcases Nat.lt_or_ge i (l.length + 1) with h | h
 ·exact unqR_more (by rw [List.length_drop]; omega) (by rw [List.length_drop]; omega)
 rw [unqAt_end (by omega), List.drop_of_length_le (by omega)]
 cases f <;> rfl
theorem drop_cons {l : List UInt8} {i : Nat} (h : i < l.length) : l.drop i = l.getD i 0 :: l.drop (i + 1) := by
 rw [List.drop_eq_getElem_cons h, List.getD_eq_getElem?_getD, List.getElem?_eq_getElem h]; rfl
theorem unqAt_step {l : List UInt8} {i : Nat} {out : List UInt8} {c : UInt8} (h : i < l.length) (hc : c = l.getD i 0) : unqAt l i out =
    if c = 34 then (out, i + 1, 0) else if c < 32 then ([], 0, 41) else if c = 92 then (if (escL (l.drop i)).2.2 ≠ 0 then ([], 0, (escL (l.drop i)).2.2) else unqAt l (i + (escL (l.drop i)).2.1) (out ++ (escL (l.drop i)).1))
    else if (nextL (l.drop i)).isSome = true then unqAt l (i + (nextP (l.drop i)).2) (out ++ (l.drop i).take (nextP (l.drop i)).2) else ([], 0, if beginsL (l.drop i) then 3 else 40) := by
  have hd := drop_cons h
  rw [← hc] at hd
  have hrec : ∀ n o, 1 ≤ n → unqR (l.length - i) ((l.drop i).drop n) (i + n) o = unqAt l (i + n) o := fun n o hn => by
    rw [List.drop_drop]
    exact unqAt_more (by omega)
  rw [show unqAt l i out = unqR (l.length - i + 1) (l.drop i) i out by unfold unqAt; congr 1; omega]
  rw [hd] at hrec ⊢
  rw [unqR]
  by_cases h1 : c = 34
  · rw [if_pos h1, if_pos h1]
  rw [if_neg h1, if_neg h1]
  by_cases h2 : c < 32
  · rw [if_pos h2, if_pos h2]
  rw [if_neg h2, if_neg h2]
  by_cases h3 : c = 92
  · rw [if_pos h3, if_pos h3]
    dsimp only
    by_cases h4 : (escL (c :: l.drop (i + 1))).2.2 ≠ 0
    · rw [if_pos h4, if_pos h4]
    rw [if_neg h4, if_neg h4]
    refine hrec _ _ ?_
    rcases escL_cases (c :: l.drop (i + 1)) with ⟨e, h0, hx⟩ | ⟨b, n, hn, hx⟩
    · rw [hx] at h4; exact absurd h0 h4
    rw [hx]; exact hn
  rw [if_neg h3, if_neg h3]
  unfold nextP
  cases hn : nextL (c :: l.drop (i + 1)) with
  | none => rfl
  | some x =>
    obtain ⟨r, n⟩ := x
    obtain ⟨k1, _, _, _, _⟩ := next_ok hn
    exact hrec n _ k1
theorem enc_len (r : Int) : (encodeRune r).length ≤ 4 := by
 unfold encodeRune encodeRuneZ
 repeat' split
 all_goals simp
section
variable {w : World} {l : List UInt8}
end

def typeCells (t : TypeM) : List Value := [I t.kind, .bool t.null]
def cellCells (c : CellM) : List Value := [.bool c.null, I c.n, str c.s]
def stepCells (x : StepM) : List Value := [I x.kind, I x.n, str x.s]
def colCells (c : ColM) : List Value := [I c.id, str c.name, I c.type.kind, .bool c.type.null, .bool c.dflt.null, I c.dflt.n, str c.dflt.s]
def agg (cs : List Value) : Value := .agg cs.toArray
theorem str_eq_iff {a b : List UInt8} : (((⟨a.toArray⟩ : ByteArray).toList == (⟨b.toArray⟩ : ByteArray).toList) = true) ↔ a = b := by
 rw [ByteArray.toList_mk, ByteArray.toList_mk]; simp
section
variable {P : Program} {w : World} {d : Nat} {f : Field} {fs : List Field} {xs ys : List Value} {u v : Value} {e : Bool}
theorem eqF1 (hn : (f.name != "_") = true) (h1 : OneCell P f.type) (hu : xs[f.offset]? = some u) (hv : ys[f.offset]? = some v) (he : (Op.equalIn d f.type u v).run P w = .ok e w) :
    (Op.eqFields d xs.toArray ys.toArray (f :: fs)).run P w = if e = true then (Op.eqFields d xs.toArray ys.toArray fs).run P w else .ok false w := by
  have hn' : f.name ≠ "_" := by simpa using hn
  simp only [Op.eqFields, if_pos hn', Sem.run_bind, run_part1 hu, run_part1 hv, Result.andThen_ok, he]
  cases e <;> simp
theorem eqFN {k : Nat} {us vs : List Value} (hn : (f.name != "_") = true) (h1 : Agg P f.type k) (hu : (xs.drop f.offset).take k = us) (hv : (ys.drop f.offset).take k = vs) (he : (Op.equalIn d f.type (.agg us.toArray) (.agg vs.toArray)).run P w = .ok e w) :
    (Op.eqFields d xs.toArray ys.toArray (f :: fs)).run P w = if e = true then (Op.eqFields d xs.toArray ys.toArray fs).run P w else .ok false w := by
  have hn' : f.name ≠ "_" := by simpa using hn
  simp only [Op.eqFields, if_pos hn', Sem.run_bind, run_partN hu, run_partN hv, Result.andThen_ok, he]
  cases e <;> simp
theorem eqF0 : (Op.eqFields d xs.toArray ys.toArray []).run P w = .ok true w := rfl
theorem equalI {t : TypeId} (a b : Int) (h : P.underlying t = some (.int .i64)) : (Op.equalIn (d + 1) t (I a) (I b)).run P w = .ok (decide (a = b)) w := by
 rw [show I a = .int .i64 a from rfl, show I b = .int .i64 b from rfl, run_equalIn_int w d t .i64 .i64 a b h]
 rfl
theorem equalB {t : TypeId} (a b : Bool) (h : P.underlying t = some .bool) : (Op.equalIn (d + 1) t (.bool a) (.bool b)).run P w = .ok (decide (a = b)) w := by
 rw [run_equalIn_bool' w d t a b h]
 cases a <;> cases b <;> rfl
theorem equalT {t : TypeId} (a b : List UInt8) (h : P.underlying t = some .string) : (Op.equalIn (d + 1) t (str a) (str b)).run P w = .ok (decide (a = b)) w := by
 rw [show str a = .string ⟨a.toArray⟩ from rfl, show str b = .string ⟨b.toArray⟩ from rfl, run_equalIn_string w d t _ _ h]
 congr 1
 rw [Bool.eq_iff_iff, str_eq_iff, decide_eq_true_eq]
end
theorem eqCell {d : Nat} (a b : CellM) (w : World) : (Op.equalIn (d + 2) 47 (.agg (cellCells a).toArray) (.agg (cellCells b).toArray)).run Tryz.prog w = .ok (decide (a = b)) w := by
 rw [run_equalIn_agg w (d + 1) _ _ _ (by kernel_rfl) (by kernel_rfl)]
 simp only [Program.fieldsOf, Tryz.underlying47]
 rw [eqF1 rfl oc_4 rfl rfl (equalB a.null b.null (by kernel_rfl)), eqF1 rfl oc_2 rfl rfl (equalI a.n b.n (by kernel_rfl)), eqF1 rfl oc_9 rfl rfl (equalT a.s b.s (by kernel_rfl)), eqF0]
 have e : (a = b) = (a.null = b.null ∧ a.n = b.n ∧ a.s = b.s) := propext ⟨fun h => by subst h; exact ⟨rfl, rfl, rfl⟩, fun h => CellM.ext' h.1 h.2.1 h.2.2⟩
 simp only [e]
 by_cases h1 : a.null = b.null <;> by_cases h2 : a.n = b.n <;> by_cases h3 : a.s = b.s <;> simp [h1, h2, h3]
theorem eqType {d : Nat} (a b : TypeM) (w : World) : (Op.equalIn (d + 2) 45 (.agg (typeCells a).toArray) (.agg (typeCells b).toArray)).run Tryz.prog w = .ok (decide (a = b)) w := by
 rw [run_equalIn_agg w (d + 1) _ _ _ (by kernel_rfl) (by kernel_rfl)]
 simp only [Program.fieldsOf, Tryz.underlying45]
 rw [eqF1 rfl oc_3 rfl rfl (equalI a.kind b.kind (by kernel_rfl)), eqF1 rfl oc_4 rfl rfl (equalB a.null b.null (by kernel_rfl)), eqF0]
 have e : (a = b) = (a.kind = b.kind ∧ a.null = b.null) := propext ⟨fun h => by subst h; exact ⟨rfl, rfl⟩, fun h => TypeM.ext' h.1 h.2⟩
 simp only [e]
 by_cases h1 : a.kind = b.kind <;> by_cases h2 : a.null = b.null <;> simp [h1, h2]
theorem eqStep {d : Nat} (a b : StepM) (w : World) : (Op.equalIn (d + 2) 60 (.agg (stepCells a).toArray) (.agg (stepCells b).toArray)).run Tryz.prog w = .ok (decide (a = b)) w := by
 rw [run_equalIn_agg w (d + 1) _ _ _ (by kernel_rfl) (by kernel_rfl)]
 simp only [Program.fieldsOf, Tryz.underlying60]
 rw [eqF1 rfl oc_3 rfl rfl (equalI a.kind b.kind (by kernel_rfl)), eqF1 rfl oc_2 rfl rfl (equalI a.n b.n (by kernel_rfl)), eqF1 rfl oc_9 rfl rfl (equalT a.s b.s (by kernel_rfl)), eqF0]
 have e : (a = b) = (a.kind = b.kind ∧ a.n = b.n ∧ a.s = b.s) := propext ⟨fun h => by subst h; exact ⟨rfl, rfl, rfl⟩, fun h => StepM.ext' h.1 h.2.1 h.2.2⟩
 simp only [e]
 by_cases h1 : a.kind = b.kind <;> by_cases h2 : a.n = b.n <;> by_cases h3 : a.s = b.s <;> simp [h1, h2, h3]
theorem eqCol {d : Nat} (a b : ColM) (w : World) : (Op.equalIn (d + 3) 49 (.agg (colCells a).toArray) (.agg (colCells b).toArray)).run Tryz.prog w = .ok (decide (a = b)) w := by
 rw [run_equalIn_agg w (d + 2) _ _ _ (by kernel_rfl) (by kernel_rfl)]
 simp only [Program.fieldsOf, Tryz.underlying49]
 rw [eqF1 rfl oc_3 rfl rfl (equalI a.id b.id (by kernel_rfl)), eqF1 rfl oc_9 rfl rfl (equalT a.name b.name (by kernel_rfl)), eqFN (k := 2) rfl ag_45 rfl rfl (eqType a.type b.type w), eqFN (k := 3) rfl ag_47 rfl rfl (eqCell a.dflt b.dflt w), eqF0]
 have e : (a = b) = (a.id = b.id ∧ a.name = b.name ∧ a.type = b.type ∧ a.dflt = b.dflt) := propext ⟨fun h => by subst h; exact ⟨rfl, rfl, rfl, rfl⟩, fun h => ColM.ext' h.1 h.2.1 h.2.2.1 h.2.2.2⟩
 simp only [e]
 by_cases h1 : a.id = b.id <;> by_cases h2 : a.name = b.name <;> by_cases h3 : a.type = b.type <;> by_cases h4 : a.dflt = b.dflt <;> simp [h1, h2, h3, h4]
instance : EqData Tryz.prog 47 CellM cellCells := ⟨fun a b w => eqCell (d := 9998) a b w, by kernel_rfl⟩
instance : EqData Tryz.prog 45 TypeM typeCells := ⟨fun a b w => eqType (d := 9998) a b w, by kernel_rfl⟩
instance : EqData Tryz.prog 60 StepM stepCells := ⟨fun a b w => eqStep (d := 9998) a b w, by kernel_rfl⟩
instance : EqData Tryz.prog 49 ColM colCells := ⟨fun a b w => eqCol (d := 9997) a b w, by kernel_rfl⟩
end Go.Proofs.YtolaedhdjcnijaaGreatDoor
namespace Go.Mw
open Go.RowKit
section rules
variable {P : Program} {r : Option Nat} {n : Nat} {ops : Array Oper} {Q : Post} {rest : List Oper} {σ : St} {w w' w₀ : World} {S : Nat → Prop} {rs : List HP} {put : HP → List HP} {ty : TypeId} {pos : String} {after : Array Edge} {guard : Option (Nat × Bool)} {lv : List Bool} {pd pd' : List (Nat × Bool)}
theorem FL_loadAll {d b k : Nat} {x : Operand} {T : TypeId} [Agg P T k] {cs : List Value} {E : TypeId} (H : Sep w₀ S rs w) (hx : evF σ x = .pointer (some ⟨b, 0, none⟩) := by exact rfl)
    (hat : At rs (blk b cs E) put := by first | exact At0 | exact At1 | exact At2 | exact At3 | exact At4 | exact At5 | exact At6 | exact At7 | exact At8 | exact At9) (hk : cs.length = k := by exact rfl) (hd : Nat.blt d n = true := by exact rfl) (h : FL P r n ops Q rest (upd σ d (.agg cs.toArray)) w) :
    FL P r n ops Q ({ dst := some d, op := .load T x, type := ty, pos := pos, after := after, guard := none } :: rest) σ w :=
  FL_loadN H hx hat (us := cs) (by rw [List.drop_zero, ← hk, List.take_length]) hk hd h
theorem FGloadAll (hok : okOps n ops = true) (i : Nat) {d b k : Nat} {x : Operand} {T : TypeId} [Agg P T k] {cs : List Value} {E : TypeId} (H : Sep w₀ S rs w) (ho : ops[i]? = some { dst := some d, op := .load T x, type := ty, pos := pos, after := after, guard := guard } := by exact rfl)
    (hw : Region.wanted { dst := some d, op := .load T x, type := ty, pos := pos, after := after, guard := guard } (yieldF ops σ) = true := by kernel_rfl) (hx : evF σ x = .pointer (some ⟨b, 0, none⟩) := by exact rfl)
    (hat : At rs (blk b cs E) put := by first | exact At0 | exact At1 | exact At2 | exact At3 | exact At4 | exact At5 | exact At6 | exact At7 | exact At8 | exact At9) (hk : cs.length = k := by exact rfl) (hck : quietOk ops lv (pd.map (·.1)) i = true := by kernel_rfl)
    (h : FG P r n ops Q (lv.set i true) ((i, false) :: pd) (upd σ d (.agg cs.toArray)) w) : FG P r n ops Q lv pd σ w :=
  FGloadN hok i H ho hw hx hat (us := cs) (by rw [List.drop_zero, ← hk, List.take_length]) hk hck h
theorem FL_storeAll {b k : Nat} {x y : Operand} {T : TypeId} [Agg P T k] {cs us : List Value} {E : TypeId} (H : Sep w₀ S rs w) (hx : evF σ x = .pointer (some ⟨b, 0, none⟩) := by exact rfl) (hy : evF σ y = .agg us.toArray := by exact rfl)
    (hat : At rs (blk b cs E) put := by first | exact At0 | exact At1 | exact At2 | exact At3 | exact At4 | exact At5 | exact At6 | exact At7 | exact At8 | exact At9) (hk : us.length = k := by exact rfl) (hl : cs.length = k := by exact rfl) (hv : us.all Value.oneCell' = true := by exact rfl)
    (h : ∀ w', Sep w₀ S (put (blk b us E)) w' → FL P r n ops Q rest σ w') :
    FL P r n ops Q ({ dst := none, op := .store T x y, type := ty, pos := pos, after := after, guard := none } :: rest) σ w :=
  FL_storeN H hx hy hk (fun u hu => List.all_eq_true.1 hv u hu) hat (by omega) (by rw [List.take_zero, List.nil_append, List.drop_of_length_le (by omega), List.append_nil]) h
theorem acts_storeAll {ρ : Operand → Value} {b k : Nat} {x y : Operand} {T : TypeId} [h1 : Agg P T k] {cs us : List Value} {E : TypeId} (H : Sep w₀ S rs w) (hx : ρ x = .pointer (some ⟨b, 0, none⟩)) (hy : ρ y = .agg us.toArray)
    (hat : At rs (blk b cs E) put) (hk : us.length = k) (hl : cs.length = k) (hv : us.all Value.oneCell' = true) : ∃ w', Acts P ρ (.store T x y) ty w w' ∧ Sep w₀ S (put (blk b us E)) w' := by
  have hb := H.obj hat
  have hst := run_storeCells_at P b 0 E us 0 cs.toArray w hb (by simp; omega) (fun u hu => List.all_eq_true.1 hv u hu)
  have hs : cs.take 0 ++ us ++ cs.drop (0 + us.length) = us := by rw [List.take_zero, List.nil_append, List.drop_of_length_le (by omega), List.append_nil]
  refine ⟨w.setRow b (cs.take 0 ++ us ++ cs.drop (0 + us.length)).toArray, fun _ _ _ _ => ?_, ?_⟩
  · simp only [Nat.add_zero] at hst
    simp [execOp, hx, hy, Instr.storeAt, Instr.sureAddr, storeVar, h1.size, Value.cells, hk]
    simp [hk] at hst
    rw [hst]
    simp
  rw [hs]
  refine H.setObj hat ⟨rfl, rfl, rfl, by simp, fun j hj hS => ?_⟩ ?_
  · simp only [World.setRow, Array.getElem?_modify]; rw [if_neg (fun e => hS e.symm)]
  simp only [World.setRow, Array.getElem?_modify, if_true, hb, Option.map_some]
theorem FGstoreAll (hok : okOps n ops = true) (e : Nat) (pd' : List (Nat × Bool)) {b k : Nat} {x y : Operand} {T : TypeId} [Agg P T k] {cs us : List Value} {E : TypeId} (H : Sep w₀ S rs w) (ho : ops[e]? = some { dst := none, op := .store T x y, type := ty, pos := pos, after := after, guard := guard } := by exact rfl)
    (hw : Region.wanted { dst := none, op := .store T x y, type := ty, pos := pos, after := after, guard := guard } (yieldF ops σ) = true := by kernel_rfl) (hx : evF σ x = .pointer (some ⟨b, 0, none⟩) := by exact rfl) (hy : evF σ y = .agg us.toArray := by exact rfl)
    (hat : At rs (blk b cs E) put := by first | exact At0 | exact At1 | exact At2 | exact At3 | exact At4 | exact At5 | exact At6 | exact At7 | exact At8 | exact At9) (hk : us.length = k := by exact rfl) (hl : cs.length = k := by exact rfl) (hv : us.all Value.oneCell' = true := by exact rfl)
    (hck : effectOk ops lv (pd.map (·.1)) e = true := by kernel_rfl) (hpd : pd.filter (fun p => !((above ops e).contains p.1)) = pd' := by kernel_rfl)
    (h : ∀ w', Sep w₀ S (put (blk b us E)) w' → Stab P ops σ w' pd' ∧ FG P r n ops Q (lv.set e true) pd' σ w') : FG P r n ops Q lv pd σ w :=
  FGact hok e pd' ho hw (acts_storeAll H hx hy hat hk hl hv) hck hpd h
end rules
end Go.Mw
namespace Go.Proofs.YtolaedhdjcnijaaGreatDoor
open Go Go.Mw Go.Lib
set_option maxRecDepth 4000

theorem boolE {a b : Bool} (h : a = true ↔ b = true) : Value.bool a = .bool b := congrArg Value.bool (Bool.eq_iff_iff.2 h)
section
variable {w : World}
theorem may_ok9 (t : TypeM) : Rets Tryz.prog 157 [agg (typeCells t)] w fun v w' => v = .bool (mayT t) ∧ Kept noB w w' := by
 have H := Sep.start0 w
 refine rets1 Tryz.func157 rfl rfl rfl rfl ?_
 refine Sr (FL_box H (h := fun b1 w2 H2 k1 => ?_))
 refine Am ?_
 refine Nx (Vf ?_)
 refine Ld H2 ?_
 refine Vv (Gives.geq rfl rfl) (Mv ?_)
 refine FL_splitP (t := 6) rfl (fun hs8 => ?_) (fun hs8 => ?_)
 ·refine On (Vf ?_)
  refine On (Ld H2 ?_)
  refine On (Vv (Gives.leq rfl rfl) (Pt ?_))
  refine Am ?_
  refine Qn (FW_ret (Qfn_ret (hR := ?_)))
  exact ⟨boolE (by unfold mayT; simp; omega), H2.kept⟩
 refine Of (Of (Of (Pf ?_)))
 refine Am ?_
 refine Qn (FW_ret (Qfn_ret (hR := ?_)))
 exact ⟨boolE (by unfold mayT; simp; omega), H2.kept⟩
end

attribute [local irreducible] mayT
section
variable {w : World}
theorem zero_ok9 (t : TypeM) : Rets Tryz.prog 114 [agg (typeCells t)] w fun v w' => v = agg (cellCells ⟨mayT t && t.null, 0, []⟩) ∧ Kept noB w w' := by
 have H := Sep.start0 w
 refine retsC1 Tryz.func114 rfl rfl rfl rfl ?_
 refine Sr (FL_box H (h := fun b1 w2 H2 k1 => ?_))
 refine FL_alloc H2 (h := fun b3 w4 H4 k3 => ?_)
 refine Nx (FL_loadAll H4 (h := ?_))
 refine FL_callQ H4 (may_ok9 _) (h := fun w7 H7 k6 => ?_)
 refine Mv ?_
 refine FL_split (t := 5) rfl (fun hs9 => ?_) (fun hs9 => ?_)
 ·refine On (Vf ?_)
  refine On (Ld H7 ?_)
  refine Pt ?_
  refine Vv (Gives.build (out := cellCells ⟨t.null, 0, []⟩) (Fills.one rfl rfl rfl (by decide) rfl Fills.nil)) (FL_storeAll H7 (h := fun w16 H16 => ?_))
  refine Qn (FW_ret (QfnC_ret (h := ?_)))
  exact ⟨_, ⟨_, _, _, rfl, rfl, loadVar_blkN (cs := cellCells ⟨t.null, 0, []⟩) (o := 0) (k := 3) (H16.obj At0) (us := cellCells ⟨t.null, 0, []⟩) rfl rfl, rfl⟩, by simp_all [resPack, agg], H16.kept⟩
 refine Of (Of (Pf ?_))
 refine Vv (Gives.build (out := cellCells ⟨false, 0, []⟩) (Fills.one rfl rfl rfl (by decide) rfl Fills.nil)) (FL_storeAll H7 (h := fun w22 H22 => ?_))
 refine Qn (FW_ret (QfnC_ret (h := ?_)))
 exact ⟨_, ⟨_, _, _, rfl, rfl, loadVar_blkN (cs := cellCells ⟨false, 0, []⟩) (o := 0) (k := 3) (H22.obj At0) (us := cellCells ⟨false, 0, []⟩) rfl rfl, rfl⟩, by simp_all [resPack, agg], H22.kept⟩
end
end Go.Proofs.YtolaedhdjcnijaaGreatDoor
namespace Go.Mw
section gives
variable {P : Program} {ρ : Operand → Value} {ty : TypeId} {w : World} {x y : Operand} {T U : TypeId} {k : IntKind} {a b c : Int}
theorem Gives.addW (hx : ρ x = .int k a) (hy : ρ y = .int k b) (he : k.wrap (a + b) = c) : Gives P ρ (.binOp .add T x y U) ty w (.int k c) w := by subst he; exact Gives.add hx hy
theorem Gives.subW (hx : ρ x = .int k a) (hy : ρ y = .int k b) (he : k.wrap (a - b) = c) : Gives P ρ (.binOp .sub T x y U) ty w (.int k c) w := by subst he; exact Gives.sub hx hy
theorem Gives.convW {s t : TypeId} {j : IntKind} [hs : IsInt P s j] [ht : IsInt P t k] (hx : ρ x = .int j a) (he : k.wrap a = c) : Gives P ρ (.convert s t x) ty w (.int k c) w := by subst he; exact Gives.conv hx
end gives
end Go.Mw
namespace Go.Proofs.YtolaedhdjcnijaaGreatDoor
open Go Go.Mw Go.Lib
def hexS : List UInt8 := [48, 49, 50, 51, 52, 53, 54, 55, 56, 57, 97, 98, 99, 100, 101, 102]
theorem hex_piece {d : Nat} (h : d < 16) : (hexS.take (d + 1)).drop d = [hexB d] := by
 have key : ∀ i : Fin 16, (hexS.take (i.val + 1)).drop i.val = [hexB i.val] := by decide
 exact key ⟨d, h⟩
theorem hexL_succ {l : List UInt8} {i : Nat} (h : i < l.length) : hexL (l.take (i + 1)) = hexL (l.take i) ++ [hexB ((l.getD i 0).toNat / 16), hexB ((l.getD i 0).toNat % 16)] := by
 unfold hexL
 rw [List.take_add_one, List.getElem?_eq_getElem h, List.flatMap_append]
 simp [List.getD_eq_getElem?_getD, List.getElem?_eq_getElem h]
theorem hexL_length (l : List UInt8) : (hexL l).length = 2 * l.length := by
 induction l with
 | nil => rfl
 | cons c l ih => unfold hexL at *; rw [List.flatMap_cons, List.length_append, ih]; simp; omega
section
variable {w : World}
end
end Go.Proofs.YtolaedhdjcnijaaGreatDoor
namespace Go.Proofs.YtolaedhdjcnijaaGreatDoor
open Go Go.Mw Go.Lib
set_option maxRecDepth 4000
section
variable {w : World}
end
section
variable {w : World}
end
section
variable {w : World}
end
end Go.Proofs.YtolaedhdjcnijaaGreatDoor
namespace Go.Mw
open Go.RowKit
def adr (A : Option Addr) (o : Nat) : Value := .pointer (A.map (·.add o))
class EncK {α : Type} (enc : α → List Value) (k : outParam Nat) : Prop where
 len : ∀ x, (enc x).length = k
def Rd {α : Type} (w : World) (A : Option Addr) (enc : α → List Value) (k : Nat) (l : List α) : Prop := RowAt w A l.length k (l.flatMap enc)
section
variable {α : Type} {enc : α → List Value} {k : Nat} {l : List α} {A : Option Addr} {w w' w₀ : World}
theorem flat_get (hk : ∀ x, (enc x).length = k) : ∀ {l : List α} {i j : Nat} {c : α}, l[i]? = some c → j < k → (l.flatMap enc)[i * k + j]? = (enc c)[j]?
 | [], _, _, _, h, _ => by simp at h
 | a :: l, 0, j, c, h, hj => by
  simp only [List.getElem?_cons_zero, Option.some.injEq] at h
  subst h
  rw [List.flatMap_cons, Nat.zero_mul, Nat.zero_add, List.getElem?_append_left (by rw [hk]; exact hj)]
 | a :: l, i + 1, j, c, h, hj => by
  simp only [List.getElem?_cons_succ] at h
  rw [List.flatMap_cons, List.getElem?_append_right (by rw [hk, Nat.succ_mul]; omega), hk, Nat.succ_mul]
  rw [show i * k + k + j - k = i * k + j by omega]
  exact flat_get hk h hj
theorem flat_len (hk : ∀ x, (enc x).length = k) : ∀ l : List α, (l.flatMap enc).length = l.length * k
 | [] => by simp
 | a :: l => by rw [List.flatMap_cons, List.length_append, hk, flat_len hk l, List.length_cons, Nat.succ_mul]; omega
theorem Rd.keep (h : Rd w A enc k l) (hk : Kept noB w w') : Rd w' A enc k l := RowAt.keep h hk
theorem Rd.addr (h : Rd w A enc k l) (hn : 0 < l.length) : ∃ ad, A = some ad := by
 obtain ⟨ad, h1, _⟩ := h.at_ hn
 exact ⟨ad, h1⟩
theorem get_lt {i : Nat} {c : α} (h : l[i]? = some c) : i < l.length := (List.getElem?_eq_some_iff.1 h).1
theorem Rd.cell [hk : EncK enc k] {i f : Nat} {c : α} {v : Value} (h : Rd w A enc k l) (hg : l[i]? = some c) (hv : (enc c)[f]? = some v) : ∃ ad, A = some ad ∧ w.cell? (ad.add (i * k + f)) = some v := by
 have hl := get_lt hg
 obtain ⟨ad, h1, h2⟩ := h.at_ (by omega)
 refine ⟨ad, h1, h2 _ _ ?_⟩
 rw [flat_get hk.len hg (by rw [← hk.len c]; exact get_lt hv)]
 exact hv
end
section
variable {P : Program} {ρ : Operand → Value} {ty : TypeId} {w w₀ : World} {x y : Operand} {α : Type} {enc : α → List Value} {k : Nat} {l : List α} {A : Option Addr} {rs : List HP}
theorem Gives.idxR {t e : TypeId} [ht : IsSlice P t e] {bytes : Nat} [hc : Cells P e k bytes] {c i : Nat} {j : IntKind} (hx : ρ x = .slice A l.length c) (hy : ρ y = .int j i) (hr : Rd w₀ A enc k l) (hlt : i < l.length) : Gives P ρ (.indexAddr t x y) ty w (adr A (i * k)) w := by
 obtain ⟨ad, rfl⟩ := hr.addr (by omega)
 exact Gives.idx hx hy hlt
theorem Gives.fieldR {s f g o : Nat} [h : FieldAt P s f g] (hx : ρ x = adr A o) (hr : Rd w₀ A enc k l) (hlt : 0 < l.length) : Gives P ρ (.fieldAddr s x f) ty w (adr A (o + g)) w := by
 obtain ⟨ad, rfl⟩ := hr.addr hlt
 exact Gives.fieldA hx
theorem Gives.loadE [hk : EncK enc k] {i f : Nat} {c : α} {v : Value} {T : TypeId} [OneCell P T] (hx : ρ x = adr A (i * k + f)) (H : Sep w₀ noB rs w) (hr : Rd w₀ A enc k l) (hg : l[i]? = some c) (hv : (enc c)[f]? = some v) : Gives P ρ (.load T x) ty w v w := by
 obtain ⟨ad, rfl, h2⟩ := (hr.keep H.kept).cell hg hv
 exact Gives.loadC hx h2
theorem Gives.loadE1 [hk : EncK enc k] {i : Nat} {c : α} {v : Value} {T : TypeId} [OneCell P T] (hx : ρ x = adr A (i * k)) (H : Sep w₀ noB rs w) (hr : Rd w₀ A enc k l) (hg : l[i]? = some c) (hv : (enc c)[0]? = some v) : Gives P ρ (.load T x) ty w v w :=
 Gives.loadE (f := 0) hx H hr hg hv
theorem Gives.loadEN [hk : EncK enc k] {i f n : Nat} {c : α} {us : List Value} {T : TypeId} [Agg P T n] (hx : ρ x = adr A (i * k + f)) (H : Sep w₀ noB rs w) (hr : Rd w₀ A enc k l) (hg : l[i]? = some c) (hu : ((enc c).drop f).take n = us) (hn : us.length = n) : Gives P ρ (.load T x) ty w (.agg us.toArray) w := by
 obtain ⟨ad, h1⟩ := hr.addr (by have := get_lt hg; omega)
 subst h1
 refine Gives.loadCN (a := ad.add (i * k + f)) hx (fun j u hj => ?_) hn
 have hv : (enc c)[f + j]? = some u := by
  rw [← hu, List.getElem?_take] at hj
  split at hj
  ·rw [List.getElem?_drop] at hj; exact hj
  cases hj
 obtain ⟨ad', h1, h2⟩ := (hr.keep H.kept).cell hg hv
 injection h1 with h1
 subst h1
 rw [add_add, Nat.add_assoc]; exact h2
theorem Gives.loadE0 [hk : EncK enc k] {i : Nat} {c : α} {T : TypeId} [Agg P T k] (hx : ρ x = adr A (i * k)) (H : Sep w₀ noB rs w) (hr : Rd w₀ A enc k l) (hg : l[i]? = some c) : Gives P ρ (.load T x) ty w (.agg (enc c).toArray) w :=
 Gives.loadEN (f := 0) hx H hr hg (by rw [List.drop_zero, ← hk.len c, List.take_length]) (hk.len c)
end
section
variable {P : Program} {w w₀ : World} {S : Nat → Prop} {rs : List HP} {put : HP → List HP} {σ : St} {R : Value → World → Prop} {us : List Value} {a b k E : Nat} {T : TypeId}
theorem resC1 [Agg P T k] (H : Sep w₀ S rs w) (hx : σ a = .pointer (some ⟨b, 0, none⟩) := by exact rfl) (hat : At rs (blk b us E) put := by first | exact At0 | exact At1 | exact At2 | exact At3 | exact At4 | exact At5 | exact At6 | exact At7 | exact At8 | exact At9) (hk : us.length = k := by exact rfl) :
    ResAll P σ w [.cell a T] [.agg us.toArray] :=
  ⟨_, _, _, rfl, hx, loadVar_blkN (k := k) (H.obj hat) (us := us) (by rw [List.drop_zero, ← hk, List.take_length]) hk, rfl⟩
theorem resC2 [Agg P T k] {t : Nat} {v : Value} (H : Sep w₀ S rs w) (hx : σ a = .pointer (some ⟨b, 0, none⟩) := by exact rfl) (hat : At rs (blk b us E) put := by first | exact At0 | exact At1 | exact At2 | exact At3 | exact At4 | exact At5 | exact At6 | exact At7 | exact At8 | exact At9) (hk : us.length = k := by exact rfl) (hv : σ t = v := by exact rfl) :
    ResAll P σ w [.cell a T, .tmp t] [.agg us.toArray, v] :=
  ⟨_, _, _, rfl, hx, loadVar_blkN (k := k) (H.obj hat) (us := us) (by rw [List.drop_zero, ← hk, List.take_length]) hk, _, by subst hv; rfl, rfl⟩
end
end Go.Mw
namespace Go.Proofs.YtolaedhdjcnijaaGreatDoor
open Go Go.Mw
instance : EncK typeCells 2 := ⟨fun _ => rfl⟩
instance : EncK cellCells 3 := ⟨fun _ => rfl⟩
instance : EncK stepCells 3 := ⟨fun _ => rfl⟩
instance : EncK colCells 7 := ⟨fun _ => rfl⟩
def RowIn {α : Type} (w : World) (v : Value) (enc : α → List Value) (k : Nat) (l : List α) : Prop := ∃ A c, v = .slice A l.length c ∧ (l.length ≤ c ∧ c ≤ 9223372036854775807) ∧ Rd w A enc k l
theorem RowIn.keep {α : Type} {w w' : World} {v : Value} {enc : α → List Value} {k : Nat} {l : List α} (h : RowIn w v enc k l) (hk : Kept noB w w') : RowIn w' v enc k l := by
 obtain ⟨A, c, h1, h2, h3⟩ := h
 exact ⟨A, c, h1, h2, h3.keep hk⟩
end Go.Proofs.YtolaedhdjcnijaaGreatDoor
namespace Go.Proofs.YtolaedhdjcnijaaGreatDoor
open Go Go.Mw Go.Lib
set_option maxRecDepth 4000
theorem get_some {α : Type} {l : List α} {i : Nat} (h : i < l.length) : ∃ c, l[i]? = some c := ⟨l[i], List.getElem?_eq_getElem h⟩
attribute [local irreducible] checkC
section
variable {w : World}
end
def takesD (kind : Int) : Nat := if 1 ≤ kind ∧ kind ≤ 6 then 0 else if kind = 10 ∨ kind = 15 ∨ kind = 16 ∨ kind = 18 then 1 else 2
theorem takes_may {x : StepM} (h : mayS x = true) : takesD x.kind = takesS x.kind := by
 have hk : 1 ≤ x.kind := by
  unfold mayS at h
  repeat' split at h
  all_goals first | omega | (have := of_decide_eq_true h; omega)
 unfold takesD takesS
 by_cases h7 : x.kind < 7
 ·rw [if_pos (by omega), if_pos h7]
 rw [if_neg (by omega), if_neg h7]
section
variable {w : World}
theorem takes_ok22 (k : Int) : Rets Tryz.prog 111 [I k] w fun v w' => v = I (takesD k) ∧ w = w' := by
 have H := Sep.start0 w
 refine rets1 Tryz.func111 rfl rfl rfl rfl ?_
 refine Sr (Am ?_)
 refine Qn (FW_seq (Sr (Mv ?_)))
 refine Qn (FW_block (FW_seq (Sr (Ve ?_))))
 refine Am ?_
 refine Qn (Cp rfl (fun hc5 => ?_) (fun hc5 => ?_))
 ·refine Sk (FW_cond_true (congrArg Value.bool (decide_eq_true hc5)) ?_)
  refine Sr (Am ?_)
  refine Qn (Rb (Qfn_ret (hR := ?_)))
  exact ⟨by unfold takesD; rw [if_pos (by omega)]; rfl, rfl⟩
 refine Sr (Ve ?_)
 refine Am ?_
 refine Qn (Cp rfl (fun hc10 => ?_) (fun hc10 => ?_))
 ·refine Sk (FW_cond_true (congrArg Value.bool (decide_eq_true hc10)) ?_)
  refine Sr (Am ?_)
  refine Qn (Rb (Qfn_ret (hR := ?_)))
  exact ⟨by unfold takesD; rw [if_pos (by omega)]; rfl, rfl⟩
 refine Sr (Ve ?_)
 refine Am ?_
 refine Qn (Cp rfl (fun hc15 => ?_) (fun hc15 => ?_))
 ·refine Sk (FW_cond_true (congrArg Value.bool (decide_eq_true hc15)) ?_)
  refine Sr (Am ?_)
  refine Qn (Rb (Qfn_ret (hR := ?_)))
  exact ⟨by unfold takesD; rw [if_pos (by omega)]; rfl, rfl⟩
 refine Sr (Ve ?_)
 refine Am ?_
 refine Qn (Cp rfl (fun hc20 => ?_) (fun hc20 => ?_))
 ·refine Sk (FW_cond_true (congrArg Value.bool (decide_eq_true hc20)) ?_)
  refine Sr (Am ?_)
  refine Qn (Rb (Qfn_ret (hR := ?_)))
  exact ⟨by unfold takesD; rw [if_pos (by omega)]; rfl, rfl⟩
 refine Sr (Ve ?_)
 refine Am ?_
 refine Qn (Cp rfl (fun hc25 => ?_) (fun hc25 => ?_))
 ·refine Sk (FW_cond_true (congrArg Value.bool (decide_eq_true hc25)) ?_)
  refine Sr (Am ?_)
  refine Qn (Rb (Qfn_ret (hR := ?_)))
  exact ⟨by unfold takesD; rw [if_pos (by omega)]; rfl, rfl⟩
 refine FW_region (Ve ?_)
 refine Am ?_
 refine Qn (Cp rfl (fun hc30 => ?_) (fun hc30 => ?_))
 ·refine Sr (Am ?_)
  refine Qn (Rb (Qfn_ret (hR := ?_)))
  exact ⟨by unfold takesD; rw [if_pos (by omega)]; rfl, rfl⟩
 refine FW_seq (Sr (Ve ?_))
 refine Am ?_
 refine Qn (Cp rfl (fun hc35 => ?_) (fun hc35 => ?_))
 ·refine Sk (FW_cond_true (congrArg Value.bool (decide_eq_true hc35)) ?_)
  refine Sr (Am ?_)
  refine Qn (Rb (Qfn_ret (hR := ?_)))
  exact ⟨by unfold takesD; rw [if_neg (by omega), if_pos (by omega)]; rfl, rfl⟩
 refine Sr (Ve ?_)
 refine Am ?_
 refine Qn (Cp rfl (fun hc40 => ?_) (fun hc40 => ?_))
 ·refine Sk (FW_cond_true (congrArg Value.bool (decide_eq_true hc40)) ?_)
  refine Sr (Am ?_)
  refine Qn (Rb (Qfn_ret (hR := ?_)))
  exact ⟨by unfold takesD; rw [if_neg (by omega), if_pos (by omega)]; rfl, rfl⟩
 refine Sr (Ve ?_)
 refine Am ?_
 refine Qn (Cp rfl (fun hc45 => ?_) (fun hc45 => ?_))
 ·refine Sk (FW_cond_true (congrArg Value.bool (decide_eq_true hc45)) ?_)
  refine Sr (Am ?_)
  refine Qn (Rb (Qfn_ret (hR := ?_)))
  exact ⟨by unfold takesD; rw [if_neg (by omega), if_pos (by omega)]; rfl, rfl⟩
 refine FW_region (Ve ?_)
 refine Am ?_
 refine Qn (Cp rfl (fun hc50 => ?_) (fun hc50 => ?_))
 ·refine Sr (Am ?_)
  refine Qn (Rb (Qfn_ret (hR := ?_)))
  exact ⟨by unfold takesD; rw [if_neg (by omega), if_pos (by omega)]; rfl, rfl⟩
 refine FW_skip (Qblk_normal (Qseq_normal (Sr (Am ?_))))
 refine Qn (FW_ret (Qfn_ret (hR := ?_)))
 exact ⟨by unfold takesD; rw [if_neg (by omega), if_neg (by omega)]; rfl, rfl⟩
theorem mayS_ok22 (x : StepM) : Rets Tryz.prog 85 [agg (stepCells x)] w fun v w' => v = .bool (mayS x) ∧ Kept noB w w' := by
 have H := Sep.start0 w
 refine rets1 Tryz.func85 rfl rfl rfl rfl ?_
 refine Sr (FL_box H (h := fun b1 w2 H2 k1 => ?_))
 refine Am ?_
 refine Qn (FW_seq (Sr (Vf ?_)))
 refine Ld H2 ?_
 refine Qn (FW_block (Sr (Ve ?_)))
 refine Am ?_
 refine Qn (Cp rfl (fun hc8 => ?_) (fun hc8 => ?_))
 ·refine Sr (Vf ?_)
  refine Ld H2 ?_
  refine Vv (Gives.eqlT rfl rfl) (Mv ?_)
  refine FL_splitP (t := 10) rfl (fun hs13 => ?_) (fun hs13 => ?_)
  ·refine On (Vf ?_)
   refine On (Ld H2 ?_)
   refine On (Vv (Gives.geq rfl rfl) (Pt ?_))
   refine Mv ?_
   refine FL_splitP (t := 15) rfl (fun hs19 => ?_) (fun hs19 => ?_)
   ·refine On (Vf ?_)
    refine On (Ld H2 ?_)
    refine On (Vv (Gives.leq rfl rfl) (Pt ?_))
    refine Am ?_
    refine Qn (Rb (Qfn_ret (hR := ?_)))
    exact ⟨boolE (by first | (unfold mayS; simp_all; done) | (simp_all; done) | (unfold mayS; simp_all; omega)), H2.kept⟩
   refine Of (Of (Of (Pf ?_)))
   refine Am ?_
   refine Qn (Rb (Qfn_ret (hR := ?_)))
   exact ⟨boolE (by first | (unfold mayS; simp_all; done) | (simp_all; done) | (unfold mayS; simp_all; omega)), H2.kept⟩
  refine Of (Of (Of (Pf ?_)))
  refine Mv ?_
  refine Of (Of (Of (Pf ?_)))
  refine Am ?_
  refine Qn (Rb (Qfn_ret (hR := ?_)))
  exact ⟨boolE (by first | (unfold mayS; simp_all; done) | (simp_all; done) | (unfold mayS; simp_all; omega)), H2.kept⟩
 refine Sr (Ve ?_)
 refine Am ?_
 refine Qn (Cp rfl (fun hc36 => ?_) (fun hc36 => ?_))
 ·refine Sr (Vf ?_)
  refine Ld H2 ?_
  refine Vv (Gives.eqlT rfl rfl) (Am ?_)
  refine Qn (Rb (Qfn_ret (hR := ?_)))
  exact ⟨boolE (by first | (unfold mayS; simp_all; done) | (simp_all; done) | (unfold mayS; simp_all; omega)), H2.kept⟩
 refine Sr (Ve ?_)
 refine Am ?_
 refine Qn (Cp rfl (fun hc44 => ?_) (fun hc44 => ?_))
 ·refine Sr (Vf ?_)
  refine Ld H2 ?_
  refine Vv (Gives.eqlT rfl rfl) (Mv ?_)
  refine FL_splitP (t := 30) rfl (fun hs49 => ?_) (fun hs49 => ?_)
  ·refine On (Vf ?_)
   refine On (Ld H2 ?_)
   refine On (Vv (Gives.geq rfl rfl) (Pt ?_))
   refine Mv ?_
   refine FL_splitP (t := 35) rfl (fun hs55 => ?_) (fun hs55 => ?_)
   ·refine On (Vf ?_)
    refine On (Ld H2 ?_)
    refine On (Vv (Gives.leq rfl rfl) (Pt ?_))
    refine Am ?_
    refine Qn (Rb (Qfn_ret (hR := ?_)))
    exact ⟨boolE (by first | (unfold mayS; simp_all; done) | (simp_all; done) | (unfold mayS; simp_all; omega)), H2.kept⟩
   refine Of (Of (Of (Pf ?_)))
   refine Am ?_
   refine Qn (Rb (Qfn_ret (hR := ?_)))
   exact ⟨boolE (by first | (unfold mayS; simp_all; done) | (simp_all; done) | (unfold mayS; simp_all; omega)), H2.kept⟩
  refine Of (Of (Of (Pf ?_)))
  refine Mv ?_
  refine Of (Of (Of (Pf ?_)))
  refine Am ?_
  refine Qn (Rb (Qfn_ret (hR := ?_)))
  exact ⟨boolE (by first | (unfold mayS; simp_all; done) | (simp_all; done) | (unfold mayS; simp_all; omega)), H2.kept⟩
 refine Sr (Ve ?_)
 refine Am ?_
 refine Qn (Cp rfl (fun hc72 => ?_) (fun hc72 => ?_))
 ·refine Sr (Vf ?_)
  refine Ld H2 ?_
  refine Ve ?_
  refine Mv ?_
  refine FL_splitP (t := 45) rfl (fun hs77 => ?_) (fun hs77 => ?_)
  ·refine On (Vf ?_)
   refine On (Ld H2 ?_)
   refine On (Vt ?_)
   refine On (Vv (Gives.leq rfl rfl) (Pt ?_))
   refine Mv ?_
   refine FL_splitP (t := 51) rfl (fun hs84 => ?_) (fun hs84 => ?_)
   ·refine On (Vf ?_)
    refine On (Ld H2 ?_)
    refine On (FL_callQ H2 (valid_ok4 x.s (by omega)) (h := fun w88 H88 _ => ?_))
    refine Pt ?_
    refine Am ?_
    refine Qn (Rb (Qfn_ret (hR := ?_)))
    exact ⟨boolE (by first | (unfold mayS; simp_all; done) | (simp_all; done) | (unfold mayS; simp_all; omega)), H88.kept⟩
   refine Of (Of (Of (Pf ?_)))
   refine Am ?_
   refine Qn (Rb (Qfn_ret (hR := ?_)))
   exact ⟨boolE (by first | (unfold mayS; simp_all; done) | (simp_all; done) | (unfold mayS; simp_all; omega)), H2.kept⟩
  refine Of (Of (Of (Of (Pf ?_))))
  refine Mv ?_
  refine Of (Of (Of (Pf ?_)))
  refine Am ?_
  refine Qn (Rb (Qfn_ret (hR := ?_)))
  exact ⟨boolE (by first | (unfold mayS; simp_all; done) | (simp_all; done) | (unfold mayS; simp_all; omega)), H2.kept⟩
 refine Sr (Ve ?_)
 refine Am ?_
 refine Qn (Cp rfl (fun hc102 => ?_) (fun hc102 => ?_))
 ·refine Sr (Vf ?_)
  refine Ld H2 ?_
  refine Ve ?_
  refine Mv ?_
  refine FL_splitP (t := 61) rfl (fun hs107 => ?_) (fun hs107 => ?_)
  ·refine On (Vf ?_)
   refine On (Ld H2 ?_)
   refine On (Vt ?_)
   refine On (Vv (Gives.leq rfl rfl) (Pt ?_))
   refine Am ?_
   refine Qn (Rb (Qfn_ret (hR := ?_)))
   exact ⟨boolE (by first | (unfold mayS; simp_all; done) | (simp_all; done) | (unfold mayS; simp_all; omega)), H2.kept⟩
  refine Of (Of (Of (Of (Pf ?_))))
  refine Am ?_
  refine Qn (Rb (Qfn_ret (hR := ?_)))
  exact ⟨boolE (by first | (unfold mayS; simp_all; done) | (simp_all; done) | (unfold mayS; simp_all; omega)), H2.kept⟩
 refine Sr (Ve ?_)
 refine Am ?_
 refine Qn (Cp rfl (fun hc120 => ?_) (fun hc120 => ?_))
 ·refine Sr (Vf ?_)
  refine Ld H2 ?_
  refine Vv (Gives.eqlT rfl rfl) (Mv ?_)
  refine FL_splitP (t := 72) rfl (fun hs125 => ?_) (fun hs125 => ?_)
  ·refine On (Vf ?_)
   refine On (Ld H2 ?_)
   refine On (Ve ?_)
   refine On (Mv ?_)
   refine FL_splitP (t := 76) rfl (fun hs130 => ?_) (fun hs130 => ?_)
   ·refine Of (Of (Of (Of (Ou (Ou (Ou (Of (On (Pt ?_)))))))))
    refine Pt ?_
    refine Am ?_
    refine Qn (Rb (Qfn_ret (hR := ?_)))
    exact ⟨boolE (by first | (unfold mayS; simp_all; done) | (simp_all; done) | (unfold mayS; simp_all; omega)), H2.kept⟩
   refine On (Vf ?_)
   refine On (Ld H2 ?_)
   refine On (Vv (Gives.geq rfl rfl) (On ?_))
   refine Mv ?_
   refine FL_splitP (t := 80) rfl (fun hs139 => ?_) (fun hs139 => ?_)
   ·refine On (Vf ?_)
    refine On (Ld H2 ?_)
    refine On (Vv (Gives.leq rfl rfl) (On ?_))
    refine Pt ?_
    refine On (Pf ?_)
    refine Pt ?_
    refine Am ?_
    refine Qn (Rb (Qfn_ret (hR := ?_)))
    exact ⟨boolE (by first | (unfold mayS; simp_all; done) | (simp_all; done) | (unfold mayS; simp_all; omega)), H2.kept⟩
   refine Of (Of (Of (On (Pf ?_))))
   refine On (Pf ?_)
   refine Pt ?_
   refine Am ?_
   refine Qn (Rb (Qfn_ret (hR := ?_)))
   exact ⟨boolE (by first | (unfold mayS; simp_all; done) | (simp_all; done) | (unfold mayS; simp_all; omega)), H2.kept⟩
  refine Of (Of (Of (Of (Ou (Ou (Ou (Ou (Ou (Ou (Ou (Ou (Of (Pf ?_)))))))))))))
  refine Am ?_
  refine Qn (Rb (Qfn_ret (hR := ?_)))
  exact ⟨boolE (by first | (unfold mayS; simp_all; done) | (simp_all; done) | (unfold mayS; simp_all; omega)), H2.kept⟩
 refine FW_skip (Qblk_normal (Qseq_normal (Sr (Vf ?_))))
 refine Ld H2 ?_
 refine Vv (Gives.geq rfl rfl) (Mv ?_)
 refine FL_splitP (t := 90) rfl (fun hs160 => ?_) (fun hs160 => ?_)
 ·refine On (Vf ?_)
  refine On (Ld H2 ?_)
  refine On (Vv (Gives.leq rfl rfl) (Pt ?_))
  refine Mv ?_
  refine FL_splitP (t := 95) rfl (fun hs166 => ?_) (fun hs166 => ?_)
  ·refine On (Vf ?_)
   refine On (Ld H2 ?_)
   refine On (Ve ?_)
   refine Pt ?_
   refine Mv ?_
   refine FL_splitP (t := 100) rfl (fun hs172 => ?_) (fun hs172 => ?_)
   ·refine On (Vf ?_)
    refine On (Ld H2 ?_)
    refine On (Vv (Gives.eqlT rfl rfl) (Pt ?_))
    refine Am ?_
    refine Qn (FW_ret (Qfn_ret (hR := ?_)))
    exact ⟨boolE (by first | (unfold mayS; simp_all; done) | (simp_all; done) | (unfold mayS; simp_all; omega)), H2.kept⟩
   refine Of (Of (Of (Pf ?_)))
   refine Am ?_
   refine Qn (FW_ret (Qfn_ret (hR := ?_)))
   exact ⟨boolE (by first | (unfold mayS; simp_all; done) | (simp_all; done) | (unfold mayS; simp_all; omega)), H2.kept⟩
  refine Of (Of (Of (Pf ?_)))
  refine Mv ?_
  refine Of (Of (Of (Pf ?_)))
  refine Am ?_
  refine Qn (FW_ret (Qfn_ret (hR := ?_)))
  exact ⟨boolE (by first | (unfold mayS; simp_all; done) | (simp_all; done) | (unfold mayS; simp_all; omega)), H2.kept⟩
 refine Of (Of (Of (Pf ?_)))
 refine Mv ?_
 refine Of (Of (Of (Pf ?_)))
 refine Mv ?_
 refine Of (Of (Of (Pf ?_)))
 refine Am ?_
 refine Qn (FW_ret (Qfn_ret (hR := ?_)))
 exact ⟨boolE (by first | (unfold mayS; simp_all; done) | (simp_all; done) | (unfold mayS; simp_all; omega)), H2.kept⟩
end
end Go.Proofs.YtolaedhdjcnijaaGreatDoor
