/-
 Cells, steps, columns as values; rules for them.
-/
import Derived.Test.YtmkaahkbhdlniaaGreatDoorEv8
set_option linter.unusedVariables false
set_option linter.unusedSimpArgs false
namespace Go.Proofs.YtmkaahkbhdlniaaGreatDoor
open Go Go.Mw Go.Lib
set_option maxRecDepth 4000

def typeCells (t : TypeM) : List Value := [I t.kind, .bool t.null]
def cellCells (c : CellM) : List Value := [.bool c.null, I c.n, str c.s]
def stepCells (x : StepM) : List Value := [I x.kind, I x.n, str x.s]
def colCells (c : ColM) : List Value := [I c.id, str c.name, I c.type.kind, .bool c.type.null, .bool c.dflt.null, I c.dflt.n, str c.dflt.s]
def agg (cs : List Value) : Value := .agg cs.toArray
theorem str_eq_iff {a b : List UInt8} : (((⟨a.toArray⟩ : ByteArray).toList == (⟨b.toArray⟩ : ByteArray).toList) = true) ↔ a = b := by
 rw [ByteArray.toList_mk, ByteArray.toList_mk]; simp
section
variable {P : Program} {w : World} {d : Nat} {f : Field} {fs : List Field} {xs ys : List Value} {u v : Value} {e : Bool}
theorem eqF1 (hn : (f.name != "_") = true) (h1 : OneCell P f.type) (hu : xs[f.offset]? = some u) (hv : ys[f.offset]? = some v) (he : (Op.equalIn d f.type u v).run P w = .ok e w) :
    (Op.eqFields d xs.toArray ys.toArray (f :: fs)).run P w = if e = true then (Op.eqFields d xs.toArray ys.toArray fs).run P w else .ok false w := by
  have hn' : f.name ≠ "_" := by simpa using hn
  simp only [Op.eqFields, if_pos hn', Sem.run_bind, run_part1 hu, run_part1 hv, Result.andThen_ok, he]
  cases e <;> simp
theorem eqFN {k : Nat} {us vs : List Value} (hn : (f.name != "_") = true) (h1 : Agg P f.type k) (hu : (xs.drop f.offset).take k = us) (hv : (ys.drop f.offset).take k = vs) (he : (Op.equalIn d f.type (.agg us.toArray) (.agg vs.toArray)).run P w = .ok e w) :
    (Op.eqFields d xs.toArray ys.toArray (f :: fs)).run P w = if e = true then (Op.eqFields d xs.toArray ys.toArray fs).run P w else .ok false w := by
  have hn' : f.name ≠ "_" := by simpa using hn
  simp only [Op.eqFields, if_pos hn', Sem.run_bind, run_partN hu, run_partN hv, Result.andThen_ok, he]
  cases e <;> simp
theorem eqF0 : (Op.eqFields d xs.toArray ys.toArray []).run P w = .ok true w := rfl
theorem equalI {t : TypeId} (a b : Int) (h : P.underlying t = some (.int .i64)) : (Op.equalIn (d + 1) t (I a) (I b)).run P w = .ok (decide (a = b)) w := by
 rw [show I a = .int .i64 a from rfl, show I b = .int .i64 b from rfl, run_equalIn_int w d t .i64 .i64 a b h]
 rfl
theorem equalB {t : TypeId} (a b : Bool) (h : P.underlying t = some .bool) : (Op.equalIn (d + 1) t (.bool a) (.bool b)).run P w = .ok (decide (a = b)) w := by
 rw [run_equalIn_bool' w d t a b h]
 cases a <;> cases b <;> rfl
theorem equalT {t : TypeId} (a b : List UInt8) (h : P.underlying t = some .string) : (Op.equalIn (d + 1) t (str a) (str b)).run P w = .ok (decide (a = b)) w := by
 rw [show str a = .string ⟨a.toArray⟩ from rfl, show str b = .string ⟨b.toArray⟩ from rfl, run_equalIn_string w d t _ _ h]
 congr 1
 rw [Bool.eq_iff_iff, str_eq_iff, decide_eq_true_eq]
end
theorem eqCell {d : Nat} (a b : CellM) (w : World) : (Op.equalIn (d + 2) 34 (.agg (cellCells a).toArray) (.agg (cellCells b).toArray)).run Tryz.prog w = .ok (decide (a = b)) w := by
 rw [run_equalIn_agg w (d + 1) _ _ _ (by kernel_rfl) (by kernel_rfl)]
 simp only [Program.fieldsOf, Tryz.underlying34]
 rw [eqF1 rfl oc_4 rfl rfl (equalB a.null b.null (by kernel_rfl)), eqF1 rfl oc_2 rfl rfl (equalI a.n b.n (by kernel_rfl)), eqF1 rfl oc_9 rfl rfl (equalT a.s b.s (by kernel_rfl)), eqF0]
 have e : (a = b) = (a.null = b.null ∧ a.n = b.n ∧ a.s = b.s) := propext ⟨fun h => by subst h; exact ⟨rfl, rfl, rfl⟩, fun h => CellM.ext' h.1 h.2.1 h.2.2⟩
 simp only [e]
 by_cases h1 : a.null = b.null <;> by_cases h2 : a.n = b.n <;> by_cases h3 : a.s = b.s <;> simp [h1, h2, h3]
theorem eqType {d : Nat} (a b : TypeM) (w : World) : (Op.equalIn (d + 2) 29 (.agg (typeCells a).toArray) (.agg (typeCells b).toArray)).run Tryz.prog w = .ok (decide (a = b)) w := by
 rw [run_equalIn_agg w (d + 1) _ _ _ (by kernel_rfl) (by kernel_rfl)]
 simp only [Program.fieldsOf, Tryz.underlying29]
 rw [eqF1 rfl oc_3 rfl rfl (equalI a.kind b.kind (by kernel_rfl)), eqF1 rfl oc_4 rfl rfl (equalB a.null b.null (by kernel_rfl)), eqF0]
 have e : (a = b) = (a.kind = b.kind ∧ a.null = b.null) := propext ⟨fun h => by subst h; exact ⟨rfl, rfl⟩, fun h => TypeM.ext' h.1 h.2⟩
 simp only [e]
 by_cases h1 : a.kind = b.kind <;> by_cases h2 : a.null = b.null <;> simp [h1, h2]
theorem eqStep {d : Nat} (a b : StepM) (w : World) : (Op.equalIn (d + 2) 57 (.agg (stepCells a).toArray) (.agg (stepCells b).toArray)).run Tryz.prog w = .ok (decide (a = b)) w := by
 rw [run_equalIn_agg w (d + 1) _ _ _ (by kernel_rfl) (by kernel_rfl)]
 simp only [Program.fieldsOf, Tryz.underlying57]
 rw [eqF1 rfl oc_3 rfl rfl (equalI a.kind b.kind (by kernel_rfl)), eqF1 rfl oc_2 rfl rfl (equalI a.n b.n (by kernel_rfl)), eqF1 rfl oc_9 rfl rfl (equalT a.s b.s (by kernel_rfl)), eqF0]
 have e : (a = b) = (a.kind = b.kind ∧ a.n = b.n ∧ a.s = b.s) := propext ⟨fun h => by subst h; exact ⟨rfl, rfl, rfl⟩, fun h => StepM.ext' h.1 h.2.1 h.2.2⟩
 simp only [e]
 by_cases h1 : a.kind = b.kind <;> by_cases h2 : a.n = b.n <;> by_cases h3 : a.s = b.s <;> simp [h1, h2, h3]
theorem eqCol {d : Nat} (a b : ColM) (w : World) : (Op.equalIn (d + 3) 74 (.agg (colCells a).toArray) (.agg (colCells b).toArray)).run Tryz.prog w = .ok (decide (a = b)) w := by
 rw [run_equalIn_agg w (d + 2) _ _ _ (by kernel_rfl) (by kernel_rfl)]
 simp only [Program.fieldsOf, Tryz.underlying74]
 rw [eqF1 rfl oc_3 rfl rfl (equalI a.id b.id (by kernel_rfl)), eqF1 rfl oc_9 rfl rfl (equalT a.name b.name (by kernel_rfl)), eqFN (k := 2) rfl ag_29 rfl rfl (eqType a.type b.type w), eqFN (k := 3) rfl ag_34 rfl rfl (eqCell a.dflt b.dflt w), eqF0]
 have e : (a = b) = (a.id = b.id ∧ a.name = b.name ∧ a.type = b.type ∧ a.dflt = b.dflt) := propext ⟨fun h => by subst h; exact ⟨rfl, rfl, rfl, rfl⟩, fun h => ColM.ext' h.1 h.2.1 h.2.2.1 h.2.2.2⟩
 simp only [e]
 by_cases h1 : a.id = b.id <;> by_cases h2 : a.name = b.name <;> by_cases h3 : a.type = b.type <;> by_cases h4 : a.dflt = b.dflt <;> simp [h1, h2, h3, h4]
instance : EqData Tryz.prog 34 CellM cellCells := ⟨fun a b w => eqCell (d := 9998) a b w, by kernel_rfl⟩
instance : EqData Tryz.prog 29 TypeM typeCells := ⟨fun a b w => eqType (d := 9998) a b w, by kernel_rfl⟩
instance : EqData Tryz.prog 57 StepM stepCells := ⟨fun a b w => eqStep (d := 9998) a b w, by kernel_rfl⟩
instance : EqData Tryz.prog 74 ColM colCells := ⟨fun a b w => eqCol (d := 9997) a b w, by kernel_rfl⟩
end Go.Proofs.YtmkaahkbhdlniaaGreatDoor
namespace Go.Mw
open Go.RowKit
section rules
variable {P : Program} {r : Option Nat} {n : Nat} {ops : Array Oper} {Q : Post} {rest : List Oper} {σ : St} {w w' w₀ : World} {S : Nat → Prop} {rs : List HP} {put : HP → List HP} {ty : TypeId} {pos : String} {after : Array Edge} {guard : Option (Nat × Bool)} {lv : List Bool} {pd pd' : List (Nat × Bool)}
theorem FL_loadAll {d b k : Nat} {x : Operand} {T : TypeId} [Agg P T k] {cs : List Value} {E : TypeId} (H : Sep w₀ S rs w) (hx : evF σ x = .pointer (some ⟨b, 0, none⟩) := by exact rfl)
    (hat : At rs (blk b cs E) put := by first | exact At0 | exact At1 | exact At2 | exact At3 | exact At4 | exact At5 | exact At6 | exact At7 | exact At8 | exact At9) (hk : cs.length = k := by exact rfl) (hd : Nat.blt d n = true := by exact rfl) (h : FL P r n ops Q rest (upd σ d (.agg cs.toArray)) w) :
    FL P r n ops Q ({ dst := some d, op := .load T x, type := ty, pos := pos, after := after, guard := none } :: rest) σ w :=
  FL_loadN H hx hat (us := cs) (by rw [List.drop_zero, ← hk, List.take_length]) hk hd h
theorem FGloadAll (hok : okOps n ops = true) (i : Nat) {d b k : Nat} {x : Operand} {T : TypeId} [Agg P T k] {cs : List Value} {E : TypeId} (H : Sep w₀ S rs w) (ho : ops[i]? = some { dst := some d, op := .load T x, type := ty, pos := pos, after := after, guard := guard } := by exact rfl)
    (hw : Region.wanted { dst := some d, op := .load T x, type := ty, pos := pos, after := after, guard := guard } (yieldF ops σ) = true := by kernel_rfl) (hx : evF σ x = .pointer (some ⟨b, 0, none⟩) := by exact rfl)
    (hat : At rs (blk b cs E) put := by first | exact At0 | exact At1 | exact At2 | exact At3 | exact At4 | exact At5 | exact At6 | exact At7 | exact At8 | exact At9) (hk : cs.length = k := by exact rfl) (hck : quietOk ops lv (pd.map (·.1)) i = true := by kernel_rfl)
    (h : FG P r n ops Q (lv.set i true) ((i, false) :: pd) (upd σ d (.agg cs.toArray)) w) : FG P r n ops Q lv pd σ w :=
  FGloadN hok i H ho hw hx hat (us := cs) (by rw [List.drop_zero, ← hk, List.take_length]) hk hck h
/-- A value into a variable of its own, whole. -/
theorem FL_storeAll {b k : Nat} {x y : Operand} {T : TypeId} [Agg P T k] {cs us : List Value} {E : TypeId} (H : Sep w₀ S rs w) (hx : evF σ x = .pointer (some ⟨b, 0, none⟩) := by exact rfl) (hy : evF σ y = .agg us.toArray := by exact rfl)
    (hat : At rs (blk b cs E) put := by first | exact At0 | exact At1 | exact At2 | exact At3 | exact At4 | exact At5 | exact At6 | exact At7 | exact At8 | exact At9) (hk : us.length = k := by exact rfl) (hl : cs.length = k := by exact rfl) (hv : us.all Value.oneCell' = true := by exact rfl)
    (h : ∀ w', Sep w₀ S (put (blk b us E)) w' → FL P r n ops Q rest σ w') :
    FL P r n ops Q ({ dst := none, op := .store T x y, type := ty, pos := pos, after := after, guard := none } :: rest) σ w :=
  FL_storeN H hx hy hk (fun u hu => List.all_eq_true.1 hv u hu) hat (by omega) (by rw [List.take_zero, List.nil_append, List.drop_of_length_le (by omega), List.append_nil]) h
theorem acts_storeAll {ρ : Operand → Value} {b k : Nat} {x y : Operand} {T : TypeId} [h1 : Agg P T k] {cs us : List Value} {E : TypeId} (H : Sep w₀ S rs w) (hx : ρ x = .pointer (some ⟨b, 0, none⟩)) (hy : ρ y = .agg us.toArray)
    (hat : At rs (blk b cs E) put) (hk : us.length = k) (hl : cs.length = k) (hv : us.all Value.oneCell' = true) : ∃ w', Acts P ρ (.store T x y) ty w w' ∧ Sep w₀ S (put (blk b us E)) w' := by
  have hb := H.obj hat
  have hst := run_storeCells_at P b 0 E us 0 cs.toArray w hb (by simp; omega) (fun u hu => List.all_eq_true.1 hv u hu)
  have hs : cs.take 0 ++ us ++ cs.drop (0 + us.length) = us := by rw [List.take_zero, List.nil_append, List.drop_of_length_le (by omega), List.append_nil]
  refine ⟨w.setRow b (cs.take 0 ++ us ++ cs.drop (0 + us.length)).toArray, fun _ _ _ _ => ?_, ?_⟩
  · simp only [Nat.add_zero] at hst
    simp [execOp, hx, hy, Instr.storeAt, Instr.sureAddr, storeVar, h1.size, Value.cells, hk]
    simp [hk] at hst
    rw [hst]
    simp
  · rw [hs]
    refine H.setObj hat ⟨rfl, rfl, rfl, by simp, fun j hj hS => ?_⟩ ?_
    · simp only [World.setRow, Array.getElem?_modify]; rw [if_neg (fun e => hS e.symm)]
    · simp only [World.setRow, Array.getElem?_modify, if_true, hb, Option.map_some]
theorem FGstoreAll (hok : okOps n ops = true) (e : Nat) (pd' : List (Nat × Bool)) {b k : Nat} {x y : Operand} {T : TypeId} [Agg P T k] {cs us : List Value} {E : TypeId} (H : Sep w₀ S rs w) (ho : ops[e]? = some { dst := none, op := .store T x y, type := ty, pos := pos, after := after, guard := guard } := by exact rfl)
    (hw : Region.wanted { dst := none, op := .store T x y, type := ty, pos := pos, after := after, guard := guard } (yieldF ops σ) = true := by kernel_rfl) (hx : evF σ x = .pointer (some ⟨b, 0, none⟩) := by exact rfl) (hy : evF σ y = .agg us.toArray := by exact rfl)
    (hat : At rs (blk b cs E) put := by first | exact At0 | exact At1 | exact At2 | exact At3 | exact At4 | exact At5 | exact At6 | exact At7 | exact At8 | exact At9) (hk : us.length = k := by exact rfl) (hl : cs.length = k := by exact rfl) (hv : us.all Value.oneCell' = true := by exact rfl)
    (hck : effectOk ops lv (pd.map (·.1)) e = true := by kernel_rfl) (hpd : pd.filter (fun p => !((above ops e).contains p.1)) = pd' := by kernel_rfl)
    (h : ∀ w', Sep w₀ S (put (blk b us E)) w' → Stab P ops σ w' pd' ∧ FG P r n ops Q (lv.set e true) pd' σ w') : FG P r n ops Q lv pd σ w :=
  FGact hok e pd' ho hw (acts_storeAll H hx hy hat hk hl hv) hck hpd h
end rules
end Go.Mw
/-
 The document's cells, walked: types, and what a cell may be.
-/
namespace Go.Proofs.YtmkaahkbhdlniaaGreatDoor
open Go Go.Mw Go.Lib
set_option maxRecDepth 4000

theorem boolE {a b : Bool} (h : a = true ↔ b = true) : Value.bool a = .bool b := congrArg Value.bool (Bool.eq_iff_iff.2 h)
/-- Is a cell one of a type? -/
def ofC (t : TypeM) (c : CellM) : Bool := if c.null = true then decide (t.null = true ∧ c.n = 0 ∧ c.s = []) else isC t.kind c
theorem checkC_of (t : TypeM) (c : CellM) : checkC t c = if mayT t = false then 2 else if ofC t c = false then 90 else 0 := by
 unfold checkC ofC
 by_cases h1 : mayT t = false
 ·rw [if_pos h1, if_pos h1]
 rw [if_neg h1, if_neg h1]
 by_cases h2 : c.null = true
 ·rw [if_pos h2, if_pos h2]
  have e : (c = cellNull) = (c.n = 0 ∧ c.s = []) := propext ⟨fun h => by rw [h]; exact ⟨rfl, rfl⟩, fun h => CellM.ext' h2 h.1 h.2⟩
  simp only [e]
  by_cases h3 : t.null = true ∧ c.n = 0 ∧ c.s = []
  ·rw [if_pos h3, if_neg (by simp [h3])]
  ·rw [if_neg h3, if_pos (by simpa using h3)]
 ·rw [if_neg h2, if_neg h2]
  cases isC t.kind c <;> rfl
section
variable {w : World}
theorem may_ok9 (t : TypeM) : Rets Tryz.prog 89 [agg (typeCells t)] w fun v w' => v = .bool (mayT t) ∧ Kept noB w w' := by
 have H := Sep.start0 w
 refine rets1 Tryz.func89 rfl rfl rfl rfl ?_
 refine Sr ?_
 refine FL_box H (h := ?_)
 intro b1 w2 H2 k1
 refine Am ?_
 refine Nx ?_
 refine Vf ?_
 refine Ld H2 ?_
 refine FL_val (Gives.geq rfl rfl) rfl ?_
 refine Mv ?_
 refine FL_splitP (t := 6) rfl (fun hs8 => ?_) (fun hs8 => ?_)
 ·refine On ?_
  refine Vf ?_
  refine On ?_
  refine Ld H2 ?_
  refine On ?_
  refine FL_val (Gives.leq rfl rfl) rfl ?_
  refine Pt ?_
  refine Am ?_
  refine Qn ?_
  refine FW_ret (Qfn_ret (hR := ?_))
  exact ⟨boolE (by unfold mayT; simp; omega), H2.kept⟩
 ·refine Of ?_
  refine Of ?_
  refine Of ?_
  refine Pf ?_
  refine Am ?_
  refine Qn ?_
  refine FW_ret (Qfn_ret (hR := ?_))
  exact ⟨boolE (by unfold mayT; simp; omega), H2.kept⟩
theorem of_ok9 (t : TypeM) (c : CellM) : Rets Tryz.prog 163 [agg (typeCells t), agg (cellCells c)] w fun v w' => v = .bool (ofC t c) ∧ Kept noB w w' := by
 have H := Sep.start0 w
 refine rets2 Tryz.func163 rfl rfl rfl rfl ?_
 refine Sr ?_
 refine FL_box H (h := ?_)
 intro b1 w2 H2 k1
 refine FL_box H2 (h := ?_)
 intro b3 w4 H4 k3
 refine Am ?_
 refine Qn ?_
 refine FW_seq ?_
 refine Sr ?_
 refine Vf ?_
 refine Ld H4 ?_
 refine Qn ?_
 refine FW_cond rfl (fun hc8 => ?_) (fun hc8 => ?_)
 ·have hof : ofC t c = decide (t.null = true ∧ c.n = 0 ∧ c.s = []) := by unfold ofC; rw [if_pos hc8]
  refine Sr ?_
  refine Vf ?_
  refine Ld H4 ?_
  refine Mv ?_
  refine FL_split (t := 9) rfl (fun hs13 => ?_) (fun hs13 => ?_)
  ·refine On ?_
   refine Vf ?_
   refine On ?_
   refine Ld H4 ?_
   refine On ?_
   refine Ve ?_
   refine Pt ?_
   refine Mv ?_
   refine FL_splitP (t := 14) rfl (fun hs19 => ?_) (fun hs19 => ?_)
   ·refine On ?_
    refine Vf ?_
    refine On ?_
    refine Ld H4 ?_
    refine On ?_
    refine FL_val (Gives.eqlT rfl rfl) rfl ?_
    refine Pt ?_
    refine Am ?_
    refine Qn ?_
    refine Rs (Qfn_ret (hR := ?_))
    exact ⟨boolE (by rw [hof]; first | (unfold isC; simp_all; done) | (simp_all; done) | (unfold isC; simp_all; omega)), H4.kept⟩
   ·refine Of ?_
    refine Of ?_
    refine Of ?_
    refine Pf ?_
    refine Am ?_
    refine Qn ?_
    refine Rs (Qfn_ret (hR := ?_))
    exact ⟨boolE (by rw [hof]; first | (unfold isC; simp_all; done) | (simp_all; done) | (unfold isC; simp_all; omega)), H4.kept⟩
  ·refine Of ?_
   refine Of ?_
   refine Of ?_
   refine Pf ?_
   refine Mv ?_
   refine Of ?_
   refine Of ?_
   refine Of ?_
   refine Pf ?_
   refine Am ?_
   refine Qn ?_
   refine Rs (Qfn_ret (hR := ?_))
   exact ⟨boolE (by rw [hof]; first | (unfold isC; simp_all; done) | (simp_all; done) | (unfold isC; simp_all; omega)), H4.kept⟩
 ·have hof : ofC t c = isC t.kind c := by unfold ofC; rw [if_neg (by rw [hc8]; simp)]
  refine Sk ?_
  refine FW_seq ?_
  refine Sr ?_
  refine Vf ?_
  refine Ld H4 ?_
  refine Qn ?_
  refine FW_block ?_
  refine Sr ?_
  refine Ve ?_
  refine Am ?_
  refine Qn ?_
  refine FW_condP rfl (fun hc39 => ?_) (fun hc39 => ?_)
  ·refine Sr ?_
   refine Vf ?_
   refine Ld H4 ?_
   refine FL_val (Gives.eqlT rfl rfl) rfl ?_
   refine Mv ?_
   refine FL_splitP (t := 26) rfl (fun hs44 => ?_) (fun hs44 => ?_)
   ·refine On ?_
    refine Vf ?_
    refine On ?_
    refine Ld H4 ?_
    refine On ?_
    refine Ve ?_
    refine On ?_
    refine Mv ?_
    refine FL_splitP (t := 30) rfl (fun hs49 => ?_) (fun hs49 => ?_)
    ·refine Of ?_
     refine Of ?_
     refine Of ?_
     refine On ?_
     refine Pt ?_
     refine Pt ?_
     refine Am ?_
     refine Qn ?_
     refine Rb (Qfn_ret (hR := ?_))
     exact ⟨boolE (by rw [hof]; first | (unfold isC; simp_all; done) | (simp_all; done) | (unfold isC; simp_all; omega)), H4.kept⟩
    ·refine On ?_
     refine Vf ?_
     refine On ?_
     refine Ld H4 ?_
     refine On ?_
     refine Ve ?_
     refine On ?_
     refine Pf ?_
     refine Pt ?_
     refine Am ?_
     refine Qn ?_
     refine Rb (Qfn_ret (hR := ?_))
     exact ⟨boolE (by rw [hof]; first | (unfold isC; simp_all; done) | (simp_all; done) | (unfold isC; simp_all; omega)), H4.kept⟩
   ·refine Of ?_
    refine Of ?_
    refine Of ?_
    refine Of ?_
    refine Ou ?_
    refine Ou ?_
    refine Ou ?_
    refine Of ?_
    refine Pf ?_
    refine Am ?_
    refine Qn ?_
    refine Rb (Qfn_ret (hR := ?_))
    exact ⟨boolE (by rw [hof]; first | (unfold isC; simp_all; done) | (simp_all; done) | (unfold isC; simp_all; omega)), H4.kept⟩
  ·refine Sr ?_
   refine Ve ?_
   refine Am ?_
   refine Qn ?_
   refine FW_condP rfl (fun hc66 => ?_) (fun hc66 => ?_)
   ·refine Sr ?_
    refine Vf ?_
    refine Ld H4 ?_
    refine FL_val (Gives.eqlT rfl rfl) rfl ?_
    refine Mv ?_
    refine FL_splitP (t := 41) rfl (fun hs71 => ?_) (fun hs71 => ?_)
    ·refine On ?_
     refine Vf ?_
     refine On ?_
     refine Ld H4 ?_
     refine On ?_
     refine FL_val (Gives.geq rfl rfl) rfl ?_
     refine Pt ?_
     refine Mv ?_
     refine FL_splitP (t := 46) rfl (fun hs77 => ?_) (fun hs77 => ?_)
     ·refine On ?_
      refine Vf ?_
      refine On ?_
      refine Ld H4 ?_
      refine On ?_
      refine FL_val (Gives.leq rfl rfl) rfl ?_
      refine Pt ?_
      refine Am ?_
      refine Qn ?_
      refine Rb (Qfn_ret (hR := ?_))
      exact ⟨boolE (by rw [hof]; first | (unfold isC; simp_all; done) | (simp_all; done) | (unfold isC; simp_all; omega)), H4.kept⟩
     ·refine Of ?_
      refine Of ?_
      refine Of ?_
      refine Pf ?_
      refine Am ?_
      refine Qn ?_
      refine Rb (Qfn_ret (hR := ?_))
      exact ⟨boolE (by rw [hof]; first | (unfold isC; simp_all; done) | (simp_all; done) | (unfold isC; simp_all; omega)), H4.kept⟩
    ·refine Of ?_
     refine Of ?_
     refine Of ?_
     refine Pf ?_
     refine Mv ?_
     refine Of ?_
     refine Of ?_
     refine Of ?_
     refine Pf ?_
     refine Am ?_
     refine Qn ?_
     refine Rb (Qfn_ret (hR := ?_))
     exact ⟨boolE (by rw [hof]; first | (unfold isC; simp_all; done) | (simp_all; done) | (unfold isC; simp_all; omega)), H4.kept⟩
   ·refine Sr ?_
    refine Ve ?_
    refine Am ?_
    refine Qn ?_
    refine FW_condP rfl (fun hc94 => ?_) (fun hc94 => ?_)
    ·refine Sr ?_
     refine Vf ?_
     refine Ld H4 ?_
     refine FL_val (Gives.eqlT rfl rfl) rfl ?_
     refine Am ?_
     refine Qn ?_
     refine Rb (Qfn_ret (hR := ?_))
     exact ⟨boolE (by rw [hof]; first | (unfold isC; simp_all; done) | (simp_all; done) | (unfold isC; simp_all; omega)), H4.kept⟩
    ·refine Sr ?_
     refine Ve ?_
     refine Am ?_
     refine Qn ?_
     refine FW_condP rfl (fun hc102 => ?_) (fun hc102 => ?_)
     ·refine Sr ?_
      refine Vf ?_
      refine Ld H4 ?_
      refine Ve ?_
      refine Mv ?_
      refine FL_splitP (t := 61) rfl (fun hs107 => ?_) (fun hs107 => ?_)
      ·refine On ?_
       refine Vf ?_
       refine On ?_
       refine Ld H4 ?_
       refine On ?_
       refine Vt ?_
       refine On ?_
       refine FL_val (Gives.leq rfl rfl) rfl ?_
       refine Pt ?_
       refine Mv ?_
       refine FL_splitP (t := 67) rfl (fun hs114 => ?_) (fun hs114 => ?_)
       ·refine On ?_
        refine Vf ?_
        refine On ?_
        refine Ld H4 ?_
        refine On ?_
        refine FL_callQ H4 (valid_ok4 c.s (by omega)) (h := fun w118 H118 _ => ?_)
        refine Pt ?_
        refine Am ?_
        refine Qn ?_
        refine Rb (Qfn_ret (hR := ?_))
        exact ⟨boolE (by rw [hof]; first | (unfold isC; simp_all; done) | (simp_all; done) | (unfold isC; simp_all; omega)), H118.kept⟩
       ·refine Of ?_
        refine Of ?_
        refine Of ?_
        refine Pf ?_
        refine Am ?_
        refine Qn ?_
        refine Rb (Qfn_ret (hR := ?_))
        exact ⟨boolE (by rw [hof]; first | (unfold isC; simp_all; done) | (simp_all; done) | (unfold isC; simp_all; omega)), H4.kept⟩
      ·refine Of ?_
       refine Of ?_
       refine Of ?_
       refine Of ?_
       refine Pf ?_
       refine Mv ?_
       refine Of ?_
       refine Of ?_
       refine Of ?_
       refine Pf ?_
       refine Am ?_
       refine Qn ?_
       refine Rb (Qfn_ret (hR := ?_))
       exact ⟨boolE (by rw [hof]; first | (unfold isC; simp_all; done) | (simp_all; done) | (unfold isC; simp_all; omega)), H4.kept⟩
     ·refine FW_skip (Qblk_normal (Qseq_normal ?_))
      refine Sr ?_
      refine Vf ?_
      refine Ld H4 ?_
      refine Ve ?_
      refine Mv ?_
      refine FL_splitP (t := 75) rfl (fun hs134 => ?_) (fun hs134 => ?_)
      ·refine On ?_
       refine Vf ?_
       refine On ?_
       refine Ld H4 ?_
       refine On ?_
       refine Vt ?_
       refine On ?_
       refine FL_val (Gives.leq rfl rfl) rfl ?_
       refine Pt ?_
       refine Am ?_
       refine Qn ?_
       refine FW_ret (Qfn_ret (hR := ?_))
       exact ⟨boolE (by rw [hof]; first | (unfold isC; simp_all; done) | (simp_all; done) | (unfold isC; simp_all; omega)), H4.kept⟩
      ·refine Of ?_
       refine Of ?_
       refine Of ?_
       refine Of ?_
       refine Pf ?_
       refine Am ?_
       refine Qn ?_
       refine FW_ret (Qfn_ret (hR := ?_))
       exact ⟨boolE (by rw [hof]; first | (unfold isC; simp_all; done) | (simp_all; done) | (unfold isC; simp_all; omega)), H4.kept⟩
end
end Go.Proofs.YtmkaahkbhdlniaaGreatDoor
/-
 The document's cells, walked: Check, Zero, Compare, a row.
-/
namespace Go.Proofs.YtmkaahkbhdlniaaGreatDoor
open Go Go.Mw Go.Lib
set_option maxRecDepth 4000

theorem bytesLess_cmp : ∀ a b : List UInt8, Op.bytesLess a b = decide (compareBytes a b = -1)
 | [], [] => rfl
 | [], _ :: _ => rfl
 | _ :: _, [] => rfl
 | a :: x1, b :: y1 => by
  rw [Op.bytesLess, compareBytes, bytesLess_cmp x1 y1]
  by_cases h1 : a < b
  ·simp [h1]
  ·by_cases h2 : b < a
   ·have : a ≠ b := fun e => by subst e; exact h1 h2
    simp [h1, h2, this]
   ·have : a = b := UInt8.le_antisymm (UInt8.not_lt.1 h2) (UInt8.not_lt.1 h1)
    subst this
    simp [h1]
theorem cmp_zero : ∀ {a b : List UInt8}, compareBytes a b = 0 → a = b
 | [], [], _ => rfl
 | [], _ :: _, h => by cases h
 | _ :: _, [], h => by cases h
 | a :: x1, b :: y1, h => by
  rw [compareBytes] at h
  by_cases h1 : a < b
  ·rw [if_pos h1] at h; cases h
  ·by_cases h2 : b < a
   ·rw [if_neg h1, if_pos h2] at h; cases h
   ·rw [if_neg h1, if_neg h2] at h
    rw [cmp_zero h, UInt8.le_antisymm (UInt8.not_lt.1 h2) (UInt8.not_lt.1 h1)]
theorem cmp_three : ∀ a b : List UInt8, compareBytes a b = -1 ∨ compareBytes a b = 0 ∨ compareBytes a b = 1
 | [], [] => .inr (.inl rfl)
 | [], _ :: _ => .inl rfl
 | _ :: _, [] => .inr (.inr rfl)
 | a :: x1, b :: y1 => by
  rw [compareBytes]
  by_cases h1 : a < b
  ·rw [if_pos h1]; exact .inl rfl
  ·by_cases h2 : b < a
   ·rw [if_neg h1, if_pos h2]; exact .inr (.inr rfl)
   ·rw [if_neg h1, if_neg h2]; exact cmp_three x1 y1
theorem cmp_self : ∀ a : List UInt8, compareBytes a a = 0
 | [] => rfl
 | a :: x1 => by rw [compareBytes, if_neg (UInt8.lt_irrefl a), if_neg (UInt8.lt_irrefl a), cmp_self x1]
theorem cmp_lt {a b : CellM} (hn : a.null = b.null) (h : a.n < b.n ∨ (a.n = b.n ∧ Op.bytesLess a.s b.s = true)) : cmpC a b = -1 := by
 unfold cmpC
 rw [if_pos hn]
 rcases h with h | ⟨h, hs⟩
 ·rw [if_pos h]
 ·rw [if_neg (by omega), if_neg (by omega)]
  rw [bytesLess_cmp] at hs
  exact of_decide_eq_true hs
theorem cmp_gt {a b : CellM} (hne : a ≠ b) (hn : a.null = b.null) (h1 : ¬ a.n < b.n) (h2 : a.n = b.n → Op.bytesLess a.s b.s = false) : cmpC a b = 1 := by
 unfold cmpC
 rw [if_pos hn, if_neg h1]
 by_cases h : b.n < a.n
 ·rw [if_pos h]
 ·rw [if_neg h]
  have e : a.n = b.n := by omega
  have hs := h2 e
  rw [bytesLess_cmp] at hs
  rcases cmp_three a.s b.s with k | k | k
  ·exact absurd k (of_decide_eq_false hs)
  ·exact absurd (CellM.ext' hn e (cmp_zero k)) hne
  ·exact k
attribute [local irreducible] mayT ofC
section
variable {w : World}
theorem check_ok9 (t : TypeM) (c : CellM) : Rets Tryz.prog 98 [agg (typeCells t), agg (cellCells c)] w fun v w' => v = I (checkC t c) ∧ Kept noB w w' := by
 have H := Sep.start0 w
 refine rets2 Tryz.func98 rfl rfl rfl rfl ?_
 have hch := checkC_of t c
 refine Sr ?_
 refine FL_box H (h := ?_)
 intro b1 w2 H2 k1
 refine FL_box H2 (h := ?_)
 intro b3 w4 H4 k3
 refine Am ?_
 refine Qn ?_
 refine FW_seq ?_
 refine Sr ?_
 refine FL_loadAll H4 (h := ?_)
 refine FL_callQ H4 (may_ok9 _) (h := fun w8 H8 k7 => ?_)
 refine FL_val (Gives.not rfl) rfl ?_
 refine Qn ?_
 refine FW_cond rfl (fun hc10 => ?_) (fun hc10 => ?_)
 ·have hfin : checkC t c = 2 := by rw [hch, if_pos (by simpa using hc10)]
  refine Sr ?_
  refine Am ?_
  refine Qn ?_
  refine Rs (Qfn_ret (hR := ?_))
  exact ⟨by rw [hfin]; rfl, H8.kept⟩
 ·rw [if_neg (by simpa using hc10)] at hch
  refine Sk ?_
  refine FW_seq ?_
  refine Sr ?_
  refine FL_loadAll H8 (h := ?_)
  refine FL_loadAll H8 (h := ?_)
  refine FL_callQ H8 (of_ok9 _ _) (h := fun w18 H18 k17 => ?_)
  refine FL_val (Gives.not rfl) rfl ?_
  refine Qn ?_
  refine FW_cond rfl (fun hc20 => ?_) (fun hc20 => ?_)
  ·have hfin : checkC t c = 90 := by rw [hch, if_pos (by simpa using hc20)]
   refine Sr ?_
   refine Am ?_
   refine Qn ?_
   refine Rs (Qfn_ret (hR := ?_))
   exact ⟨by rw [hfin]; rfl, H18.kept⟩
  ·have hfin : checkC t c = 0 := by rw [hch, if_neg (by simpa using hc20)]
   refine Sk ?_
   refine Sr ?_
   refine Am ?_
   refine Qn ?_
   refine FW_ret (Qfn_ret (hR := ?_))
   exact ⟨by rw [hfin]; rfl, H18.kept⟩
theorem compare_ok9 (a b : CellM) : Rets Tryz.prog 103 [agg (cellCells a), agg (cellCells b)] w fun v w' => v = I (cmpC a b) ∧ Kept noB w w' := by
 have H := Sep.start0 w
 refine rets2 Tryz.func103 rfl rfl rfl rfl ?_
 refine Sr ?_
 refine FL_box H (h := ?_)
 intro b1 w2 H2 k1
 refine FL_box H2 (h := ?_)
 intro b3 w4 H4 k3
 refine Am ?_
 refine Qn ?_
 refine FW_seq ?_
 refine Sr ?_
 refine FL_loadAll H4 (h := ?_)
 refine FL_loadAll H4 (h := ?_)
 refine FL_val (Gives.eqlG (enc := cellCells) _ _ rfl rfl) rfl ?_
 refine Qn ?_
 refine FW_condP rfl (fun hc9 => ?_) (fun hc9 => ?_)
 ·have hfin : cmpC a b = 0 := by rw [hc9]; unfold cmpC; rw [if_pos rfl, if_neg (Int.lt_irrefl _), if_neg (Int.lt_irrefl _), cmp_self]
  refine Sr ?_
  refine Am ?_
  refine Qn ?_
  refine Rs (Qfn_ret (hR := ?_))
  exact ⟨by first | (rw [hfin]; rfl) | (rw [cmp_lt hnn (.inl (by assumption))]; rfl) | (rw [cmp_gt hne hnn (by assumption) (fun h => absurd h (by assumption))]; rfl), H4.kept⟩
 ·have hne := hc9
  refine Sk ?_
  refine FW_seq ?_
  refine Sr ?_
  refine Vf ?_
  refine Ld H4 ?_
  refine Vf ?_
  refine Ld H4 ?_
  refine FL_val (Gives.neqB rfl rfl) rfl ?_
  refine Qn ?_
  refine FW_cond rfl (fun hc19 => ?_) (fun hc19 => ?_)
  ·have hd : cmpC a b = if a.null = true then -1 else 1 := by unfold cmpC; rw [if_neg (by simpa using hc19)]
   refine FW_seq ?_
   refine Sr ?_
   refine Vf ?_
   refine Ld H4 ?_
   refine Qn ?_
   refine FW_cond rfl (fun hc23 => ?_) (fun hc23 => ?_)
   ·have hfin : cmpC a b = -1 := by rw [hd, if_pos hc23]
    refine Sr ?_
    refine Am ?_
    refine Qn ?_
    refine Rs (Qseq_ret (Qfn_ret (hR := ?_)))
    exact ⟨by first | (rw [hfin]; rfl) | (rw [cmp_lt hnn (.inl (by assumption))]; rfl) | (rw [cmp_gt hne hnn (by assumption) (fun h => absurd h (by assumption))]; rfl), H4.kept⟩
   ·have hfin : cmpC a b = 1 := by rw [hd, if_neg (by rw [hc23]; simp)]
    refine Sk ?_
    refine Sr ?_
    refine Am ?_
    refine Qn ?_
    refine Rs (Qfn_ret (hR := ?_))
    exact ⟨by first | (rw [hfin]; rfl) | (rw [cmp_lt hnn (.inl (by assumption))]; rfl) | (rw [cmp_gt hne hnn (by assumption) (fun h => absurd h (by assumption))]; rfl), H4.kept⟩
  ·have hnn : a.null = b.null := by simpa using hc19
   refine Sk ?_
   refine FW_seq ?_
   refine Sr ?_
   refine Vf ?_
   refine Ld H4 ?_
   refine Vf ?_
   refine Ld H4 ?_
   refine Vl ?_
   refine Mv ?_
   refine FL_splitP (t := 20) rfl (fun hs37 => ?_) (fun hs37 => ?_)
   ·refine Of ?_
    refine Of ?_
    refine Of ?_
    refine Of ?_
    refine Of ?_
    refine Of ?_
    refine Ou ?_
    refine Ou ?_
    refine Ou ?_
    refine Ou ?_
    refine Ou ?_
    refine Of ?_
    refine Pt ?_
    refine Qn ?_
    refine FW_cond_true rfl ?_
    refine Sr ?_
    refine Am ?_
    refine Qn ?_
    refine Rs (Qfn_ret (hR := ?_))
    exact ⟨by first | (rw [hfin]; rfl) | (rw [cmp_lt hnn (.inl (by assumption))]; rfl) | (rw [cmp_gt hne hnn (by assumption) (fun h => absurd h (by assumption))]; rfl), H4.kept⟩
   ·refine On ?_
    refine Vf ?_
    refine On ?_
    refine Ld H4 ?_
    refine On ?_
    refine Vf ?_
    refine On ?_
    refine Ld H4 ?_
    refine On ?_
    refine Ve ?_
    refine On ?_
    refine Mv ?_
    refine FL_splitP (t := 26) rfl (fun hs47 => ?_) (fun hs47 => ?_)
    ·refine On ?_
     refine Vf ?_
     refine On ?_
     refine Ld H4 ?_
     refine On ?_
     refine Vf ?_
     refine On ?_
     refine Ld H4 ?_
     refine On ?_
     refine FL_val (Gives.lssT rfl rfl) rfl ?_
     refine On ?_
     refine Pt ?_
     refine Pf ?_
     refine Qn ?_
     refine FW_cond rfl (fun hc55 => ?_) (fun hc55 => ?_)
     ·have hfin : cmpC a b = -1 := cmp_lt hnn (.inr ⟨by assumption, by assumption⟩)
      refine Sr ?_
      refine Am ?_
      refine Qn ?_
      refine Rs (Qfn_ret (hR := ?_))
      exact ⟨by first | (rw [hfin]; rfl) | (rw [cmp_lt hnn (.inl (by assumption))]; rfl) | (rw [cmp_gt hne hnn (by assumption) (fun h => absurd h (by assumption))]; rfl), H4.kept⟩
     ·have hfin : cmpC a b = 1 := cmp_gt hne hnn (by assumption) (fun _ => by assumption)
      refine Sk ?_
      refine Sr ?_
      refine Am ?_
      refine Qn ?_
      refine FW_ret (Qfn_ret (hR := ?_))
      exact ⟨by first | (rw [hfin]; rfl) | (rw [cmp_lt hnn (.inl (by assumption))]; rfl) | (rw [cmp_gt hne hnn (by assumption) (fun h => absurd h (by assumption))]; rfl), H4.kept⟩
    ·refine Of ?_
     refine Of ?_
     refine Of ?_
     refine Of ?_
     refine Of ?_
     refine On ?_
     refine Pf ?_
     refine Pf ?_
     refine Qn ?_
     refine FW_cond_false rfl ?_
     refine Sk ?_
     refine Sr ?_
     refine Am ?_
     refine Qn ?_
     refine FW_ret (Qfn_ret (hR := ?_))
     exact ⟨by first | (rw [hfin]; rfl) | (rw [cmp_lt hnn (.inl (by assumption))]; rfl) | (rw [cmp_gt hne hnn (by assumption) (fun h => absurd h (by assumption))]; rfl), H4.kept⟩
end
end Go.Proofs.YtmkaahkbhdlniaaGreatDoor
/-
 The document's cells, walked: digits.
-/
namespace Go.Proofs.YtmkaahkbhdlniaaGreatDoor
open Go Go.Mw Go.Lib
set_option maxRecDepth 4000
end Go.Proofs.YtmkaahkbhdlniaaGreatDoor
namespace Go.Mw
section gives
variable {P : Program} {ρ : Operand → Value} {ty : TypeId} {w : World} {x y : Operand} {T U : TypeId} {k : IntKind} {a b c : Int}
theorem Gives.addW (hx : ρ x = .int k a) (hy : ρ y = .int k b) (he : k.wrap (a + b) = c) : Gives P ρ (.binOp .add T x y U) ty w (.int k c) w := by subst he; exact Gives.add hx hy
theorem Gives.subW (hx : ρ x = .int k a) (hy : ρ y = .int k b) (he : k.wrap (a - b) = c) : Gives P ρ (.binOp .sub T x y U) ty w (.int k c) w := by subst he; exact Gives.sub hx hy
theorem Gives.mulW (hx : ρ x = .int k a) (hy : ρ y = .int k b) (he : k.wrap (a * b) = c) : Gives P ρ (.binOp .mul T x y U) ty w (.int k c) w := by subst he; exact Gives.mul hx hy
theorem Gives.quoW (hx : ρ x = .int k a) (hy : ρ y = .int k b) (h0 : b ≠ 0) (he : k.wrap (a.tdiv b) = c) : Gives P ρ (.binOp .quo T x y U) ty w (.int k c) w := by subst he; exact Gives.quo hx hy h0
theorem Gives.negW (hx : ρ x = .int k a) (he : k.wrap (0 - a) = c) : Gives P ρ (.unOp .neg T x) ty w (.int k c) w := by subst he; exact Gives.neg hx
theorem Gives.convW {s t : TypeId} {j : IntKind} [hs : IsInt P s j] [ht : IsInt P t k] (hx : ρ x = .int j a) (he : k.wrap a = c) : Gives P ρ (.convert s t x) ty w (.int k c) w := by subst he; exact Gives.conv hx
end gives
end Go.Mw
namespace Go.Proofs.YtmkaahkbhdlniaaGreatDoor
open Go Go.Mw Go.Lib
def hexS : List UInt8 := [48, 49, 50, 51, 52, 53, 54, 55, 56, 57, 97, 98, 99, 100, 101, 102]
theorem hex_piece {d : Nat} (h : d < 16) : (hexS.take (d + 1)).drop d = [hexB d] := by
 have key : ∀ i : Fin 16, (hexS.take (i.val + 1)).drop i.val = [hexB i.val] := by decide
 exact key ⟨d, h⟩
theorem hexL_succ {l : List UInt8} {i : Nat} (h : i < l.length) : hexL (l.take (i + 1)) = hexL (l.take i) ++ [hexB ((l.getD i 0).toNat / 16), hexB ((l.getD i 0).toNat % 16)] := by
 unfold hexL
 rw [List.take_add_one, List.getElem?_eq_getElem h, List.flatMap_append]
 simp [List.getD_eq_getElem?_getD, List.getElem?_eq_getElem h]
theorem hexL_length (l : List UInt8) : (hexL l).length = 2 * l.length := by
 induction l with
 | nil => rfl
 | cons c l ih => unfold hexL at *; rw [List.flatMap_cons, List.length_append, ih]; simp; omega
section
variable {w : World}
end
end Go.Proofs.YtmkaahkbhdlniaaGreatDoor
/-
 The document's cells, walked: reading a number.
-/
namespace Go.Proofs.YtmkaahkbhdlniaaGreatDoor
open Go Go.Mw Go.Lib
set_option maxRecDepth 4000
section
variable {w : World}
end
end Go.Proofs.YtmkaahkbhdlniaaGreatDoor
/-
 The document's cells, walked: bytes as hex digits; the words of types.
-/
namespace Go.Proofs.YtmkaahkbhdlniaaGreatDoor
open Go Go.Mw Go.Lib
set_option maxRecDepth 4000
section
variable {w : World}
end
end Go.Proofs.YtmkaahkbhdlniaaGreatDoor
/-
 The document's cells, walked: hex digits read.
-/
namespace Go.Proofs.YtmkaahkbhdlniaaGreatDoor
open Go Go.Mw Go.Lib
set_option maxRecDepth 4000
section
variable {w : World}
end
end Go.Proofs.YtmkaahkbhdlniaaGreatDoor
/-
 Rows of data that are read.
-/
namespace Go.Mw
open Go.RowKit
/-- Where a cell of a row lies. -/
def adr (A : Option Addr) (o : Nat) : Value := .pointer (A.map (·.add o))
class EncK {α : Type} (enc : α → List Value) (k : outParam Nat) : Prop where
 len : ∀ x, (enc x).length = k
/-- A row of data. -/
def Rd {α : Type} (w : World) (A : Option Addr) (enc : α → List Value) (k : Nat) (l : List α) : Prop := RowAt w A l.length k (l.flatMap enc)
section
variable {α : Type} {enc : α → List Value} {k : Nat} {l : List α} {A : Option Addr} {w w' w₀ : World}
theorem flat_get (hk : ∀ x, (enc x).length = k) : ∀ {l : List α} {i j : Nat} {c : α}, l[i]? = some c → j < k → (l.flatMap enc)[i * k + j]? = (enc c)[j]?
 | [], _, _, _, h, _ => by simp at h
 | a :: l, 0, j, c, h, hj => by
  simp only [List.getElem?_cons_zero, Option.some.injEq] at h
  subst h
  rw [List.flatMap_cons, Nat.zero_mul, Nat.zero_add, List.getElem?_append_left (by rw [hk]; exact hj)]
 | a :: l, i + 1, j, c, h, hj => by
  simp only [List.getElem?_cons_succ] at h
  rw [List.flatMap_cons, List.getElem?_append_right (by rw [hk, Nat.succ_mul]; omega), hk, Nat.succ_mul]
  rw [show i * k + k + j - k = i * k + j by omega]
  exact flat_get hk h hj
theorem flat_len (hk : ∀ x, (enc x).length = k) : ∀ l : List α, (l.flatMap enc).length = l.length * k
 | [] => by simp
 | a :: l => by rw [List.flatMap_cons, List.length_append, hk, flat_len hk l, List.length_cons, Nat.succ_mul]; omega
theorem Rd.keep (h : Rd w A enc k l) (hk : Kept noB w w') : Rd w' A enc k l := RowAt.keep h hk
theorem Rd.addr (h : Rd w A enc k l) (hn : 0 < l.length) : ∃ ad, A = some ad := by
 obtain ⟨ad, h1, _⟩ := h.at_ hn
 exact ⟨ad, h1⟩
theorem get_lt {i : Nat} {c : α} (h : l[i]? = some c) : i < l.length := (List.getElem?_eq_some_iff.1 h).1
theorem Rd.cell [hk : EncK enc k] {i f : Nat} {c : α} {v : Value} (h : Rd w A enc k l) (hg : l[i]? = some c) (hv : (enc c)[f]? = some v) : ∃ ad, A = some ad ∧ w.cell? (ad.add (i * k + f)) = some v := by
 have hl := get_lt hg
 obtain ⟨ad, h1, h2⟩ := h.at_ (by omega)
 refine ⟨ad, h1, h2 _ _ ?_⟩
 rw [flat_get hk.len hg (by rw [← hk.len c]; exact get_lt hv)]
 exact hv
end
section
variable {P : Program} {ρ : Operand → Value} {ty : TypeId} {w w₀ : World} {x y : Operand} {α : Type} {enc : α → List Value} {k : Nat} {l : List α} {A : Option Addr} {rs : List HP}
theorem Gives.idxR {t e : TypeId} [ht : IsSlice P t e] {bytes : Nat} [hc : Cells P e k bytes] {c i : Nat} {j : IntKind} (hx : ρ x = .slice A l.length c) (hy : ρ y = .int j i) (hr : Rd w₀ A enc k l) (hlt : i < l.length) : Gives P ρ (.indexAddr t x y) ty w (adr A (i * k)) w := by
 obtain ⟨ad, rfl⟩ := hr.addr (by omega)
 exact Gives.idx hx hy hlt
theorem Gives.fieldR {s f g o : Nat} [h : FieldAt P s f g] (hx : ρ x = adr A o) (hr : Rd w₀ A enc k l) (hlt : 0 < l.length) : Gives P ρ (.fieldAddr s x f) ty w (adr A (o + g)) w := by
 obtain ⟨ad, rfl⟩ := hr.addr hlt
 exact Gives.fieldA hx
theorem Gives.loadE [hk : EncK enc k] {i f : Nat} {c : α} {v : Value} {T : TypeId} [OneCell P T] (hx : ρ x = adr A (i * k + f)) (H : Sep w₀ noB rs w) (hr : Rd w₀ A enc k l) (hg : l[i]? = some c) (hv : (enc c)[f]? = some v) : Gives P ρ (.load T x) ty w v w := by
 obtain ⟨ad, rfl, h2⟩ := (hr.keep H.kept).cell hg hv
 exact Gives.loadC hx h2
theorem Gives.loadE1 [hk : EncK enc k] {i : Nat} {c : α} {v : Value} {T : TypeId} [OneCell P T] (hx : ρ x = adr A (i * k)) (H : Sep w₀ noB rs w) (hr : Rd w₀ A enc k l) (hg : l[i]? = some c) (hv : (enc c)[0]? = some v) : Gives P ρ (.load T x) ty w v w :=
 Gives.loadE (f := 0) hx H hr hg hv
theorem Gives.loadEN [hk : EncK enc k] {i f n : Nat} {c : α} {us : List Value} {T : TypeId} [Agg P T n] (hx : ρ x = adr A (i * k + f)) (H : Sep w₀ noB rs w) (hr : Rd w₀ A enc k l) (hg : l[i]? = some c) (hu : ((enc c).drop f).take n = us) (hn : us.length = n) : Gives P ρ (.load T x) ty w (.agg us.toArray) w := by
 obtain ⟨ad, h1⟩ := hr.addr (by have := get_lt hg; omega)
 subst h1
 refine Gives.loadCN (a := ad.add (i * k + f)) hx (fun j u hj => ?_) hn
 have hv : (enc c)[f + j]? = some u := by
  rw [← hu, List.getElem?_take] at hj
  split at hj
  ·rw [List.getElem?_drop] at hj; exact hj
  ·cases hj
 obtain ⟨ad', h1, h2⟩ := (hr.keep H.kept).cell hg hv
 injection h1 with h1
 subst h1
 rw [add_add, Nat.add_assoc]; exact h2
theorem Gives.loadE0 [hk : EncK enc k] {i : Nat} {c : α} {T : TypeId} [Agg P T k] (hx : ρ x = adr A (i * k)) (H : Sep w₀ noB rs w) (hr : Rd w₀ A enc k l) (hg : l[i]? = some c) : Gives P ρ (.load T x) ty w (.agg (enc c).toArray) w :=
 Gives.loadEN (f := 0) hx H hr hg (by rw [List.drop_zero, ← hk.len c, List.take_length]) (hk.len c)
end
section
variable {P : Program} {w w₀ : World} {S : Nat → Prop} {rs : List HP} {put : HP → List HP} {σ : St} {R : Value → World → Prop} {us : List Value} {a b k E : Nat} {T : TypeId}
/-- What a function answers that keeps its answer in a variable of its own. -/
theorem resC1 [Agg P T k] (H : Sep w₀ S rs w) (hx : σ a = .pointer (some ⟨b, 0, none⟩) := by exact rfl) (hat : At rs (blk b us E) put := by first | exact At0 | exact At1 | exact At2 | exact At3 | exact At4 | exact At5 | exact At6 | exact At7 | exact At8 | exact At9) (hk : us.length = k := by exact rfl) :
    ResAll P σ w [.cell a T] [.agg us.toArray] :=
  ⟨_, _, _, rfl, hx, loadVar_blkN (k := k) (H.obj hat) (us := us) (by rw [List.drop_zero, ← hk, List.take_length]) hk, rfl⟩
theorem resC2 [Agg P T k] {t : Nat} {v : Value} (H : Sep w₀ S rs w) (hx : σ a = .pointer (some ⟨b, 0, none⟩) := by exact rfl) (hat : At rs (blk b us E) put := by first | exact At0 | exact At1 | exact At2 | exact At3 | exact At4 | exact At5 | exact At6 | exact At7 | exact At8 | exact At9) (hk : us.length = k := by exact rfl) (hv : σ t = v := by exact rfl) :
    ResAll P σ w [.cell a T, .tmp t] [.agg us.toArray, v] :=
  ⟨_, _, _, rfl, hx, loadVar_blkN (k := k) (H.obj hat) (us := us) (by rw [List.drop_zero, ← hk, List.take_length]) hk, _, by subst hv; rfl, rfl⟩
end
end Go.Mw
namespace Go.Proofs.YtmkaahkbhdlniaaGreatDoor
open Go Go.Mw
instance : EncK typeCells 2 := ⟨fun _ => rfl⟩
instance : EncK cellCells 3 := ⟨fun _ => rfl⟩
instance : EncK stepCells 3 := ⟨fun _ => rfl⟩
instance : EncK colCells 7 := ⟨fun _ => rfl⟩
/-- A row that a function is given. -/
def RowIn {α : Type} (w : World) (v : Value) (enc : α → List Value) (k : Nat) (l : List α) : Prop := ∃ A c, v = .slice A l.length c ∧ (l.length ≤ c ∧ c ≤ 9223372036854775807) ∧ Rd w A enc k l
theorem RowIn.keep {α : Type} {w w' : World} {v : Value} {enc : α → List Value} {k : Nat} {l : List α} (h : RowIn w v enc k l) (hk : Kept noB w w') : RowIn w' v enc k l := by
 obtain ⟨A, c, h1, h2, h3⟩ := h
 exact ⟨A, c, h1, h2, h3.keep hk⟩
end Go.Proofs.YtmkaahkbhdlniaaGreatDoor
/-
 A row held against its columns, walked.
-/
namespace Go.Proofs.YtmkaahkbhdlniaaGreatDoor
open Go Go.Mw Go.Lib
set_option maxRecDepth 4000
def rowAtC (cols : List ColM) (r : List CellM) (i : Nat) : Int := ((((cols.zip r).drop i).map fun p => checkC p.1.type p.2).find? (fun e => decide (e ≠ 0))).getD 0
theorem rowCheck_at {cols : List ColM} {r : List CellM} (h : cols.length = r.length) : rowCheck cols r = rowAtC cols r 0 := by
 unfold rowCheck rowAtC
 rw [if_neg (by omega), List.drop_zero]
theorem rowAtC_end {cols : List ColM} {r : List CellM} {i : Nat} (h : r.length ≤ i) : rowAtC cols r i = 0 := by
 unfold rowAtC
 rw [List.drop_of_length_le (by rw [List.length_zip]; omega)]; rfl
theorem rowAtC_step {cols : List ColM} {r : List CellM} {i : Nat} {a : ColM} {c : CellM} (ha : cols[i]? = some a) (hc : r[i]? = some c) : rowAtC cols r i = if checkC a.type c ≠ 0 then checkC a.type c else rowAtC cols r (i + 1) := by
 have hz : (cols.zip r)[i]? = some (a, c) := by rw [List.getElem?_zip_eq_some]; exact ⟨ha, hc⟩
 have hl := get_lt hz
 unfold rowAtC
 rw [List.drop_eq_getElem_cons hl]
 have he : (cols.zip r)[i] = (a, c) := by rw [List.getElem?_eq_getElem hl] at hz; injection hz
 rw [he, List.map_cons, List.find?_cons]
 by_cases h : checkC a.type c = 0 <;> simp [h]
theorem get_some {α : Type} {l : List α} {i : Nat} (h : i < l.length) : ∃ c, l[i]? = some c := ⟨l[i], List.getElem?_eq_getElem h⟩
attribute [local irreducible] checkC
section
variable {w : World}
theorem check_ok10 {cols : List ColM} {r : List CellM} {vc vr : Value} (hc : RowIn w vc colCells 7 cols) (hr : RowIn w vr cellCells 3 r) : Rets Tryz.prog 55 [vc, vr] w fun v w' => v = I (rowCheck cols r) ∧ Kept noB w w' := by
 obtain ⟨A, m, rfl, ⟨hm, hm'⟩, hA⟩ := hc
 obtain ⟨C, n, rfl, ⟨hn, hn'⟩, hC⟩ := hr
 have H := Sep.start0 w
 refine rets2 Tryz.func55 rfl rfl rfl rfl ?_
 refine Sr ?_
 refine Am ?_
 refine Qn ?_
 refine FW_seq ?_
 refine Sr ?_
 refine Mv ?_
 refine Vs ?_
 refine Mv ?_
 refine Vs ?_
 refine Vn ?_
 refine Qn ?_
 refine FW_condP rfl (fun hc7 => ?_) (fun hc7 => ?_)
 ·have hfin : rowCheck cols r = 100 := if_pos (by omega)
  refine Sr ?_
  refine Am ?_
  refine Qn ?_
  refine Rs (Qfn_ret (hR := ?_))
  exact ⟨by rw [hfin]; rfl, H.kept⟩
 ·have hlen : cols.length = r.length := by omega
  have hrc := rowCheck_at hlen
  refine Sk ?_
  refine FW_seq ?_
  refine Sr ?_
  refine Am ?_
  refine Qn ?_
  refine FW_block ?_
  refine FW_loop' (fun i : Nat => [(0, .slice A cols.length m), (1, .slice C r.length n), (5, I i)]) (fun i w' => (i ≤ r.length ∧ rowCheck cols r = rowAtC cols r i) ∧ Sep w noB [] w') (fun i _ => r.length - i) 0 ⟨rfl, rfl, rfl, trivial⟩ ⟨⟨Nat.zero_le _, hrc⟩, H⟩ (fun i τ w14 hI => ?_)
  obtain ⟨⟨hi, hst⟩, H14⟩ := hI
  try simp only [upds, like, upd_ds, und_ds]
  refine FW_seq ?_
  refine Sr ?_
  refine Mv ?_
  refine Mv ?_
  refine Vs ?_
  refine Vl ?_
  refine Qn ?_
  refine FW_condP rfl (fun hc19 => ?_) (fun hc19 => ?_)
  ·have hlt : i < r.length := by omega
   have hltc : i < cols.length := by omega
   obtain ⟨a, ha⟩ := get_some hltc
   obtain ⟨c, hc⟩ := get_some hlt
   have hsp := rowAtC_step ha hc
   refine Sk ?_
   refine FW_seq ?_
   refine FW_block ?_
   refine FW_seq ?_
   refine FW_drawS rfl H14 (h := fun hok21 w23 H23 => ?_)
   refine FGmove hok21 0 (h := ?_)
   refine FGmove hok21 1 (h := ?_)
   refine FGp hok21 2 rfl rfl (fun _ => (Gives.idxR rfl rfl (by assumption) (by omega))) (by kernel_rfl) ?_
   refine FGp hok21 3 rfl rfl (fun _ => (Gives.fieldR rfl (by assumption) (by omega))) (by kernel_rfl) ?_
   refine FGl hok21 4 rfl rfl (Gives.loadEN (us := typeCells _) rfl H23 (by assumption) (by assumption) rfl rfl) (by kernel_rfl) ?_
   refine FGmove hok21 5 (h := ?_)
   refine FGmove hok21 6 (h := ?_)
   refine FGp hok21 7 rfl rfl (fun _ => (Gives.idxR rfl rfl (by assumption) (by omega))) (by kernel_rfl) ?_
   refine FGl hok21 8 rfl rfl (Gives.loadE0 rfl H23 (by assumption) (by assumption)) (by kernel_rfl) ?_
   refine FGcallQ hok21 9 [] H23 (check_ok9 a.type c) (h := fun w30 H30 k29 => ⟨Stab_nil, ?_⟩)
   refine FGp hok21 10 rfl rfl (fun _ => Gives.assign rfl) (by kernel_rfl) ?_
   refine FG_end hok21 (by kernel_rfl) ?_
   refine Qseq_normal ?_
   refine Sr ?_
   refine Mv ?_
   refine Vn ?_
   refine Qn ?_
   refine FW_condP rfl (fun hc34 => ?_) (fun hc34 => ?_)
   ·have hfin : rowCheck cols r = checkC a.type c := by rw [hst, hsp, if_pos hc34]
    refine Sr ?_
    refine Mv ?_
    refine Am ?_
    refine Qn ?_
    refine Rb (Qround_ret (Qblk_ret (Qseq_ret (Qfn_ret (hR := ?_)))))
    exact ⟨by rw [hfin]; rfl, H30.kept⟩
   ·have hst' : rowCheck cols r = rowAtC cols r (i + 1) := by rw [hst, hsp, if_neg hc34]
    refine FW_skip (Qblk_normal (Qseq_normal ?_))
    refine FW_region ?_
    refine Mv ?_
    refine FL_val (Gives.addI rfl rfl rfl (by omega)) rfl ?_
    refine Am ?_
    refine FL_nil ?_
    exact Qround_normal (i + 1) ⟨rfl, rfl, rfl, trivial⟩ ⟨⟨by omega, hst'⟩, H30⟩ (by omega)
  ·have hfin : rowCheck cols r = 0 := hst.trans (rowAtC_end (by omega))
   refine FW_exit (Qseq_exit (Qround_exit (Qblk_exit (Qseq_normal ?_))))
   refine Sr ?_
   refine Am ?_
   refine Qn ?_
   refine FW_ret (Qfn_ret (hR := ?_))
   exact ⟨by rw [hfin]; rfl, H14.kept⟩
end
end Go.Proofs.YtmkaahkbhdlniaaGreatDoor
