/-
 The rules of the walk: an operation each. Nothing of a given program stands here: what a program's tables say comes in as instances.
-/
import Derived.Test.YtolaedhdjcnijaaGreatDoorKt1
import Derived.Laws.Append
import Derived.Laws.MakeOwn
import Derived.IntWalk
import Derived.Maps.AppendAt
import Derived.Laws.CopyRow
import Derived.Laws.IdiomStrings
import Derived.Laws.BytesArg
set_option linter.unusedVariables false
set_option linter.unusedSimpArgs false
namespace Go.Mw
open Go.RowKit

def Gives (P : Program) (ρ : Operand → Value) (op : Op) (ty : TypeId) (w : World) (v : Value) (w' : World) : Prop :=
 ∀ dst pos after guard, (execOp ρ { dst := dst, op := op, type := ty, pos := pos, after := after, guard := guard }).run P w = .ok (.value v) w'
def Acts (P : Program) (ρ : Operand → Value) (op : Op) (ty : TypeId) (w w' : World) : Prop :=
 ∀ dst pos after guard, (execOp ρ { dst := dst, op := op, type := ty, pos := pos, after := after, guard := guard }).run P w = .ok .skip w'

section rules
variable {P : Program} {r : Option Nat} {n : Nat} {ops : Array Oper} {Q : Post} {rest : List Oper} {σ : St} {w w' : World} {op : Op} {ty : TypeId} {pos : String} {after : Array Edge}
theorem FL_nil (h : Q .normal σ w) : FL P r n ops Q [] σ w := fun _ ha => wpListIn_nil ⟨σ, ha, h⟩
theorem semAt_val {ρ : Operand → Value} {o : Oper} {v : Value} (h : (execOp ρ o).run P w = .ok (.value v) w') : (o.semAt r ρ).run P w = .ok (.value v) w' := by
 by_cases hd : ∃ c, o.op = .defer c
 ·obtain ⟨c, hd⟩ := hd
  exfalso
  unfold execOp at h
  rw [hd] at h
  simp only [Sem.run_bind] at h
  cases hr : (resolve ρ c o.type).run P w <;> rw [hr] at h <;> simp [Result.andThen] at h
 rw [Oper.semAt_eq r ρ o fun c hc => hd ⟨c, hc⟩]; exact h
theorem semAt_skip {ρ : Operand → Value} {o : Oper} (h : (execOp ρ o).run P w = .ok .skip w') : (o.semAt r ρ).run P w = .ok .skip w' := by
 by_cases hd : ∃ c, o.op = .defer c
 ·obtain ⟨c, hd⟩ := hd
  exfalso
  unfold execOp at h
  rw [hd] at h
  simp only [Sem.run_bind] at h
  cases hr : (resolve ρ c o.type).run P w <;> rw [hr] at h <;> simp [Result.andThen] at h
 rw [Oper.semAt_eq r ρ o fun c hc => hd ⟨c, hc⟩]; exact h
theorem FL_val {d : Nat} {v : Value} (hg : Gives P (evF σ) op ty w v w') (hd : Nat.blt d n = true) (h : FL P r n ops Q rest (upd σ d v) w') :
    FL P r n ops Q ({ dst := some d, op := op, type := ty, pos := pos, after := after, guard := none } :: rest) σ w := fun a ha =>
  wpListIn_plain rfl fun K hK => by
    refine ⟨fun _ _ => trivial, ?_⟩
    rw [ha.eval, semAt_val (hg _ _ _ _)]
    exact hK _ _ (h _ (ha.put (Nat.le_of_ble_eq_true hd) v))
theorem FL_act {v : Option Nat} (hg : Acts P (evF σ) op ty w w') (hd : v = none) (h : FL P r n ops Q rest σ w') :
    FL P r n ops Q ({ dst := v, op := op, type := ty, pos := pos, after := after, guard := none } :: rest) σ w := fun a ha =>
  wpListIn_plain rfl fun K hK => by
    refine ⟨fun _ _ => trivial, ?_⟩
    rw [ha.eval, semAt_skip (hg _ _ _ _)]
    subst hd
    exact hK _ _ (h _ ha)
theorem FL_on {dst : Option Nat} {j : Nat} {b : Bool} {t : Nat} (hj : (ops[j]?).bind (fun o : Oper => o.dst) = some t) (hb : σ t = .bool b)
    (h : FL P r n ops Q ({ dst := dst, op := op, type := ty, pos := pos, after := after, guard := none } :: rest) σ w) :
    FL P r n ops Q ({ dst := dst, op := op, type := ty, pos := pos, after := after, guard := some (j, b) } :: rest) σ w := fun a ha => by
  have h1 := h a ha
  have hw : Region.wanted { dst := dst, op := op, type := ty, pos := pos, after := after, guard := some (j, b) } (yielded ops a.tmps) = true := by
    simp [Region.wanted, ha.yielded_at ops hj hb]
  unfold wpListIn at h1 ⊢
  rw [if_pos hw]
  rw [if_pos (by simp [Region.wanted])] at h1
  exact h1
theorem FL_off {dst : Option Nat} {j : Nat} {b : Bool} {t : Nat} (hj : (ops[j]?).bind (fun o : Oper => o.dst) = some t) (hb : σ t = .bool (!b)) (hd : okDst n dst = true)
    (h : FL P r n ops Q rest (updO σ dst undef) w) :
    FL P r n ops Q ({ dst := dst, op := op, type := ty, pos := pos, after := after, guard := some (j, b) } :: rest) σ w := fun a ha => by
  have h1 := h _ (ha.putO hd undef)
  have hw : Region.wanted { dst := dst, op := op, type := ty, pos := pos, after := after, guard := some (j, b) } (yielded ops a.tmps) = false := by
    simp [Region.wanted, ha.yielded_at ops hj hb]
  unfold wpListIn
  rw [if_neg (by simp [hw])]
  exact ⟨fun _ _ => trivial, h1⟩
theorem FL_split {t : Nat} {b : Bool} {l : List Oper} (hb : σ t = .bool b) (h1 : b = true → FL P r n ops Q l (upd σ t (.bool true)) w) (h0 : b = false → FL P r n ops Q l (upd σ t (.bool false)) w) : FL P r n ops Q l σ w := by
 cases b
 ·have := h0 rfl; rw [← hb, upd_self] at this; exact this
 have := h1 rfl; rw [← hb, upd_self] at this; exact this
class Enters (P : Program) (f : FuncId) : Prop where
 run : ∀ args w, (callFunc f args).run P w = .ok (.enter f args) w
theorem FL_call {d : Nat} {f : FuncId} {xs : List Operand} {ats : Array TypeId} {vals : List Value} {R : Value → World → Prop} [he : Enters P f] (hc : Rets P f vals w R) (hv : xs.map (evF σ) = vals) (hd : Nat.blt d n = true)
    (h : ∀ v w', R v w' → FL P r n ops Q rest (upd σ d v) w') :
    FL P r n ops Q ({ dst := some d, op := .call { callee := .value (.func f), args := xs.toArray, argTypes := ats }, type := ty, pos := pos, after := after, guard := none } :: rest) σ w := fun a ha =>
  wpListIn_plain rfl fun K hK => by
    refine ⟨fun _ _ => trivial, ?_⟩
    rw [Oper.semAt_eq _ _ _ (fun _ h => by cases h), execOp_call_go, he.run]
    have e : (#[] ++ xs.toArray.map a.eval ++ #[] : Array Value) = vals.toArray := by rw [ha.eval]; simp [hv]
    rw [e, Oper.uponIn_enter]
    refine ⟨(fun h => by cases h), fen_calls r (Calls.mono hc fun e w'' hr => ?_)⟩
    cases e with
    | returned v => exact hK _ _ (h v w'' hr _ (ha.put (Nat.le_of_ble_eq_true hd) v))
    | _ => exact hr.elim
theorem FW_condP {c : Operand} {x y : Code} {p : Prop} [Decidable p] (hc : evF σ c = .bool (decide p)) (ht : p → FW P r n x Q σ w) (hf : ¬ p → FW P r n y Q σ w) : FW P r n (.cond c x y) Q σ w :=
 FW_cond hc (fun h => ht (of_decide_eq_true h)) (fun h => hf (of_decide_eq_false h))
end rules

section gives
variable {P : Program} {ρ : Operand → Value} {ty : TypeId} {w w' : World} {x y z : Operand}
theorem Gives.move {v : Value} (h : ρ x = v) : Gives P ρ (.move x) ty w v w := fun _ _ _ _ => by subst h; rfl
theorem Gives.assign {v : Value} (h : ρ x = v) : Gives P ρ (.assign x) ty w v w := fun _ _ _ _ => by subst h; rfl
theorem Gives.pick {b : Bool} {u v : Value} (hc : ρ z = .bool b) (hx : ρ x = u) (hy : ρ y = v) : Gives P ρ (.pick z x y) ty w (if b then u else v) w := fun _ _ _ _ => by
 simp only [execOp, hc, hx, hy]; cases b <;> rfl
theorem Gives.pickT {v : Value} (hc : ρ z = .bool true) (hx : ρ x = v) : Gives P ρ (.pick z x y) ty w v w := fun _ _ _ _ => by subst hx; simp only [execOp, hc]; rfl
theorem Gives.pickF {v : Value} (hc : ρ z = .bool false) (hy : ρ y = v) : Gives P ρ (.pick z x y) ty w v w := fun _ _ _ _ => by subst hy; simp only [execOp, hc]; rfl
theorem Gives.bin {op : BinOp} {T U : TypeId} {a b v : Value} (hx : ρ x = a) (hy : ρ y = b) (hg : ∀ x y, (eqGuard op T x y a b).run P w = .ok () w) (hr : (binOp op T a b).run P w = .ok v w) : Gives P ρ (.binOp op T x y U) ty w v w := fun _ _ _ _ => by
 simp only [execOp, hx, hy, Sem.run_bind, hg, hr, Result.andThen_ok, Sem.run_pure]
section ints
variable {T U : TypeId} {k : IntKind} {a b : Int}
theorem Gives.add (hx : ρ x = .int k a) (hy : ρ y = .int k b) : Gives P ρ (.binOp .add T x y U) ty w (.int k (k.wrap (a + b))) w := .bin hx hy (fun _ _ => rfl) (by rw [binOp_add]; rfl)
theorem Gives.sub (hx : ρ x = .int k a) (hy : ρ y = .int k b) : Gives P ρ (.binOp .sub T x y U) ty w (.int k (k.wrap (a - b))) w := .bin hx hy (fun _ _ => rfl) (by rw [binOp_sub]; rfl)
theorem Gives.mul (hx : ρ x = .int k a) (hy : ρ y = .int k b) : Gives P ρ (.binOp .mul T x y U) ty w (.int k (k.wrap (a * b))) w := .bin hx hy (fun _ _ => rfl) (by rw [binOp_mul]; rfl)
theorem Gives.addI {c : Int} (hx : ρ x = .int .i64 a) (hy : ρ y = .int .i64 b) (he : a + b = c) (h : -9223372036854775808 ≤ c ∧ c ≤ 9223372036854775807) : Gives P ρ (.binOp .add T x y U) ty w (.int .i64 c) w := by
 have := Gives.add (P := P) (ty := ty) (w := w) (T := T) (U := U) hx hy
 rw [he, IntWalk.i64_in _ h] at this; exact this
theorem Gives.subI {c : Int} (hx : ρ x = .int .i64 a) (hy : ρ y = .int .i64 b) (he : a - b = c) (h : -9223372036854775808 ≤ c ∧ c ≤ 9223372036854775807) : Gives P ρ (.binOp .sub T x y U) ty w (.int .i64 c) w := by
 have := Gives.sub (P := P) (ty := ty) (w := w) (T := T) (U := U) hx hy
 rw [he, IntWalk.i64_in _ h] at this; exact this
theorem Gives.mulI {c : Int} (hx : ρ x = .int .i64 a) (hy : ρ y = .int .i64 b) (he : a * b = c) (h : -9223372036854775808 ≤ c ∧ c ≤ 9223372036854775807) : Gives P ρ (.binOp .mul T x y U) ty w (.int .i64 c) w := by
 have := Gives.mul (P := P) (ty := ty) (w := w) (T := T) (U := U) hx hy
 rw [he, IntWalk.i64_in _ h] at this; exact this
theorem Gives.quo (hx : ρ x = .int k a) (hy : ρ y = .int k b) (h0 : b ≠ 0) : Gives P ρ (.binOp .quo T x y U) ty w (.int k (k.wrap (a.tdiv b))) w := .bin hx hy (fun _ _ => rfl) (by rw [binOp_quo, Op.intDiv, if_neg h0]; rfl)
theorem Gives.rem (hx : ρ x = .int k a) (hy : ρ y = .int k b) (h0 : b ≠ 0) : Gives P ρ (.binOp .rem T x y U) ty w (.int k (a.tmod b)) w := .bin hx hy (fun _ _ => rfl) (by rw [binOp_rem, Op.intDiv, if_neg h0]; rfl)
theorem Gives.eql (hx : ρ x = .int k a) (hy : ρ y = .int k b) : Gives P ρ (.binOp .eql T x y U) ty w (.bool (decide (a = b))) w := .bin hx hy (fun _ _ => by rw [eqGuard_at_int]; rfl) (by rw [binOp_eql]; rfl)
theorem Gives.neq (hx : ρ x = .int k a) (hy : ρ y = .int k b) : Gives P ρ (.binOp .neq T x y U) ty w (.bool (decide (a ≠ b))) w := .bin hx hy (fun _ _ => by rw [eqGuard_at_int]; rfl) (by rw [binOp_neq, show (a != b) = decide (a ≠ b) from by rw [decide_not]; rfl]; rfl)
theorem Gives.lss (hx : ρ x = .int k a) (hy : ρ y = .int k b) : Gives P ρ (.binOp .lss T x y U) ty w (.bool (decide (a < b))) w := .bin hx hy (fun _ _ => rfl) (by rw [binOp_lss]; rfl)
theorem Gives.leq (hx : ρ x = .int k a) (hy : ρ y = .int k b) : Gives P ρ (.binOp .leq T x y U) ty w (.bool (decide (a ≤ b))) w := .bin hx hy (fun _ _ => rfl) (by rw [binOp_leq]; rfl)
theorem Gives.gtr (hx : ρ x = .int k a) (hy : ρ y = .int k b) : Gives P ρ (.binOp .gtr T x y U) ty w (.bool (decide (b < a))) w := .bin hx hy (fun _ _ => rfl) (by rw [binOp_gtr]; rfl)
theorem Gives.geq (hx : ρ x = .int k a) (hy : ρ y = .int k b) : Gives P ρ (.binOp .geq T x y U) ty w (.bool (decide (b ≤ a))) w := .bin hx hy (fun _ _ => rfl) (by rw [binOp_geq]; rfl)
theorem Gives.shl {yk : IntKind} (hx : ρ x = .int k a) (hy : ρ y = .int yk b) (h0 : 0 ≤ b) : Gives P ρ (.binOp .shl T x y U) ty w (.int k (k.wrap (a * 2 ^ (min b.toNat k.bits)))) w := .bin hx hy (fun _ _ => rfl) (by rw [binOp_shl, Op.shift, if_neg (by omega)]; rfl)
theorem Gives.shr {yk : IntKind} (hx : ρ x = .int k a) (hy : ρ y = .int yk b) (h0 : 0 ≤ b) : Gives P ρ (.binOp .shr T x y U) ty w (.int k (a.fdiv (2 ^ (min b.toNat k.bits)))) w := .bin hx hy (fun _ _ => rfl) (by rw [binOp_shr, Op.shift, if_neg (by omega)]; rfl)
theorem Gives.and (hx : ρ x = .int k a) (hy : ρ y = .int k b) : Gives P ρ (.binOp .and T x y U) ty w (.int k (bits .and k a b)) w := .bin hx hy (fun _ _ => rfl) (by rw [binOp_and]; rfl)
theorem Gives.or (hx : ρ x = .int k a) (hy : ρ y = .int k b) : Gives P ρ (.binOp .or T x y U) ty w (.int k (bits .or k a b)) w := .bin hx hy (fun _ _ => rfl) (by rw [binOp_or]; rfl)
end ints
class IsBool (P : Program) (t : TypeId) : Prop where
 und : P.underlying t = some .bool
theorem Gives.neqB {T U : TypeId} [h : IsBool P T] {a b : Bool} (hx : ρ x = .bool a) (hy : ρ y = .bool b) : Gives P ρ (.binOp .neq T x y U) ty w (.bool (!(a == b))) w := .bin hx hy (fun _ _ => by rw [eqGuard_at_bool]; rfl) (run_neq_bool _ _ _ _ h.und)
theorem Gives.eqlS {T U : TypeId} {a b : ByteArray} (hx : ρ x = .string a) (hy : ρ y = .string b) : Gives P ρ (.binOp .eql T x y U) ty w (.bool (a.toList == b.toList)) w := .bin hx hy (fun _ _ => by rw [eqGuard_at_string]; rfl) rfl
theorem Gives.neqS {T U : TypeId} {a b : ByteArray} (hx : ρ x = .string a) (hy : ρ y = .string b) : Gives P ρ (.binOp .neq T x y U) ty w (.bool (!(a.toList == b.toList))) w := .bin hx hy (fun _ _ => by rw [eqGuard_at_string]; rfl) rfl
theorem Gives.not {b : Bool} {T : TypeId} (hx : ρ x = .bool b) : Gives P ρ (.unOp .not T x) ty w (.bool (!b)) w := fun _ _ _ _ => by simp only [execOp, hx]; rfl
theorem Gives.notP {p : Prop} [Decidable p] {T : TypeId} (hx : ρ x = .bool (decide p)) : Gives P ρ (.unOp .not T x) ty w (.bool (decide (¬ p))) w := by
 have := Gives.not (P := P) (ty := ty) (w := w) (T := T) hx
 rw [show (!decide p) = decide (¬ p) from by simp] at this; exact this
theorem Gives.nilCheck {a : Addr} (hx : ρ x = .pointer (some a)) : Gives P ρ (.nilCheck x) ty w (.pointer (some a)) w := fun _ _ _ _ => by simp only [execOp, hx]; rfl
theorem Gives.convI {s t : TypeId} {k j : IntKind} {a : Int} (hs : (P.underlying s).isSome = true) (ht : P.underlying t = some (.int k)) (hx : ρ x = .int j a) : Gives P ρ (.convert s t x) ty w (.int k (k.wrap a)) w := fun _ _ _ _ => by
 obtain ⟨d, hd⟩ := Option.isSome_iff_exists.1 hs
 simp [execOp, hx, convert, run_underlying hd, run_underlying ht, Conv.intToInt]
class IsPtr (P : Program) (t : TypeId) : Prop where
 und : ∃ e, P.underlying t = some (.pointer e)
theorem run_equalIn_ptr_nil (d : Nat) {T e : TypeId} (he : P.underlying T = some (.pointer e)) (a : Option Addr) : (Op.equalIn (d + 1) T (.pointer a) (.pointer none)).run P w = .ok a.isNone w := by
 cases a <;> simp [Op.equalIn, run_underlying he]
theorem run_equal_ptr_nil {T : TypeId} [h : IsPtr P T] (a : Option Addr) : (Op.equal T (.pointer a) (.pointer none)).run P w = .ok a.isNone w := by
 obtain ⟨e, he⟩ := h.und
 exact run_equalIn_ptr_nil 9999 he a
theorem Gives.eqlNil {T U : TypeId} [IsPtr P T] {a : Option Addr} (hx : ρ x = .pointer a) (hy : ρ y = .pointer none) : Gives P ρ (.binOp .eql T x y U) ty w (.bool a.isNone) w :=
 .bin hx hy (fun _ _ => by rw [eqGuard_at_pointer]; rfl) (by simp [binOp, run_equal_ptr_nil])
class FieldAt (P : Program) (s f : Nat) (k : outParam Nat) : Prop where
 run : ∀ a w, (Instr.fieldAt s (.pointer (some a)) f).run P w = .ok (.pointer (some (a.add k))) w
theorem Gives.field0 {s f k b : Nat} [h : FieldAt P s f k] (hx : ρ x = .pointer (some ⟨b, 0, none⟩)) : Gives P ρ (.fieldAddr s x f) ty w (.pointer (some ⟨b, k, none⟩)) w := fun _ _ _ _ => by
 simp only [execOp, hx, Sem.run_bind, h.run, Result.andThen_ok, Sem.run_pure, Addr.add_lit, Nat.zero_add]
theorem Gives.field {s f k b o : Nat} [h : FieldAt P s f k] (hx : ρ x = .pointer (some ⟨b, o, none⟩)) : Gives P ρ (.fieldAddr s x f) ty w (.pointer (some ⟨b, o + k, none⟩)) w := fun _ _ _ _ => by
 simp only [execOp, hx, Sem.run_bind, h.run, Result.andThen_ok, Sem.run_pure, Addr.add_lit]
class OneCell (P : Program) (t : TypeId) : Prop where
 agg : ∀ w, (isAgg t).run P w = .ok false w
 size : ∀ w, (sizeOf t).run P w = .ok 1 w
class Agg (P : Program) (t : TypeId) (k : outParam Nat) : Prop where
 agg : ∀ w, (isAgg t).run P w = .ok true w
 size : ∀ w, (sizeOf t).run P w = .ok k w
class Zero (P : Program) (t : TypeId) (z : outParam Value) : Prop where
 run : ∀ w, (zeroValue t).run P w = .ok z w
class IsSlice (P : Program) (t : TypeId) (e : outParam TypeId) : Prop where
 und : P.underlying t = some (.slice e)
class IsArray (P : Program) (t : TypeId) (m : outParam Nat) (e : outParam TypeId) : Prop where
 und : P.underlying t = some (.array m e)
class IsMap (P : Program) (t : TypeId) (k e : outParam TypeId) : Prop where
 und : P.underlying t = some (.map k e)
class IsInt (P : Program) (t : TypeId) (k : outParam IntKind) : Prop where
 und : P.underlying t = some (.int k)
class IsStr (P : Program) (t : TypeId) : Prop where
 und : P.underlying t = some .string
class Cells (P : Program) (t : TypeId) (k b : outParam Nat) : Prop where
 size : (P.info? t).map (fun i => (i.size, i.bytes)) = some (k, b)
theorem cell_blk {b : Nat} {cs : List Value} {E : TypeId} (h : w.heap[b]? = some (.cells cs.toArray E (0, 0))) (i : Nat) : w.cell? ⟨b, i, none⟩ = cs[i]? := by
 rw [cell_of_row w b i _ _ _ h]; simp
theorem Gives.load1 {T b o : Nat} [h1 : OneCell P T] {cs : List Value} {E : TypeId} {v : Value} (hx : ρ x = .pointer (some ⟨b, o, none⟩)) (hb : w.heap[b]? = some (.cells cs.toArray E (0, 0))) (hv : cs[o]? = some v) : Gives P ρ (.load T x) ty w v w := fun _ _ _ _ => by
 simp [execOp, hx, Instr.loadAt, Instr.sureAddr, loadVar, h1.agg, cell_blk hb, hv]
theorem run_loadCells_blk {b o k : Nat} {cs : List Value} {E : TypeId} (hb : w.heap[b]? = some (.cells cs.toArray E (0, 0))) {us : List Value} (hu : (cs.drop o).take k = us) (hk : us.length = k) :
    (loadCells ⟨b, o, none⟩ k).run P w = .ok us.toArray w := by
  have := run_loadCells_list (P := P) w ⟨b, o, none⟩ us (fun j v hj => by
    rw [Addr.add_lit, cell_blk hb]
    rw [← hu, List.getElem?_take] at hj
    split at hj
    · rw [List.getElem?_drop] at hj; exact hj
    cases hj)
  rw [hk] at this; exact this
theorem Gives.loadN {T b o k : Nat} [h1 : Agg P T k] {cs : List Value} {E : TypeId} {us : List Value} (hx : ρ x = .pointer (some ⟨b, o, none⟩)) (hb : w.heap[b]? = some (.cells cs.toArray E (0, 0))) (hu : (cs.drop o).take k = us) (hk : us.length = k) : Gives P ρ (.load T x) ty w (.agg us.toArray) w := fun _ _ _ _ => by
 simp [execOp, hx, Instr.loadAt, Instr.sureAddr, loadVar, h1.agg, h1.size, run_loadCells_blk hb hu hk]
end gives
end Go.Mw
namespace Go.Mw
open Go.RowKit

structure RowAt (w : World) (A : Option Addr) (n s : Nat) (xs : List Value) : Prop where
 len : xs.length = n * s
 at_ : 0 < n → ∃ ad, A = some ad ∧ ∀ (j : Nat) u, xs[j]? = some u → w.cell? (ad.add j) = some u
theorem add_add (a : Addr) (i j : Nat) : (a.add i).add j = a.add (i + j) := by
 unfold Addr.add
 by_cases hi : i = 0 <;> by_cases hj : j = 0 <;> simp [hi, hj, Nat.add_assoc]
theorem add_block (a : Addr) (n : Nat) : (a.add n).block = a.block := by unfold Addr.add; split <;> rfl
theorem cell_lt {w : World} {a : Addr} {v : Value} (h : w.cell? a = some v) : a.block < w.heap.size := block_lt_of_cell h
theorem Kept.cell {S : Nat → Prop} {w w' : World} (h : Kept S w w') {a : Addr} {v : Value} (hc : w.cell? a = some v) (hS : ¬ S a.block) : w'.cell? a = some v :=
 (World.cell?_of_block (h.block _ (cell_lt hc) hS)).trans hc
section
variable {w w' : World} {A : Option Addr} {n s : Nat} {xs : List Value}
theorem RowAt.nil (w : World) (A : Option Addr) (s : Nat) : RowAt w A 0 s [] := ⟨by simp, fun h => absurd h (Nat.lt_irrefl 0)⟩
def Off (A : Option Addr) (n : Nat) (F : Nat → Prop) : Prop := 0 < n → ∀ ad, A = some ad → ¬ F ad.block
theorem RowAt.keepS {S : Nat → Prop} (h : RowAt w A n s xs) (hk : Kept S w w') (hout : Off A n S) : RowAt w' A n s xs :=
 ⟨h.len, fun hn => by
  obtain ⟨ad, hA, hc⟩ := h.at_ hn
  exact ⟨ad, hA, fun j u hj => hk.cell (hc j u hj) (by rw [add_block]; exact hout hn ad hA)⟩⟩
theorem RowAt.keep (h : RowAt w A n s xs) (hk : Kept noB w w') : RowAt w' A n s xs := h.keepS hk fun _ _ _ => id
theorem Off.of {S F : Nat → Prop} (hO : Off A n S) (h : RowAt w A n s xs) (hF : ∀ b, F b → S b ∨ w.heap.size ≤ b) (hs : 0 < s) : Off A n F := fun hn ad hA hb => by
 obtain ⟨ad', h1, h2⟩ := h.at_ hn
 rw [hA] at h1
 injection h1 with h1
 subst h1
 have hl : 0 < xs.length := by rw [h.len]; exact Nat.mul_pos hn hs
 have hc := h2 0 xs[0] (by simp [hl])
 have hlt := cell_lt hc
 rw [add_block] at hlt
 rcases hF _ hb with h3 | h3
 ·exact hO hn ad hA h3
 omega
theorem RowAt.cut (h : RowAt w A n s xs) {k cap : Nat} (hk : k ≤ n) (hc : n ≤ cap) :
    RowAt w (if cap = k then A else A.map (·.add (k * s))) (n - k) s (xs.drop (k * s)) := by
  refine ⟨by rw [List.length_drop, h.len, Nat.sub_mul], fun hn => ?_⟩
  obtain ⟨ad, rfl, hcell⟩ := h.at_ (by omega)
  rw [if_neg (by omega)]
  exact ⟨ad.add (k * s), rfl, fun j u hu => by rw [add_add]; exact hcell _ u (by rw [← hu, List.getElem?_drop])⟩
theorem RowAt.take (h : RowAt w A n s xs) {k : Nat} (hk : k ≤ n) : RowAt w A k s (xs.take (k * s)) := by
 refine ⟨by rw [List.length_take, h.len]; exact Nat.min_eq_left (Nat.mul_le_mul_right s hk), fun hn => ?_⟩
 obtain ⟨ad, hA, hcell⟩ := h.at_ (by omega)
 refine ⟨ad, hA, fun j u hu => hcell j u ?_⟩
 rw [List.getElem?_take] at hu
 split at hu
 ·exact hu
 cases hu
end

def rowH (E s : Nat) (v : Value) (n : Nat) (xs : List Value) : HP where
 ok F w := w.ownsRow 0 E s v n xs ∧ ∀ b, F b ↔ v.ownBlock = some b
 loc _ h hok := by
  obtain ⟨⟨h1, h2⟩, hF⟩ := hok
  refine ⟨⟨h1, ?_⟩, hF⟩
  rcases h2 with h2 | ⟨g, cap, cur, hv, hg, hh, r⟩
  ·exact .inl h2
  refine .inr ⟨g, cap, cur, hv, hg, ?_, r⟩
  rw [h g ((hF g).2 (by rw [hv]; rfl))]; exact hh
 low hok b hb := (hok.1.lt b ((hok.2 b).1 hb)).2
theorem rowAt_of_own {w : World} {B E s n c : Nat} {A : Option Addr} {xs : List Value} (h : w.ownsRow B E s (.slice A n c) n xs) : RowAt w A n s xs := by
 refine ⟨h.1, fun hn => ?_⟩
 rcases h.2 with ⟨hv, h0⟩ | ⟨g, cap, cur, hv, _, hh, r⟩
 ·omega
 injection hv with hA
 subst hA
 exact ⟨_, rfl, h.cells (g := g) rfl⟩
section
variable {w₀ w w' : World} {S : Nat → Prop} {rs : List HP} {put : HP → List HP}
theorem Sep.rowAt {E s n c : Nat} {A : Option Addr} {xs : List Value} (h : Sep w₀ S rs w) (hat : At rs (rowH E s (.slice A n c) n xs) put) : RowAt w A n s xs := by
 obtain ⟨F, hp, _, _⟩ := h.focus hat
 exact rowAt_of_own hp.1
theorem Sep.rowForm {E s n : Nat} {v : Value} {xs : List Value} (h : Sep w₀ S rs w) (hat : At rs (rowH E s v n xs) put) : ∃ A c, v = .slice A n c ∧ n ≤ c ∧ xs.length = n * s ∧ (A = none → n = 0 ∧ c = 0) := by
 obtain ⟨F, hp, _, _⟩ := h.focus hat
 rcases hp.1.2 with ⟨hv, h0⟩ | ⟨g, cap, cur, hv, _, hh, hle, r⟩
 ·exact ⟨none, 0, by rw [hv, h0], by omega, hp.1.1, fun _ => ⟨h0, rfl⟩⟩
 exact ⟨_, cap, hv, hle, hp.1.1, fun e => by cases e⟩
theorem Sep.nilRow (h : Sep w₀ S rs w) (E s : Nat) : Sep w₀ S (rowH E s (.slice none 0 0) 0 [] :: rs) w :=
 h.new (F' := fun _ => False) (Kept.refl _ _) ⟨World.ownsRow_nil _ _ _ _, fun b => by simp [Value.ownBlock]⟩ fun _ hb => hb.elim
theorem Sep.asRow {b E s n : Nat} {cs : List Value} (h : Sep w₀ S rs w) (hat : At rs (blk b cs E) put) (hl : cs.length = n * s) (hm : n ≤ maxLen) : Sep w₀ S (put (rowH E s (.slice (some ⟨b, 0, none⟩) n n) n cs)) w :=
 h.imp hat fun F hF => ⟨⟨hl, .inr ⟨b, n, cs.toArray, rfl, Nat.zero_le _, hF.2, Nat.le_refl _, hm, by simpa using hl, by rw [← hl]; simp⟩⟩, fun x => by rw [hF.1 x]; simp [Value.ownBlock, eq_comm]⟩
theorem Sep.rowTurn {E s n n' : Nat} {v v' : Value} {xs xs' : List Value} (h : Sep w₀ S rs w) (hat : At rs (rowH E s v n xs) put) (hg : w.grownBy w' v.ownBlock) (hown : w'.ownsRow 0 E s v' n' xs') (hb : v'.ownBlock = v.ownBlock ∨ v'.ownBlock = some w.heap.size ∨ v'.ownBlock = none) : Sep w₀ S (put (rowH E s v' n' xs')) w' := by
 obtain ⟨F, hp, hS, hput⟩ := h.focus hat
 refine hput w' (fun b => v'.ownBlock = some b) _ ⟨hg.os, hg.tape, hg.output, hg.size, fun k hk hF => hg.block k hk fun e => hF ((hp.2 k).2 e.symm)⟩ ⟨hown, fun b => Iff.rfl⟩ fun b hb' => ?_
 rcases hb with e | e | e
 ·exact .inl ((hp.2 b).2 (by rw [← e]; exact hb'))
 ·rw [e] at hb'; injection hb' with hb'; exact .inr (by omega)
 rw [e] at hb'; cases hb'
end

theorem run_append_nil {P : Program} {w : World} (base t ty e : Nat) (i : TypeInfo) (size : Nat) (ht : P.underlying t = some (.slice e)) (hi : P.info? e = some i)
    (v : Value) (n : Nat) (xs : List Value) (hown : w.ownsRow base e size v n xs) (A : Option Addr) (hA : A = none) (c : Nat) : (Builtin.append_ #[t, t] ty #[v, .slice A 0 c]).run P w = .ok v w := by
  subst hA
  rcases hown.2 with ⟨rfl, rfl⟩ | ⟨g, cap, cur, rfl, _, _, hnc, _⟩
  · simp [Builtin.append_, run_underlying ht, sizeOf, typeInfo, hi, Builtin.lenOf, Builtin.firstCells]
  simp [Builtin.append_, run_underlying ht, sizeOf, typeInfo, hi, Builtin.lenOf, Builtin.firstCells, hnc, storeCells]
theorem run_append {P : Program} {w : World} (t ty e : Nat) [hs : IsSlice P t e] {size bytes : Nat} [hc : Cells P e size bytes] {z : Value} [hz : Zero P e z] (hsz : 0 < size) (hzs : z.cells.size = size)
    (v : Value) (n : Nat) (xs : List Value) (hown : w.ownsRow 0 e size v n xs) (A : Option Addr) (m c : Nat) (news : List Value) (hr : RowAt w A m size news) (h1 : ∀ u ∈ news, u.oneCell' = true)
    (h63 : n + m ≤ maxLen) (hbytes : (n + m) * bytes ≤ 140737488355328) :
    ∃ v' w', (Builtin.append_ #[t, t] ty #[v, .slice A m c]).run P w = .ok v' w' ∧ w'.ownsRow 0 e size v' (n + m) (xs ++ news) ∧ w.grownBy w' v.ownBlock ∧
      (v'.ownBlock = v.ownBlock ∨ v'.ownBlock = some w.heap.size) := by
  obtain ⟨i, hi, hsb⟩ := Option.map_eq_some_iff.1 hc.size
  simp only [Prod.mk.injEq] at hsb
  have hzero : i.zero = some z := by
    have := hz.run w
    simp [zeroValue, typeInfo, hi] at this
    cases hq : i.zero with
    | none => simp [hq] at this
    | some u => simp [hq] at this; rw [this]
  rcases A with _ | ad
  · have hm : m = 0 := by
      rcases Nat.eq_zero_or_pos m with h0 | h0
      · exact h0
      obtain ⟨ad, h, _⟩ := hr.at_ h0; cases h
    subst hm
    have hn : news = [] := List.eq_nil_of_length_eq_zero (by simpa using hr.len)
    subst hn
    exact ⟨v, w, run_append_nil 0 t ty e i size hs.und hi v n xs hown none rfl c, by simpa using hown, World.grownBy.refl w _, .inl rfl⟩
  have hcells : ∀ j u, news[j]? = some u → w.cell? (ad.add j) = some u := by
    intro j u hu
    rcases Nat.eq_zero_or_pos m with h0 | h0
    · subst h0
      have hn : news = [] := List.eq_nil_of_length_eq_zero (by simpa using hr.len)
      subst hn
      simp at hu
    obtain ⟨ad', h, hcc⟩ := hr.at_ h0
    injection h with h
    subst h
    exact hcc j u hu
  obtain ⟨v', w', hrun, h2, h3, _, h5⟩ := run_append_own_at (P := P) w 0 t ty e i z size bytes hs.und hi hzero hsb.1 hsb.2 hzs hsz v n xs hown ad m c news hr.len hcells h1 h63 hbytes (Nat.zero_le _)
  exact ⟨v', w', hrun, h2, h3, h5⟩

section rules
variable {P : Program} {r : Option Nat} {n : Nat} {ops : Array Oper} {Q : Post} {rest : List Oper} {σ : St} {w w' w₀ : World} {S : Nat → Prop} {rs : List HP} {put : HP → List HP} {ty : TypeId} {pos : String} {after : Array Edge}
theorem FL_move {d : Nat} {x : Operand} {v : Value} (hv : evF σ x = v := by simp only [evF, upd_same, upd_ne, ne_eq, Nat.reduceEqDiff, not_false_eq_true]; rfl) (hd : Nat.blt d n = true := by exact rfl) (h : FL P r n ops Q rest (upd σ d v) w) :
    FL P r n ops Q ({ dst := some d, op := .move x, type := ty, pos := pos, after := after, guard := none } :: rest) σ w := FL_val (Gives.move hv) hd h
theorem FL_assign {d : Nat} {x : Operand} {v : Value} (hv : evF σ x = v := by simp only [evF, upd_same, upd_ne, ne_eq, Nat.reduceEqDiff, not_false_eq_true]; rfl) (hd : Nat.blt d n = true := by exact rfl) (h : FL P r n ops Q rest (upd σ d v) w) :
    FL P r n ops Q ({ dst := some d, op := .assign x, type := ty, pos := pos, after := after, guard := none } :: rest) σ w := FL_val (Gives.assign hv) hd h
theorem FL_pickT {d : Nat} {x y z : Operand} {v : Value} (hc : evF σ z = .bool true := by exact rfl) (hv : evF σ x = v := by simp only [evF, upd_same, upd_ne, ne_eq, Nat.reduceEqDiff, not_false_eq_true]; rfl) (hd : Nat.blt d n = true := by exact rfl) (h : FL P r n ops Q rest (upd σ d v) w) :
    FL P r n ops Q ({ dst := some d, op := .pick z x y, type := ty, pos := pos, after := after, guard := none } :: rest) σ w := FL_val (Gives.pickT hc hv) hd h
theorem FL_pickF {d : Nat} {x y z : Operand} {v : Value} (hc : evF σ z = .bool false := by exact rfl) (hv : evF σ y = v := by simp only [evF, upd_same, upd_ne, ne_eq, Nat.reduceEqDiff, not_false_eq_true]; rfl) (hd : Nat.blt d n = true := by exact rfl) (h : FL P r n ops Q rest (upd σ d v) w) :
    FL P r n ops Q ({ dst := some d, op := .pick z x y, type := ty, pos := pos, after := after, guard := none } :: rest) σ w := FL_val (Gives.pickF hc hv) hd h
theorem FL_load {d b o : Nat} {x : Operand} {T : TypeId} [OneCell P T] {cs : List Value} {E : TypeId} {v : Value} (H : Sep w₀ S rs w) (hx : evF σ x = .pointer (some ⟨b, o, none⟩) := by exact rfl)
    (hat : At rs (blk b cs E) put := by first | exact At0 | exact At1 | exact At2 | exact At3 | exact At4 | exact At5 | exact At6 | exact At7 | exact At8 | exact At9) (hv : cs[o]? = some v := by exact rfl) (hd : Nat.blt d n = true := by exact rfl) (h : FL P r n ops Q rest (upd σ d v) w) :
    FL P r n ops Q ({ dst := some d, op := .load T x, type := ty, pos := pos, after := after, guard := none } :: rest) σ w := FL_val (Gives.load1 hx (H.obj hat) hv) hd h
theorem FL_loadN {d b o k : Nat} {x : Operand} {T : TypeId} [Agg P T k] {cs : List Value} {E : TypeId} {us : List Value} (H : Sep w₀ S rs w) (hx : evF σ x = .pointer (some ⟨b, o, none⟩) := by exact rfl)
    (hat : At rs (blk b cs E) put := by first | exact At0 | exact At1 | exact At2 | exact At3 | exact At4 | exact At5 | exact At6 | exact At7 | exact At8 | exact At9) (hu : (cs.drop o).take k = us) (hk : us.length = k) (hd : Nat.blt d n = true := by exact rfl) (h : FL P r n ops Q rest (upd σ d (.agg us.toArray)) w) :
    FL P r n ops Q ({ dst := some d, op := .load T x, type := ty, pos := pos, after := after, guard := none } :: rest) σ w := FL_val (Gives.loadN hx (H.obj hat) hu hk) hd h
theorem FL_loadC {d : Nat} {a : Addr} {x : Operand} {T : TypeId} [h1 : OneCell P T] {v : Value} (hc : w.cell? a = some v) (hx : evF σ x = .pointer (some a) := by exact rfl) (hd : Nat.blt d n = true := by exact rfl) (h : FL P r n ops Q rest (upd σ d v) w) :
    FL P r n ops Q ({ dst := some d, op := .load T x, type := ty, pos := pos, after := after, guard := none } :: rest) σ w :=
  FL_val (w' := w) (fun _ _ _ _ => by simp [execOp, hx, Instr.loadAt, Instr.sureAddr, loadVar, h1.agg, hc]) hd h
theorem FL_loadCN {d k : Nat} {a : Addr} {x : Operand} {T : TypeId} [h1 : Agg P T k] {us : List Value} (hc : ∀ j u, us[j]? = some u → w.cell? (a.add j) = some u) (hk : us.length = k) (hx : evF σ x = .pointer (some a) := by exact rfl) (hd : Nat.blt d n = true := by exact rfl) (h : FL P r n ops Q rest (upd σ d (.agg us.toArray)) w) :
    FL P r n ops Q ({ dst := some d, op := .load T x, type := ty, pos := pos, after := after, guard := none } :: rest) σ w :=
  FL_val (w' := w) (fun _ _ _ _ => by have := run_loadCells_list (P := P) w a us hc; rw [hk] at this; simp [execOp, hx, Instr.loadAt, Instr.sureAddr, loadVar, h1.agg, h1.size, this]) hd h
theorem stored_blk {b o : Nat} {cs : List Value} {E : TypeId} {v : Value} (hb : w.heap[b]? = some (.cells cs.toArray E (0, 0))) (_ho : o < cs.length) :
    Kept (fun x => x = b) w (w.setCell ⟨b, o, none⟩ v) ∧ (w.setCell ⟨b, o, none⟩ v).heap[b]? = some (.cells (cs.set o v).toArray E (0, 0)) := by
  refine ⟨⟨rfl, rfl, rfl, by simp [World.setCell], fun k hk hS => Below.heap_setCell w _ v k hS⟩, ?_⟩
  simp only [World.setCell, Array.getElem?_modify, if_true, hb, Option.map_some]
  simp
theorem FL_store {b o : Nat} {x y : Operand} {T : TypeId} [h1 : OneCell P T] {cs cs' : List Value} {E : TypeId} {v : Value} (H : Sep w₀ S rs w) (hx : evF σ x = .pointer (some ⟨b, o, none⟩) := by exact rfl)
    (hy : evF σ y = v := by simp only [evF, upd_same, upd_ne, ne_eq, Nat.reduceEqDiff, not_false_eq_true]; rfl) (hv : v.oneCell' = true := by exact rfl)
    (hat : At rs (blk b cs E) put := by first | exact At0 | exact At1 | exact At2 | exact At3 | exact At4 | exact At5 | exact At6 | exact At7 | exact At8 | exact At9) (ho : Nat.blt o cs.length = true := by exact rfl)
    (hs : cs.set o v = cs' := by first | (simp only [List.set_cons_zero, List.set_cons_succ]; rfl) | exact rfl) (h : ∀ w', Sep w₀ S (put (blk b cs' E)) w' → FL P r n ops Q rest σ w') :
    FL P r n ops Q ({ dst := none, op := .store T x y, type := ty, pos := pos, after := after, guard := none } :: rest) σ w := by
  have hlt : o < cs.length := Nat.le_of_ble_eq_true ho
  have hb := H.obj hat
  obtain ⟨hk, ho'⟩ := stored_blk (v := v) hb hlt
  refine FL_act (w' := w.setCell ⟨b, o, none⟩ v) (fun _ _ _ _ => ?_) rfl (h _ (by subst hs; exact H.setObj hat hk ho'))
  have hst : (store (⟨b, o, none⟩ : Addr) v).run P w = .ok () (w.setCell ⟨b, o, none⟩ v) := by
    rw [run_store P w _ v _ hv, cell_blk hb, List.getElem?_eq_getElem hlt]
    simp [World.frozen?, hb]
  have hcs : v.cells = #[v] := by cases v <;> first | rfl | cases hv
  simp [execOp, hx, hy, Instr.storeAt, Instr.sureAddr, storeVar, h1.size, hcs, storeCells, hst, Addr.add_zero']
theorem FL_storeN {b o k : Nat} {x y : Operand} {T : TypeId} [h1 : Agg P T k] {cs us cs' : List Value} {E : TypeId} (H : Sep w₀ S rs w) (hx : evF σ x = .pointer (some ⟨b, o, none⟩) := by exact rfl)
    (hy : evF σ y = .agg us.toArray := by exact rfl) (hk : us.length = k) (hv : ∀ u ∈ us, u.oneCell' = true)
    (hat : At rs (blk b cs E) put := by first | exact At0 | exact At1 | exact At2 | exact At3 | exact At4 | exact At5 | exact At6 | exact At7 | exact At8 | exact At9) (ho : o + us.length ≤ cs.length)
    (hs : cs.take o ++ us ++ cs.drop (o + us.length) = cs') (h : ∀ w', Sep w₀ S (put (blk b cs' E)) w' → FL P r n ops Q rest σ w') :
    FL P r n ops Q ({ dst := none, op := .store T x y, type := ty, pos := pos, after := after, guard := none } :: rest) σ w := by
  have hb := H.obj hat
  have hst := run_storeCells_at P b o E us 0 cs.toArray w hb (by simpa using ho) hv
  refine FL_act (w' := w.setRow b (cs.take o ++ us ++ cs.drop (o + us.length)).toArray) (fun _ _ _ _ => ?_) rfl (h _ (by
    subst hs
    refine H.setObj hat ⟨rfl, rfl, rfl, by simp, fun j hj hS => ?_⟩ ?_
    · simp only [World.setRow, Array.getElem?_modify]; rw [if_neg (fun e => hS e.symm)]
    simp only [World.setRow, Array.getElem?_modify, if_true, hb, Option.map_some]))
  simp only [Nat.add_zero] at hst
  simp [execOp, hx, hy, Instr.storeAt, Instr.sureAddr, storeVar, h1.size, Value.cells, hk] 
  simp [hk] at hst
  rw [hst]
  simp
theorem FL_alloc {d : Nat} {T : TypeId} {z : Value} [hz : Zero P T z] {cs : List Value} (H : Sep w₀ S rs w) (hcs : z.cells = cs.toArray := by exact rfl) (hd : Nat.blt d n = true := by exact rfl)
    (h : ∀ b w', Sep w₀ S (blk b cs T :: rs) w' → Kept noB w w' → FL P r n ops Q rest (upd σ d (.pointer (some ⟨b, 0, none⟩))) w') :
    FL P r n ops Q ({ dst := some d, op := .alloc T, type := ty, pos := pos, after := after, guard := none } :: rest) σ w :=
  FL_val (w' := w.alloc (.cells cs.toArray T)) (v := .pointer (some ⟨w.heap.size, 0, none⟩)) (fun _ _ _ _ => by simp [execOp, Instr.alloc, hz.run, newVar, newRow, hcs]) hd (h _ _ (H.alloc _) (Kept.alloc _ _))
theorem FL_box {d : Nat} {T : TypeId} {x : Operand} {v : Value} {cs : List Value} (H : Sep w₀ S rs w) (hx : evF σ x = v := by simp only [evF, upd_same, upd_ne, ne_eq, Nat.reduceEqDiff, not_false_eq_true]; rfl) (hcs : v.cells = cs.toArray := by exact rfl) (hd : Nat.blt d n = true := by exact rfl)
    (h : ∀ b w', Sep w₀ S (blk b cs T :: rs) w' → Kept noB w w' → FL P r n ops Q rest (upd σ d (.pointer (some ⟨b, 0, none⟩))) w') :
    FL P r n ops Q ({ dst := some d, op := .box T x, type := ty, pos := pos, after := after, guard := none } :: rest) σ w :=
  FL_val (w' := w.alloc (.cells cs.toArray T)) (v := .pointer (some ⟨w.heap.size, 0, none⟩)) (fun _ _ _ _ => by simp [execOp, Instr.box, hx, newVar, newRow, hcs]) hd (h _ _ (H.alloc _) (Kept.alloc _ _))
theorem FL_makeMap {d : Nat} {T : TypeId} (H : Sep w₀ S rs w) (hd : Nat.blt d n = true := by exact rfl)
    (h : ∀ b w', Sep w₀ S (obj b (.map #[] 0) :: rs) w' → Kept noB w w' → FL P r n ops Q rest (upd σ d (.map (some b))) w') :
    FL P r n ops Q ({ dst := some d, op := .makeMap T none, type := ty, pos := pos, after := after, guard := none } :: rest) σ w :=
  FL_val (w' := w.alloc (.map #[] 0)) (v := .map (some w.heap.size)) (fun _ _ _ _ => by simp [execOp, Instr.makeMap]) hd (h _ _ (H.alloc _) (Kept.alloc _ _))
theorem FL_callQ {d : Nat} {f : FuncId} {xs : List Operand} {ats : Array TypeId} {vals : List Value} {v : Value} [he : Enters P f] (H : Sep w₀ S rs w) (hc : Rets P f vals w fun v' w' => v' = v ∧ Kept noB w w') (hv : xs.map (evF σ) = vals := by exact rfl) (hd : Nat.blt d n = true := by exact rfl)
    (h : ∀ w', Sep w₀ S rs w' → Kept noB w w' → FL P r n ops Q rest (upd σ d v) w') :
    FL P r n ops Q ({ dst := some d, op := .call { callee := .value (.func f), args := xs.toArray, argTypes := ats }, type := ty, pos := pos, after := after, guard := none } :: rest) σ w :=
  FL_call hc hv hd fun v' w' ⟨e, hk⟩ => by subst e; exact h w' (H.keep hk) hk
end rules

section gives
variable {P : Program} {ρ : Operand → Value} {ty : TypeId} {w w' : World} {x y z : Operand}
theorem Gives.lenSlice {t e : TypeId} [h : IsSlice P t e] {A : Option Addr} {m c : Nat} (hx : ρ x = .slice A m c) : Gives P ρ (.call { callee := .builtin .len, args := #[x], argTypes := #[t] }) ty w (.int .i64 m) w := fun _ _ _ _ => by
 simp [execOp, resolve, invoke, builtin, hx, Builtin.len_, run_underlying h.und, goInt]
theorem Gives.lenStr {t : TypeId} [h : IsStr P t] {s : ByteArray} (hx : ρ x = .string s) : Gives P ρ (.call { callee := .builtin .len, args := #[x], argTypes := #[t] }) ty w (.int .i64 s.size) w := fun _ _ _ _ => by
 simp [execOp, resolve, invoke, builtin, hx, Builtin.len_, run_underlying h.und, goInt]
theorem Gives.min {k : IntKind} {a b : Int} {ts : Array TypeId} (hx : ρ x = .int k a) (hy : ρ y = .int k b) : Gives P ρ (.call { callee := .builtin .min, args := #[x, y], argTypes := ts }) ty w (.int k (min a b)) w := fun _ _ _ _ => by
 have := run_min_int2 (P := P) w ts ty k k a b
 simp only [execOp, resolve, invoke, builtin, Sem.run_bind, Sem.run_pure, Result.andThen_ok, List.map_toArray, List.map_cons, List.map_nil, hx, hy, this]
 rw [Int.min_def]
 split <;> split <;> first | rfl | (congr 3; omega)
theorem Gives.max {k : IntKind} {a b : Int} {ts : Array TypeId} (hx : ρ x = .int k a) (hy : ρ y = .int k b) : Gives P ρ (.call { callee := .builtin .max, args := #[x, y], argTypes := ts }) ty w (.int k (max a b)) w := fun _ _ _ _ => by
 have := run_max_int2 (P := P) w ts ty k k a b
 simp only [execOp, resolve, invoke, builtin, Sem.run_bind, Sem.run_pure, Result.andThen_ok, List.map_toArray, List.map_cons, List.map_nil, hx, hy, this]
 rw [Int.max_def]
 split <;> split <;> first | rfl | (congr 3; omega)
theorem Gives.sliceTo {t e : TypeId} [ht : IsSlice P t e] {size bytes : Nat} [hc : Cells P e size bytes] {A : Option Addr} {m c h : Nat} {k : IntKind} (hx : ρ x = .slice A m c) (hy : ρ y = .int k h) (hle : h ≤ c) : Gives P ρ (.slice t x none (some y) none) ty w (.slice A h c) w := fun _ _ _ _ => by
 obtain ⟨i, hi, hsb⟩ := Option.map_eq_some_iff.1 hc.size
 have e1 : (0 : Int) ≤ (h : Int) ∧ (h : Int) ≤ (c : Int) := by omega
 have e2 : A.map (fun x : Addr => x.add 0) = A := by cases A <;> simp [Addr.add_zero']
 simp [execOp, hx, hy, Instr.sliceAt, run_underlying ht.und, Instr.slice, Instr.sliceBounds, Instr.sliceBound, asIntOf, e1, sizeOf, typeInfo, hi, e2]
 omega
theorem Gives.sliceFrom {t e : TypeId} [ht : IsSlice P t e] {size bytes : Nat} [hc : Cells P e size bytes] {A : Option Addr} {m c l : Nat} {k : IntKind} (hx : ρ x = .slice A m c) (hy : ρ y = .int k l) (hle : l ≤ m) : Gives P ρ (.slice t x (some y) none none) ty w (.slice (if c = l then A else A.map (·.add (l * size))) (m - l) (c - l)) w := fun _ _ _ _ => by
 obtain ⟨i, hi, hsb⟩ := Option.map_eq_some_iff.1 hc.size
 simp only [Prod.mk.injEq] at hsb
 have e1 : (0 : Int) ≤ (l : Int) ∧ (l : Int) ≤ (m : Int) := by omega
 simp [execOp, hx, hy, Instr.sliceAt, run_underlying ht.und, Instr.slice, Instr.sliceBounds, Instr.sliceBound, asIntOf, e1, sizeOf, typeInfo, hi, hsb.1]
 omega
theorem Gives.idx {t e : TypeId} [ht : IsSlice P t e] {size bytes : Nat} [hc : Cells P e size bytes] {ad : Addr} {m c i : Nat} {k : IntKind} (hx : ρ x = .slice (some ad) m c) (hy : ρ y = .int k i) (hlt : i < m) : Gives P ρ (.indexAddr t x y) ty w (.pointer (some (ad.add (i * size)))) w := fun _ _ _ _ => by
 obtain ⟨j, hj, hsb⟩ := Option.map_eq_some_iff.1 hc.size
 simp only [Prod.mk.injEq] at hsb
 have e1 : (0 : Int) ≤ (i : Int) ∧ (i : Int) < (m : Int) := by omega
 simp [execOp, hx, hy, Instr.indexAt, run_underlying ht.und, asIntOf, e1, sizeOf, typeInfo, hj, hsb.1, hlt]
theorem Gives.idxArr {t e m : TypeId} [ht : IsArray P t m e] {size bytes : Nat} [hc : Cells P e size bytes] {ad : Addr} {i : Nat} {k : IntKind} (hx : ρ x = .pointer (some ad)) (hy : ρ y = .int k i) (hlt : i < m) : Gives P ρ (.indexAddr t x y) ty w (.pointer (some (ad.add (i * size)))) w := fun _ _ _ _ => by
 obtain ⟨j, hj, hsb⟩ := Option.map_eq_some_iff.1 hc.size
 simp only [Prod.mk.injEq] at hsb
 have e1 : (0 : Int) ≤ (i : Int) ∧ (i : Int) < (m : Int) := by omega
 simp [execOp, hx, hy, Instr.indexAt, run_underlying ht.und, asIntOf, Instr.sureAddr, e1, sizeOf, typeInfo, hj, hsb.1, hlt]
end gives
end Go.Mw
