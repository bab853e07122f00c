/-
  The rules of the walk: an operation each. Nothing of a given program stands here: what a program's tables say comes in as instances.
-/
import Derived.Test.YteflbohpabdjkaaMwSep
import Derived.Laws.Append
import Derived.Laws.MakeOwn
import Derived.IntWalk
namespace Go.Mw
open Go.RowKit

/-- An operation gives a value, and leaves this world. -/
def Gives (P : Program) (ρ : Operand → Value) (op : Op) (ty : TypeId) (w : World) (v : Value) (w' : World) : Prop :=
  ∀ dst pos after guard, (execOp ρ { dst := dst, op := op, type := ty, pos := pos, after := after, guard := guard }).run P w = .ok (.value v) w'
/-- An operation that gives no value. -/
def Acts (P : Program) (ρ : Operand → Value) (op : Op) (ty : TypeId) (w w' : World) : Prop :=
  ∀ dst pos after guard, (execOp ρ { dst := dst, op := op, type := ty, pos := pos, after := after, guard := guard }).run P w = .ok .skip w'

section rules
variable {P : Program} {r : Option Nat} {n : Nat} {ops : Array Oper} {Q : Post} {rest : List Oper} {σ : St} {w w' : World} {op : Op} {ty : TypeId} {pos : String} {after : Array Edge}
theorem FL_nil (h : Q .normal σ w) : FL P r n ops Q [] σ w := fun _ ha => wpListIn_nil ⟨σ, ha, h⟩
theorem semAt_val {ρ : Operand → Value} {o : Oper} {v : Value} (h : (execOp ρ o).run P w = .ok (.value v) w') : (o.semAt r ρ).run P w = .ok (.value v) w' := by
  by_cases hd : ∃ c, o.op = .defer c
  · obtain ⟨c, hd⟩ := hd
    exfalso
    unfold execOp at h
    rw [hd] at h
    simp only [Sem.run_bind] at h
    cases hr : (resolve ρ c o.type).run P w <;> rw [hr] at h <;> simp [Result.andThen] at h
  · rw [Oper.semAt_eq r ρ o fun c hc => hd ⟨c, hc⟩]; exact h
theorem semAt_skip {ρ : Operand → Value} {o : Oper} (h : (execOp ρ o).run P w = .ok .skip w') : (o.semAt r ρ).run P w = .ok .skip w' := by
  by_cases hd : ∃ c, o.op = .defer c
  · obtain ⟨c, hd⟩ := hd
    exfalso
    unfold execOp at h
    rw [hd] at h
    simp only [Sem.run_bind] at h
    cases hr : (resolve ρ c o.type).run P w <;> rw [hr] at h <;> simp [Result.andThen] at h
  · rw [Oper.semAt_eq r ρ o fun c hc => hd ⟨c, hc⟩]; exact h
theorem FL_val {d : Nat} {v : Value} (hg : Gives P (evF σ) op ty w v w') (hd : Nat.blt d n = true) (h : FL P r n ops Q rest (upd σ d v) w') :
    FL P r n ops Q ({ dst := some d, op := op, type := ty, pos := pos, after := after, guard := none } :: rest) σ w := fun a ha =>
  wpListIn_plain rfl fun K hK => by
    refine ⟨fun _ _ => trivial, ?_⟩
    rw [ha.eval, semAt_val (hg _ _ _ _)]
    exact hK _ _ (h _ (ha.put (Nat.le_of_ble_eq_true hd) v))
theorem FL_act {v : Option Nat} (hg : Acts P (evF σ) op ty w w') (hd : v = none) (h : FL P r n ops Q rest σ w') :
    FL P r n ops Q ({ dst := v, op := op, type := ty, pos := pos, after := after, guard := none } :: rest) σ w := fun a ha =>
  wpListIn_plain rfl fun K hK => by
    refine ⟨fun _ _ => trivial, ?_⟩
    rw [ha.eval, semAt_skip (hg _ _ _ _)]
    subst hd
    exact hK _ _ (h _ ha)
/-- A guarded operation whose guard says yes: as an unguarded one. -/
theorem FL_on {dst : Option Nat} {j : Nat} {b : Bool} {t : Nat} (hj : (ops[j]?).bind (fun o : Oper => o.dst) = some t) (hb : σ t = .bool b)
    (h : FL P r n ops Q ({ dst := dst, op := op, type := ty, pos := pos, after := after, guard := none } :: rest) σ w) :
    FL P r n ops Q ({ dst := dst, op := op, type := ty, pos := pos, after := after, guard := some (j, b) } :: rest) σ w := fun a ha => by
  have h1 := h a ha
  have hw : Region.wanted { dst := dst, op := op, type := ty, pos := pos, after := after, guard := some (j, b) } (yielded ops a.tmps) = true := by
    simp [Region.wanted, ha.yielded_at ops hj hb]
  unfold wpListIn at h1 ⊢
  rw [if_pos hw]
  rw [if_pos (by simp [Region.wanted])] at h1
  exact h1
theorem FL_off {dst : Option Nat} {j : Nat} {b : Bool} {t : Nat} (hj : (ops[j]?).bind (fun o : Oper => o.dst) = some t) (hb : σ t = .bool (!b)) (hd : okDst n dst = true)
    (h : FL P r n ops Q rest (updO σ dst undef) w) :
    FL P r n ops Q ({ dst := dst, op := op, type := ty, pos := pos, after := after, guard := some (j, b) } :: rest) σ w := fun a ha => by
  have h1 := h _ (ha.putO hd undef)
  have hw : Region.wanted { dst := dst, op := op, type := ty, pos := pos, after := after, guard := some (j, b) } (yielded ops a.tmps) = false := by
    simp [Region.wanted, ha.yielded_at ops hj hb]
  unfold wpListIn
  rw [if_neg (by simp [hw])]
  exact ⟨fun _ _ => trivial, h1⟩
/-- Part on what a slot says. -/
theorem FL_split {t : Nat} {b : Bool} {l : List Oper} (hb : σ t = .bool b) (h1 : b = true → FL P r n ops Q l (upd σ t (.bool true)) w) (h0 : b = false → FL P r n ops Q l (upd σ t (.bool false)) w) : FL P r n ops Q l σ w := by
  cases b
  · have := h0 rfl; rw [← hb, upd_self] at this; exact this
  · have := h1 rfl; rw [← hb, upd_self] at this; exact this
/-- A slot reads so. -/
theorem FL_at {t : Nat} {v : Value} {l : List Oper} (hv : σ t = v) (h : FL P r n ops Q l (upd σ t v) w) : FL P r n ops Q l σ w := by rw [← hv, upd_self] at h; exact h
/-- A call of a function by its name. -/
class Enters (P : Program) (f : FuncId) : Prop where
  run : ∀ args w, (callFunc f args).run P w = .ok (.enter f args) w
theorem FL_call {d : Nat} {f : FuncId} {xs : List Operand} {ats : Array TypeId} {vals : List Value} {R : Value → World → Prop} [he : Enters P f] (hc : Rets P f vals w R) (hv : xs.map (evF σ) = vals) (hd : Nat.blt d n = true)
    (h : ∀ v w', R v w' → FL P r n ops Q rest (upd σ d v) w') :
    FL P r n ops Q ({ dst := some d, op := .call { callee := .value (.func f), args := xs.toArray, argTypes := ats }, type := ty, pos := pos, after := after, guard := none } :: rest) σ w := fun a ha =>
  wpListIn_plain rfl fun K hK => by
    refine ⟨fun _ _ => trivial, ?_⟩
    rw [Oper.semAt_eq _ _ _ (fun _ h => by cases h), execOp_call_go, he.run]
    have e : (#[] ++ xs.toArray.map a.eval ++ #[] : Array Value) = vals.toArray := by rw [ha.eval]; simp [hv]
    rw [e, Oper.uponIn_enter]
    refine ⟨(fun h => by cases h), fen_calls r (Calls.mono hc fun e w'' hr => ?_)⟩
    cases e with
    | returned v => exact hK _ _ (h v w'' hr _ (ha.put (Nat.le_of_ble_eq_true hd) v))
    | _ => exact hr.elim
/-- A call whose result is dropped into no slot. -/
theorem FL_call0 {f : FuncId} {xs : List Operand} {ats : Array TypeId} {vals : List Value} {R : Value → World → Prop} [he : Enters P f] (hc : Rets P f vals w R) (hv : xs.map (evF σ) = vals)
    (h : ∀ v w', R v w' → FL P r n ops Q rest σ w') :
    FL P r n ops Q ({ dst := none, op := .call { callee := .value (.func f), args := xs.toArray, argTypes := ats }, type := ty, pos := pos, after := after, guard := none } :: rest) σ w := fun a ha =>
  wpListIn_plain rfl fun K hK => by
    refine ⟨fun _ _ => trivial, ?_⟩
    rw [Oper.semAt_eq _ _ _ (fun _ h => by cases h), execOp_call_go, he.run]
    have e : (#[] ++ xs.toArray.map a.eval ++ #[] : Array Value) = vals.toArray := by rw [ha.eval]; simp [hv]
    rw [e, Oper.uponIn_enter]
    refine ⟨(fun h => by cases h), fen_calls r (Calls.mono hc fun e w'' hr => ?_)⟩
    cases e with
    | returned v => exact hK _ _ (h v w'' hr _ ha)
    | _ => exact hr.elim
theorem FW_condP {c : Operand} {x y : Code} {p : Prop} [Decidable p] (hc : evF σ c = .bool (decide p)) (ht : p → FW P r n x Q σ w) (hf : ¬ p → FW P r n y Q σ w) : FW P r n (.cond c x y) Q σ w :=
  FW_cond hc (fun h => ht (of_decide_eq_true h)) (fun h => hf (of_decide_eq_false h))
end rules

section gives
variable {P : Program} {ρ : Operand → Value} {ty : TypeId} {w w' : World} {x y z : Operand}
theorem Gives.move {v : Value} (h : ρ x = v) : Gives P ρ (.move x) ty w v w := fun _ _ _ _ => by subst h; rfl
theorem Gives.assign {v : Value} (h : ρ x = v) : Gives P ρ (.assign x) ty w v w := fun _ _ _ _ => by subst h; rfl
theorem Gives.pick {b : Bool} {u v : Value} (hc : ρ z = .bool b) (hx : ρ x = u) (hy : ρ y = v) : Gives P ρ (.pick z x y) ty w (if b then u else v) w := fun _ _ _ _ => by
  simp only [execOp, hc, hx, hy]; cases b <;> rfl
theorem Gives.pickT {v : Value} (hc : ρ z = .bool true) (hx : ρ x = v) : Gives P ρ (.pick z x y) ty w v w := fun _ _ _ _ => by subst hx; simp only [execOp, hc]; rfl
theorem Gives.pickF {v : Value} (hc : ρ z = .bool false) (hy : ρ y = v) : Gives P ρ (.pick z x y) ty w v w := fun _ _ _ _ => by subst hy; simp only [execOp, hc]; rfl
/-- A binary operation that is plain reckoning. -/
theorem Gives.bin {op : BinOp} {T U : TypeId} {a b v : Value} (hx : ρ x = a) (hy : ρ y = b) (hg : ∀ x y, (eqGuard op T x y a b).run P w = .ok () w) (hr : (binOp op T a b).run P w = .ok v w) : Gives P ρ (.binOp op T x y U) ty w v w := fun _ _ _ _ => by
  simp only [execOp, hx, hy, Sem.run_bind, hg, hr, Result.andThen_ok, Sem.run_pure]
section ints
variable {T U : TypeId} {k : IntKind} {a b : Int}
theorem Gives.add (hx : ρ x = .int k a) (hy : ρ y = .int k b) : Gives P ρ (.binOp .add T x y U) ty w (.int k (k.wrap (a + b))) w := .bin hx hy (fun _ _ => rfl) (by rw [binOp_add]; rfl)
theorem Gives.sub (hx : ρ x = .int k a) (hy : ρ y = .int k b) : Gives P ρ (.binOp .sub T x y U) ty w (.int k (k.wrap (a - b))) w := .bin hx hy (fun _ _ => rfl) (by rw [binOp_sub]; rfl)
theorem Gives.mul (hx : ρ x = .int k a) (hy : ρ y = .int k b) : Gives P ρ (.binOp .mul T x y U) ty w (.int k (k.wrap (a * b))) w := .bin hx hy (fun _ _ => rfl) (by rw [binOp_mul]; rfl)
/-- The same where it fits. -/
theorem Gives.addI {c : Int} (hx : ρ x = .int .i64 a) (hy : ρ y = .int .i64 b) (he : a + b = c) (h : -9223372036854775808 ≤ c ∧ c ≤ 9223372036854775807) : Gives P ρ (.binOp .add T x y U) ty w (.int .i64 c) w := by
  have := Gives.add (P := P) (ty := ty) (w := w) (T := T) (U := U) hx hy
  rw [he, IntWalk.i64_in _ h] at this; exact this
theorem Gives.subI {c : Int} (hx : ρ x = .int .i64 a) (hy : ρ y = .int .i64 b) (he : a - b = c) (h : -9223372036854775808 ≤ c ∧ c ≤ 9223372036854775807) : Gives P ρ (.binOp .sub T x y U) ty w (.int .i64 c) w := by
  have := Gives.sub (P := P) (ty := ty) (w := w) (T := T) (U := U) hx hy
  rw [he, IntWalk.i64_in _ h] at this; exact this
theorem Gives.mulI {c : Int} (hx : ρ x = .int .i64 a) (hy : ρ y = .int .i64 b) (he : a * b = c) (h : -9223372036854775808 ≤ c ∧ c ≤ 9223372036854775807) : Gives P ρ (.binOp .mul T x y U) ty w (.int .i64 c) w := by
  have := Gives.mul (P := P) (ty := ty) (w := w) (T := T) (U := U) hx hy
  rw [he, IntWalk.i64_in _ h] at this; exact this
theorem Gives.quo (hx : ρ x = .int k a) (hy : ρ y = .int k b) (h0 : b ≠ 0) : Gives P ρ (.binOp .quo T x y U) ty w (.int k (k.wrap (a.tdiv b))) w := .bin hx hy (fun _ _ => rfl) (by rw [binOp_quo, Op.intDiv, if_neg h0]; rfl)
theorem Gives.rem (hx : ρ x = .int k a) (hy : ρ y = .int k b) (h0 : b ≠ 0) : Gives P ρ (.binOp .rem T x y U) ty w (.int k (a.tmod b)) w := .bin hx hy (fun _ _ => rfl) (by rw [binOp_rem, Op.intDiv, if_neg h0]; rfl)
theorem Gives.eql (hx : ρ x = .int k a) (hy : ρ y = .int k b) : Gives P ρ (.binOp .eql T x y U) ty w (.bool (decide (a = b))) w := .bin hx hy (fun _ _ => by rw [eqGuard_at_int]; rfl) (by rw [binOp_eql]; rfl)
theorem Gives.neq (hx : ρ x = .int k a) (hy : ρ y = .int k b) : Gives P ρ (.binOp .neq T x y U) ty w (.bool (decide (a ≠ b))) w := .bin hx hy (fun _ _ => by rw [eqGuard_at_int]; rfl) (by rw [binOp_neq, show (a != b) = decide (a ≠ b) from by rw [decide_not]; rfl]; rfl)
theorem Gives.lss (hx : ρ x = .int k a) (hy : ρ y = .int k b) : Gives P ρ (.binOp .lss T x y U) ty w (.bool (decide (a < b))) w := .bin hx hy (fun _ _ => rfl) (by rw [binOp_lss]; rfl)
theorem Gives.leq (hx : ρ x = .int k a) (hy : ρ y = .int k b) : Gives P ρ (.binOp .leq T x y U) ty w (.bool (decide (a ≤ b))) w := .bin hx hy (fun _ _ => rfl) (by rw [binOp_leq]; rfl)
theorem Gives.gtr (hx : ρ x = .int k a) (hy : ρ y = .int k b) : Gives P ρ (.binOp .gtr T x y U) ty w (.bool (decide (b < a))) w := .bin hx hy (fun _ _ => rfl) (by rw [binOp_gtr]; rfl)
theorem Gives.geq (hx : ρ x = .int k a) (hy : ρ y = .int k b) : Gives P ρ (.binOp .geq T x y U) ty w (.bool (decide (b ≤ a))) w := .bin hx hy (fun _ _ => rfl) (by rw [binOp_geq]; rfl)
theorem Gives.shl {yk : IntKind} (hx : ρ x = .int k a) (hy : ρ y = .int yk b) (h0 : 0 ≤ b) : Gives P ρ (.binOp .shl T x y U) ty w (.int k (k.wrap (a * 2 ^ (min b.toNat k.bits)))) w := .bin hx hy (fun _ _ => rfl) (by rw [binOp_shl, Op.shift, if_neg (by omega)]; rfl)
theorem Gives.shr {yk : IntKind} (hx : ρ x = .int k a) (hy : ρ y = .int yk b) (h0 : 0 ≤ b) : Gives P ρ (.binOp .shr T x y U) ty w (.int k (a.fdiv (2 ^ (min b.toNat k.bits)))) w := .bin hx hy (fun _ _ => rfl) (by rw [binOp_shr, Op.shift, if_neg (by omega)]; rfl)
theorem Gives.and (hx : ρ x = .int k a) (hy : ρ y = .int k b) : Gives P ρ (.binOp .and T x y U) ty w (.int k (bits .and k a b)) w := .bin hx hy (fun _ _ => rfl) (by rw [binOp_and]; rfl)
theorem Gives.or (hx : ρ x = .int k a) (hy : ρ y = .int k b) : Gives P ρ (.binOp .or T x y U) ty w (.int k (bits .or k a b)) w := .bin hx hy (fun _ _ => rfl) (by rw [binOp_or]; rfl)
theorem Gives.xor (hx : ρ x = .int k a) (hy : ρ y = .int k b) : Gives P ρ (.binOp .xor T x y U) ty w (.int k (bits .xor k a b)) w := .bin hx hy (fun _ _ => rfl) (by rw [binOp_xor]; rfl)
end ints
class IsBool (P : Program) (t : TypeId) : Prop where
  und : P.underlying t = some .bool
theorem Gives.eqlB {T U : TypeId} [h : IsBool P T] {a b : Bool} (hx : ρ x = .bool a) (hy : ρ y = .bool b) : Gives P ρ (.binOp .eql T x y U) ty w (.bool (a == b)) w := .bin hx hy (fun _ _ => by rw [eqGuard_at_bool]; rfl) (run_eql_bool _ _ _ _ h.und)
theorem Gives.neqB {T U : TypeId} [h : IsBool P T] {a b : Bool} (hx : ρ x = .bool a) (hy : ρ y = .bool b) : Gives P ρ (.binOp .neq T x y U) ty w (.bool (!(a == b))) w := .bin hx hy (fun _ _ => by rw [eqGuard_at_bool]; rfl) (run_neq_bool _ _ _ _ h.und)
theorem Gives.eqlS {T U : TypeId} {a b : ByteArray} (hx : ρ x = .string a) (hy : ρ y = .string b) : Gives P ρ (.binOp .eql T x y U) ty w (.bool (a.toList == b.toList)) w := .bin hx hy (fun _ _ => by rw [eqGuard_at_string]; rfl) rfl
theorem Gives.neqS {T U : TypeId} {a b : ByteArray} (hx : ρ x = .string a) (hy : ρ y = .string b) : Gives P ρ (.binOp .neq T x y U) ty w (.bool (!(a.toList == b.toList))) w := .bin hx hy (fun _ _ => by rw [eqGuard_at_string]; rfl) rfl
theorem Gives.not {b : Bool} {T : TypeId} (hx : ρ x = .bool b) : Gives P ρ (.unOp .not T x) ty w (.bool (!b)) w := fun _ _ _ _ => by simp only [execOp, hx]; rfl
theorem Gives.notP {p : Prop} [Decidable p] {T : TypeId} (hx : ρ x = .bool (decide p)) : Gives P ρ (.unOp .not T x) ty w (.bool (decide (¬ p))) w := by
  have := Gives.not (P := P) (ty := ty) (w := w) (T := T) hx
  rw [show (!decide p) = decide (¬ p) from by simp] at this; exact this
theorem Gives.neg {k : IntKind} {a : Int} {T : TypeId} (hx : ρ x = .int k a) : Gives P ρ (.unOp .neg T x) ty w (.int k (k.wrap (0 - a))) w := fun _ _ _ _ => by simp only [execOp, hx]; rfl
theorem Gives.nilCheck {a : Addr} (hx : ρ x = .pointer (some a)) : Gives P ρ (.nilCheck x) ty w (.pointer (some a)) w := fun _ _ _ _ => by simp only [execOp, hx]; rfl
theorem Gives.convI {s t : TypeId} {k j : IntKind} {a : Int} (hs : (P.underlying s).isSome = true) (ht : P.underlying t = some (.int k)) (hx : ρ x = .int j a) : Gives P ρ (.convert s t x) ty w (.int k (k.wrap a)) w := fun _ _ _ _ => by
  obtain ⟨d, hd⟩ := Option.isSome_iff_exists.1 hs
  simp [execOp, hx, convert, run_underlying hd, run_underlying ht, Conv.intToInt]
/-- Pointers against nil. -/
class IsPtr (P : Program) (t : TypeId) : Prop where
  und : ∃ e, P.underlying t = some (.pointer e)
theorem run_equalIn_ptr_nil (d : Nat) {T e : TypeId} (he : P.underlying T = some (.pointer e)) (a : Option Addr) : (Op.equalIn (d + 1) T (.pointer a) (.pointer none)).run P w = .ok a.isNone w := by
  cases a <;> simp [Op.equalIn, run_underlying he]
theorem run_equal_ptr_nil {T : TypeId} [h : IsPtr P T] (a : Option Addr) : (Op.equal T (.pointer a) (.pointer none)).run P w = .ok a.isNone w := by
  obtain ⟨e, he⟩ := h.und
  exact run_equalIn_ptr_nil 9999 he a
theorem Gives.eqlNil {T U : TypeId} [IsPtr P T] {a : Option Addr} (hx : ρ x = .pointer a) (hy : ρ y = .pointer none) : Gives P ρ (.binOp .eql T x y U) ty w (.bool a.isNone) w :=
  .bin hx hy (fun _ _ => by rw [eqGuard_at_pointer]; rfl) (by simp [binOp, run_equal_ptr_nil])
theorem Gives.neqNil {T U : TypeId} [IsPtr P T] {a : Option Addr} (hx : ρ x = .pointer a) (hy : ρ y = .pointer none) : Gives P ρ (.binOp .neq T x y U) ty w (.bool (!a.isNone)) w :=
  .bin hx hy (fun _ _ => by rw [eqGuard_at_pointer]; rfl) (by simp [binOp, run_equal_ptr_nil])
/-- Where a struct's field lies. -/
class FieldAt (P : Program) (s f : Nat) (k : outParam Nat) : Prop where
  run : ∀ a w, (Instr.fieldAt s (.pointer (some a)) f).run P w = .ok (.pointer (some (a.add k))) w
theorem Gives.field0 {s f k b : Nat} [h : FieldAt P s f k] (hx : ρ x = .pointer (some ⟨b, 0, none⟩)) : Gives P ρ (.fieldAddr s x f) ty w (.pointer (some ⟨b, k, none⟩)) w := fun _ _ _ _ => by
  simp only [execOp, hx, Sem.run_bind, h.run, Result.andThen_ok, Sem.run_pure, Addr.add_lit, Nat.zero_add]
theorem Gives.field {s f k b o : Nat} [h : FieldAt P s f k] (hx : ρ x = .pointer (some ⟨b, o, none⟩)) : Gives P ρ (.fieldAddr s x f) ty w (.pointer (some ⟨b, o + k, none⟩)) w := fun _ _ _ _ => by
  simp only [execOp, hx, Sem.run_bind, h.run, Result.andThen_ok, Sem.run_pure, Addr.add_lit]
/-- What a type's variables are made of: one cell, or so many. -/
class OneCell (P : Program) (t : TypeId) : Prop where
  agg : ∀ w, (isAgg t).run P w = .ok false w
  size : ∀ w, (sizeOf t).run P w = .ok 1 w
class Agg (P : Program) (t : TypeId) (k : outParam Nat) : Prop where
  agg : ∀ w, (isAgg t).run P w = .ok true w
  size : ∀ w, (sizeOf t).run P w = .ok k w
class Zero (P : Program) (t : TypeId) (z : outParam Value) : Prop where
  run : ∀ w, (zeroValue t).run P w = .ok z w
/-- What a type is. -/
class IsSlice (P : Program) (t : TypeId) (e : outParam TypeId) : Prop where
  und : P.underlying t = some (.slice e)
class IsArray (P : Program) (t : TypeId) (m : outParam Nat) (e : outParam TypeId) : Prop where
  und : P.underlying t = some (.array m e)
class IsMap (P : Program) (t : TypeId) (k e : outParam TypeId) : Prop where
  und : P.underlying t = some (.map k e)
class IsInt (P : Program) (t : TypeId) (k : outParam IntKind) : Prop where
  und : P.underlying t = some (.int k)
class IsStr (P : Program) (t : TypeId) : Prop where
  und : P.underlying t = some .string
/-- How many cells and bytes. -/
class Cells (P : Program) (t : TypeId) (k b : outParam Nat) : Prop where
  size : (P.info? t).map (fun i => (i.size, i.bytes)) = some (k, b)
theorem cell_blk {b : Nat} {cs : List Value} {E : TypeId} (h : w.heap[b]? = some (.cells cs.toArray E (0, 0))) (i : Nat) : w.cell? ⟨b, i, none⟩ = cs[i]? := by
  rw [cell_of_row w b i _ _ _ h]; simp
theorem Gives.load1 {T b o : Nat} [h1 : OneCell P T] {cs : List Value} {E : TypeId} {v : Value} (hx : ρ x = .pointer (some ⟨b, o, none⟩)) (hb : w.heap[b]? = some (.cells cs.toArray E (0, 0))) (hv : cs[o]? = some v) : Gives P ρ (.load T x) ty w v w := fun _ _ _ _ => by
  simp [execOp, hx, Instr.loadAt, Instr.sureAddr, loadVar, h1.agg, cell_blk hb, hv]
theorem run_loadCells_blk {b o k : Nat} {cs : List Value} {E : TypeId} (hb : w.heap[b]? = some (.cells cs.toArray E (0, 0))) {us : List Value} (hu : (cs.drop o).take k = us) (hk : us.length = k) :
    (loadCells ⟨b, o, none⟩ k).run P w = .ok us.toArray w := by
  have := run_loadCells_list (P := P) w ⟨b, o, none⟩ us (fun j v hj => by
    rw [Addr.add_lit, cell_blk hb]
    rw [← hu, List.getElem?_take] at hj
    split at hj
    · rw [List.getElem?_drop] at hj; exact hj
    · cases hj)
  rw [hk] at this; exact this
theorem Gives.loadN {T b o k : Nat} [h1 : Agg P T k] {cs : List Value} {E : TypeId} {us : List Value} (hx : ρ x = .pointer (some ⟨b, o, none⟩)) (hb : w.heap[b]? = some (.cells cs.toArray E (0, 0))) (hu : (cs.drop o).take k = us) (hk : us.length = k) : Gives P ρ (.load T x) ty w (.agg us.toArray) w := fun _ _ _ _ => by
  simp [execOp, hx, Instr.loadAt, Instr.sureAddr, loadVar, h1.agg, h1.size, run_loadCells_blk hb hu hk]
end gives
end Go.Mw
