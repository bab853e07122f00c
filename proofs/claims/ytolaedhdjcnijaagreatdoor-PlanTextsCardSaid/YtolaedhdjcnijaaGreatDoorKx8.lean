/-
 Short names of the commonest rules of a walk.
-/
import Derived.Test.YtolaedhdjcnijaaGreatDoorKx4
import Derived.Test.YtolaedhdjcnijaaGreatDoorKx6
import Derived.Test.YtolaedhdjcnijaaGreatDoorKx5
import Derived.Test.YtolaedhdjcnijaaGreatDoorKx7
import Derived.Laws.BitsLemmas
import Derived.Lib.AppendStr
set_option linter.unusedVariables false
set_option linter.unusedSimpArgs false
namespace Go.Mw
section
variable {P : Program} {r : Option Nat} {n : Nat} {ops : Array Oper} {Q : Post} {rest : List Oper} {σ : St} {w w₀ : World} {S : Nat → Prop} {rs : List HP} {put : HP → List HP} {ty : TypeId} {pos : String} {after : Array Edge} {op : Op}
theorem Qn {y : Code} (h : FW P r n y Q σ w) : FL P r n ops (Qseq P r n y Q) [] σ w := FL_nil (Qseq_normal h)
theorem Sr {id : Nat} {l : List Oper} {y : Code} (h : FL P r n l.toArray (Qseq P r n y Q) l σ w) : FW P r n (.seq (.region id l.toArray false) y) Q σ w := FW_seq (FW_region h)
theorem Nx {id : Nat} {l : List Oper} {y : Code} (h : FL P r n l.toArray (Qseq P r n y Q) l σ w) : FL P r n ops (Qseq P r n (.seq (.region id l.toArray false) y) Q) [] σ w := FL_nil (Qseq_normal (FW_seq (FW_region h)))
theorem Sk {y : Code} (h : FW P r n y Q σ w) : FW P r n .skip (Qseq P r n y Q) σ w := FW_skip (Qseq_normal h)
theorem Mv {d : Nat} {x : Operand} {v : Value} (h : FL P r n ops Q rest (upd σ d v) w) (hv : evF σ x = v := by simp only [evF, upd_same, upd_ne, ne_eq, Nat.reduceEqDiff, not_false_eq_true]; rfl) (hd : Nat.blt d n = true := by exact rfl) :
    FL P r n ops Q ({ dst := some d, op := .move x, type := ty, pos := pos, after := after, guard := none } :: rest) σ w := FL_move hv hd h
theorem Am {d : Nat} {x : Operand} {v : Value} (h : FL P r n ops Q rest (upd σ d v) w) (hv : evF σ x = v := by simp only [evF, upd_same, upd_ne, ne_eq, Nat.reduceEqDiff, not_false_eq_true]; rfl) (hd : Nat.blt d n = true := by exact rfl) :
    FL P r n ops Q ({ dst := some d, op := .assign x, type := ty, pos := pos, after := after, guard := none } :: rest) σ w := FL_assign hv hd h
theorem Pt {d : Nat} {x y z : Operand} {v : Value} (h : FL P r n ops Q rest (upd σ d v) w) (hc : evF σ z = .bool true := by exact rfl) (hv : evF σ x = v := by simp only [evF, upd_same, upd_ne, ne_eq, Nat.reduceEqDiff, not_false_eq_true]; rfl) (hd : Nat.blt d n = true := by exact rfl) :
    FL P r n ops Q ({ dst := some d, op := .pick z x y, type := ty, pos := pos, after := after, guard := none } :: rest) σ w := FL_pickT hc hv hd h
theorem Pf {d : Nat} {x y z : Operand} {v : Value} (h : FL P r n ops Q rest (upd σ d v) w) (hc : evF σ z = .bool false := by exact rfl) (hv : evF σ y = v := by simp only [evF, upd_same, upd_ne, ne_eq, Nat.reduceEqDiff, not_false_eq_true]; rfl) (hd : Nat.blt d n = true := by exact rfl) :
    FL P r n ops Q ({ dst := some d, op := .pick z x y, type := ty, pos := pos, after := after, guard := none } :: rest) σ w := FL_pickF hc hv hd h
theorem On {dst : Option Nat} {j : Nat} {b : Bool} {t : Nat} (h : FL P r n ops Q ({ dst := dst, op := op, type := ty, pos := pos, after := after, guard := none } :: rest) σ w) (hj : (ops[j]?).bind (fun o : Oper => o.dst) = some t := by exact rfl) (hb : σ t = .bool b := by exact rfl) :
    FL P r n ops Q ({ dst := dst, op := op, type := ty, pos := pos, after := after, guard := some (j, b) } :: rest) σ w := FL_on hj hb h
theorem Of {dst : Option Nat} {j : Nat} {b : Bool} {t : Nat} (h : FL P r n ops Q rest (updO σ dst undef) w) (hj : (ops[j]?).bind (fun o : Oper => o.dst) = some t := by exact rfl) (hb : σ t = .bool (!b) := by exact rfl) (hd : okDst n dst = true := by exact rfl) :
    FL P r n ops Q ({ dst := dst, op := op, type := ty, pos := pos, after := after, guard := some (j, b) } :: rest) σ w := FL_off hj hb hd h
theorem Ou {dst : Option Nat} {j : Nat} {b : Bool} {t : Nat} (h : FL P r n ops Q rest (updO σ dst undef) w) (hj : (ops[j]?).bind (fun o : Oper => o.dst) = some t := by exact rfl) (hb : σ.get t = undef := by exact rfl) (hd : okDst n dst = true := by exact rfl) :
    FL P r n ops Q ({ dst := dst, op := op, type := ty, pos := pos, after := after, guard := some (j, b) } :: rest) σ w := FL_offU hj hb hd h
theorem Ld {d b o : Nat} {x : Operand} {T : TypeId} [OneCell P T] {cs : List Value} {E : TypeId} {v : Value} (H : Sep w₀ S rs w) (h : FL P r n ops Q rest (upd σ d v) w) (hx : evF σ x = .pointer (some ⟨b, o, none⟩) := by exact rfl) (hat : At rs (blk b cs E) put := by first | exact At0 | exact At1 | exact At2 | exact At3 | exact At4 | exact At5 | exact At6 | exact At7 | exact At8 | exact At9) (hv : cs[o]? = some v := by exact rfl) (hd : Nat.blt d n = true := by exact rfl) :
    FL P r n ops Q ({ dst := some d, op := .load T x, type := ty, pos := pos, after := after, guard := none } :: rest) σ w := FL_load H hx hat hv hd h
section
variable {d : Nat} {x y : Operand} {T U : TypeId} {k : IntKind} {a b : Int}
theorem Ve (h : FL P r n ops Q rest (upd σ d (.bool (decide (a = b)))) w) (hx : evF σ x = .int k a := by exact rfl) (hy : evF σ y = .int k b := by exact rfl) (hd : Nat.blt d n = true := by exact rfl) :
    FL P r n ops Q ({ dst := some d, op := .binOp .eql T x y U, type := ty, pos := pos, after := after, guard := none } :: rest) σ w := FL_val (Gives.eql hx hy) hd h
theorem Vn (h : FL P r n ops Q rest (upd σ d (.bool (decide (a ≠ b)))) w) (hx : evF σ x = .int k a := by exact rfl) (hy : evF σ y = .int k b := by exact rfl) (hd : Nat.blt d n = true := by exact rfl) :
    FL P r n ops Q ({ dst := some d, op := .binOp .neq T x y U, type := ty, pos := pos, after := after, guard := none } :: rest) σ w := FL_val (Gives.neq hx hy) hd h
theorem Vl (h : FL P r n ops Q rest (upd σ d (.bool (decide (a < b)))) w) (hx : evF σ x = .int k a := by exact rfl) (hy : evF σ y = .int k b := by exact rfl) (hd : Nat.blt d n = true := by exact rfl) :
    FL P r n ops Q ({ dst := some d, op := .binOp .lss T x y U, type := ty, pos := pos, after := after, guard := none } :: rest) σ w := FL_val (Gives.lss hx hy) hd h
theorem Vg (h : FL P r n ops Q rest (upd σ d (.bool (decide (b < a)))) w) (hx : evF σ x = .int k a := by exact rfl) (hy : evF σ y = .int k b := by exact rfl) (hd : Nat.blt d n = true := by exact rfl) :
    FL P r n ops Q ({ dst := some d, op := .binOp .gtr T x y U, type := ty, pos := pos, after := after, guard := none } :: rest) σ w := FL_val (Gives.gtr hx hy) hd h
theorem Vx {i : Nat} {vs : Array Value} {v : Value} (h : FL P r n ops Q rest (upd σ d v) w) (hx : evF σ x = .tuple vs := by exact rfl) (hv : vs[i]? = some v := by exact rfl) (hd : Nat.blt d n = true := by exact rfl) :
    FL P r n ops Q ({ dst := some d, op := .extract x i, type := ty, pos := pos, after := after, guard := none } :: rest) σ w := FL_val (Gives.extract hx hv) hd h
theorem Vt {t : TypeId} [IsStr P t] {l : List UInt8} (h : FL P r n ops Q rest (upd σ d (.int .i64 l.length)) w) (hx : evF σ x = str l := by exact rfl) (hd : Nat.blt d n = true := by exact rfl) :
    FL P r n ops Q ({ dst := some d, op := .call { callee := .builtin .len, args := #[x], argTypes := #[t] }, type := ty, pos := pos, after := after, guard := none } :: rest) σ w := FL_val (Gives.lenT hx) hd h
theorem Vs {t e : TypeId} [IsSlice P t e] {A : Option Addr} {m c : Nat} (h : FL P r n ops Q rest (upd σ d (.int .i64 m)) w) (hx : evF σ x = .slice A m c := by exact rfl) (hd : Nat.blt d n = true := by exact rfl) :
    FL P r n ops Q ({ dst := some d, op := .call { callee := .builtin .len, args := #[x], argTypes := #[t] }, type := ty, pos := pos, after := after, guard := none } :: rest) σ w := FL_val (Gives.lenSlice hx) hd h
theorem Vf {s f k b : Nat} [FieldAt P s f k] (h : FL P r n ops Q rest (upd σ d (.pointer (some ⟨b, k, none⟩))) w) (hx : evF σ x = .pointer (some ⟨b, 0, none⟩) := by exact rfl) (hd : Nat.blt d n = true := by exact rfl) :
    FL P r n ops Q ({ dst := some d, op := .fieldAddr s x f, type := ty, pos := pos, after := after, guard := none } :: rest) σ w := FL_val (Gives.field0 hx) hd h
end
end
section
variable {P : Program} {n : Nat} {Q : Post} {σ : St} {w : World} {l : List ResultVar} {R : Value → World → Prop}
theorem Rb {r : Option Nat} {id : Nat} {y : Code} (h : Q .ret σ w) : FW P r n .ret (Qblk id (Qseq P r n y Q)) σ w := FW_ret (Qblk_ret (Qseq_ret h))
theorem Rs {r : Option Nat} {y : Code} (h : Q .ret σ w) : FW P r n .ret (Qseq P r n y Q) σ w := FW_ret (Qseq_ret h)
end
section
variable {P : Program} {r : Option Nat} {n : Nat} {ops : Array Oper} {Q : Post} {rest : List Oper} {σ : St} {w : World} {ty : TypeId} {pos : String} {after : Array Edge} {guard : Option (Nat × Bool)} {lv : List Bool} {pd : List (Nat × Bool)} {op : Op} {d : Nat} {v : Value}
theorem Gp (hok : okOps n ops = true) (i : Nat) (ho : ops[i]? = some { dst := some d, op := op, type := ty, pos := pos, after := after, guard := guard }) (hw : Region.wanted { dst := some d, op := op, type := ty, pos := pos, after := after, guard := guard } (yieldF ops σ) = true) (hg : ∀ w, Gives P (evF σ) op ty w v w)
    (h : FG P r n ops Q (lv.set i true) ((i, true) :: pd) (upd σ d v) w) (hck : quietOk ops lv (pd.map (·.1)) i = true := by kernel_rfl) : FG P r n ops Q lv pd σ w := FGp hok i ho hw hg hck h
theorem Gl (hok : okOps n ops = true) (i : Nat) (ho : ops[i]? = some { dst := some d, op := op, type := ty, pos := pos, after := after, guard := guard }) (hw : Region.wanted { dst := some d, op := op, type := ty, pos := pos, after := after, guard := guard } (yieldF ops σ) = true) (hg : Gives P (evF σ) op ty w v w)
    (h : FG P r n ops Q (lv.set i true) ((i, false) :: pd) (upd σ d v) w) (hck : quietOk ops lv (pd.map (·.1)) i = true := by kernel_rfl) : FG P r n ops Q lv pd σ w := FGl hok i ho hw hg hck h
theorem Gm (hok : okOps n ops = true) (i : Nat) {x : Operand} (h : FG P r n ops Q (lv.set i true) ((i, true) :: pd) (upd σ d v) w) (ho : ops[i]? = some { dst := some d, op := .move x, type := ty, pos := pos, after := after, guard := guard } := by exact rfl)
    (hw : Region.wanted { dst := some d, op := .move x, type := ty, pos := pos, after := after, guard := guard } (yieldF ops σ) = true := by kernel_rfl) (hv : evF σ x = v := by simp only [evF, upd_same, upd_ne, ne_eq, Nat.reduceEqDiff, not_false_eq_true]; rfl) (hck : quietOk ops lv (pd.map (·.1)) i = true := by kernel_rfl) : FG P r n ops Q lv pd σ w := FGmove hok i ho hw hv hck h
theorem Vv (hg : Gives P (evF σ) op ty w v w) (h : FL P r n ops Q rest (upd σ d v) w) (hd : Nat.blt d n = true := by exact rfl) : FL P r n ops Q ({ dst := some d, op := op, type := ty, pos := pos, after := after, guard := none } :: rest) σ w := FL_val hg hd h
theorem Cp {c : Operand} {x y : Code} {p : Prop} [Decidable p] (hc : evF σ c = .bool (decide p)) (ht : p → FW P r n x Q σ w) (hf : ¬ p → FW P r n y Q σ w) : FW P r n (.cond c x y) Q σ w := FW_condP hc ht hf
theorem Cd {c : Operand} {x y : Code} {t : Bool} (hc : evF σ c = .bool t) (ht : t = true → FW P r n x Q σ w) (hf : t = false → FW P r n y Q σ w) : FW P r n (.cond c x y) Q σ w := FW_cond hc ht hf
end
end Go.Mw
namespace Go.Proofs.YtolaedhdjcnijaaGreatDoor
open Go Go.Mw Go.Lib

def I (n : Int) : Value := .int .i64 n
def I32 (n : Int) : Value := .int .i32 n
def B (c : UInt8) : Value := .int .u8 c.toNat
def fits (n : Int) : Prop := -9223372036854775808 ≤ n ∧ n ≤ 9223372036854775807
theorem one_map {α : Type} {f : α → Value} (h : ∀ x, (f x).oneCell' = true) (l : List α) : ∀ u ∈ l.map f, u.oneCell' = true := fun u hu => by
 obtain ⟨x, _, rfl⟩ := List.mem_map.1 hu
 exact h x
theorem wrap8 {n : Int} (h0 : 0 ≤ n) : IntKind.u8.wrap n = ((n.toNat.toUInt8).toNat : Int) := by
 rw [IntKind.wrap_u8]
 simp
 omega
theorem wrap32 {n : Int} (h : -2147483648 ≤ n ∧ n ≤ 2147483647) : IntKind.i32.wrap n = n := by
 rw [IntKind.wrap_i32]; omega
theorem wrap64 {n : Int} (h : -9223372036854775808 ≤ n ∧ n ≤ 9223372036854775807) : IntKind.i64.wrap n = n := IntWalk.i64_in _ h
end Go.Proofs.YtolaedhdjcnijaaGreatDoor
namespace Go.Mw
section gives
variable {P : Program} {ρ : Operand → Value} {ty : TypeId} {w : World} {x y : Operand} {T U : TypeId} {k : IntKind}
theorem Gives.remN {a b : Nat} (hx : ρ x = .int k a) (hy : ρ y = .int k b) (h0 : b ≠ 0) : Gives P ρ (.binOp .rem T x y U) ty w (.int k ((a % b : Nat) : Int)) w := by
 have := Gives.rem (P := P) (ty := ty) (w := w) (T := T) (U := U) hx hy (by omega)
 rwa [Int.tmod_eq_emod_of_nonneg (by omega), ← Int.natCast_emod] at this
theorem Gives.quoN {a b : Nat} (hx : ρ x = .int .i64 a) (hy : ρ y = .int .i64 b) (h0 : b ≠ 0) (h : a ≤ 9223372036854775807) : Gives P ρ (.binOp .quo T x y U) ty w (.int .i64 ((a / b : Nat) : Int)) w := by
 have := Gives.quo (P := P) (ty := ty) (w := w) (T := T) (U := U) hx hy (by omega)
 have e : a / b ≤ a := Nat.div_le_self a b
 have e2 : (a : Int).tdiv (b : Int) = ((a / b : Nat) : Int) := by rw [Int.tdiv_eq_ediv_of_nonneg (by omega)]; rfl
 obtain ⟨q, hq⟩ : ∃ q, q = a / b := ⟨_, rfl⟩
 rw [← hq] at e e2 ⊢
 rwa [e2, IntWalk.i64_in (q : Int) (by omega)] at this
theorem Gives.quo8 {a b : Nat} (hx : ρ x = .int .u8 a) (hy : ρ y = .int .u8 b) (h0 : b ≠ 0) (h : a < 256) : Gives P ρ (.binOp .quo T x y U) ty w (.int .u8 ((a / b : Nat) : Int)) w := by
 have := Gives.quo (P := P) (ty := ty) (w := w) (T := T) (U := U) hx hy (by omega)
 have e : a / b ≤ a := Nat.div_le_self a b
 have e2 : (a : Int).tdiv (b : Int) = ((a / b : Nat) : Int) := by rw [Int.tdiv_eq_ediv_of_nonneg (by omega)]; rfl
 obtain ⟨q, hq⟩ : ∃ q, q = a / b := ⟨_, rfl⟩
 rw [← hq] at e e2 ⊢
 rwa [e2, IntKind.wrap_u8, Int.emod_eq_of_lt (by omega) (by omega)] at this
theorem Gives.convB {s t : TypeId} {c : UInt8} [hs : IsInt P s .u8] [ht : IsInt P t .i64] (hx : ρ x = .int .u8 c.toNat) : Gives P ρ (.convert s t x) ty w (.int .i64 c.toNat) w := by
 have := Gives.conv (P := P) (ty := ty) (w := w) (s := s) (t := t) (k := .i64) hx
 have hc := c.toNat_lt
 rwa [IntWalk.i64_in _ (by omega)] at this
theorem Gives.convI64 {s t : TypeId} {j : IntKind} {a : Int} [hs : IsInt P s j] [ht : IsInt P t .i64] (hx : ρ x = .int j a) (h : -9223372036854775808 ≤ a ∧ a ≤ 9223372036854775807) : Gives P ρ (.convert s t x) ty w (.int .i64 a) w := by
 have := Gives.conv (P := P) (ty := ty) (w := w) (s := s) (t := t) (k := .i64) hx
 rwa [IntWalk.i64_in _ h] at this
theorem Gives.convI32 {s t : TypeId} {j : IntKind} {a : Int} [hs : IsInt P s j] [ht : IsInt P t .i32] (hx : ρ x = .int j a) (h : -2147483648 ≤ a ∧ a ≤ 2147483647) : Gives P ρ (.convert s t x) ty w (.int .i32 a) w := by
 have := Gives.conv (P := P) (ty := ty) (w := w) (s := s) (t := t) (k := .i32) hx
 rwa [Go.Proofs.YtolaedhdjcnijaaGreatDoor.wrap32 h] at this
theorem Gives.convU8 {s t : TypeId} {j : IntKind} {a : Int} [hs : IsInt P s j] [ht : IsInt P t .u8] (hx : ρ x = .int j a) (h : 0 ≤ a) : Gives P ρ (.convert s t x) ty w (.int .u8 (a.toNat.toUInt8).toNat) w := by
 have := Gives.conv (P := P) (ty := ty) (w := w) (s := s) (t := t) (k := .u8) hx
 rwa [Go.Proofs.YtolaedhdjcnijaaGreatDoor.wrap8 h] at this
end gives
end Go.Mw
namespace Go.Mw
open Go.RowKit Go.Proofs.YtolaedhdjcnijaaGreatDoor
section rules
variable {P : Program} {r : Option Nat} {n : Nat} {ops : Array Oper} {Q : Post} {rest : List Oper} {σ : St} {w w' w₀ : World} {S : Nat → Prop} {rs : List HP} {put : HP → List HP} {ty : TypeId} {pos : String} {after : Array Edge} {guard : Option (Nat × Bool)} {lv : List Bool} {pd pd' : List (Nat × Bool)}
def bytesH (e : Nat) (v : Value) (xs : List UInt8) : HP := rowH e 1 v xs.length (xs.map B)
theorem B_one (xs : List UInt8) : ∀ u ∈ xs.map B, u.oneCell' = true := one_map (fun _ => rfl) xs
theorem gives_appendB {ρ : Operand → Value} {x y : Operand} {t e b c : TypeId} [hs : IsSlice P t e] [hc : Cells P e 1 1] [hz : Zero P e (.int .u8 0)] {v : Value} {xs news : List UInt8}
    (H : Sep w₀ S (blk b (news.map B) e :: rs) w) (hx : ρ x = v) (hy : ρ y = .slice (some ⟨b, 0, none⟩) c c) (hc' : c = news.length) (hat : At rs (bytesH e v xs) put) (h63 : xs.length + news.length ≤ 140737488355328) :
    ∃ v' w', Gives P ρ (.call { callee := .builtin .append, args := #[x, y], argTypes := #[t, t] }) ty w v' w' ∧ Sep w₀ S (put (bytesH e v' (xs ++ news))) w' := by
  subst hc'
  have hr : RowAt w (some ⟨b, 0, none⟩) news.length 1 (news.map B) := Sep.blkRow H At0 (by simp)
  have H2 := H.drop0
  obtain ⟨F, hp, _, _⟩ := H2.focus hat
  obtain ⟨v', w', hrun, hown, hg, hb⟩ := run_append (P := P) (ty := ty) t e (z := .int .u8 0) (by decide) rfl v xs.length (xs.map B) hp.1 (some ⟨b, 0, none⟩) news.length news.length (news.map B) hr (B_one news) (by unfold maxLen; omega) (by omega)
  refine ⟨v', w', fun _ _ _ _ => ?_, ?_⟩
  · simp only [execOp, resolve, invoke, builtin, Sem.run_bind, Sem.run_pure, Result.andThen_ok, List.map_toArray, List.map_cons, List.map_nil, hx, hy, hrun]
  refine H2.rowTurn hat hg ?_ (by rcases hb with e | e <;> simp [e])
  rw [← List.map_append] at hown
  rw [List.length_append]
  exact hown
theorem FL_appendB {d : Nat} {x y : Operand} {t e b c : TypeId} [hs : IsSlice P t e] [hc : Cells P e 1 1] [hz : Zero P e (.int .u8 0)] {v : Value} {xs news : List UInt8}
    (H : Sep w₀ S (blk b (news.map B) e :: rs) w) (hat : At rs (bytesH e v xs) put) (h63 : xs.length + news.length ≤ 140737488355328) (hx : evF σ x = v := by exact rfl) (hy : evF σ y = .slice (some ⟨b, 0, none⟩) c c := by exact rfl) (hc' : c = news.length := by exact rfl) (hd : Nat.blt d n = true := by exact rfl)
    (h : ∀ v' w', Sep w₀ S (put (bytesH e v' (xs ++ news))) w' → FL P r n ops Q rest (upd σ d v') w') :
    FL P r n ops Q ({ dst := some d, op := .call { callee := .builtin .append, args := #[x, y], argTypes := #[t, t] }, type := ty, pos := pos, after := after, guard := none } :: rest) σ w := by
  obtain ⟨v', w', hg, hs'⟩ := gives_appendB (P := P) (t := t) (ty := ty) H hx hy hc' hat h63
  exact FL_val hg hd (h v' w' hs')
theorem FGappendB (hok : okOps n ops = true) (i : Nat) (pd' : List (Nat × Bool)) {d : Nat} {x y : Operand} {t e b c : TypeId} [hs : IsSlice P t e] [hc : Cells P e 1 1] [hz : Zero P e (.int .u8 0)] {v : Value} {xs news : List UInt8}
    (H : Sep w₀ S (blk b (news.map B) e :: rs) w) (hat : At rs (bytesH e v xs) put) (h63 : xs.length + news.length ≤ 140737488355328)
    (ho : ops[i]? = some { dst := some d, op := .call { callee := .builtin .append, args := #[x, y], argTypes := #[t, t] }, type := ty, pos := pos, after := after, guard := guard } := by exact rfl)
    (hw : Region.wanted { dst := some d, op := .call { callee := .builtin .append, args := #[x, y], argTypes := #[t, t] }, type := ty, pos := pos, after := after, guard := guard } (yieldF ops σ) = true := by kernel_rfl)
    (hx : evF σ x = v := by exact rfl) (hy : evF σ y = .slice (some ⟨b, 0, none⟩) c c := by exact rfl) (hc' : c = news.length := by exact rfl) (hck : effectOk ops lv (pd.map (·.1)) i = true := by kernel_rfl) (hpd : pd.filter (fun p => !((above ops i).contains p.1)) = pd' := by kernel_rfl)
    (h : ∀ v' w', Sep w₀ S (put (bytesH e v' (xs ++ news))) w' → Stab P ops (upd σ d v') w' pd' ∧ FG P r n ops Q (lv.set i true) pd' (upd σ d v') w') : FG P r n ops Q lv pd σ w :=
  FGval hok i pd' ho hw (gives_appendB (P := P) (t := t) (ty := ty) H hx hy hc' hat h63) hck hpd h
theorem Sep.asBytes {b e : Nat} {xs : List UInt8} (H : Sep w₀ S rs w) (hat : At rs (blk b (xs.map B) e) put) (hm : xs.length ≤ maxLen) : Sep w₀ S (put (bytesH e (.slice (some ⟨b, 0, none⟩) xs.length xs.length) xs)) w :=
 Sep.asRow H hat (by simp) hm
theorem Sep.nilBytes (H : Sep w₀ S rs w) (e : Nat) : Sep w₀ S (bytesH e (.slice none 0 0) [] :: rs) w := H.nilRow e 1
theorem Gives.bytesO {ρ : Operand → Value} {x : Operand} {s t e : TypeId} [hs : IsSlice P s e] [he : IsInt P e .u8] [hd : IsStr P t] {v : Value} {xs : List UInt8} (H : Sep w₀ S rs w) (hat : At rs (bytesH e v xs) put) (hx : ρ x = v) : Gives P ρ (.convert s t x) ty w (str xs) w := by
 obtain ⟨A, c, rfl, _, _, _⟩ := Sep.rowForm H hat
 exact Gives.bytesT hx (Sep.rowAt H hat)
theorem run_appendT {t u ty e : TypeId} [hs : IsSlice P t e] [hu : IsStr P u] [hc : Cells P e 1 1] [hz : Zero P e (.int .u8 0)] {v : Value} {xs news : List UInt8}
    (hown : w.ownsRow 0 e 1 v xs.length (xs.map B)) (h63 : xs.length + news.length ≤ 140737488355328) :
    ∃ v' w', (Builtin.append_ #[t, u] ty #[v, str news]).run P w = .ok v' w' ∧ w'.ownsRow 0 e 1 v' (xs ++ news).length ((xs ++ news).map B) ∧ w.grownBy w' v.ownBlock ∧ (v'.ownBlock = v.ownBlock ∨ v'.ownBlock = some w.heap.size ∨ v'.ownBlock = none) := by
  obtain ⟨i, hi, hsb⟩ := Option.map_eq_some_iff.1 hc.size
  simp only [Prod.mk.injEq] at hsb
  have hzero : i.zero = some (.int .u8 0) := by
    have := hz.run w
    simp [zeroValue, typeInfo, hi] at this
    cases hq : i.zero with
    | none => simp [hq] at this
    | some u => simp [hq] at this; rw [this]
  obtain ⟨v', w', hrun, h1, h2, h3⟩ := Lib.run_append_own_string (P := P) w 0 t u ty e i hs.und hu.und hi hzero hsb.1 hsb.2 v xs.length (xs.map B) hown ⟨news.toArray⟩ (by rw [size_mk]; unfold maxLen; omega) (by rw [size_mk]; omega) (Nat.zero_le _)
  have e1 : Lib.strCells ⟨news.toArray⟩ = news.map B := by simp only [Lib.strCells]; rfl
  rw [e1, size_mk] at h1
  refine ⟨v', w', hrun, by rw [List.length_append, List.map_append]; exact h1, h2, ?_⟩
  rcases hown.2 with ⟨rfl, h0⟩ | ⟨g, cap, cur, rfl, hbg, hg, hnc, hcm, hcs, htake⟩
  · by_cases hm : news.length = 0
    · rw [h3.2 ⟨rfl, by rw [size_mk]; exact hm⟩]; exact .inl rfl
    have hr := run_append_nil_string (P := P) w t u ty e i (.int .u8 0) hs.und hu.und hi hzero ⟨news.toArray⟩ (by rw [size_mk]; omega) (by rw [size_mk]; omega) (by rw [size_mk, hsb.2]; omega)
    have hx : xs.length = 0 := h0
    rw [hrun] at hr
    injection hr with hr _
    rw [hr]; exact .inr (.inl rfl)
  by_cases hroom : xs.length + news.length ≤ cap
  · have hcs' : cur.size = cap := by simpa using hcs
    have hr := Lib.run_append_room_string (P := P) w t u ty e i hs.und hu.und hi hsb.1 g xs.length cap cur hg ⟨news.toArray⟩ (by rw [size_mk]; exact hroom) (by rw [size_mk]; omega)
    rw [hrun] at hr
    injection hr with hr _
    rw [hr]; exact .inl rfl
  have holds : ∀ j u, (xs.map B)[j]? = some u → w.cell? ((⟨g, 0, none⟩ : Addr).add j) = some u := hown.cells (g := g) rfl
  have hr := Lib.run_append_grow_string (P := P) w t u ty e i (.int .u8 0) hs.und hu.und hi hzero ⟨g, 0, none⟩ xs.length cap (xs.map B) (by rw [hsb.1]; simp) holds ⟨news.toArray⟩ (by rw [size_mk]; omega) (by rw [size_mk]; omega) (by rw [size_mk, hsb.2]; exact growslice_fits (by omega) (by omega))
  rw [hrun] at hr
  injection hr with hr _
  rw [hr]; exact .inr (.inl rfl)
theorem FL_appendT {d : Nat} {x y : Operand} {t u e : TypeId} [hs : IsSlice P t e] [hu : IsStr P u] [hc : Cells P e 1 1] [hz : Zero P e (.int .u8 0)] {v : Value} {xs news : List UInt8}
    (H : Sep w₀ S rs w) (hat : At rs (bytesH e v xs) put) (h63 : xs.length + news.length ≤ 140737488355328) (hx : evF σ x = v := by exact rfl) (hy : evF σ y = str news := by exact rfl) (hd : Nat.blt d n = true := by exact rfl)
    (h : ∀ v' w', Sep w₀ S (put (bytesH e v' (xs ++ news))) w' → FL P r n ops Q rest (upd σ d v') w') :
    FL P r n ops Q ({ dst := some d, op := .call { callee := .builtin .append, args := #[x, y], argTypes := #[t, u] }, type := ty, pos := pos, after := after, guard := none } :: rest) σ w := by
  obtain ⟨F, hp, _, _⟩ := H.focus hat
  obtain ⟨v', w', hrun, hown, hg, hb⟩ := run_appendT (P := P) (t := t) (u := u) (ty := ty) (news := news) hp.1 h63
  refine FL_val (v := v') (w' := w') (fun _ _ _ _ => ?_) hd (h v' w' (H.rowTurn hat hg hown hb))
  simp only [execOp, resolve, invoke, builtin, Sem.run_bind, Sem.run_pure, Result.andThen_ok, List.map_toArray, List.map_cons, List.map_nil, hx, hy, hrun]
end rules
end Go.Mw
namespace Go.Mw
section
variable {P : Program} {r : Option Nat} {n : Nat} {ops : Array Oper} {Q : Post} {σ : St} {w : World} {ty : TypeId} {pos : String} {after : Array Edge} {guard : Option (Nat × Bool)} {lv : List Bool} {pd : List (Nat × Bool)}
theorem FGset (hok : okOps n ops = true) (e : Nat) (pd' : List (Nat × Bool)) {d : Nat} {x : Operand} {v : Value} (ho : ops[e]? = some { dst := some d, op := .assign x, type := ty, pos := pos, after := after, guard := guard } := by exact rfl)
    (hw : Region.wanted { dst := some d, op := .assign x, type := ty, pos := pos, after := after, guard := guard } (yieldF ops σ) = true := by kernel_rfl) (hx : evF σ x = v := by exact rfl) (hck : effectOk ops lv (pd.map (·.1)) e = true := by kernel_rfl)
    (hpd : pd.filter (fun p => !((above ops e).contains p.1)) = pd' := by kernel_rfl) (h : Stab P ops (upd σ d v) w pd' ∧ FG P r n ops Q (lv.set e true) pd' (upd σ d v) w) : FG P r n ops Q lv pd σ w :=
  FGval (C := fun v' w' => v' = v ∧ w' = w) hok e pd' ho hw ⟨v, w, Gives.assign hx, rfl, rfl⟩ hck hpd (fun v' w' h' => by rw [h'.1, h'.2]; exact h)
end
end Go.Mw
