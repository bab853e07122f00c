/-
 Short names of the commonest rules of a walk.
-/
import Derived.Test.YtolaedhdjcnijaaGreatDoorKt4
import Derived.Test.YtolaedhdjcnijaaGreatDoorKt6
import Derived.Test.YtolaedhdjcnijaaGreatDoorKt5
import Derived.Test.YtolaedhdjcnijaaGreatDoorKt7
import Derived.Laws.BitsLemmas
import Derived.Lib.AppendStr
set_option linter.unusedVariables false
set_option linter.unusedSimpArgs false
namespace Go.Mw
section
variable {P : Program} {r : Option Nat} {n : Nat} {ops : Array Oper} {Q : Post} {rest : List Oper} {σ : St} {w w₀ : World} {S : Nat → Prop} {rs : List HP} {put : HP → List HP} {ty : TypeId} {pos : String} {after : Array Edge} {op : Op}
theorem Qn {y : Code} (h : FW P r n y Q σ w) : FL P r n ops (Qseq P r n y Q) [] σ w := FL_nil (Qseq_normal h)
theorem Sr {id : Nat} {l : List Oper} {y : Code} (h : FL P r n l.toArray (Qseq P r n y Q) l σ w) : FW P r n (.seq (.region id l.toArray false) y) Q σ w := FW_seq (FW_region h)
theorem Nx {id : Nat} {l : List Oper} {y : Code} (h : FL P r n l.toArray (Qseq P r n y Q) l σ w) : FL P r n ops (Qseq P r n (.seq (.region id l.toArray false) y) Q) [] σ w := FL_nil (Qseq_normal (FW_seq (FW_region h)))
theorem Sk {y : Code} (h : FW P r n y Q σ w) : FW P r n .skip (Qseq P r n y Q) σ w := FW_skip (Qseq_normal h)
theorem Mv {d : Nat} {x : Operand} {v : Value} (h : FL P r n ops Q rest (upd σ d v) w) (hv : evF σ x = v := by simp only [evF, upd_same, upd_ne, ne_eq, Nat.reduceEqDiff, not_false_eq_true]; rfl) (hd : Nat.blt d n = true := by exact rfl) :
    FL P r n ops Q ({ dst := some d, op := .move x, type := ty, pos := pos, after := after, guard := none } :: rest) σ w := FL_move hv hd h
theorem Am {d : Nat} {x : Operand} {v : Value} (h : FL P r n ops Q rest (upd σ d v) w) (hv : evF σ x = v := by simp only [evF, upd_same, upd_ne, ne_eq, Nat.reduceEqDiff, not_false_eq_true]; rfl) (hd : Nat.blt d n = true := by exact rfl) :
    FL P r n ops Q ({ dst := some d, op := .assign x, type := ty, pos := pos, after := after, guard := none } :: rest) σ w := FL_assign hv hd h
theorem Pt {d : Nat} {x y z : Operand} {v : Value} (h : FL P r n ops Q rest (upd σ d v) w) (hc : evF σ z = .bool true := by exact rfl) (hv : evF σ x = v := by simp only [evF, upd_same, upd_ne, ne_eq, Nat.reduceEqDiff, not_false_eq_true]; rfl) (hd : Nat.blt d n = true := by exact rfl) :
    FL P r n ops Q ({ dst := some d, op := .pick z x y, type := ty, pos := pos, after := after, guard := none } :: rest) σ w := FL_pickT hc hv hd h
theorem Pf {d : Nat} {x y z : Operand} {v : Value} (h : FL P r n ops Q rest (upd σ d v) w) (hc : evF σ z = .bool false := by exact rfl) (hv : evF σ y = v := by simp only [evF, upd_same, upd_ne, ne_eq, Nat.reduceEqDiff, not_false_eq_true]; rfl) (hd : Nat.blt d n = true := by exact rfl) :
    FL P r n ops Q ({ dst := some d, op := .pick z x y, type := ty, pos := pos, after := after, guard := none } :: rest) σ w := FL_pickF hc hv hd h
theorem On {dst : Option Nat} {j : Nat} {b : Bool} {t : Nat} (h : FL P r n ops Q ({ dst := dst, op := op, type := ty, pos := pos, after := after, guard := none } :: rest) σ w) (hj : (ops[j]?).bind (fun o : Oper => o.dst) = some t := by exact rfl) (hb : σ t = .bool b := by exact rfl) :
    FL P r n ops Q ({ dst := dst, op := op, type := ty, pos := pos, after := after, guard := some (j, b) } :: rest) σ w := FL_on hj hb h
theorem Of {dst : Option Nat} {j : Nat} {b : Bool} {t : Nat} (h : FL P r n ops Q rest (updO σ dst undef) w) (hj : (ops[j]?).bind (fun o : Oper => o.dst) = some t := by exact rfl) (hb : σ t = .bool (!b) := by exact rfl) (hd : okDst n dst = true := by exact rfl) :
    FL P r n ops Q ({ dst := dst, op := op, type := ty, pos := pos, after := after, guard := some (j, b) } :: rest) σ w := FL_off hj hb hd h
theorem Ou {dst : Option Nat} {j : Nat} {b : Bool} {t : Nat} (h : FL P r n ops Q rest (updO σ dst undef) w) (hj : (ops[j]?).bind (fun o : Oper => o.dst) = some t := by exact rfl) (hb : σ.get t = undef := by exact rfl) (hd : okDst n dst = true := by exact rfl) :
    FL P r n ops Q ({ dst := dst, op := op, type := ty, pos := pos, after := after, guard := some (j, b) } :: rest) σ w := FL_offU hj hb hd h
theorem Ld {d b o : Nat} {x : Operand} {T : TypeId} [OneCell P T] {cs : List Value} {E : TypeId} {v : Value} (H : Sep w₀ S rs w) (h : FL P r n ops Q rest (upd σ d v) w) (hx : evF σ x = .pointer (some ⟨b, o, none⟩) := by exact rfl) (hat : At rs (blk b cs E) put := by first | exact At0 | exact At1 | exact At2 | exact At3 | exact At4 | exact At5 | exact At6 | exact At7 | exact At8 | exact At9) (hv : cs[o]? = some v := by exact rfl) (hd : Nat.blt d n = true := by exact rfl) :
    FL P r n ops Q ({ dst := some d, op := .load T x, type := ty, pos := pos, after := after, guard := none } :: rest) σ w := FL_load H hx hat hv hd h
section
variable {d : Nat} {x y : Operand} {T U : TypeId} {k : IntKind} {a b : Int}
theorem Ve (h : FL P r n ops Q rest (upd σ d (.bool (decide (a = b)))) w) (hx : evF σ x = .int k a := by exact rfl) (hy : evF σ y = .int k b := by exact rfl) (hd : Nat.blt d n = true := by exact rfl) :
    FL P r n ops Q ({ dst := some d, op := .binOp .eql T x y U, type := ty, pos := pos, after := after, guard := none } :: rest) σ w := FL_val (Gives.eql hx hy) hd h
theorem Vn (h : FL P r n ops Q rest (upd σ d (.bool (decide (a ≠ b)))) w) (hx : evF σ x = .int k a := by exact rfl) (hy : evF σ y = .int k b := by exact rfl) (hd : Nat.blt d n = true := by exact rfl) :
    FL P r n ops Q ({ dst := some d, op := .binOp .neq T x y U, type := ty, pos := pos, after := after, guard := none } :: rest) σ w := FL_val (Gives.neq hx hy) hd h
theorem Vl (h : FL P r n ops Q rest (upd σ d (.bool (decide (a < b)))) w) (hx : evF σ x = .int k a := by exact rfl) (hy : evF σ y = .int k b := by exact rfl) (hd : Nat.blt d n = true := by exact rfl) :
    FL P r n ops Q ({ dst := some d, op := .binOp .lss T x y U, type := ty, pos := pos, after := after, guard := none } :: rest) σ w := FL_val (Gives.lss hx hy) hd h
theorem Vg (h : FL P r n ops Q rest (upd σ d (.bool (decide (b < a)))) w) (hx : evF σ x = .int k a := by exact rfl) (hy : evF σ y = .int k b := by exact rfl) (hd : Nat.blt d n = true := by exact rfl) :
    FL P r n ops Q ({ dst := some d, op := .binOp .gtr T x y U, type := ty, pos := pos, after := after, guard := none } :: rest) σ w := FL_val (Gives.gtr hx hy) hd h
theorem Vx {i : Nat} {vs : Array Value} {v : Value} (h : FL P r n ops Q rest (upd σ d v) w) (hx : evF σ x = .tuple vs := by exact rfl) (hv : vs[i]? = some v := by exact rfl) (hd : Nat.blt d n = true := by exact rfl) :
    FL P r n ops Q ({ dst := some d, op := .extract x i, type := ty, pos := pos, after := after, guard := none } :: rest) σ w := FL_val (Gives.extract hx hv) hd h
theorem Vt {t : TypeId} [IsStr P t] {l : List UInt8} (h : FL P r n ops Q rest (upd σ d (.int .i64 l.length)) w) (hx : evF σ x = str l := by exact rfl) (hd : Nat.blt d n = true := by exact rfl) :
    FL P r n ops Q ({ dst := some d, op := .call { callee := .builtin .len, args := #[x], argTypes := #[t] }, type := ty, pos := pos, after := after, guard := none } :: rest) σ w := FL_val (Gives.lenT hx) hd h
theorem Vs {t e : TypeId} [IsSlice P t e] {A : Option Addr} {m c : Nat} (h : FL P r n ops Q rest (upd σ d (.int .i64 m)) w) (hx : evF σ x = .slice A m c := by exact rfl) (hd : Nat.blt d n = true := by exact rfl) :
    FL P r n ops Q ({ dst := some d, op := .call { callee := .builtin .len, args := #[x], argTypes := #[t] }, type := ty, pos := pos, after := after, guard := none } :: rest) σ w := FL_val (Gives.lenSlice hx) hd h
theorem Vf {s f k b : Nat} [FieldAt P s f k] (h : FL P r n ops Q rest (upd σ d (.pointer (some ⟨b, k, none⟩))) w) (hx : evF σ x = .pointer (some ⟨b, 0, none⟩) := by exact rfl) (hd : Nat.blt d n = true := by exact rfl) :
    FL P r n ops Q ({ dst := some d, op := .fieldAddr s x f, type := ty, pos := pos, after := after, guard := none } :: rest) σ w := FL_val (Gives.field0 hx) hd h
end
end
section
variable {P : Program} {n : Nat} {Q : Post} {σ : St} {w : World} {l : List ResultVar} {R : Value → World → Prop}
theorem Rb {r : Option Nat} {id : Nat} {y : Code} (h : Q .ret σ w) : FW P r n .ret (Qblk id (Qseq P r n y Q)) σ w := FW_ret (Qblk_ret (Qseq_ret h))
theorem Rs {r : Option Nat} {y : Code} (h : Q .ret σ w) : FW P r n .ret (Qseq P r n y Q) σ w := FW_ret (Qseq_ret h)
end
section
variable {P : Program} {r : Option Nat} {n : Nat} {ops : Array Oper} {Q : Post} {rest : List Oper} {σ : St} {w : World} {ty : TypeId} {pos : String} {after : Array Edge} {guard : Option (Nat × Bool)} {lv : List Bool} {pd : List (Nat × Bool)} {op : Op} {d : Nat} {v : Value}
theorem Gp (hok : okOps n ops = true) (i : Nat) (ho : ops[i]? = some { dst := some d, op := op, type := ty, pos := pos, after := after, guard := guard }) (hw : Region.wanted { dst := some d, op := op, type := ty, pos := pos, after := after, guard := guard } (yieldF ops σ) = true) (hg : ∀ w, Gives P (evF σ) op ty w v w)
    (h : FG P r n ops Q (lv.set i true) ((i, true) :: pd) (upd σ d v) w) (hck : quietOk ops lv (pd.map (·.1)) i = true := by kernel_rfl) : FG P r n ops Q lv pd σ w := FGp hok i ho hw hg hck h
theorem Gl (hok : okOps n ops = true) (i : Nat) (ho : ops[i]? = some { dst := some d, op := op, type := ty, pos := pos, after := after, guard := guard }) (hw : Region.wanted { dst := some d, op := op, type := ty, pos := pos, after := after, guard := guard } (yieldF ops σ) = true) (hg : Gives P (evF σ) op ty w v w)
    (h : FG P r n ops Q (lv.set i true) ((i, false) :: pd) (upd σ d v) w) (hck : quietOk ops lv (pd.map (·.1)) i = true := by kernel_rfl) : FG P r n ops Q lv pd σ w := FGl hok i ho hw hg hck h
theorem Gm (hok : okOps n ops = true) (i : Nat) {x : Operand} (h : FG P r n ops Q (lv.set i true) ((i, true) :: pd) (upd σ d v) w) (ho : ops[i]? = some { dst := some d, op := .move x, type := ty, pos := pos, after := after, guard := guard } := by exact rfl)
    (hw : Region.wanted { dst := some d, op := .move x, type := ty, pos := pos, after := after, guard := guard } (yieldF ops σ) = true := by kernel_rfl) (hv : evF σ x = v := by simp only [evF, upd_same, upd_ne, ne_eq, Nat.reduceEqDiff, not_false_eq_true]; rfl) (hck : quietOk ops lv (pd.map (·.1)) i = true := by kernel_rfl) : FG P r n ops Q lv pd σ w := FGmove hok i ho hw hv hck h
theorem Vv (hg : Gives P (evF σ) op ty w v w) (h : FL P r n ops Q rest (upd σ d v) w) (hd : Nat.blt d n = true := by exact rfl) : FL P r n ops Q ({ dst := some d, op := op, type := ty, pos := pos, after := after, guard := none } :: rest) σ w := FL_val hg hd h
theorem Cp {c : Operand} {x y : Code} {p : Prop} [Decidable p] (hc : evF σ c = .bool (decide p)) (ht : p → FW P r n x Q σ w) (hf : ¬ p → FW P r n y Q σ w) : FW P r n (.cond c x y) Q σ w := FW_condP hc ht hf
theorem Cd {c : Operand} {x y : Code} {t : Bool} (hc : evF σ c = .bool t) (ht : t = true → FW P r n x Q σ w) (hf : t = false → FW P r n y Q σ w) : FW P r n (.cond c x y) Q σ w := FW_cond hc ht hf
end
end Go.Mw
namespace Go.Proofs.YtolaedhdjcnijaaGreatDoor
open Go Go.Mw Go.Lib

def I (n : Int) : Value := .int .i64 n
def I32 (n : Int) : Value := .int .i32 n
def B (c : UInt8) : Value := .int .u8 c.toNat
def fits (n : Int) : Prop := -9223372036854775808 ≤ n ∧ n ≤ 9223372036854775807
theorem one_map {α : Type} {f : α → Value} (h : ∀ x, (f x).oneCell' = true) (l : List α) : ∀ u ∈ l.map f, u.oneCell' = true := fun u hu => by
 obtain ⟨x, _, rfl⟩ := List.mem_map.1 hu
 exact h x
theorem wrap8 {n : Int} (h0 : 0 ≤ n) : IntKind.u8.wrap n = ((n.toNat.toUInt8).toNat : Int) := by
 rw [IntKind.wrap_u8]
 simp
 omega
theorem wrap32 {n : Int} (h : -2147483648 ≤ n ∧ n ≤ 2147483647) : IntKind.i32.wrap n = n := by
 rw [IntKind.wrap_i32]; omega
end Go.Proofs.YtolaedhdjcnijaaGreatDoor
namespace Go.Mw
section gives
variable {P : Program} {ρ : Operand → Value} {ty : TypeId} {w : World} {x y : Operand} {T U : TypeId} {k : IntKind}
theorem Gives.remN {a b : Nat} (hx : ρ x = .int k a) (hy : ρ y = .int k b) (h0 : b ≠ 0) : Gives P ρ (.binOp .rem T x y U) ty w (.int k ((a % b : Nat) : Int)) w := by
 have := Gives.rem (P := P) (ty := ty) (w := w) (T := T) (U := U) hx hy (by omega)
 rwa [Int.tmod_eq_emod_of_nonneg (by omega), ← Int.natCast_emod] at this
theorem Gives.quoN {a b : Nat} (hx : ρ x = .int .i64 a) (hy : ρ y = .int .i64 b) (h0 : b ≠ 0) (h : a ≤ 9223372036854775807) : Gives P ρ (.binOp .quo T x y U) ty w (.int .i64 ((a / b : Nat) : Int)) w := by
 have := Gives.quo (P := P) (ty := ty) (w := w) (T := T) (U := U) hx hy (by omega)
 have e : a / b ≤ a := Nat.div_le_self a b
 have e2 : (a : Int).tdiv (b : Int) = ((a / b : Nat) : Int) := by rw [Int.tdiv_eq_ediv_of_nonneg (by omega)]; rfl
 obtain ⟨q, hq⟩ : ∃ q, q = a / b := ⟨_, rfl⟩
 rw [← hq] at e e2 ⊢
 rwa [e2, IntWalk.i64_in (q : Int) (by omega)] at this
theorem Gives.convB {s t : TypeId} {c : UInt8} [hs : IsInt P s .u8] [ht : IsInt P t .i64] (hx : ρ x = .int .u8 c.toNat) : Gives P ρ (.convert s t x) ty w (.int .i64 c.toNat) w := by
 have := Gives.conv (P := P) (ty := ty) (w := w) (s := s) (t := t) (k := .i64) hx
 have hc := c.toNat_lt
 rwa [IntWalk.i64_in _ (by omega)] at this
theorem Gives.convI64 {s t : TypeId} {j : IntKind} {a : Int} [hs : IsInt P s j] [ht : IsInt P t .i64] (hx : ρ x = .int j a) (h : -9223372036854775808 ≤ a ∧ a ≤ 9223372036854775807) : Gives P ρ (.convert s t x) ty w (.int .i64 a) w := by
 have := Gives.conv (P := P) (ty := ty) (w := w) (s := s) (t := t) (k := .i64) hx
 rwa [IntWalk.i64_in _ h] at this
theorem Gives.convI32 {s t : TypeId} {j : IntKind} {a : Int} [hs : IsInt P s j] [ht : IsInt P t .i32] (hx : ρ x = .int j a) (h : -2147483648 ≤ a ∧ a ≤ 2147483647) : Gives P ρ (.convert s t x) ty w (.int .i32 a) w := by
 have := Gives.conv (P := P) (ty := ty) (w := w) (s := s) (t := t) (k := .i32) hx
 rwa [Go.Proofs.YtolaedhdjcnijaaGreatDoor.wrap32 h] at this
theorem Gives.convU8 {s t : TypeId} {j : IntKind} {a : Int} [hs : IsInt P s j] [ht : IsInt P t .u8] (hx : ρ x = .int j a) (h : 0 ≤ a) : Gives P ρ (.convert s t x) ty w (.int .u8 (a.toNat.toUInt8).toNat) w := by
 have := Gives.conv (P := P) (ty := ty) (w := w) (s := s) (t := t) (k := .u8) hx
 rwa [Go.Proofs.YtolaedhdjcnijaaGreatDoor.wrap8 h] at this
end gives
end Go.Mw
namespace Go.Mw
open Go.RowKit Go.Proofs.YtolaedhdjcnijaaGreatDoor
section rules
variable {P : Program} {r : Option Nat} {n : Nat} {ops : Array Oper} {Q : Post} {rest : List Oper} {σ : St} {w w' w₀ : World} {S : Nat → Prop} {rs : List HP} {put : HP → List HP} {ty : TypeId} {pos : String} {after : Array Edge} {guard : Option (Nat × Bool)} {lv : List Bool} {pd pd' : List (Nat × Bool)}
def bytesH (e : Nat) (v : Value) (xs : List UInt8) : HP := rowH e 1 v xs.length (xs.map B)
theorem B_one (xs : List UInt8) : ∀ u ∈ xs.map B, u.oneCell' = true := one_map (fun _ => rfl) xs
theorem gives_appendB {ρ : Operand → Value} {x y : Operand} {t e b c : TypeId} [hs : IsSlice P t e] [hc : Cells P e 1 1] [hz : Zero P e (.int .u8 0)] {v : Value} {xs news : List UInt8}
    (H : Sep w₀ S (blk b (news.map B) e :: rs) w) (hx : ρ x = v) (hy : ρ y = .slice (some ⟨b, 0, none⟩) c c) (hc' : c = news.length) (hat : At rs (bytesH e v xs) put) (h63 : xs.length + news.length ≤ 140737488355328) :
    ∃ v' w', Gives P ρ (.call { callee := .builtin .append, args := #[x, y], argTypes := #[t, t] }) ty w v' w' ∧ Sep w₀ S (put (bytesH e v' (xs ++ news))) w' := by
  subst hc'
  have hr : RowAt w (some ⟨b, 0, none⟩) news.length 1 (news.map B) := Sep.blkRow H At0 (by simp)
  have H2 := H.drop0
  obtain ⟨F, hp, _, _⟩ := H2.focus hat
  obtain ⟨v', w', hrun, hown, hg, hb⟩ := run_append (P := P) (ty := ty) t e (z := .int .u8 0) (by decide) rfl v xs.length (xs.map B) hp.1 (some ⟨b, 0, none⟩) news.length news.length (news.map B) hr (B_one news) (by unfold maxLen; omega) (by omega)
  refine ⟨v', w', fun _ _ _ _ => ?_, ?_⟩
  · simp only [execOp, resolve, invoke, builtin, Sem.run_bind, Sem.run_pure, Result.andThen_ok, List.map_toArray, List.map_cons, List.map_nil, hx, hy, hrun]
  refine H2.rowTurn hat hg ?_ (by rcases hb with e | e <;> simp [e])
  rw [← List.map_append] at hown
  rw [List.length_append]
  exact hown
theorem FL_appendB {d : Nat} {x y : Operand} {t e b c : TypeId} [hs : IsSlice P t e] [hc : Cells P e 1 1] [hz : Zero P e (.int .u8 0)] {v : Value} {xs news : List UInt8}
    (H : Sep w₀ S (blk b (news.map B) e :: rs) w) (hat : At rs (bytesH e v xs) put) (h63 : xs.length + news.length ≤ 140737488355328) (hx : evF σ x = v := by exact rfl) (hy : evF σ y = .slice (some ⟨b, 0, none⟩) c c := by exact rfl) (hc' : c = news.length := by exact rfl) (hd : Nat.blt d n = true := by exact rfl)
    (h : ∀ v' w', Sep w₀ S (put (bytesH e v' (xs ++ news))) w' → FL P r n ops Q rest (upd σ d v') w') :
    FL P r n ops Q ({ dst := some d, op := .call { callee := .builtin .append, args := #[x, y], argTypes := #[t, t] }, type := ty, pos := pos, after := after, guard := none } :: rest) σ w := by
  obtain ⟨v', w', hg, hs'⟩ := gives_appendB (P := P) (t := t) (ty := ty) H hx hy hc' hat h63
  exact FL_val hg hd (h v' w' hs')
theorem FGappendB (hok : okOps n ops = true) (i : Nat) (pd' : List (Nat × Bool)) {d : Nat} {x y : Operand} {t e b c : TypeId} [hs : IsSlice P t e] [hc : Cells P e 1 1] [hz : Zero P e (.int .u8 0)] {v : Value} {xs news : List UInt8}
    (H : Sep w₀ S (blk b (news.map B) e :: rs) w) (hat : At rs (bytesH e v xs) put) (h63 : xs.length + news.length ≤ 140737488355328)
    (ho : ops[i]? = some { dst := some d, op := .call { callee := .builtin .append, args := #[x, y], argTypes := #[t, t] }, type := ty, pos := pos, after := after, guard := guard } := by exact rfl)
    (hw : Region.wanted { dst := some d, op := .call { callee := .builtin .append, args := #[x, y], argTypes := #[t, t] }, type := ty, pos := pos, after := after, guard := guard } (yieldF ops σ) = true := by kernel_rfl)
    (hx : evF σ x = v := by exact rfl) (hy : evF σ y = .slice (some ⟨b, 0, none⟩) c c := by exact rfl) (hc' : c = news.length := by exact rfl) (hck : effectOk ops lv (pd.map (·.1)) i = true := by kernel_rfl) (hpd : pd.filter (fun p => !((above ops i).contains p.1)) = pd' := by kernel_rfl)
    (h : ∀ v' w', Sep w₀ S (put (bytesH e v' (xs ++ news))) w' → Stab P ops (upd σ d v') w' pd' ∧ FG P r n ops Q (lv.set i true) pd' (upd σ d v') w') : FG P r n ops Q lv pd σ w :=
  FGval hok i pd' ho hw (gives_appendB (P := P) (t := t) (ty := ty) H hx hy hc' hat h63) hck hpd h
theorem Sep.nilBytes (H : Sep w₀ S rs w) (e : Nat) : Sep w₀ S (bytesH e (.slice none 0 0) [] :: rs) w := H.nilRow e 1
theorem Gives.bytesO {ρ : Operand → Value} {x : Operand} {s t e : TypeId} [hs : IsSlice P s e] [he : IsInt P e .u8] [hd : IsStr P t] {v : Value} {xs : List UInt8} (H : Sep w₀ S rs w) (hat : At rs (bytesH e v xs) put) (hx : ρ x = v) : Gives P ρ (.convert s t x) ty w (str xs) w := by
 obtain ⟨A, c, rfl, _, _, _⟩ := Sep.rowForm H hat
 exact Gives.bytesT hx (Sep.rowAt H hat)
theorem run_appendT {t u ty e : TypeId} [hs : IsSlice P t e] [hu : IsStr P u] [hc : Cells P e 1 1] [hz : Zero P e (.int .u8 0)] {v : Value} {xs news : List UInt8}
    (hown : w.ownsRow 0 e 1 v xs.length (xs.map B)) (h63 : xs.length + news.length ≤ 140737488355328) :
    ∃ v' w', (Builtin.append_ #[t, u] ty #[v, str news]).run P w = .ok v' w' ∧ w'.ownsRow 0 e 1 v' (xs ++ news).length ((xs ++ news).map B) ∧ w.grownBy w' v.ownBlock ∧ (v'.ownBlock = v.ownBlock ∨ v'.ownBlock = some w.heap.size ∨ v'.ownBlock = none) := by
  obtain ⟨i, hi, hsb⟩ := Option.map_eq_some_iff.1 hc.size
  simp only [Prod.mk.injEq] at hsb
  have hzero : i.zero = some (.int .u8 0) := by
    have := hz.run w
    simp [zeroValue, typeInfo, hi] at this
    cases hq : i.zero with
    | none => simp [hq] at this
    | some u => simp [hq] at this; rw [this]
  obtain ⟨v', w', hrun, h1, h2, h3⟩ := Lib.run_append_own_string (P := P) w 0 t u ty e i hs.und hu.und hi hzero hsb.1 hsb.2 v xs.length (xs.map B) hown ⟨news.toArray⟩ (by rw [size_mk]; unfold maxLen; omega) (by rw [size_mk]; omega) (Nat.zero_le _)
  have e1 : Lib.strCells ⟨news.toArray⟩ = news.map B := by simp only [Lib.strCells]; rfl
  rw [e1, size_mk] at h1
  refine ⟨v', w', hrun, by rw [List.length_append, List.map_append]; exact h1, h2, ?_⟩
  rcases hown.2 with ⟨rfl, h0⟩ | ⟨g, cap, cur, rfl, hbg, hg, hnc, hcm, hcs, htake⟩
  · by_cases hm : news.length = 0
    · rw [h3.2 ⟨rfl, by rw [size_mk]; exact hm⟩]; exact .inl rfl
    have hr := run_append_nil_string (P := P) w t u ty e i (.int .u8 0) hs.und hu.und hi hzero ⟨news.toArray⟩ (by rw [size_mk]; omega) (by rw [size_mk]; omega) (by rw [size_mk, hsb.2]; omega)
    have hx : xs.length = 0 := h0
    rw [hrun] at hr
    injection hr with hr _
    rw [hr]; exact .inr (.inl rfl)
  by_cases hroom : xs.length + news.length ≤ cap
  · have hcs' : cur.size = cap := by simpa using hcs
    have hr := Lib.run_append_room_string (P := P) w t u ty e i hs.und hu.und hi hsb.1 g xs.length cap cur hg ⟨news.toArray⟩ (by rw [size_mk]; exact hroom) (by rw [size_mk]; omega)
    rw [hrun] at hr
    injection hr with hr _
    rw [hr]; exact .inl rfl
  have holds : ∀ j u, (xs.map B)[j]? = some u → w.cell? ((⟨g, 0, none⟩ : Addr).add j) = some u := hown.cells (g := g) rfl
  have hr := Lib.run_append_grow_string (P := P) w t u ty e i (.int .u8 0) hs.und hu.und hi hzero ⟨g, 0, none⟩ xs.length cap (xs.map B) (by rw [hsb.1]; simp) holds ⟨news.toArray⟩ (by rw [size_mk]; omega) (by rw [size_mk]; omega) (by rw [size_mk, hsb.2]; exact growslice_fits (by omega) (by omega))
  rw [hrun] at hr
  injection hr with hr _
  rw [hr]; exact .inr (.inl rfl)
theorem FL_appendT {d : Nat} {x y : Operand} {t u e : TypeId} [hs : IsSlice P t e] [hu : IsStr P u] [hc : Cells P e 1 1] [hz : Zero P e (.int .u8 0)] {v : Value} {xs news : List UInt8}
    (H : Sep w₀ S rs w) (hat : At rs (bytesH e v xs) put) (h63 : xs.length + news.length ≤ 140737488355328) (hx : evF σ x = v := by exact rfl) (hy : evF σ y = str news := by exact rfl) (hd : Nat.blt d n = true := by exact rfl)
    (h : ∀ v' w', Sep w₀ S (put (bytesH e v' (xs ++ news))) w' → FL P r n ops Q rest (upd σ d v') w') :
    FL P r n ops Q ({ dst := some d, op := .call { callee := .builtin .append, args := #[x, y], argTypes := #[t, u] }, type := ty, pos := pos, after := after, guard := none } :: rest) σ w := by
  obtain ⟨F, hp, _, _⟩ := H.focus hat
  obtain ⟨v', w', hrun, hown, hg, hb⟩ := run_appendT (P := P) (t := t) (u := u) (ty := ty) (news := news) hp.1 h63
  refine FL_val (v := v') (w' := w') (fun _ _ _ _ => ?_) hd (h v' w' (H.rowTurn hat hg hown hb))
  simp only [execOp, resolve, invoke, builtin, Sem.run_bind, Sem.run_pure, Result.andThen_ok, List.map_toArray, List.map_cons, List.map_nil, hx, hy, hrun]
end rules
end Go.Mw
namespace Go.Mw
section
variable {P : Program} {r : Option Nat} {n : Nat} {ops : Array Oper} {Q : Post} {σ : St} {w : World} {ty : TypeId} {pos : String} {after : Array Edge} {guard : Option (Nat × Bool)} {lv : List Bool} {pd : List (Nat × Bool)}
theorem FGset (hok : okOps n ops = true) (e : Nat) (pd' : List (Nat × Bool)) {d : Nat} {x : Operand} {v : Value} (ho : ops[e]? = some { dst := some d, op := .assign x, type := ty, pos := pos, after := after, guard := guard } := by exact rfl)
    (hw : Region.wanted { dst := some d, op := .assign x, type := ty, pos := pos, after := after, guard := guard } (yieldF ops σ) = true := by kernel_rfl) (hx : evF σ x = v := by exact rfl) (hck : effectOk ops lv (pd.map (·.1)) e = true := by kernel_rfl)
    (hpd : pd.filter (fun p => !((above ops e).contains p.1)) = pd' := by kernel_rfl) (h : Stab P ops (upd σ d v) w pd' ∧ FG P r n ops Q (lv.set e true) pd' (upd σ d v) w) : FG P r n ops Q lv pd σ w :=
  FGval (C := fun v' w' => v' = v ∧ w' = w) hok e pd' ho hw ⟨v, w, Gives.assign hx, rfl, rfl⟩ hck hpd (fun v' w' h' => by rw [h'.1, h'.2]; exact h)
end
end Go.Mw
namespace Go.Proofs.YtolaedhdjcnijaaGreatDoor
open Go Go.Mw Go.Lib
set_option maxRecDepth 4000

def numI (l : List UInt8) : Nat := if l.length = 2 then (l.getD 0 0).toNat % 32 else if l.length = 3 then (l.getD 0 0).toNat % 16 else if l.length = 4 then (l.getD 0 0).toNat % 8 else (l.getD 0 0).toNat
def numAt (l : List UInt8) (i : Nat) : Nat := ((l.take i).drop 1).foldl (fun n c => 64 * n + c.toNat % 64) (numI l)
theorem numAt_one (l : List UInt8) : numAt l 1 = numI l := by
 unfold numAt
 rw [List.drop_of_length_le (by rw [List.length_take]; omega)]
 rfl
theorem numAt_succ {l : List UInt8} {i : Nat} (h1 : 1 ≤ i) (h : i < l.length) : numAt l (i + 1) = 64 * numAt l i + (l.getD i 0).toNat % 64 := by
 unfold numAt
 rw [List.take_add_one, List.getElem?_eq_getElem h, List.drop_append_of_le_length (by rw [List.length_take]; omega), List.foldl_append]
 simp [List.getD_eq_getElem?_getD, List.getElem?_eq_getElem h]
theorem numAt_lt {l : List UInt8} {i : Nat} (h1 : 1 ≤ i) (h4 : i ≤ 4) (h : i ≤ l.length) : numAt l i < 67108864 := by
 have a : numAt l 1 ≤ 255 := by
  rw [numAt_one]
  have := (l.getD 0 0).toNat_lt
  unfold numI
  repeat' split
  all_goals omega
 have hi : i = 1 ∨ i = 2 ∨ i = 3 ∨ i = 4 := by omega
 have s2 : 1 < l.length → numAt l 2 = 64 * numAt l 1 + (l.getD 1 0).toNat % 64 := numAt_succ (by omega)
 have s3 : 2 < l.length → numAt l 3 = 64 * numAt l 2 + (l.getD 2 0).toNat % 64 := numAt_succ (by omega)
 have s4 : 3 < l.length → numAt l 4 = 64 * numAt l 3 + (l.getD 3 0).toNat % 64 := numAt_succ (by omega)
 rcases hi with rfl | rfl | rfl | rfl <;> omega
theorem numAt_all {l : List UInt8} (h1 : 1 ≤ l.length) (h4 : l.length ≤ 4) : numAt l l.length = numL l := by
 match l, h1, h4 with
 | [a], _, _ => rfl
 | [a, b], _, _ => rfl
 | [a, b, c], _, _ => rfl
 | [a, b, c, d], _, _ => rfl
section
variable {w : World} {l : List UInt8}
theorem number_ok (h1 : 1 ≤ l.length) (h4 : l.length ≤ 4) : Rets Tryz.prog 240 [str l] w fun v w' => v = I32 (numL l) ∧ w = w' := by
 have H := Sep.start0 w
 have h8 := (l.getD 0 0).toNat_lt
 refine rets1 Tryz.func240 rfl rfl rfl rfl ?_
 refine Sr (Am ?_)
 refine Nx (Mv ?_)
 refine Vv (Gives.idxD (i := 0) rfl rfl (by omega)) (Vv (Gives.convB rfl) ?_)
 refine Am ?_
 refine Qn (FW_cut (fun _ : Unit => [(0, str l), (3, I (numI l))]) (fun _ w' => Sep w noB [] w' ∧ w = w') ?_ ?_)
 ·refine Sr (Mv ?_)
  refine Vt ?_
  refine Qn (FW_block (Sr (Ve ?_)))
  refine Am ?_
  refine Qn (Cp rfl (fun hc11 => ?_) (fun hc11 => ?_))
  ·have e0 : numI l = (l.getD 0 0).toNat % 32 := by unfold numI; rw [if_pos (by omega)]
   refine FW_region (Mv ?_)
   refine Vv (Gives.remN (b := 32) rfl rfl (by omega)) (Am ?_)
   refine FL_nil (Qblk_normal ?_)
   exact Qcut_normal () ⟨rfl, by rw [e0]; rfl, trivial⟩ ⟨H, rfl⟩
  refine Sr (Ve ?_)
  refine Am ?_
  refine Qn (Cp rfl (fun hc19 => ?_) (fun hc19 => ?_))
  ·have e0 : numI l = (l.getD 0 0).toNat % 16 := by unfold numI; rw [if_neg (by omega), if_pos (by omega)]
   refine FW_region (Mv ?_)
   refine Vv (Gives.remN (b := 16) rfl rfl (by omega)) (Am ?_)
   refine FL_nil (Qblk_normal ?_)
   exact Qcut_normal () ⟨rfl, by rw [e0]; rfl, trivial⟩ ⟨H, rfl⟩
  refine Sr (Ve ?_)
  refine Am ?_
  refine Qn (Cp rfl (fun hc27 => ?_) (fun hc27 => ?_))
  ·have e0 : numI l = (l.getD 0 0).toNat % 8 := by unfold numI; rw [if_neg (by omega), if_neg (by omega), if_pos (by omega)]
   refine FW_region (Mv ?_)
   refine Vv (Gives.remN (b := 8) rfl rfl (by omega)) (Am ?_)
   refine FL_nil (Qblk_normal ?_)
   exact Qcut_normal () ⟨rfl, by rw [e0]; rfl, trivial⟩ ⟨H, rfl⟩
  have e0 : numI l = (l.getD 0 0).toNat := by unfold numI; rw [if_neg (by omega), if_neg (by omega), if_neg (by omega)]
  refine FW_skip (Qblk_normal ?_)
  exact Qcut_normal () ⟨rfl, by rw [e0]; rfl, trivial⟩ ⟨H, rfl⟩
 intro _ τ w36 hI
 obtain ⟨H36, rfl⟩ := hI
 simp only [upds, like, upd_ds, und_ds]
 refine FW_seq (Sr (Am ?_))
 refine Qn (FW_block (FW_loop' (fun i : Nat => [(0, str l), (3, I (numAt l i)), (4, I i)]) (fun i w' => (1 ≤ i ∧ i ≤ l.length) ∧ w = w') (fun i _ => l.length - i) 1 ⟨rfl, by rw [numAt_one]; rfl, rfl, trivial⟩ ⟨⟨Nat.le_refl _, h1⟩, rfl⟩ (fun i τ w39 hI => ?_)))
 obtain ⟨⟨hi1, hi2⟩, rfl⟩ := hI
 have hb := numAt_lt hi1 (by omega) hi2
 try simp only [upds, like, upd_ds]
 refine FW_seq (Sr (Mv ?_))
 refine Mv ?_
 refine Vt ?_
 refine Vl ?_
 refine Qn (Cp rfl (fun hc44 => ?_) (fun hc44 => ?_))
 ·have hlt : i < l.length := by omega
  have hs := numAt_succ hi1 hlt
  have h9 := (l.getD i 0).toNat_lt
  refine Sk (FW_seq (FW_block (FW_region (Mv ?_))))
  refine Vv (Gives.mulI rfl rfl rfl (by omega)) (Mv ?_)
  refine Mv ?_
  refine Vv (Gives.idxD rfl rfl (by omega)) (Vv (Gives.convB rfl) ?_)
  refine Vv (Gives.remN (b := 64) rfl rfl (by omega)) (Vv (Gives.addI rfl rfl rfl (by omega)) ?_)
  refine Am ?_
  refine FL_nil (Qblk_normal (Qseq_normal (FW_region (Mv ?_))))
  refine Vv (Gives.addI rfl rfl rfl (by omega)) (Am ?_)
  refine FL_nil ?_
  exact Qround_normal (i + 1) ⟨rfl, by rw [hs, Int.natCast_add, Int.natCast_mul]; rfl, rfl, trivial⟩ ⟨⟨by omega, by omega⟩, rfl⟩ (by omega)
 have he : i = l.length := by omega
 refine FW_exit (Qseq_exit (Qround_exit (Qblk_exit (Qseq_normal (Sr (Mv ?_))))))
 refine Vv (Gives.convI32 rfl (by omega)) ?_
 rw [he, numAt_all h1 h4]
 refine Am ?_
 refine Qn (FW_ret (Qfn_ret (hR := ?_)))
 exact ⟨rfl, rfl⟩
theorem put_ok (r : Int) (hr : -2147483648 ≤ r ∧ r ≤ 2147483647) : Rets Tryz.prog 241 [I32 r] w fun v w' => v = .tuple #[str ((putL r).getD []), .bool (putL r).isSome] ∧ Kept noB w w' := by
 have H := Sep.start0 w
 refine rets1 Tryz.func241 rfl rfl rfl rfl ?_
 by_cases hv : r < 0 ∨ 1114111 < r ∨ (55296 ≤ r ∧ r ≤ 57343)
 ·have hp : putL r = none := if_pos hv
  rw [hp]
  refine Sr (Am ?_)
  refine Am ?_
  refine Nx (Mv ?_)
  refine Vv (Gives.convI64 rfl (by omega)) (Am ?_)
  refine Qn (FW_seq (Sr (Mv ?_)))
  refine Vl ?_
  refine Mv ?_
  refine FL_splitP (t := 10) rfl (fun hs9 => ?_) (fun hs9 => ?_)
  ·refine Of (Of (Pt ?_))
   refine Mv ?_
   refine Of (Of (Of (Ou (Ou (Of (Pt ?_))))))
   refine Qn (FW_cond_true rfl ?_)
   refine Sr (Am ?_)
   refine Am ?_
   refine Qn (Rs (Qfn_ret (hR := ?_)))
   exact ⟨rfl, H.kept⟩
  refine On (Mv ?_)
  refine On (Vg ?_)
  refine Pf ?_
  refine Mv ?_
  refine FL_splitP (t := 14) rfl (fun hs20 => ?_) (fun hs20 => ?_)
  ·refine Of (Of (Of (Ou (Ou (Of (Pt ?_))))))
   refine Qn (FW_cond_true rfl ?_)
   refine Sr (Am ?_)
   refine Am ?_
   refine Qn (Rs (Qfn_ret (hR := ?_)))
   exact ⟨rfl, H.kept⟩
  refine On (Mv ?_)
  refine On (Vv (Gives.geq rfl rfl) (On ?_))
  refine Mv ?_
  refine FL_splitP (t := 17) rfl (fun hs28 => ?_) (fun hs28 => ?_)
  ·refine On (Mv ?_)
   refine On (Vv (Gives.leq rfl rfl) (On ?_))
   refine Pt ?_
   refine Pf ?_
   refine Qn (Cp rfl (fun hc33 => ?_) (fun hc33 => ?_))
   ·refine Sr (Am ?_)
    refine Am ?_
    refine Qn (Rs (Qfn_ret (hR := ?_)))
    exact ⟨rfl, H.kept⟩
   omega
  omega
 have hp : putL r = some (encodeRune r) := if_neg hv
 rw [hp]
 obtain ⟨n, rfl⟩ : ∃ n : Nat, r = n := ⟨r.toNat, by omega⟩
 refine Sr (Am ?_)
 refine Am ?_
 refine Nx (Mv ?_)
 refine Vv (Gives.convI64 rfl (by omega)) (Am ?_)
 refine Qn (FW_seq (Sr (Mv ?_)))
 refine Vl ?_
 refine Mv ?_
 refine FL_splitP (t := 10) rfl (fun hs9 => ?_) (fun hs9 => ?_)
 ·omega
 refine On (Mv ?_)
 refine On (Vg ?_)
 refine Pf ?_
 refine Mv ?_
 refine FL_splitP (t := 14) rfl (fun hs15 => ?_) (fun hs15 => ?_)
 ·omega
 refine On (Mv ?_)
 refine On (Vv (Gives.geq rfl rfl) (On ?_))
 refine Mv ?_
 refine FL_splitP (t := 17) rfl (fun hs20 => ?_) (fun hs20 => ?_)
 ·refine On (Mv ?_)
  refine On (Vv (Gives.leq rfl rfl) (On ?_))
  refine Pt ?_
  refine Pf ?_
  refine Qn (Cp rfl (fun hc25 => ?_) (fun hc25 => ?_))
  ·omega
  refine Sk (Sr (Mv ?_))
  refine Vv (Gives.convU8 rfl (by omega)) (FL_buildSlice H (xs := [.tmp 23]) (out := [Value.int .u8 (((n : Int).toNat.toUInt8).toNat : Int)]) (Elems.one rfl rfl Elems.nil) rfl rfl rfl (fun b w30 H30 _ => ?_))
  refine Am ?_
  refine Qn (FW_seq (FW_block (Sr (Mv ?_))))
  refine Vv (Gives.geq rfl rfl) (Am ?_)
  refine Qn (Cp rfl (fun hc35 => ?_) (fun hc35 => ?_))
  ·have he : [Value.int .u8 ((((240 + (n / 262144 : Nat) : Int)).toNat.toUInt8).toNat : Int), Value.int .u8 ((((128 + (n / 4096 % 64 : Nat) : Int)).toNat.toUInt8).toNat : Int), Value.int .u8 ((((128 + (n / 64 % 64 : Nat) : Int)).toNat.toUInt8).toNat : Int), Value.int .u8 ((((128 + (n % 64 : Nat) : Int)).toNat.toUInt8).toNat : Int)] = (encodeRune n).map fun u => Value.int .u8 u.toNat := by rw [encodeRune, encodeRuneZ_four (by omega) (by omega)]; rfl
   refine FW_region (Mv ?_)
   refine Vv (Gives.quoN (b := 262144) rfl rfl (by omega) (by omega)) (Vv (Gives.addI rfl rfl rfl (by omega)) ?_)
   refine Vv (Gives.convU8 rfl (by omega)) (Mv ?_)
   refine Vv (Gives.quoN (b := 4096) rfl rfl (by omega) (by omega)) (Vv (Gives.remN (b := 64) rfl rfl (by omega)) ?_)
   refine Vv (Gives.addI rfl rfl rfl (by omega)) (Vv (Gives.convU8 rfl (by omega)) ?_)
   refine Mv ?_
   refine Vv (Gives.quoN (b := 64) rfl rfl (by omega) (by omega)) (Vv (Gives.remN (b := 64) rfl rfl (by omega)) ?_)
   refine Vv (Gives.addI rfl rfl rfl (by omega)) (Vv (Gives.convU8 rfl (by omega)) ?_)
   refine Mv ?_
   refine Vv (Gives.remN (b := 64) rfl rfl (by omega)) (Vv (Gives.addI rfl rfl rfl (by omega)) ?_)
   refine Vv (Gives.convU8 rfl (by omega)) (FL_buildSlice H30 (xs := [.tmp 31, .tmp 36, .tmp 41, .tmp 45]) (out := [Value.int .u8 ((((240 + (n / 262144 : Nat) : Int)).toNat.toUInt8).toNat : Int), Value.int .u8 ((((128 + (n / 4096 % 64 : Nat) : Int)).toNat.toUInt8).toNat : Int), Value.int .u8 ((((128 + (n / 64 % 64 : Nat) : Int)).toNat.toUInt8).toNat : Int), Value.int .u8 ((((128 + (n % 64 : Nat) : Int)).toNat.toUInt8).toNat : Int)]) (Elems.one rfl rfl (Elems.one rfl rfl (Elems.one rfl rfl (Elems.one rfl rfl Elems.nil)))) rfl rfl rfl (fun b2 w56 H56 _ => ?_))
   refine Am ?_
   refine FL_nil (Qblk_normal (Qseq_normal (Sr (Mv ?_))))
   refine Vv (Gives.bytesT (l := encodeRune n) rfl (by rw [← he]; exact Sep.blkRow H56 At0 rfl)) ?_
   refine Am ?_
   refine Am ?_
   refine Qn (FW_ret (Qfn_ret (hR := ?_)))
   exact ⟨rfl, H56.kept⟩
  refine Sr (Mv ?_)
  refine Vv (Gives.geq rfl rfl) (Am ?_)
  refine Qn (Cp rfl (fun hc66 => ?_) (fun hc66 => ?_))
  ·have he : [Value.int .u8 ((((224 + (n / 4096 : Nat) : Int)).toNat.toUInt8).toNat : Int), Value.int .u8 ((((128 + (n / 64 % 64 : Nat) : Int)).toNat.toUInt8).toNat : Int), Value.int .u8 ((((128 + (n % 64 : Nat) : Int)).toNat.toUInt8).toNat : Int)] = (encodeRune n).map fun u => Value.int .u8 u.toNat := by rw [encodeRune, encodeRuneZ_three (by omega)]; rfl
   refine FW_region (Mv ?_)
   refine Vv (Gives.quoN (b := 4096) rfl rfl (by omega) (by omega)) (Vv (Gives.addI rfl rfl rfl (by omega)) ?_)
   refine Vv (Gives.convU8 rfl (by omega)) (Mv ?_)
   refine Vv (Gives.quoN (b := 64) rfl rfl (by omega) (by omega)) (Vv (Gives.remN (b := 64) rfl rfl (by omega)) ?_)
   refine Vv (Gives.addI rfl rfl rfl (by omega)) (Vv (Gives.convU8 rfl (by omega)) ?_)
   refine Mv ?_
   refine Vv (Gives.remN (b := 64) rfl rfl (by omega)) (Vv (Gives.addI rfl rfl rfl (by omega)) ?_)
   refine Vv (Gives.convU8 rfl (by omega)) (FL_buildSlice H30 (xs := [.tmp 53, .tmp 58, .tmp 62]) (out := [Value.int .u8 ((((224 + (n / 4096 : Nat) : Int)).toNat.toUInt8).toNat : Int), Value.int .u8 ((((128 + (n / 64 % 64 : Nat) : Int)).toNat.toUInt8).toNat : Int), Value.int .u8 ((((128 + (n % 64 : Nat) : Int)).toNat.toUInt8).toNat : Int)]) (Elems.one rfl rfl (Elems.one rfl rfl (Elems.one rfl rfl Elems.nil))) rfl rfl rfl (fun b2 w82 H82 _ => ?_))
   refine Am ?_
   refine FL_nil (Qblk_normal (Qseq_normal (Sr (Mv ?_))))
   refine Vv (Gives.bytesT (l := encodeRune n) rfl (by rw [← he]; exact Sep.blkRow H82 At0 rfl)) ?_
   refine Am ?_
   refine Am ?_
   refine Qn (FW_ret (Qfn_ret (hR := ?_)))
   exact ⟨rfl, H82.kept⟩
  refine Sr (Mv ?_)
  refine Vv (Gives.geq rfl rfl) (Am ?_)
  refine Qn (Cp rfl (fun hc92 => ?_) (fun hc92 => ?_))
  ·have he : [Value.int .u8 ((((192 + (n / 64 : Nat) : Int)).toNat.toUInt8).toNat : Int), Value.int .u8 ((((128 + (n % 64 : Nat) : Int)).toNat.toUInt8).toNat : Int)] = (encodeRune n).map fun u => Value.int .u8 u.toNat := by rw [encodeRune, encodeRuneZ_two (by omega) (by omega)]; rfl
   refine FW_region (Mv ?_)
   refine Vv (Gives.quoN (b := 64) rfl rfl (by omega) (by omega)) (Vv (Gives.addI rfl rfl rfl (by omega)) ?_)
   refine Vv (Gives.convU8 rfl (by omega)) (Mv ?_)
   refine Vv (Gives.remN (b := 64) rfl rfl (by omega)) (Vv (Gives.addI rfl rfl rfl (by omega)) ?_)
   refine Vv (Gives.convU8 rfl (by omega)) (FL_buildSlice H30 (xs := [.tmp 70, .tmp 74]) (out := [Value.int .u8 ((((192 + (n / 64 : Nat) : Int)).toNat.toUInt8).toNat : Int), Value.int .u8 ((((128 + (n % 64 : Nat) : Int)).toNat.toUInt8).toNat : Int)]) (Elems.one rfl rfl (Elems.one rfl rfl Elems.nil)) rfl rfl rfl (fun b2 w103 H103 _ => ?_))
   refine Am ?_
   refine FL_nil (Qblk_normal (Qseq_normal (Sr (Mv ?_))))
   refine Vv (Gives.bytesT (l := encodeRune n) rfl (by rw [← he]; exact Sep.blkRow H103 At0 rfl)) ?_
   refine Am ?_
   refine Am ?_
   refine Qn (FW_ret (Qfn_ret (hR := ?_)))
   exact ⟨rfl, H103.kept⟩
  have he : [Value.int .u8 (((n : Int).toNat.toUInt8).toNat : Int)] = (encodeRune n).map fun u => Value.int .u8 u.toNat := by rw [encodeRune, encodeRuneZ_one (by omega) (by omega)]; rfl
  refine FW_skip (Qblk_normal (Qseq_normal (Sr (Mv ?_))))
  refine Vv (Gives.bytesT (l := encodeRune n) rfl (by rw [← he]; exact Sep.blkRow H30 At0 rfl)) ?_
  refine Am ?_
  refine Am ?_
  refine Qn (FW_ret (Qfn_ret (hR := ?_)))
  exact ⟨rfl, H30.kept⟩
 refine Of (Of (On (Pf ?_)))
 refine Pf ?_
 refine Qn (FW_cond_false rfl ?_)
 refine Sk (Sr (Mv ?_))
 refine Vv (Gives.convU8 rfl (by omega)) (FL_buildSlice H (xs := [.tmp 23]) (out := [Value.int .u8 (((n : Int).toNat.toUInt8).toNat : Int)]) (Elems.one rfl rfl Elems.nil) rfl rfl rfl (fun b w121 H121 _ => ?_))
 refine Am ?_
 refine Qn (FW_seq (FW_block (Sr (Mv ?_))))
 refine Vv (Gives.geq rfl rfl) (Am ?_)
 refine Qn (Cp rfl (fun hc126 => ?_) (fun hc126 => ?_))
 ·have he : [Value.int .u8 ((((240 + (n / 262144 : Nat) : Int)).toNat.toUInt8).toNat : Int), Value.int .u8 ((((128 + (n / 4096 % 64 : Nat) : Int)).toNat.toUInt8).toNat : Int), Value.int .u8 ((((128 + (n / 64 % 64 : Nat) : Int)).toNat.toUInt8).toNat : Int), Value.int .u8 ((((128 + (n % 64 : Nat) : Int)).toNat.toUInt8).toNat : Int)] = (encodeRune n).map fun u => Value.int .u8 u.toNat := by rw [encodeRune, encodeRuneZ_four (by omega) (by omega)]; rfl
  refine FW_region (Mv ?_)
  refine Vv (Gives.quoN (b := 262144) rfl rfl (by omega) (by omega)) (Vv (Gives.addI rfl rfl rfl (by omega)) ?_)
  refine Vv (Gives.convU8 rfl (by omega)) (Mv ?_)
  refine Vv (Gives.quoN (b := 4096) rfl rfl (by omega) (by omega)) (Vv (Gives.remN (b := 64) rfl rfl (by omega)) ?_)
  refine Vv (Gives.addI rfl rfl rfl (by omega)) (Vv (Gives.convU8 rfl (by omega)) ?_)
  refine Mv ?_
  refine Vv (Gives.quoN (b := 64) rfl rfl (by omega) (by omega)) (Vv (Gives.remN (b := 64) rfl rfl (by omega)) ?_)
  refine Vv (Gives.addI rfl rfl rfl (by omega)) (Vv (Gives.convU8 rfl (by omega)) ?_)
  refine Mv ?_
  refine Vv (Gives.remN (b := 64) rfl rfl (by omega)) (Vv (Gives.addI rfl rfl rfl (by omega)) ?_)
  refine Vv (Gives.convU8 rfl (by omega)) (FL_buildSlice H121 (xs := [.tmp 31, .tmp 36, .tmp 41, .tmp 45]) (out := [Value.int .u8 ((((240 + (n / 262144 : Nat) : Int)).toNat.toUInt8).toNat : Int), Value.int .u8 ((((128 + (n / 4096 % 64 : Nat) : Int)).toNat.toUInt8).toNat : Int), Value.int .u8 ((((128 + (n / 64 % 64 : Nat) : Int)).toNat.toUInt8).toNat : Int), Value.int .u8 ((((128 + (n % 64 : Nat) : Int)).toNat.toUInt8).toNat : Int)]) (Elems.one rfl rfl (Elems.one rfl rfl (Elems.one rfl rfl (Elems.one rfl rfl Elems.nil)))) rfl rfl rfl (fun b2 w147 H147 _ => ?_))
  refine Am ?_
  refine FL_nil (Qblk_normal (Qseq_normal (Sr (Mv ?_))))
  refine Vv (Gives.bytesT (l := encodeRune n) rfl (by rw [← he]; exact Sep.blkRow H147 At0 rfl)) ?_
  refine Am ?_
  refine Am ?_
  refine Qn (FW_ret (Qfn_ret (hR := ?_)))
  exact ⟨rfl, H147.kept⟩
 refine Sr (Mv ?_)
 refine Vv (Gives.geq rfl rfl) (Am ?_)
 refine Qn (Cp rfl (fun hc157 => ?_) (fun hc157 => ?_))
 ·have he : [Value.int .u8 ((((224 + (n / 4096 : Nat) : Int)).toNat.toUInt8).toNat : Int), Value.int .u8 ((((128 + (n / 64 % 64 : Nat) : Int)).toNat.toUInt8).toNat : Int), Value.int .u8 ((((128 + (n % 64 : Nat) : Int)).toNat.toUInt8).toNat : Int)] = (encodeRune n).map fun u => Value.int .u8 u.toNat := by rw [encodeRune, encodeRuneZ_three (by omega)]; rfl
  refine FW_region (Mv ?_)
  refine Vv (Gives.quoN (b := 4096) rfl rfl (by omega) (by omega)) (Vv (Gives.addI rfl rfl rfl (by omega)) ?_)
  refine Vv (Gives.convU8 rfl (by omega)) (Mv ?_)
  refine Vv (Gives.quoN (b := 64) rfl rfl (by omega) (by omega)) (Vv (Gives.remN (b := 64) rfl rfl (by omega)) ?_)
  refine Vv (Gives.addI rfl rfl rfl (by omega)) (Vv (Gives.convU8 rfl (by omega)) ?_)
  refine Mv ?_
  refine Vv (Gives.remN (b := 64) rfl rfl (by omega)) (Vv (Gives.addI rfl rfl rfl (by omega)) ?_)
  refine Vv (Gives.convU8 rfl (by omega)) (FL_buildSlice H121 (xs := [.tmp 53, .tmp 58, .tmp 62]) (out := [Value.int .u8 ((((224 + (n / 4096 : Nat) : Int)).toNat.toUInt8).toNat : Int), Value.int .u8 ((((128 + (n / 64 % 64 : Nat) : Int)).toNat.toUInt8).toNat : Int), Value.int .u8 ((((128 + (n % 64 : Nat) : Int)).toNat.toUInt8).toNat : Int)]) (Elems.one rfl rfl (Elems.one rfl rfl (Elems.one rfl rfl Elems.nil))) rfl rfl rfl (fun b2 w173 H173 _ => ?_))
  refine Am ?_
  refine FL_nil (Qblk_normal (Qseq_normal (Sr (Mv ?_))))
  refine Vv (Gives.bytesT (l := encodeRune n) rfl (by rw [← he]; exact Sep.blkRow H173 At0 rfl)) ?_
  refine Am ?_
  refine Am ?_
  refine Qn (FW_ret (Qfn_ret (hR := ?_)))
  exact ⟨rfl, H173.kept⟩
 refine Sr (Mv ?_)
 refine Vv (Gives.geq rfl rfl) (Am ?_)
 refine Qn (Cp rfl (fun hc183 => ?_) (fun hc183 => ?_))
 ·have he : [Value.int .u8 ((((192 + (n / 64 : Nat) : Int)).toNat.toUInt8).toNat : Int), Value.int .u8 ((((128 + (n % 64 : Nat) : Int)).toNat.toUInt8).toNat : Int)] = (encodeRune n).map fun u => Value.int .u8 u.toNat := by rw [encodeRune, encodeRuneZ_two (by omega) (by omega)]; rfl
  refine FW_region (Mv ?_)
  refine Vv (Gives.quoN (b := 64) rfl rfl (by omega) (by omega)) (Vv (Gives.addI rfl rfl rfl (by omega)) ?_)
  refine Vv (Gives.convU8 rfl (by omega)) (Mv ?_)
  refine Vv (Gives.remN (b := 64) rfl rfl (by omega)) (Vv (Gives.addI rfl rfl rfl (by omega)) ?_)
  refine Vv (Gives.convU8 rfl (by omega)) (FL_buildSlice H121 (xs := [.tmp 70, .tmp 74]) (out := [Value.int .u8 ((((192 + (n / 64 : Nat) : Int)).toNat.toUInt8).toNat : Int), Value.int .u8 ((((128 + (n % 64 : Nat) : Int)).toNat.toUInt8).toNat : Int)]) (Elems.one rfl rfl (Elems.one rfl rfl Elems.nil)) rfl rfl rfl (fun b2 w194 H194 _ => ?_))
  refine Am ?_
  refine FL_nil (Qblk_normal (Qseq_normal (Sr (Mv ?_))))
  refine Vv (Gives.bytesT (l := encodeRune n) rfl (by rw [← he]; exact Sep.blkRow H194 At0 rfl)) ?_
  refine Am ?_
  refine Am ?_
  refine Qn (FW_ret (Qfn_ret (hR := ?_)))
  exact ⟨rfl, H194.kept⟩
 have he : [Value.int .u8 (((n : Int).toNat.toUInt8).toNat : Int)] = (encodeRune n).map fun u => Value.int .u8 u.toNat := by rw [encodeRune, encodeRuneZ_one (by omega) (by omega)]; rfl
 refine FW_skip (Qblk_normal (Qseq_normal (Sr (Mv ?_))))
 refine Vv (Gives.bytesT (l := encodeRune n) rfl (by rw [← he]; exact Sep.blkRow H121 At0 rfl)) ?_
 refine Am ?_
 refine Am ?_
 refine Qn (FW_ret (Qfn_ret (hR := ?_)))
 exact ⟨rfl, H121.kept⟩
def nextP (l : List UInt8) : Nat × Nat := (nextL l).getD (0, 0)
def nextV (l : List UInt8) : Value := .tuple #[I32 (nextP l).1, I (nextP l).2, .bool (nextL l).isSome]
theorem nextP_some {l : List UInt8} (h : (nextL l).isSome = true) : nextL l = some (nextP l) := by
 unfold nextP
 cases e : nextL l with
 | none => rw [e] at h; cases h
 | some x => rfl
theorem nextP_le {l : List UInt8} (h : (nextL l).isSome = true) : 1 ≤ (nextP l).2 ∧ (nextP l).2 ≤ 4 ∧ (nextP l).2 ≤ l.length := by
 obtain ⟨a, b, c, _, _⟩ := next_ok (r := (nextP l).1) (n := (nextP l).2) (nextP_some h)
 exact ⟨a, b, c⟩
theorem valid_next {l : List UInt8} (hne : l ≠ []) : validD l = if (nextL l).isSome = true then validD (l.drop (nextP l).2) else false := by
 rw [valid_step hne]
 unfold nextP
 cases nextL l <;> rfl
theorem okL_iff {l : List UInt8} {n : Nat} : okL l n ↔ (putL (numL (l.take n))).isSome = true ∧ (putL (numL (l.take n))).getD [] = l.take n := by
 unfold okL
 cases h : putL (numL (l.take n)) with
 | none => simp
 | some x => simp
theorem numL_lt (l : List UInt8) : numL l < 67108864 := by
 unfold numL
 split
 ·rename_i a; have := a.toNat_lt; omega
 all_goals omega
theorem next_ok4 (l : List UInt8) (hl : l.length ≤ 9223372036854775807) : Rets Tryz.prog 188 [str l] w fun v w' => v = nextV l ∧ Kept noB w w' := by
 have H := Sep.start0 w
 refine rets1 Tryz.func188 rfl rfl rfl rfl ?_
 refine Sr (Am ?_)
 refine Am ?_
 refine Am ?_
 refine Qn (FW_seq (Sr (Am ?_)))
 refine Qn (FW_block (FW_loop' (fun n : Nat => [(0, str l), (5, I n)]) (fun n w' => ((1 ≤ n ∧ n ≤ 5) ∧ ∀ j, 1 ≤ j → j < n → j ≤ l.length → ¬ okL l j) ∧ Sep w noB [] w') (fun n _ => 5 - n) 1 ⟨rfl, rfl, trivial⟩ ⟨⟨⟨Nat.le_refl _, by omega⟩, fun j h1 h2 => by omega⟩, H⟩ (fun n τ w6 hI => ?_)))
 obtain ⟨⟨⟨h1, h5⟩, hno⟩, H6⟩ := hI
 try simp only [upds, like, upd_ds, und_ds]
 refine FW_seq (Sr (Mv ?_))
 refine Vv (Gives.leq rfl rfl) (Mv ?_)
 refine FL_splitP (t := 11) rfl (fun hs10 => ?_) (fun hs10 => ?_)
 ·refine On (Mv ?_)
  refine On (Mv ?_)
  refine On (Vt ?_)
  refine On (Vv (Gives.leq rfl rfl) (Pt ?_))
  refine Qn (Cp rfl (fun hc16 => ?_) (fun hc16 => ?_))
  ·have h4 : n ≤ 4 ∧ n ≤ l.length := by omega
   have htl : (l.take n).length = n := by rw [List.length_take]; omega
   have hnl := numL_lt (l.take n)
   refine Sk (FW_seq (FW_block (Sr (Mv ?_))))
   refine Mv ?_
   refine Vv (Gives.sliceToT rfl rfl (by omega)) (FL_callS (number_ok (l := l.take n) (by omega) (by omega)) (h := ?_))
   refine Am ?_
   refine Nx (Mv ?_)
   refine FL_callQ H6 (put_ok (numL (l.take n)) (by omega)) (h := fun w25 H25 _ => ?_)
   refine Mv ?_
   refine Vx ?_
   refine Vx ?_
   refine Am ?_
   refine Am ?_
   refine Nx (Mv ?_)
   refine Mv ?_
   refine FL_split (t := 29) rfl (fun hs33 => ?_) (fun hs33 => ?_)
   ·have hsome : (putL (numL (l.take n))).isSome = true := hs33
    refine On (Mv ?_)
    refine On (Mv ?_)
    refine On (Mv ?_)
    refine On (Vv (Gives.sliceToT rfl rfl (by omega)) (On ?_))
    refine Vv (Gives.eqlT rfl rfl) (Pt ?_)
    refine Qn (Cp rfl (fun hc41 => ?_) (fun hc41 => ?_))
    ·have hsm : nextL l = some (numL (l.take n), n) := next_of_ok h1 h4.1 h4.2 (okL_iff.2 ⟨hsome, hc41⟩)
     refine Sr (Mv ?_)
     refine Mv ?_
     refine Am ?_
     refine Am ?_
     refine Am ?_
     refine Qn (Rb (Qround_ret (Qblk_ret (Qseq_ret (Qfn_ret (hR := ?_))))))
     exact ⟨by unfold nextV nextP; rw [hsm]; rfl, H25.kept⟩
    have hno2 : ¬ okL l n := fun h => hc41 (okL_iff.1 h).2
    refine FW_skip (Qblk_normal (Qseq_normal (FW_region (Mv ?_))))
    refine Vv (Gives.addI rfl rfl rfl (by omega)) (Am ?_)
    refine FL_nil ?_
    exact Qround_normal (n + 1) ⟨rfl, rfl, trivial⟩ ⟨⟨⟨by omega, by omega⟩, fun j a b c => by
    rcases Nat.lt_or_ge j n with h | h
    ·exact hno j a h c
    have : j = n := by omega
    subst this
    exact hno2⟩, H25⟩ (by omega)
   have hno2 : ¬ okL l n := fun h => by rw [(okL_iff.1 h).1] at hs33; cases hs33
   refine Of (Of (Of (Of (Of (Pf ?_)))))
   refine Qn (FW_cond_false rfl ?_)
   refine FW_skip (Qblk_normal (Qseq_normal (FW_region (Mv ?_))))
   refine Vv (Gives.addI rfl rfl rfl (by omega)) (Am ?_)
   refine FL_nil ?_
   exact Qround_normal (n + 1) ⟨rfl, rfl, trivial⟩ ⟨⟨⟨by omega, by omega⟩, fun j a b c => by
   rcases Nat.lt_or_ge j n with h | h
   ·exact hno j a h c
   have : j = n := by omega
   subst this
   exact hno2⟩, H25⟩ (by omega)
  have hnone : nextL l = none := next_none fun j a b c => by
   rcases Nat.lt_or_ge j n with h | h
   ·exact hno j a h c
   exfalso; omega
  refine FW_exit (Qseq_exit (Qround_exit (Qblk_exit (Qseq_normal (Sr (Am ?_))))))
  refine Am ?_
  refine Am ?_
  refine Qn (FW_ret (Qfn_ret (hR := ?_)))
  exact ⟨by unfold nextV nextP; rw [hnone]; rfl, H6.kept⟩
 have hn5 : n = 5 := by omega
 have hnone : nextL l = none := next_none fun j a b c => hno j a (by omega) c
 refine Of (Of (Of (Of (Pf ?_))))
 refine Qn (FW_cond_false rfl ?_)
 refine FW_exit (Qseq_exit (Qround_exit (Qblk_exit (Qseq_normal (Sr (Am ?_))))))
 refine Am ?_
 refine Am ?_
 refine Qn (FW_ret (Qfn_ret (hR := ?_)))
 exact ⟨by unfold nextV nextP; rw [hnone]; rfl, H6.kept⟩
end
end Go.Proofs.YtolaedhdjcnijaaGreatDoor
