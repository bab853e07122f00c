/-
 Short names of the commonest rules of a walk.
-/
import Derived.Test.YtolaedhdjcnijaaGreatDoorKs4
import Derived.Test.YtolaedhdjcnijaaGreatDoorKs6
import Derived.Test.YtolaedhdjcnijaaGreatDoorKs5
import Derived.Test.YtolaedhdjcnijaaGreatDoorKs7
import Derived.Laws.BitsLemmas
import Derived.Lib.AppendStr
set_option linter.unusedVariables false
set_option linter.unusedSimpArgs false
namespace Go.Mw
section
variable {P : Program} {r : Option Nat} {n : Nat} {ops : Array Oper} {Q : Post} {rest : List Oper} {σ : St} {w w₀ : World} {S : Nat → Prop} {rs : List HP} {put : HP → List HP} {ty : TypeId} {pos : String} {after : Array Edge} {op : Op}
theorem Qn {y : Code} (h : FW P r n y Q σ w) : FL P r n ops (Qseq P r n y Q) [] σ w := FL_nil (Qseq_normal h)
theorem Sr {id : Nat} {l : List Oper} {y : Code} (h : FL P r n l.toArray (Qseq P r n y Q) l σ w) : FW P r n (.seq (.region id l.toArray false) y) Q σ w := FW_seq (FW_region h)
theorem Nx {id : Nat} {l : List Oper} {y : Code} (h : FL P r n l.toArray (Qseq P r n y Q) l σ w) : FL P r n ops (Qseq P r n (.seq (.region id l.toArray false) y) Q) [] σ w := FL_nil (Qseq_normal (FW_seq (FW_region h)))
theorem Sk {y : Code} (h : FW P r n y Q σ w) : FW P r n .skip (Qseq P r n y Q) σ w := FW_skip (Qseq_normal h)
theorem Mv {d : Nat} {x : Operand} {v : Value} (h : FL P r n ops Q rest (upd σ d v) w) (hv : evF σ x = v := by simp only [evF, upd_same, upd_ne, ne_eq, Nat.reduceEqDiff, not_false_eq_true]; rfl) (hd : Nat.blt d n = true := by exact rfl) :
    FL P r n ops Q ({ dst := some d, op := .move x, type := ty, pos := pos, after := after, guard := none } :: rest) σ w := FL_move hv hd h
theorem Am {d : Nat} {x : Operand} {v : Value} (h : FL P r n ops Q rest (upd σ d v) w) (hv : evF σ x = v := by simp only [evF, upd_same, upd_ne, ne_eq, Nat.reduceEqDiff, not_false_eq_true]; rfl) (hd : Nat.blt d n = true := by exact rfl) :
    FL P r n ops Q ({ dst := some d, op := .assign x, type := ty, pos := pos, after := after, guard := none } :: rest) σ w := FL_assign hv hd h
theorem Pt {d : Nat} {x y z : Operand} {v : Value} (h : FL P r n ops Q rest (upd σ d v) w) (hc : evF σ z = .bool true := by exact rfl) (hv : evF σ x = v := by simp only [evF, upd_same, upd_ne, ne_eq, Nat.reduceEqDiff, not_false_eq_true]; rfl) (hd : Nat.blt d n = true := by exact rfl) :
    FL P r n ops Q ({ dst := some d, op := .pick z x y, type := ty, pos := pos, after := after, guard := none } :: rest) σ w := FL_pickT hc hv hd h
theorem Pf {d : Nat} {x y z : Operand} {v : Value} (h : FL P r n ops Q rest (upd σ d v) w) (hc : evF σ z = .bool false := by exact rfl) (hv : evF σ y = v := by simp only [evF, upd_same, upd_ne, ne_eq, Nat.reduceEqDiff, not_false_eq_true]; rfl) (hd : Nat.blt d n = true := by exact rfl) :
    FL P r n ops Q ({ dst := some d, op := .pick z x y, type := ty, pos := pos, after := after, guard := none } :: rest) σ w := FL_pickF hc hv hd h
theorem On {dst : Option Nat} {j : Nat} {b : Bool} {t : Nat} (h : FL P r n ops Q ({ dst := dst, op := op, type := ty, pos := pos, after := after, guard := none } :: rest) σ w) (hj : (ops[j]?).bind (fun o : Oper => o.dst) = some t := by exact rfl) (hb : σ t = .bool b := by exact rfl) :
    FL P r n ops Q ({ dst := dst, op := op, type := ty, pos := pos, after := after, guard := some (j, b) } :: rest) σ w := FL_on hj hb h
theorem Of {dst : Option Nat} {j : Nat} {b : Bool} {t : Nat} (h : FL P r n ops Q rest (updO σ dst undef) w) (hj : (ops[j]?).bind (fun o : Oper => o.dst) = some t := by exact rfl) (hb : σ t = .bool (!b) := by exact rfl) (hd : okDst n dst = true := by exact rfl) :
    FL P r n ops Q ({ dst := dst, op := op, type := ty, pos := pos, after := after, guard := some (j, b) } :: rest) σ w := FL_off hj hb hd h
theorem Ou {dst : Option Nat} {j : Nat} {b : Bool} {t : Nat} (h : FL P r n ops Q rest (updO σ dst undef) w) (hj : (ops[j]?).bind (fun o : Oper => o.dst) = some t := by exact rfl) (hb : σ.get t = undef := by exact rfl) (hd : okDst n dst = true := by exact rfl) :
    FL P r n ops Q ({ dst := dst, op := op, type := ty, pos := pos, after := after, guard := some (j, b) } :: rest) σ w := FL_offU hj hb hd h
theorem Ld {d b o : Nat} {x : Operand} {T : TypeId} [OneCell P T] {cs : List Value} {E : TypeId} {v : Value} (H : Sep w₀ S rs w) (h : FL P r n ops Q rest (upd σ d v) w) (hx : evF σ x = .pointer (some ⟨b, o, none⟩) := by exact rfl) (hat : At rs (blk b cs E) put := by first | exact At0 | exact At1 | exact At2 | exact At3 | exact At4 | exact At5 | exact At6 | exact At7 | exact At8 | exact At9) (hv : cs[o]? = some v := by exact rfl) (hd : Nat.blt d n = true := by exact rfl) :
    FL P r n ops Q ({ dst := some d, op := .load T x, type := ty, pos := pos, after := after, guard := none } :: rest) σ w := FL_load H hx hat hv hd h
section
variable {d : Nat} {x y : Operand} {T U : TypeId} {k : IntKind} {a b : Int}
theorem Ve (h : FL P r n ops Q rest (upd σ d (.bool (decide (a = b)))) w) (hx : evF σ x = .int k a := by exact rfl) (hy : evF σ y = .int k b := by exact rfl) (hd : Nat.blt d n = true := by exact rfl) :
    FL P r n ops Q ({ dst := some d, op := .binOp .eql T x y U, type := ty, pos := pos, after := after, guard := none } :: rest) σ w := FL_val (Gives.eql hx hy) hd h
theorem Vn (h : FL P r n ops Q rest (upd σ d (.bool (decide (a ≠ b)))) w) (hx : evF σ x = .int k a := by exact rfl) (hy : evF σ y = .int k b := by exact rfl) (hd : Nat.blt d n = true := by exact rfl) :
    FL P r n ops Q ({ dst := some d, op := .binOp .neq T x y U, type := ty, pos := pos, after := after, guard := none } :: rest) σ w := FL_val (Gives.neq hx hy) hd h
theorem Vl (h : FL P r n ops Q rest (upd σ d (.bool (decide (a < b)))) w) (hx : evF σ x = .int k a := by exact rfl) (hy : evF σ y = .int k b := by exact rfl) (hd : Nat.blt d n = true := by exact rfl) :
    FL P r n ops Q ({ dst := some d, op := .binOp .lss T x y U, type := ty, pos := pos, after := after, guard := none } :: rest) σ w := FL_val (Gives.lss hx hy) hd h
theorem Vg (h : FL P r n ops Q rest (upd σ d (.bool (decide (b < a)))) w) (hx : evF σ x = .int k a := by exact rfl) (hy : evF σ y = .int k b := by exact rfl) (hd : Nat.blt d n = true := by exact rfl) :
    FL P r n ops Q ({ dst := some d, op := .binOp .gtr T x y U, type := ty, pos := pos, after := after, guard := none } :: rest) σ w := FL_val (Gives.gtr hx hy) hd h
theorem Vx {i : Nat} {vs : Array Value} {v : Value} (h : FL P r n ops Q rest (upd σ d v) w) (hx : evF σ x = .tuple vs := by exact rfl) (hv : vs[i]? = some v := by exact rfl) (hd : Nat.blt d n = true := by exact rfl) :
    FL P r n ops Q ({ dst := some d, op := .extract x i, type := ty, pos := pos, after := after, guard := none } :: rest) σ w := FL_val (Gives.extract hx hv) hd h
theorem Vt {t : TypeId} [IsStr P t] {l : List UInt8} (h : FL P r n ops Q rest (upd σ d (.int .i64 l.length)) w) (hx : evF σ x = str l := by exact rfl) (hd : Nat.blt d n = true := by exact rfl) :
    FL P r n ops Q ({ dst := some d, op := .call { callee := .builtin .len, args := #[x], argTypes := #[t] }, type := ty, pos := pos, after := after, guard := none } :: rest) σ w := FL_val (Gives.lenT hx) hd h
theorem Vs {t e : TypeId} [IsSlice P t e] {A : Option Addr} {m c : Nat} (h : FL P r n ops Q rest (upd σ d (.int .i64 m)) w) (hx : evF σ x = .slice A m c := by exact rfl) (hd : Nat.blt d n = true := by exact rfl) :
    FL P r n ops Q ({ dst := some d, op := .call { callee := .builtin .len, args := #[x], argTypes := #[t] }, type := ty, pos := pos, after := after, guard := none } :: rest) σ w := FL_val (Gives.lenSlice hx) hd h
theorem Vf {s f k b : Nat} [FieldAt P s f k] (h : FL P r n ops Q rest (upd σ d (.pointer (some ⟨b, k, none⟩))) w) (hx : evF σ x = .pointer (some ⟨b, 0, none⟩) := by exact rfl) (hd : Nat.blt d n = true := by exact rfl) :
    FL P r n ops Q ({ dst := some d, op := .fieldAddr s x f, type := ty, pos := pos, after := after, guard := none } :: rest) σ w := FL_val (Gives.field0 hx) hd h
end
end
section
variable {P : Program} {n : Nat} {Q : Post} {σ : St} {w : World} {l : List ResultVar} {R : Value → World → Prop}
theorem Rb {r : Option Nat} {id : Nat} {y : Code} (h : Q .ret σ w) : FW P r n .ret (Qblk id (Qseq P r n y Q)) σ w := FW_ret (Qblk_ret (Qseq_ret h))
theorem Rs {r : Option Nat} {y : Code} (h : Q .ret σ w) : FW P r n .ret (Qseq P r n y Q) σ w := FW_ret (Qseq_ret h)
end
section
variable {P : Program} {r : Option Nat} {n : Nat} {ops : Array Oper} {Q : Post} {rest : List Oper} {σ : St} {w : World} {ty : TypeId} {pos : String} {after : Array Edge} {guard : Option (Nat × Bool)} {lv : List Bool} {pd : List (Nat × Bool)} {op : Op} {d : Nat} {v : Value}
theorem Gp (hok : okOps n ops = true) (i : Nat) (ho : ops[i]? = some { dst := some d, op := op, type := ty, pos := pos, after := after, guard := guard }) (hw : Region.wanted { dst := some d, op := op, type := ty, pos := pos, after := after, guard := guard } (yieldF ops σ) = true) (hg : ∀ w, Gives P (evF σ) op ty w v w)
    (h : FG P r n ops Q (lv.set i true) ((i, true) :: pd) (upd σ d v) w) (hck : quietOk ops lv (pd.map (·.1)) i = true := by kernel_rfl) : FG P r n ops Q lv pd σ w := FGp hok i ho hw hg hck h
theorem Gl (hok : okOps n ops = true) (i : Nat) (ho : ops[i]? = some { dst := some d, op := op, type := ty, pos := pos, after := after, guard := guard }) (hw : Region.wanted { dst := some d, op := op, type := ty, pos := pos, after := after, guard := guard } (yieldF ops σ) = true) (hg : Gives P (evF σ) op ty w v w)
    (h : FG P r n ops Q (lv.set i true) ((i, false) :: pd) (upd σ d v) w) (hck : quietOk ops lv (pd.map (·.1)) i = true := by kernel_rfl) : FG P r n ops Q lv pd σ w := FGl hok i ho hw hg hck h
theorem Gm (hok : okOps n ops = true) (i : Nat) {x : Operand} (h : FG P r n ops Q (lv.set i true) ((i, true) :: pd) (upd σ d v) w) (ho : ops[i]? = some { dst := some d, op := .move x, type := ty, pos := pos, after := after, guard := guard } := by exact rfl)
    (hw : Region.wanted { dst := some d, op := .move x, type := ty, pos := pos, after := after, guard := guard } (yieldF ops σ) = true := by kernel_rfl) (hv : evF σ x = v := by simp only [evF, upd_same, upd_ne, ne_eq, Nat.reduceEqDiff, not_false_eq_true]; rfl) (hck : quietOk ops lv (pd.map (·.1)) i = true := by kernel_rfl) : FG P r n ops Q lv pd σ w := FGmove hok i ho hw hv hck h
theorem Vv (hg : Gives P (evF σ) op ty w v w) (h : FL P r n ops Q rest (upd σ d v) w) (hd : Nat.blt d n = true := by exact rfl) : FL P r n ops Q ({ dst := some d, op := op, type := ty, pos := pos, after := after, guard := none } :: rest) σ w := FL_val hg hd h
theorem Cp {c : Operand} {x y : Code} {p : Prop} [Decidable p] (hc : evF σ c = .bool (decide p)) (ht : p → FW P r n x Q σ w) (hf : ¬ p → FW P r n y Q σ w) : FW P r n (.cond c x y) Q σ w := FW_condP hc ht hf
theorem Cd {c : Operand} {x y : Code} {t : Bool} (hc : evF σ c = .bool t) (ht : t = true → FW P r n x Q σ w) (hf : t = false → FW P r n y Q σ w) : FW P r n (.cond c x y) Q σ w := FW_cond hc ht hf
end
end Go.Mw
namespace Go.Proofs.YtolaedhdjcnijaaGreatDoor
open Go Go.Mw Go.Lib

def I (n : Int) : Value := .int .i64 n
def I32 (n : Int) : Value := .int .i32 n
def B (c : UInt8) : Value := .int .u8 c.toNat
def fits (n : Int) : Prop := -9223372036854775808 ≤ n ∧ n ≤ 9223372036854775807
theorem one_map {α : Type} {f : α → Value} (h : ∀ x, (f x).oneCell' = true) (l : List α) : ∀ u ∈ l.map f, u.oneCell' = true := fun u hu => by
 obtain ⟨x, _, rfl⟩ := List.mem_map.1 hu
 exact h x
theorem wrap8 {n : Int} (h0 : 0 ≤ n) : IntKind.u8.wrap n = ((n.toNat.toUInt8).toNat : Int) := by
 rw [IntKind.wrap_u8]
 simp
 omega
theorem wrap32 {n : Int} (h : -2147483648 ≤ n ∧ n ≤ 2147483647) : IntKind.i32.wrap n = n := by
 rw [IntKind.wrap_i32]; omega
theorem wrap64 {n : Int} (h : -9223372036854775808 ≤ n ∧ n ≤ 9223372036854775807) : IntKind.i64.wrap n = n := IntWalk.i64_in _ h
end Go.Proofs.YtolaedhdjcnijaaGreatDoor
namespace Go.Mw
section gives
variable {P : Program} {ρ : Operand → Value} {ty : TypeId} {w : World} {x y : Operand} {T U : TypeId} {k : IntKind}
theorem Gives.convI32 {s t : TypeId} {j : IntKind} {a : Int} [hs : IsInt P s j] [ht : IsInt P t .i32] (hx : ρ x = .int j a) (h : -2147483648 ≤ a ∧ a ≤ 2147483647) : Gives P ρ (.convert s t x) ty w (.int .i32 a) w := by
 have := Gives.conv (P := P) (ty := ty) (w := w) (s := s) (t := t) (k := .i32) hx
 rwa [Go.Proofs.YtolaedhdjcnijaaGreatDoor.wrap32 h] at this
theorem Gives.convU8 {s t : TypeId} {j : IntKind} {a : Int} [hs : IsInt P s j] [ht : IsInt P t .u8] (hx : ρ x = .int j a) (h : 0 ≤ a) : Gives P ρ (.convert s t x) ty w (.int .u8 (a.toNat.toUInt8).toNat) w := by
 have := Gives.conv (P := P) (ty := ty) (w := w) (s := s) (t := t) (k := .u8) hx
 rwa [Go.Proofs.YtolaedhdjcnijaaGreatDoor.wrap8 h] at this
end gives
end Go.Mw
namespace Go.Mw
open Go.RowKit Go.Proofs.YtolaedhdjcnijaaGreatDoor
section rules
variable {P : Program} {r : Option Nat} {n : Nat} {ops : Array Oper} {Q : Post} {rest : List Oper} {σ : St} {w w' w₀ : World} {S : Nat → Prop} {rs : List HP} {put : HP → List HP} {ty : TypeId} {pos : String} {after : Array Edge} {guard : Option (Nat × Bool)} {lv : List Bool} {pd pd' : List (Nat × Bool)}
def bytesH (e : Nat) (v : Value) (xs : List UInt8) : HP := rowH e 1 v xs.length (xs.map B)
theorem B_one (xs : List UInt8) : ∀ u ∈ xs.map B, u.oneCell' = true := one_map (fun _ => rfl) xs
theorem gives_appendB {ρ : Operand → Value} {x y : Operand} {t e b c : TypeId} [hs : IsSlice P t e] [hc : Cells P e 1 1] [hz : Zero P e (.int .u8 0)] {v : Value} {xs news : List UInt8}
    (H : Sep w₀ S (blk b (news.map B) e :: rs) w) (hx : ρ x = v) (hy : ρ y = .slice (some ⟨b, 0, none⟩) c c) (hc' : c = news.length) (hat : At rs (bytesH e v xs) put) (h63 : xs.length + news.length ≤ 140737488355328) :
    ∃ v' w', Gives P ρ (.call { callee := .builtin .append, args := #[x, y], argTypes := #[t, t] }) ty w v' w' ∧ Sep w₀ S (put (bytesH e v' (xs ++ news))) w' := by
  subst hc'
  have hr : RowAt w (some ⟨b, 0, none⟩) news.length 1 (news.map B) := Sep.blkRow H At0 (by simp)
  have H2 := H.drop0
  obtain ⟨F, hp, _, _⟩ := H2.focus hat
  obtain ⟨v', w', hrun, hown, hg, hb⟩ := run_append (P := P) (ty := ty) t e (z := .int .u8 0) (by decide) rfl v xs.length (xs.map B) hp.1 (some ⟨b, 0, none⟩) news.length news.length (news.map B) hr (B_one news) (by unfold maxLen; omega) (by omega)
  refine ⟨v', w', fun _ _ _ _ => ?_, ?_⟩
  · simp only [execOp, resolve, invoke, builtin, Sem.run_bind, Sem.run_pure, Result.andThen_ok, List.map_toArray, List.map_cons, List.map_nil, hx, hy, hrun]
  refine H2.rowTurn hat hg ?_ (by rcases hb with e | e <;> simp [e])
  rw [← List.map_append] at hown
  rw [List.length_append]
  exact hown
theorem FL_appendB {d : Nat} {x y : Operand} {t e b c : TypeId} [hs : IsSlice P t e] [hc : Cells P e 1 1] [hz : Zero P e (.int .u8 0)] {v : Value} {xs news : List UInt8}
    (H : Sep w₀ S (blk b (news.map B) e :: rs) w) (hat : At rs (bytesH e v xs) put) (h63 : xs.length + news.length ≤ 140737488355328) (hx : evF σ x = v := by exact rfl) (hy : evF σ y = .slice (some ⟨b, 0, none⟩) c c := by exact rfl) (hc' : c = news.length := by exact rfl) (hd : Nat.blt d n = true := by exact rfl)
    (h : ∀ v' w', Sep w₀ S (put (bytesH e v' (xs ++ news))) w' → FL P r n ops Q rest (upd σ d v') w') :
    FL P r n ops Q ({ dst := some d, op := .call { callee := .builtin .append, args := #[x, y], argTypes := #[t, t] }, type := ty, pos := pos, after := after, guard := none } :: rest) σ w := by
  obtain ⟨v', w', hg, hs'⟩ := gives_appendB (P := P) (t := t) (ty := ty) H hx hy hc' hat h63
  exact FL_val hg hd (h v' w' hs')
theorem FGappendB (hok : okOps n ops = true) (i : Nat) (pd' : List (Nat × Bool)) {d : Nat} {x y : Operand} {t e b c : TypeId} [hs : IsSlice P t e] [hc : Cells P e 1 1] [hz : Zero P e (.int .u8 0)] {v : Value} {xs news : List UInt8}
    (H : Sep w₀ S (blk b (news.map B) e :: rs) w) (hat : At rs (bytesH e v xs) put) (h63 : xs.length + news.length ≤ 140737488355328)
    (ho : ops[i]? = some { dst := some d, op := .call { callee := .builtin .append, args := #[x, y], argTypes := #[t, t] }, type := ty, pos := pos, after := after, guard := guard } := by exact rfl)
    (hw : Region.wanted { dst := some d, op := .call { callee := .builtin .append, args := #[x, y], argTypes := #[t, t] }, type := ty, pos := pos, after := after, guard := guard } (yieldF ops σ) = true := by kernel_rfl)
    (hx : evF σ x = v := by exact rfl) (hy : evF σ y = .slice (some ⟨b, 0, none⟩) c c := by exact rfl) (hc' : c = news.length := by exact rfl) (hck : effectOk ops lv (pd.map (·.1)) i = true := by kernel_rfl) (hpd : pd.filter (fun p => !((above ops i).contains p.1)) = pd' := by kernel_rfl)
    (h : ∀ v' w', Sep w₀ S (put (bytesH e v' (xs ++ news))) w' → Stab P ops (upd σ d v') w' pd' ∧ FG P r n ops Q (lv.set i true) pd' (upd σ d v') w') : FG P r n ops Q lv pd σ w :=
  FGval hok i pd' ho hw (gives_appendB (P := P) (t := t) (ty := ty) H hx hy hc' hat h63) hck hpd h
theorem Sep.nilBytes (H : Sep w₀ S rs w) (e : Nat) : Sep w₀ S (bytesH e (.slice none 0 0) [] :: rs) w := H.nilRow e 1
theorem Gives.bytesO {ρ : Operand → Value} {x : Operand} {s t e : TypeId} [hs : IsSlice P s e] [he : IsInt P e .u8] [hd : IsStr P t] {v : Value} {xs : List UInt8} (H : Sep w₀ S rs w) (hat : At rs (bytesH e v xs) put) (hx : ρ x = v) : Gives P ρ (.convert s t x) ty w (str xs) w := by
 obtain ⟨A, c, rfl, _, _, _⟩ := Sep.rowForm H hat
 exact Gives.bytesT hx (Sep.rowAt H hat)
theorem run_appendT {t u ty e : TypeId} [hs : IsSlice P t e] [hu : IsStr P u] [hc : Cells P e 1 1] [hz : Zero P e (.int .u8 0)] {v : Value} {xs news : List UInt8}
    (hown : w.ownsRow 0 e 1 v xs.length (xs.map B)) (h63 : xs.length + news.length ≤ 140737488355328) :
    ∃ v' w', (Builtin.append_ #[t, u] ty #[v, str news]).run P w = .ok v' w' ∧ w'.ownsRow 0 e 1 v' (xs ++ news).length ((xs ++ news).map B) ∧ w.grownBy w' v.ownBlock ∧ (v'.ownBlock = v.ownBlock ∨ v'.ownBlock = some w.heap.size ∨ v'.ownBlock = none) := by
  obtain ⟨i, hi, hsb⟩ := Option.map_eq_some_iff.1 hc.size
  simp only [Prod.mk.injEq] at hsb
  have hzero : i.zero = some (.int .u8 0) := by
    have := hz.run w
    simp [zeroValue, typeInfo, hi] at this
    cases hq : i.zero with
    | none => simp [hq] at this
    | some u => simp [hq] at this; rw [this]
  obtain ⟨v', w', hrun, h1, h2, h3⟩ := Lib.run_append_own_string (P := P) w 0 t u ty e i hs.und hu.und hi hzero hsb.1 hsb.2 v xs.length (xs.map B) hown ⟨news.toArray⟩ (by rw [size_mk]; unfold maxLen; omega) (by rw [size_mk]; omega) (Nat.zero_le _)
  have e1 : Lib.strCells ⟨news.toArray⟩ = news.map B := by simp only [Lib.strCells]; rfl
  rw [e1, size_mk] at h1
  refine ⟨v', w', hrun, by rw [List.length_append, List.map_append]; exact h1, h2, ?_⟩
  rcases hown.2 with ⟨rfl, h0⟩ | ⟨g, cap, cur, rfl, hbg, hg, hnc, hcm, hcs, htake⟩
  · by_cases hm : news.length = 0
    · rw [h3.2 ⟨rfl, by rw [size_mk]; exact hm⟩]; exact .inl rfl
    have hr := run_append_nil_string (P := P) w t u ty e i (.int .u8 0) hs.und hu.und hi hzero ⟨news.toArray⟩ (by rw [size_mk]; omega) (by rw [size_mk]; omega) (by rw [size_mk, hsb.2]; omega)
    have hx : xs.length = 0 := h0
    rw [hrun] at hr
    injection hr with hr _
    rw [hr]; exact .inr (.inl rfl)
  by_cases hroom : xs.length + news.length ≤ cap
  · have hcs' : cur.size = cap := by simpa using hcs
    have hr := Lib.run_append_room_string (P := P) w t u ty e i hs.und hu.und hi hsb.1 g xs.length cap cur hg ⟨news.toArray⟩ (by rw [size_mk]; exact hroom) (by rw [size_mk]; omega)
    rw [hrun] at hr
    injection hr with hr _
    rw [hr]; exact .inl rfl
  have holds : ∀ j u, (xs.map B)[j]? = some u → w.cell? ((⟨g, 0, none⟩ : Addr).add j) = some u := hown.cells (g := g) rfl
  have hr := Lib.run_append_grow_string (P := P) w t u ty e i (.int .u8 0) hs.und hu.und hi hzero ⟨g, 0, none⟩ xs.length cap (xs.map B) (by rw [hsb.1]; simp) holds ⟨news.toArray⟩ (by rw [size_mk]; omega) (by rw [size_mk]; omega) (by rw [size_mk, hsb.2]; exact growslice_fits (by omega) (by omega))
  rw [hrun] at hr
  injection hr with hr _
  rw [hr]; exact .inr (.inl rfl)
theorem FL_appendT {d : Nat} {x y : Operand} {t u e : TypeId} [hs : IsSlice P t e] [hu : IsStr P u] [hc : Cells P e 1 1] [hz : Zero P e (.int .u8 0)] {v : Value} {xs news : List UInt8}
    (H : Sep w₀ S rs w) (hat : At rs (bytesH e v xs) put) (h63 : xs.length + news.length ≤ 140737488355328) (hx : evF σ x = v := by exact rfl) (hy : evF σ y = str news := by exact rfl) (hd : Nat.blt d n = true := by exact rfl)
    (h : ∀ v' w', Sep w₀ S (put (bytesH e v' (xs ++ news))) w' → FL P r n ops Q rest (upd σ d v') w') :
    FL P r n ops Q ({ dst := some d, op := .call { callee := .builtin .append, args := #[x, y], argTypes := #[t, u] }, type := ty, pos := pos, after := after, guard := none } :: rest) σ w := by
  obtain ⟨F, hp, _, _⟩ := H.focus hat
  obtain ⟨v', w', hrun, hown, hg, hb⟩ := run_appendT (P := P) (t := t) (u := u) (ty := ty) (news := news) hp.1 h63
  refine FL_val (v := v') (w' := w') (fun _ _ _ _ => ?_) hd (h v' w' (H.rowTurn hat hg hown hb))
  simp only [execOp, resolve, invoke, builtin, Sem.run_bind, Sem.run_pure, Result.andThen_ok, List.map_toArray, List.map_cons, List.map_nil, hx, hy, hrun]
end rules
end Go.Mw
namespace Go.Mw
section
variable {P : Program} {r : Option Nat} {n : Nat} {ops : Array Oper} {Q : Post} {σ : St} {w : World} {ty : TypeId} {pos : String} {after : Array Edge} {guard : Option (Nat × Bool)} {lv : List Bool} {pd : List (Nat × Bool)}
theorem FGset (hok : okOps n ops = true) (e : Nat) (pd' : List (Nat × Bool)) {d : Nat} {x : Operand} {v : Value} (ho : ops[e]? = some { dst := some d, op := .assign x, type := ty, pos := pos, after := after, guard := guard } := by exact rfl)
    (hw : Region.wanted { dst := some d, op := .assign x, type := ty, pos := pos, after := after, guard := guard } (yieldF ops σ) = true := by kernel_rfl) (hx : evF σ x = v := by exact rfl) (hck : effectOk ops lv (pd.map (·.1)) e = true := by kernel_rfl)
    (hpd : pd.filter (fun p => !((above ops e).contains p.1)) = pd' := by kernel_rfl) (h : Stab P ops (upd σ d v) w pd' ∧ FG P r n ops Q (lv.set e true) pd' (upd σ d v) w) : FG P r n ops Q lv pd σ w :=
  FGval (C := fun v' w' => v' = v ∧ w' = w) hok e pd' ho hw ⟨v, w, Gives.assign hx, rfl, rfl⟩ hck hpd (fun v' w' h' => by rw [h'.1, h'.2]; exact h)
end
end Go.Mw
namespace Go.Proofs.YtolaedhdjcnijaaGreatDoor
open Go Go.Mw Go.Lib
set_option maxRecDepth 4000

section
variable {w : World} {l : List UInt8}
def nextP (l : List UInt8) : Nat × Nat := (nextL l).getD (0, 0)
end

section
variable {w : World} {l : List UInt8}
end

theorem quoteB_nat (c : UInt8) : quoteB c = if c.toNat = 34 then [92, 34] else if c.toNat = 92 then [92, 92] else if c.toNat = 8 then [92, 98] else if c.toNat = 12 then [92, 102] else if c.toNat = 10 then [92, 110] else if c.toNat = 13 then [92, 114] else if c.toNat = 9 then [92, 116]
    else if c.toNat < 32 then [92, 117, 48, 48, hexB (c.toNat / 16), hexB (c.toNat % 16)] else [c] := by
  have e : ∀ k : UInt8, (c = k) = (c.toNat = k.toNat) := fun k => propext UInt8.toNat_inj.symm
  have e2 : (c < 32) = (c.toNat < 32) := propext UInt8.lt_iff_toNat_lt
  unfold quoteB
  simp only [e, e2]
  rfl
theorem len_quoteB (c : UInt8) : (quoteB c).length ≤ 6 := by
 unfold quoteB
 repeat' split
 all_goals simp
def outQ (l : List UInt8) (i : Nat) : List UInt8 := 34 :: (l.take i).flatMap quoteB
theorem outQ_len (l : List UInt8) (i : Nat) : (outQ l i).length ≤ 6 * i + 1 := by
 have h := len_flat len_quoteB (l.take i)
 have h2 : (l.take i).length ≤ i := by rw [List.length_take]; omega
 unfold outQ
 simp only [List.length_cons]
 omega
section
variable {w : World} {l : List UInt8}
def quoteP (l : List UInt8) : List UInt8 × Int := if validD l = true then (quoteL l, 0) else ([], 40)
end

theorem digitL_lt {c : UInt8} {d : Nat} (e : digitL c = some d) : d < 16 := by
 have := c.toNat_lt
 unfold digitL at e
 repeat' split at e
 all_goals first | (injection e with e; omega) | cases e
section
variable {w : World} {l : List UInt8}
end

section
variable {w : World} {l : List UInt8}
end

def unqAt (l : List UInt8) (i : Nat) (out : List UInt8) : List UInt8 × Nat × Int := unqR (l.length + 1 - i) (l.drop i) i out
theorem unqAt_end {l : List UInt8} {i : Nat} {out : List UInt8} (h : l.length ≤ i) : unqAt l i out = ([], 0, 3) := by
 unfold unqAt
 rw [List.drop_of_length_le h]
 cases l.length + 1 - i <;> rfl
theorem unqAt_more {l : List UInt8} {i f : Nat} {out : List UInt8} (hf : l.length - i < f) : unqR f (l.drop i) i out = unqAt l i out := by
 rcases Nat.lt_or_ge i (l.length + 1) with h | h
 ·exact unqR_more (by rw [List.length_drop]; omega) (by rw [List.length_drop]; omega)
 rw [unqAt_end (by omega), List.drop_of_length_le (by omega)]
 cases f <;> rfl
theorem drop_cons {l : List UInt8} {i : Nat} (h : i < l.length) : l.drop i = l.getD i 0 :: l.drop (i + 1) := by
 rw [List.drop_eq_getElem_cons h, List.getD_eq_getElem?_getD, List.getElem?_eq_getElem h]; rfl
theorem unqAt_step {l : List UInt8} {i : Nat} {out : List UInt8} {c : UInt8} (h : i < l.length) (hc : c = l.getD i 0) : unqAt l i out =
    if c = 34 then (out, i + 1, 0) else if c < 32 then ([], 0, 41) else if c = 92 then (if (escL (l.drop i)).2.2 ≠ 0 then ([], 0, (escL (l.drop i)).2.2) else unqAt l (i + (escL (l.drop i)).2.1) (out ++ (escL (l.drop i)).1))
    else if (nextL (l.drop i)).isSome = true then unqAt l (i + (nextP (l.drop i)).2) (out ++ (l.drop i).take (nextP (l.drop i)).2) else ([], 0, if beginsL (l.drop i) then 3 else 40) := by
  have hd := drop_cons h
  rw [← hc] at hd
  have hrec : ∀ n o, 1 ≤ n → unqR (l.length - i) ((l.drop i).drop n) (i + n) o = unqAt l (i + n) o := fun n o hn => by
    rw [List.drop_drop]
    exact unqAt_more (by omega)
  rw [show unqAt l i out = unqR (l.length - i + 1) (l.drop i) i out by unfold unqAt; congr 1; omega]
  rw [hd] at hrec ⊢
  rw [unqR]
  by_cases h1 : c = 34
  · rw [if_pos h1, if_pos h1]
  rw [if_neg h1, if_neg h1]
  by_cases h2 : c < 32
  · rw [if_pos h2, if_pos h2]
  rw [if_neg h2, if_neg h2]
  by_cases h3 : c = 92
  · rw [if_pos h3, if_pos h3]
    dsimp only
    by_cases h4 : (escL (c :: l.drop (i + 1))).2.2 ≠ 0
    · rw [if_pos h4, if_pos h4]
    rw [if_neg h4, if_neg h4]
    refine hrec _ _ ?_
    rcases escL_cases (c :: l.drop (i + 1)) with ⟨e, h0, hx⟩ | ⟨b, n, hn, hx⟩
    · rw [hx] at h4; exact absurd h0 h4
    rw [hx]; exact hn
  rw [if_neg h3, if_neg h3]
  unfold nextP
  cases hn : nextL (c :: l.drop (i + 1)) with
  | none => rfl
  | some x =>
    obtain ⟨r, n⟩ := x
    obtain ⟨k1, _, _, _, _⟩ := next_ok hn
    exact hrec n _ k1
theorem enc_len (r : Int) : (encodeRune r).length ≤ 4 := by
 unfold encodeRune encodeRuneZ
 repeat' split
 all_goals simp
section
variable {w : World} {l : List UInt8}
end

def typeCells (t : TypeM) : List Value := [I t.kind, .bool t.null]
def cellCells (c : CellM) : List Value := [.bool c.null, I c.n, str c.s]
def stepCells (x : StepM) : List Value := [I x.kind, I x.n, str x.s]
def colCells (c : ColM) : List Value := [I c.id, str c.name, I c.type.kind, .bool c.type.null, .bool c.dflt.null, I c.dflt.n, str c.dflt.s]
def agg (cs : List Value) : Value := .agg cs.toArray
theorem str_eq_iff {a b : List UInt8} : (((⟨a.toArray⟩ : ByteArray).toList == (⟨b.toArray⟩ : ByteArray).toList) = true) ↔ a = b := by
 rw [ByteArray.toList_mk, ByteArray.toList_mk]; simp
section
variable {P : Program} {w : World} {d : Nat} {f : Field} {fs : List Field} {xs ys : List Value} {u v : Value} {e : Bool}
theorem eqF1 (hn : (f.name != "_") = true) (h1 : OneCell P f.type) (hu : xs[f.offset]? = some u) (hv : ys[f.offset]? = some v) (he : (Op.equalIn d f.type u v).run P w = .ok e w) :
    (Op.eqFields d xs.toArray ys.toArray (f :: fs)).run P w = if e = true then (Op.eqFields d xs.toArray ys.toArray fs).run P w else .ok false w := by
  have hn' : f.name ≠ "_" := by simpa using hn
  simp only [Op.eqFields, if_pos hn', Sem.run_bind, run_part1 hu, run_part1 hv, Result.andThen_ok, he]
  cases e <;> simp
theorem eqFN {k : Nat} {us vs : List Value} (hn : (f.name != "_") = true) (h1 : Agg P f.type k) (hu : (xs.drop f.offset).take k = us) (hv : (ys.drop f.offset).take k = vs) (he : (Op.equalIn d f.type (.agg us.toArray) (.agg vs.toArray)).run P w = .ok e w) :
    (Op.eqFields d xs.toArray ys.toArray (f :: fs)).run P w = if e = true then (Op.eqFields d xs.toArray ys.toArray fs).run P w else .ok false w := by
  have hn' : f.name ≠ "_" := by simpa using hn
  simp only [Op.eqFields, if_pos hn', Sem.run_bind, run_partN hu, run_partN hv, Result.andThen_ok, he]
  cases e <;> simp
theorem eqF0 : (Op.eqFields d xs.toArray ys.toArray []).run P w = .ok true w := rfl
theorem equalI {t : TypeId} (a b : Int) (h : P.underlying t = some (.int .i64)) : (Op.equalIn (d + 1) t (I a) (I b)).run P w = .ok (decide (a = b)) w := by
 rw [show I a = .int .i64 a from rfl, show I b = .int .i64 b from rfl, run_equalIn_int w d t .i64 .i64 a b h]
 rfl
theorem equalB {t : TypeId} (a b : Bool) (h : P.underlying t = some .bool) : (Op.equalIn (d + 1) t (.bool a) (.bool b)).run P w = .ok (decide (a = b)) w := by
 rw [run_equalIn_bool' w d t a b h]
 cases a <;> cases b <;> rfl
theorem equalT {t : TypeId} (a b : List UInt8) (h : P.underlying t = some .string) : (Op.equalIn (d + 1) t (str a) (str b)).run P w = .ok (decide (a = b)) w := by
 rw [show str a = .string ⟨a.toArray⟩ from rfl, show str b = .string ⟨b.toArray⟩ from rfl, run_equalIn_string w d t _ _ h]
 congr 1
 rw [Bool.eq_iff_iff, str_eq_iff, decide_eq_true_eq]
end
theorem eqCell {d : Nat} (a b : CellM) (w : World) : (Op.equalIn (d + 2) 47 (.agg (cellCells a).toArray) (.agg (cellCells b).toArray)).run Tryz.prog w = .ok (decide (a = b)) w := by
 rw [run_equalIn_agg w (d + 1) _ _ _ (by kernel_rfl) (by kernel_rfl)]
 simp only [Program.fieldsOf, Tryz.underlying47]
 rw [eqF1 rfl oc_4 rfl rfl (equalB a.null b.null (by kernel_rfl)), eqF1 rfl oc_2 rfl rfl (equalI a.n b.n (by kernel_rfl)), eqF1 rfl oc_9 rfl rfl (equalT a.s b.s (by kernel_rfl)), eqF0]
 have e : (a = b) = (a.null = b.null ∧ a.n = b.n ∧ a.s = b.s) := propext ⟨fun h => by subst h; exact ⟨rfl, rfl, rfl⟩, fun h => CellM.ext' h.1 h.2.1 h.2.2⟩
 simp only [e]
 by_cases h1 : a.null = b.null <;> by_cases h2 : a.n = b.n <;> by_cases h3 : a.s = b.s <;> simp [h1, h2, h3]
theorem eqType {d : Nat} (a b : TypeM) (w : World) : (Op.equalIn (d + 2) 45 (.agg (typeCells a).toArray) (.agg (typeCells b).toArray)).run Tryz.prog w = .ok (decide (a = b)) w := by
 rw [run_equalIn_agg w (d + 1) _ _ _ (by kernel_rfl) (by kernel_rfl)]
 simp only [Program.fieldsOf, Tryz.underlying45]
 rw [eqF1 rfl oc_3 rfl rfl (equalI a.kind b.kind (by kernel_rfl)), eqF1 rfl oc_4 rfl rfl (equalB a.null b.null (by kernel_rfl)), eqF0]
 have e : (a = b) = (a.kind = b.kind ∧ a.null = b.null) := propext ⟨fun h => by subst h; exact ⟨rfl, rfl⟩, fun h => TypeM.ext' h.1 h.2⟩
 simp only [e]
 by_cases h1 : a.kind = b.kind <;> by_cases h2 : a.null = b.null <;> simp [h1, h2]
theorem eqStep {d : Nat} (a b : StepM) (w : World) : (Op.equalIn (d + 2) 60 (.agg (stepCells a).toArray) (.agg (stepCells b).toArray)).run Tryz.prog w = .ok (decide (a = b)) w := by
 rw [run_equalIn_agg w (d + 1) _ _ _ (by kernel_rfl) (by kernel_rfl)]
 simp only [Program.fieldsOf, Tryz.underlying60]
 rw [eqF1 rfl oc_3 rfl rfl (equalI a.kind b.kind (by kernel_rfl)), eqF1 rfl oc_2 rfl rfl (equalI a.n b.n (by kernel_rfl)), eqF1 rfl oc_9 rfl rfl (equalT a.s b.s (by kernel_rfl)), eqF0]
 have e : (a = b) = (a.kind = b.kind ∧ a.n = b.n ∧ a.s = b.s) := propext ⟨fun h => by subst h; exact ⟨rfl, rfl, rfl⟩, fun h => StepM.ext' h.1 h.2.1 h.2.2⟩
 simp only [e]
 by_cases h1 : a.kind = b.kind <;> by_cases h2 : a.n = b.n <;> by_cases h3 : a.s = b.s <;> simp [h1, h2, h3]
theorem eqCol {d : Nat} (a b : ColM) (w : World) : (Op.equalIn (d + 3) 49 (.agg (colCells a).toArray) (.agg (colCells b).toArray)).run Tryz.prog w = .ok (decide (a = b)) w := by
 rw [run_equalIn_agg w (d + 2) _ _ _ (by kernel_rfl) (by kernel_rfl)]
 simp only [Program.fieldsOf, Tryz.underlying49]
 rw [eqF1 rfl oc_3 rfl rfl (equalI a.id b.id (by kernel_rfl)), eqF1 rfl oc_9 rfl rfl (equalT a.name b.name (by kernel_rfl)), eqFN (k := 2) rfl ag_45 rfl rfl (eqType a.type b.type w), eqFN (k := 3) rfl ag_47 rfl rfl (eqCell a.dflt b.dflt w), eqF0]
 have e : (a = b) = (a.id = b.id ∧ a.name = b.name ∧ a.type = b.type ∧ a.dflt = b.dflt) := propext ⟨fun h => by subst h; exact ⟨rfl, rfl, rfl, rfl⟩, fun h => ColM.ext' h.1 h.2.1 h.2.2.1 h.2.2.2⟩
 simp only [e]
 by_cases h1 : a.id = b.id <;> by_cases h2 : a.name = b.name <;> by_cases h3 : a.type = b.type <;> by_cases h4 : a.dflt = b.dflt <;> simp [h1, h2, h3, h4]
instance : EqData Tryz.prog 47 CellM cellCells := ⟨fun a b w => eqCell (d := 9998) a b w, by kernel_rfl⟩
instance : EqData Tryz.prog 45 TypeM typeCells := ⟨fun a b w => eqType (d := 9998) a b w, by kernel_rfl⟩
instance : EqData Tryz.prog 60 StepM stepCells := ⟨fun a b w => eqStep (d := 9998) a b w, by kernel_rfl⟩
instance : EqData Tryz.prog 49 ColM colCells := ⟨fun a b w => eqCol (d := 9997) a b w, by kernel_rfl⟩
end Go.Proofs.YtolaedhdjcnijaaGreatDoor
namespace Go.Mw
open Go.RowKit
section rules
variable {P : Program} {r : Option Nat} {n : Nat} {ops : Array Oper} {Q : Post} {rest : List Oper} {σ : St} {w w' w₀ : World} {S : Nat → Prop} {rs : List HP} {put : HP → List HP} {ty : TypeId} {pos : String} {after : Array Edge} {guard : Option (Nat × Bool)} {lv : List Bool} {pd pd' : List (Nat × Bool)}
theorem FL_loadAll {d b k : Nat} {x : Operand} {T : TypeId} [Agg P T k] {cs : List Value} {E : TypeId} (H : Sep w₀ S rs w) (hx : evF σ x = .pointer (some ⟨b, 0, none⟩) := by exact rfl)
    (hat : At rs (blk b cs E) put := by first | exact At0 | exact At1 | exact At2 | exact At3 | exact At4 | exact At5 | exact At6 | exact At7 | exact At8 | exact At9) (hk : cs.length = k := by exact rfl) (hd : Nat.blt d n = true := by exact rfl) (h : FL P r n ops Q rest (upd σ d (.agg cs.toArray)) w) :
    FL P r n ops Q ({ dst := some d, op := .load T x, type := ty, pos := pos, after := after, guard := none } :: rest) σ w :=
  FL_loadN H hx hat (us := cs) (by rw [List.drop_zero, ← hk, List.take_length]) hk hd h
theorem FGloadAll (hok : okOps n ops = true) (i : Nat) {d b k : Nat} {x : Operand} {T : TypeId} [Agg P T k] {cs : List Value} {E : TypeId} (H : Sep w₀ S rs w) (ho : ops[i]? = some { dst := some d, op := .load T x, type := ty, pos := pos, after := after, guard := guard } := by exact rfl)
    (hw : Region.wanted { dst := some d, op := .load T x, type := ty, pos := pos, after := after, guard := guard } (yieldF ops σ) = true := by kernel_rfl) (hx : evF σ x = .pointer (some ⟨b, 0, none⟩) := by exact rfl)
    (hat : At rs (blk b cs E) put := by first | exact At0 | exact At1 | exact At2 | exact At3 | exact At4 | exact At5 | exact At6 | exact At7 | exact At8 | exact At9) (hk : cs.length = k := by exact rfl) (hck : quietOk ops lv (pd.map (·.1)) i = true := by kernel_rfl)
    (h : FG P r n ops Q (lv.set i true) ((i, false) :: pd) (upd σ d (.agg cs.toArray)) w) : FG P r n ops Q lv pd σ w :=
  FGloadN hok i H ho hw hx hat (us := cs) (by rw [List.drop_zero, ← hk, List.take_length]) hk hck h
theorem FL_storeAll {b k : Nat} {x y : Operand} {T : TypeId} [Agg P T k] {cs us : List Value} {E : TypeId} (H : Sep w₀ S rs w) (hx : evF σ x = .pointer (some ⟨b, 0, none⟩) := by exact rfl) (hy : evF σ y = .agg us.toArray := by exact rfl)
    (hat : At rs (blk b cs E) put := by first | exact At0 | exact At1 | exact At2 | exact At3 | exact At4 | exact At5 | exact At6 | exact At7 | exact At8 | exact At9) (hk : us.length = k := by exact rfl) (hl : cs.length = k := by exact rfl) (hv : us.all Value.oneCell' = true := by exact rfl)
    (h : ∀ w', Sep w₀ S (put (blk b us E)) w' → FL P r n ops Q rest σ w') :
    FL P r n ops Q ({ dst := none, op := .store T x y, type := ty, pos := pos, after := after, guard := none } :: rest) σ w :=
  FL_storeN H hx hy hk (fun u hu => List.all_eq_true.1 hv u hu) hat (by omega) (by rw [List.take_zero, List.nil_append, List.drop_of_length_le (by omega), List.append_nil]) h
theorem acts_storeAll {ρ : Operand → Value} {b k : Nat} {x y : Operand} {T : TypeId} [h1 : Agg P T k] {cs us : List Value} {E : TypeId} (H : Sep w₀ S rs w) (hx : ρ x = .pointer (some ⟨b, 0, none⟩)) (hy : ρ y = .agg us.toArray)
    (hat : At rs (blk b cs E) put) (hk : us.length = k) (hl : cs.length = k) (hv : us.all Value.oneCell' = true) : ∃ w', Acts P ρ (.store T x y) ty w w' ∧ Sep w₀ S (put (blk b us E)) w' := by
  have hb := H.obj hat
  have hst := run_storeCells_at P b 0 E us 0 cs.toArray w hb (by simp; omega) (fun u hu => List.all_eq_true.1 hv u hu)
  have hs : cs.take 0 ++ us ++ cs.drop (0 + us.length) = us := by rw [List.take_zero, List.nil_append, List.drop_of_length_le (by omega), List.append_nil]
  refine ⟨w.setRow b (cs.take 0 ++ us ++ cs.drop (0 + us.length)).toArray, fun _ _ _ _ => ?_, ?_⟩
  · simp only [Nat.add_zero] at hst
    simp [execOp, hx, hy, Instr.storeAt, Instr.sureAddr, storeVar, h1.size, Value.cells, hk]
    simp [hk] at hst
    rw [hst]
    simp
  rw [hs]
  refine H.setObj hat ⟨rfl, rfl, rfl, by simp, fun j hj hS => ?_⟩ ?_
  · simp only [World.setRow, Array.getElem?_modify]; rw [if_neg (fun e => hS e.symm)]
  simp only [World.setRow, Array.getElem?_modify, if_true, hb, Option.map_some]
theorem FGstoreAll (hok : okOps n ops = true) (e : Nat) (pd' : List (Nat × Bool)) {b k : Nat} {x y : Operand} {T : TypeId} [Agg P T k] {cs us : List Value} {E : TypeId} (H : Sep w₀ S rs w) (ho : ops[e]? = some { dst := none, op := .store T x y, type := ty, pos := pos, after := after, guard := guard } := by exact rfl)
    (hw : Region.wanted { dst := none, op := .store T x y, type := ty, pos := pos, after := after, guard := guard } (yieldF ops σ) = true := by kernel_rfl) (hx : evF σ x = .pointer (some ⟨b, 0, none⟩) := by exact rfl) (hy : evF σ y = .agg us.toArray := by exact rfl)
    (hat : At rs (blk b cs E) put := by first | exact At0 | exact At1 | exact At2 | exact At3 | exact At4 | exact At5 | exact At6 | exact At7 | exact At8 | exact At9) (hk : us.length = k := by exact rfl) (hl : cs.length = k := by exact rfl) (hv : us.all Value.oneCell' = true := by exact rfl)
    (hck : effectOk ops lv (pd.map (·.1)) e = true := by kernel_rfl) (hpd : pd.filter (fun p => !((above ops e).contains p.1)) = pd' := by kernel_rfl)
    (h : ∀ w', Sep w₀ S (put (blk b us E)) w' → Stab P ops σ w' pd' ∧ FG P r n ops Q (lv.set e true) pd' σ w') : FG P r n ops Q lv pd σ w :=
  FGact hok e pd' ho hw (acts_storeAll H hx hy hat hk hl hv) hck hpd h
end rules
end Go.Mw
namespace Go.Proofs.YtolaedhdjcnijaaGreatDoor
open Go Go.Mw Go.Lib
set_option maxRecDepth 4000

section
variable {w : World}
end

attribute [local irreducible] mayT
section
variable {w : World}
end
end Go.Proofs.YtolaedhdjcnijaaGreatDoor
namespace Go.Mw
section gives
variable {P : Program} {ρ : Operand → Value} {ty : TypeId} {w : World} {x y : Operand} {T U : TypeId} {k : IntKind} {a b c : Int}
theorem Gives.addW (hx : ρ x = .int k a) (hy : ρ y = .int k b) (he : k.wrap (a + b) = c) : Gives P ρ (.binOp .add T x y U) ty w (.int k c) w := by subst he; exact Gives.add hx hy
theorem Gives.subW (hx : ρ x = .int k a) (hy : ρ y = .int k b) (he : k.wrap (a - b) = c) : Gives P ρ (.binOp .sub T x y U) ty w (.int k c) w := by subst he; exact Gives.sub hx hy
theorem Gives.convW {s t : TypeId} {j : IntKind} [hs : IsInt P s j] [ht : IsInt P t k] (hx : ρ x = .int j a) (he : k.wrap a = c) : Gives P ρ (.convert s t x) ty w (.int k c) w := by subst he; exact Gives.conv hx
end gives
end Go.Mw
namespace Go.Proofs.YtolaedhdjcnijaaGreatDoor
open Go Go.Mw Go.Lib
def hexS : List UInt8 := [48, 49, 50, 51, 52, 53, 54, 55, 56, 57, 97, 98, 99, 100, 101, 102]
theorem hex_piece {d : Nat} (h : d < 16) : (hexS.take (d + 1)).drop d = [hexB d] := by
 have key : ∀ i : Fin 16, (hexS.take (i.val + 1)).drop i.val = [hexB i.val] := by decide
 exact key ⟨d, h⟩
theorem hexL_succ {l : List UInt8} {i : Nat} (h : i < l.length) : hexL (l.take (i + 1)) = hexL (l.take i) ++ [hexB ((l.getD i 0).toNat / 16), hexB ((l.getD i 0).toNat % 16)] := by
 unfold hexL
 rw [List.take_add_one, List.getElem?_eq_getElem h, List.flatMap_append]
 simp [List.getD_eq_getElem?_getD, List.getElem?_eq_getElem h]
theorem hexL_length (l : List UInt8) : (hexL l).length = 2 * l.length := by
 induction l with
 | nil => rfl
 | cons c l ih => unfold hexL at *; rw [List.flatMap_cons, List.length_append, ih]; simp; omega
section
variable {w : World}
end
end Go.Proofs.YtolaedhdjcnijaaGreatDoor
namespace Go.Proofs.YtolaedhdjcnijaaGreatDoor
open Go Go.Mw Go.Lib
set_option maxRecDepth 4000
section
variable {w : World}
end
section
variable {w : World}
end
section
variable {w : World}
end
end Go.Proofs.YtolaedhdjcnijaaGreatDoor
