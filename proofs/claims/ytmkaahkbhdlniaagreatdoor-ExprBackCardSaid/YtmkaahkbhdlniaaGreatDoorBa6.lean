/-
 Contracts that turn one owned piece, and their calls. Nothing of a given program stands here.
-/
import Derived.Test.YtmkaahkbhdlniaaGreatDoorBa4
import Derived.Laws.OwnMore
import Derived.Stop.BytesEq
set_option linter.unusedVariables false
set_option linter.unusedSimpArgs false
namespace Go.Mw
open Go.RowKit

/-- The blocks F have become those of q. -/
def Turn (F : Nat → Prop) (q : HP) (w w' : World) : Prop := Kept F w w' ∧ ∃ F', q.ok F' w' ∧ ∀ b, F' b → F b ∨ w.heap.size ≤ b
section
variable {P : Program} {r : Option Nat} {n : Nat} {ops : Array Oper} {Q : Post} {rest : List Oper} {σ : St} {w w' w₀ : World} {S F : Nat → Prop} {rs : List HP} {p q : HP} {put : HP → List HP} {op : Op} {ty : TypeId} {pos : String} {after : Array Edge}
theorem starL_one {F : Nat → Prop} : (starL [p]).ok F w ↔ p.ok F w := by
 constructor
 ·rintro ⟨F1, F2, hF, hd, hp, ⟨_, h2⟩⟩
  have : F = F1 := funext fun b => propext ((hF b).trans ⟨fun h => h.elim id fun h => (h2 b h).elim, .inl⟩)
  rw [this]; exact hp
 ·intro h
  exact ⟨F, fun _ => False, fun b => by simp, fun _ _ h => h, h, trivial, fun _ h => h⟩
theorem Sep.start1 (h : p.ok F w) : Sep w F [p] w := Sep.start [p] (starL_one.2 h)
theorem Sep.turn (h : Sep w₀ F [p] w) : Turn F p w₀ w := by
 obtain ⟨h1, F', hF, hs⟩ := h
 exact ⟨h1, F', starL_one.1 hF, hs⟩
theorem Turn.refl (h : p.ok F w) : Turn F p w w := ⟨Kept.refl _ _, F, h, fun _ hb => .inl hb⟩
theorem Sep.back1 {a p : HP} {l : List HP} (h : Sep w₀ S (p :: a :: l) w) : Sep w₀ S (a :: p :: l) w := h.front1
theorem Sep.back2 {a b p : HP} {l : List HP} (h : Sep w₀ S (p :: a :: b :: l) w) : Sep w₀ S (a :: b :: p :: l) w := h.front2.front2
/-- The first alone. -/
theorem Sep.first (h : Sep w₀ S (p :: rs) w) : Sep w₀ S [p] w := by
 induction rs with
 | nil => exact h
 | cons a rs ih => exact ih (h.front1.drop0)
/-- The first few alone. -/
theorem Sep.firsts {l rs : List HP} (h : Sep w₀ S (l ++ rs) w) : Sep w₀ S l w := by
 have := (Sep.bundle h).first.parts
 rwa [List.append_nil] at this
/-- A call that leaves the world as it is. -/
theorem FL_callS {d : Nat} {f : FuncId} {xs : List Operand} {ats : Array TypeId} {vals : List Value} {v : Value} [he : Enters P f]
    (hc : Rets P f vals w fun v' w' => v' = v ∧ w = w') (hv : xs.map (evF σ) = vals := by exact rfl) (hd : Nat.blt d n = true := by exact rfl)
    (h : FL P r n ops Q rest (upd σ d v) w) :
    FL P r n ops Q ({ dst := some d, op := .call { callee := .value (.func f), args := xs.toArray, argTypes := ats }, type := ty, pos := pos, after := after, guard := none } :: rest) σ w :=
  FL_call hc hv hd fun v' w' ⟨hx, hw⟩ => by subst hx; subst hw; exact h
/-- A call of a method that has no body to speak of: its result is dropped, its world is as it was. -/
theorem FL_loadB {d b o : Nat} {x : Operand} {T : TypeId} [OneCell P T] {cs : List Value} {E : TypeId} {v : Value} (hb : w.heap[b]? = some (.cells cs.toArray E (0, 0))) (hx : evF σ x = .pointer (some ⟨b, o, none⟩) := by exact rfl)
    (hv : cs[o]? = some v := by exact rfl) (hd : Nat.blt d n = true := by exact rfl) (h : FL P r n ops Q rest (upd σ d v) w) :
    FL P r n ops Q ({ dst := some d, op := .load T x, type := ty, pos := pos, after := after, guard := none } :: rest) σ w := FL_val (Gives.load1 hx hb hv) hd h
/-- A call that turns one piece. -/
theorem FL_callT {d : Nat} {f : FuncId} {xs : List Operand} {ats : Array TypeId} {vals : List Value} {α : Type} {val : α → Value} {φ : α → Prop} {q : α → HP} [he : Enters P f] (H : Sep w₀ S rs w) (hat : At rs p put)
    (hc : ∀ F, p.ok F w → (∀ b, F b → S b ∨ w₀.heap.size ≤ b) → Rets P f vals w fun v w' => ∃ x, v = val x ∧ φ x ∧ Turn F (q x) w w') (hv : xs.map (evF σ) = vals := by exact rfl) (hd : Nat.blt d n = true := by exact rfl)
    (h : ∀ x w', φ x → Sep w₀ S (put (q x)) w' → FL P r n ops Q rest (upd σ d (val x)) w') :
    FL P r n ops Q ({ dst := some d, op := .call { callee := .value (.func f), args := xs.toArray, argTypes := ats }, type := ty, pos := pos, after := after, guard := none } :: rest) σ w := by
  obtain ⟨F, hp, hS, hput⟩ := H.focus hat
  refine FL_call (hc F hp hS) hv hd fun v w' ⟨x, hx, hφ, hk, F', hq, hs⟩ => ?_
  subst hx
  exact h x w' hφ (hput w' F' _ hk hq hs)
/-- A piece that is owned, and the first one: they stand apart. -/
theorem Sep.focus1 (h : Sep w₀ S (q :: rs) w) (hat : At rs p put) : ∃ F Fq, p.ok F w ∧ q.ok Fq w ∧ (∀ b, Fq b → ¬ F b) ∧ (∀ b, F b → S b ∨ w₀.heap.size ≤ b) ∧
    ∀ w' F' p', Kept F w w' → p'.ok F' w' → (∀ b, F' b → F b ∨ w.heap.size ≤ b) → Sep w₀ S (q :: put p') w' := by
  obtain ⟨h1, G, ⟨Fq, Fr, hG, hd, hq, hr⟩, hS⟩ := h
  have h2 : Sep w₀ S rs w := ⟨h1, Fr, hr, fun b hb => hS b ((hG b).2 (.inr hb))⟩
  obtain ⟨l1, l2, rfl, hput⟩ := hat
  obtain ⟨F, F2, hF12, hd2, hp, hr2⟩ := starL_split hr
  refine ⟨F, Fq, hp, hq, fun b hb hb2 => hd b hb ((hF12 b).2 (.inl hb2)), fun b hb => hS b ((hG b).2 (.inr ((hF12 b).2 (.inl hb)))), fun w' F' p' hk hp' hsub => ?_⟩
  have hlow := (starL (l1 ++ l2)).low hr2
  have hlowq := q.low hq
  rw [hput]
  refine ⟨h1.trans hk fun b hb => hS b ((hG b).2 (.inr ((hF12 b).2 (.inl hb)))), fun b => Fq b ∨ (F' b ∨ F2 b), ⟨Fq, fun b => F' b ∨ F2 b, fun b => Iff.rfl, fun b hb hb2 => ?_, q.loc hk.size (fun b hb => hk.block b (hlowq b hb) fun hf => hd b hb ((hF12 b).2 (.inl hf))) hq, ?_⟩, ?_⟩
  · rcases hb2 with hb2 | hb2
    · rcases hsub b hb2 with h | h
      · exact hd b hb ((hF12 b).2 (.inl h))
      · have := hlowq b hb; omega
    · exact hd b hb ((hF12 b).2 (.inr hb2))
  · refine starL_join (F1 := F') (F2 := F2) (fun b => Iff.rfl) (fun b hb hb2 => ?_) hp' ((starL (l1 ++ l2)).loc hk.size (fun b hb => hk.block b (hlow b hb) (fun h1 => hd2 b h1 hb)) hr2)
    rcases hsub b hb with h | h
    · exact hd2 b h hb2
    · have := hlow b hb2; omega
  · rintro b (hb | hb | hb)
    · exact hS b ((hG b).2 (.inl hb))
    · rcases hsub b hb with h | h
      · exact hS b ((hG b).2 (.inr ((hF12 b).2 (.inl h))))
      · exact .inr (Nat.le_trans h1.size h)
    · exact hS b ((hG b).2 (.inr ((hF12 b).2 (.inr hb))))
/-- A call that makes a new piece. -/
theorem FL_callN {d : Nat} {f : FuncId} {xs : List Operand} {ats : Array TypeId} {vals : List Value} {α : Type} {val : α → Value} {φ : α → Prop} {q : α → HP} [he : Enters P f] (H : Sep w₀ S rs w)
    (hc : Rets P f vals w fun v w' => ∃ x, v = val x ∧ φ x ∧ Turn noB (q x) w w') (hv : xs.map (evF σ) = vals := by exact rfl) (hd : Nat.blt d n = true := by exact rfl)
    (h : ∀ x w', φ x → Sep w₀ S (q x :: rs) w' → Kept noB w w' → FL P r n ops Q rest (upd σ d (val x)) w') :
    FL P r n ops Q ({ dst := some d, op := .call { callee := .value (.func f), args := xs.toArray, argTypes := ats }, type := ty, pos := pos, after := after, guard := none } :: rest) σ w := by
  refine FL_call hc hv hd fun v w' ⟨x, hx, hφ, hk, F', hq, hs⟩ => ?_
  subst hx
  exact h x w' hφ (H.new hk hq fun b hb => (hs b hb).resolve_left id) hk
end
end Go.Mw
/-
 The rules of the walk for a region that draws, with the pieces that are owned. Nothing of a given program stands here.
-/
namespace Go.Mw
open Go.RowKit

section
variable {P : Program} {r : Option Nat} {n : Nat} {ops : Array Oper} {Q : Post} {lv : List Bool} {pd pd' : List (Nat × Bool)} {σ : St} {w w' w₀ : World} {S F : Nat → Prop} {rs : List HP} {p q : HP} {put : HP → List HP} {op : Op} {ty : TypeId} {pos : String} {after : Array Edge} {guard : Option (Nat × Bool)}
theorem FW_drawS {id : Nat} {l : List Oper} (hm : P.follows .mixedOrders = true) (H : Sep w₀ S rs w) (hok : okOps n l.toArray = true := by kernel_rfl) (h : okOps n l.toArray = true → ∀ w', Sep w₀ S rs w' → FG P r n l.toArray Q (List.replicate l.length false) [] σ w') : FW P r n (.region id l.toArray true) Q σ w :=
 FW_draw hm hok fun w' hk => h hok w' (H.keep hk)
theorem FG_splitP {t : Nat} {φ : Prop} [Decidable φ] (hb : σ.get t = .bool (decide φ)) (h1 : φ → FG P r n ops Q lv pd (upd σ t (.bool true)) w) (h0 : ¬ φ → FG P r n ops Q lv pd (upd σ t (.bool false)) w) : FG P r n ops Q lv pd σ w := by
 by_cases hp : φ
 ·have := h1 hp
  rw [show Value.bool true = σ t from by rw [hb, decide_eq_true hp], upd_self] at this; exact this
 ·have := h0 hp
  rw [show Value.bool false = σ t from by rw [hb, decide_eq_false hp], upd_self] at this; exact this
theorem FG_split {t : Nat} {b : Bool} (hb : σ.get t = .bool b) (h1 : b = true → FG P r n ops Q lv pd (upd σ t (.bool true)) w) (h0 : b = false → FG P r n ops Q lv pd (upd σ t (.bool false)) w) : FG P r n ops Q lv pd σ w := by
 cases b
 ·have := h0 rfl
  rw [show Value.bool false = σ t from hb.symm, upd_self] at this; exact this
 ·have := h1 rfl
  rw [show Value.bool true = σ t from hb.symm, upd_self] at this; exact this
theorem FGmove (hok : okOps n ops = true) (i : Nat) {d : Nat} {x : Operand} {v : Value} (ho : ops[i]? = some { dst := some d, op := .move x, type := ty, pos := pos, after := after, guard := guard } := by exact rfl)
    (hw : Region.wanted { dst := some d, op := .move x, type := ty, pos := pos, after := after, guard := guard } (yieldF ops σ) = true := by kernel_rfl) (hv : evF σ x = v := by simp only [evF, upd_same, upd_ne, ne_eq, Nat.reduceEqDiff, not_false_eq_true]; rfl) (hck : quietOk ops lv (pd.map (·.1)) i = true := by kernel_rfl)
    (h : FG P r n ops Q (lv.set i true) ((i, true) :: pd) (upd σ d v) w) : FG P r n ops Q lv pd σ w := FGp hok i ho hw (fun _ => Gives.move hv) hck h
theorem FGload (hok : okOps n ops = true) (i : Nat) {d b o : Nat} {x : Operand} {T : TypeId} [OneCell P T] {cs : List Value} {E : TypeId} {v : Value} (H : Sep w₀ S rs w) (ho : ops[i]? = some { dst := some d, op := .load T x, type := ty, pos := pos, after := after, guard := guard } := by exact rfl)
    (hw : Region.wanted { dst := some d, op := .load T x, type := ty, pos := pos, after := after, guard := guard } (yieldF ops σ) = true := by kernel_rfl) (hx : evF σ x = .pointer (some ⟨b, o, none⟩) := by exact rfl)
    (hat : At rs (blk b cs E) put := by first | exact At0 | exact At1 | exact At2 | exact At3 | exact At4 | exact At5 | exact At6 | exact At7 | exact At8 | exact At9) (hv : cs[o]? = some v := by exact rfl) (hck : quietOk ops lv (pd.map (·.1)) i = true := by kernel_rfl)
    (h : FG P r n ops Q (lv.set i true) ((i, false) :: pd) (upd σ d v) w) : FG P r n ops Q lv pd σ w := FGl hok i ho hw (Gives.load1 hx (H.obj hat) hv) hck h
theorem FGloadN (hok : okOps n ops = true) (i : Nat) {d b o k : Nat} {x : Operand} {T : TypeId} [Agg P T k] {cs us : List Value} {E : TypeId} (H : Sep w₀ S rs w) (ho : ops[i]? = some { dst := some d, op := .load T x, type := ty, pos := pos, after := after, guard := guard } := by exact rfl)
    (hw : Region.wanted { dst := some d, op := .load T x, type := ty, pos := pos, after := after, guard := guard } (yieldF ops σ) = true := by kernel_rfl) (hx : evF σ x = .pointer (some ⟨b, o, none⟩) := by exact rfl)
    (hat : At rs (blk b cs E) put := by first | exact At0 | exact At1 | exact At2 | exact At3 | exact At4 | exact At5 | exact At6 | exact At7 | exact At8 | exact At9) (hu : (cs.drop o).take k = us) (hk : us.length = k) (hck : quietOk ops lv (pd.map (·.1)) i = true := by kernel_rfl)
    (h : FG P r n ops Q (lv.set i true) ((i, false) :: pd) (upd σ d (.agg us.toArray)) w) : FG P r n ops Q lv pd σ w := FGl hok i ho hw (Gives.loadN hx (H.obj hat) hu hk) hck h
theorem Stab_load {i d b o : Nat} {x : Operand} {T : TypeId} [OneCell P T] {cs : List Value} {E : TypeId} {v : Value} {l : List (Nat × Bool)} (H : Sep w₀ S rs w) (ho : ops[i]? = some { dst := some d, op := .load T x, type := ty, pos := pos, after := after, guard := guard } := by exact rfl)
    (hw : Region.wanted { dst := some d, op := .load T x, type := ty, pos := pos, after := after, guard := guard } (yieldF ops σ) = true := by kernel_rfl) (hx : evF σ x = .pointer (some ⟨b, o, none⟩) := by exact rfl)
    (hat : At rs (blk b cs E) put := by first | exact At0 | exact At1 | exact At2 | exact At3 | exact At4 | exact At5 | exact At6 | exact At7 | exact At8 | exact At9) (hv : cs[o]? = some v := by exact rfl) (hd : σ d = v := by exact rfl) (h : Stab P ops σ w l) : Stab P ops σ w ((i, false) :: l) :=
  Stab_cons ho hw (Gives.load1 hx (H.obj hat) hv) hd h
theorem FGbuildSlice (hok : okOps n ops = true) (i : Nat) (pd' : List (Nat × Bool)) {d : Nat} {t e : TypeId} {xs : List Operand} {parts : List (Nat × Operand)} {out : List Value} {size bytes : Nat} [hs : IsSlice P t e] [hc : Cells P e size bytes] {z : Value} [hz : Zero P e z] (H : Sep w₀ S rs w) (hE : Elems (evF σ) size xs out)
    (ho : ops[i]? = some { dst := some d, op := .buildSlice t xs.length parts.toArray, type := ty, pos := pos, after := after, guard := guard } := by exact rfl)
    (hw : Region.wanted { dst := some d, op := .buildSlice t xs.length parts.toArray, type := ty, pos := pos, after := after, guard := guard } (yieldF ops σ) = true := by kernel_rfl)
    (hp : parts = (xs.zipIdx 0).map fun p => (p.2, p.1) := by exact rfl) (hlen : Nat.ble (xs.length * size) 16777216 = true := by exact rfl)
    (hck : effectOk ops lv (pd.map (·.1)) i = true := by kernel_rfl) (hpd : pd.filter (fun p => !((above ops i).contains p.1)) = pd' := by kernel_rfl)
    (h : ∀ b w', Sep w₀ S (blk b out e :: rs) w' → Stab P ops (upd σ d (.slice (some ⟨b, 0, none⟩) xs.length xs.length)) w' pd' ∧ FG P r n ops Q (lv.set i true) pd' (upd σ d (.slice (some ⟨b, 0, none⟩) xs.length xs.length)) w') : FG P r n ops Q lv pd σ w :=
  FGval hok i pd' (C := fun v w' => ∃ b, v = .slice (some ⟨b, 0, none⟩) xs.length xs.length ∧ Sep w₀ S (blk b out e :: rs) w') ho hw ⟨_, _, Gives.buildSlice hE hp hlen, _, rfl, H.alloc _⟩ hck hpd fun v w' ⟨b, hv, hsep⟩ => by subst hv; exact h b w' hsep
/-- Calls. -/
theorem FGcallS (hok : okOps n ops = true) (e : Nat) (pd' : List (Nat × Bool)) {d : Nat} {f : FuncId} {xs : List Operand} {ats : Array TypeId} {vals : List Value} {v : Value} [he : Enters P f] (H : Sep w₀ S rs w) (hc : Rets P f vals w fun v' w' => v' = v ∧ w = w')
    (ho : ops[e]? = some { dst := some d, op := .call { callee := .value (.func f), args := xs.toArray, argTypes := ats }, type := ty, pos := pos, after := after, guard := guard } := by exact rfl)
    (hw : Region.wanted { dst := some d, op := .call { callee := .value (.func f), args := xs.toArray, argTypes := ats }, type := ty, pos := pos, after := after, guard := guard } (yieldF ops σ) = true := by kernel_rfl) (hv : xs.map (evF σ) = vals := by exact rfl) (hck : effectOk ops lv (pd.map (·.1)) e = true := by kernel_rfl)
    (hpd : pd.filter (fun p => !((above ops e).contains p.1)) = pd' := by kernel_rfl) (h : ∀ w', Sep w₀ S rs w' → Stab P ops (upd σ d v) w' pd' ∧ FG P r n ops Q (lv.set e true) pd' (upd σ d v) w') : FG P r n ops Q lv pd σ w :=
  FGcall hok e pd' ho hw hc hv hck hpd fun v' w' ⟨h1, h2⟩ => by subst h1; subst h2; exact h w H
end
end Go.Mw
/-
 make of rows, loads through rows that are read. Nothing of a given program stands here.
-/
namespace Go.Mw
open Go.RowKit

section
variable {P : Program} {r : Option Nat} {n : Nat} {ops : Array Oper} {Q : Post} {lv : List Bool} {pd pd' : List (Nat × Bool)} {rest : List Oper} {σ : St} {w w' w₀ : World} {S F : Nat → Prop} {rs : List HP} {put : HP → List HP} {op : Op} {ty : TypeId} {pos : String} {after : Array Edge} {guard : Option (Nat × Bool)}
theorem Gives.conv {ρ : Operand → Value} {x : Operand} {s t : TypeId} {k j : IntKind} [hs : IsInt P s j] [ht : IsInt P t k] {a : Int} (hx : ρ x = .int j a) : Gives P ρ (.convert s t x) ty w (.int k (k.wrap a)) w :=
 Gives.convI (by rw [hs.und]; rfl) ht.und hx
theorem Gives.loadC {ρ : Operand → Value} {a : Addr} {x : Operand} {T : TypeId} [h1 : OneCell P T] {v : Value} (hx : ρ x = .pointer (some a)) (hc : w.cell? a = some v) : Gives P ρ (.load T x) ty w v w := fun _ _ _ _ => by
 simp [execOp, hx, Instr.loadAt, Instr.sureAddr, loadVar, h1.agg, hc]
theorem Gives.loadCN {ρ : Operand → Value} {k : Nat} {a : Addr} {x : Operand} {T : TypeId} [h1 : Agg P T k] {us : List Value} (hx : ρ x = .pointer (some a)) (hc : ∀ j u, us[j]? = some u → w.cell? (a.add j) = some u) (hk : us.length = k) : Gives P ρ (.load T x) ty w (.agg us.toArray) w := fun _ _ _ _ => by
 have := run_loadCells_list (P := P) w a us hc
 rw [hk] at this
 simp [execOp, hx, Instr.loadAt, Instr.sureAddr, loadVar, h1.agg, h1.size, this]
end
end Go.Mw
/-
 A region that draws its order, whose first M operations look or allocate, in any order: walked once, in the order of the list, whatever the numbers of the blocks. Nothing of a given program stands here.
-/
namespace Go.Mw
open Go.RowKit

theorem Sep.unfront {w₀ w : World} {S : Nat → Prop} {p : HP} {l1 l2 : List HP} (h : Sep w₀ S (p :: (l1 ++ l2)) w) : Sep w₀ S (l1 ++ p :: l2) w := by
 obtain ⟨h1, F, ⟨F1, F2, hF, hd, hp, hr⟩, hS⟩ := h
 exact ⟨h1, F, starL_join hF hd hp hr, hS⟩
theorem Sep.dropL {w₀ w : World} {S : Nat → Prop} : ∀ {l rs : List HP}, Sep w₀ S (l ++ rs) w → Sep w₀ S rs w
 | [], _, h => h
 | _ :: l, _, h => Sep.dropL (l := l) (Sep.drop0 h)

/-- Operations that may allocate. -/
def allocOp : Op → Bool
 | .buildSlice .. => true
 | .makeSlice .. => true
 | _ => false
def alAt (ops : Array Oper) (i : Nat) : Bool := match ops[i]? with
 | some o => allocOp o.op
 | none => false
def lvTo (ops : Array Oper) (M : Nat) : List Bool := (List.range ops.size).map fun i => Nat.blt i M

section
variable (P : Program) (r : Option Nat) (n : Nat) (ops : Array Oper) (Q : Post) (M : Nat) (w₀ : World) (S : Nat → Prop) (rs : List HP) (β : Nat → Nat)
end

section
variable {P : Program} {r : Option Nat} {n : Nat} {ops : Array Oper} {Q : Post} {M : Nat} {w₀ w : World} {S : Nat → Prop} {rs ps : List HP} {β : Nat → Nat} {σ : St} {k i : Nat} {op : Op} {ty : TypeId} {pos : String} {after : Array Edge} {guard : Option (Nat × Bool)}
/-- The frame behind the first j, of the values v. -/
def stA (ops : Array Oper) (v : Nat → Value) (σ : St) : Nat → St
 | 0 => σ
 | j + 1 => updO (stA ops v σ j) (dstOf ops j) (v j)
/-- The pieces of those that are listed, of the first j. -/
def pcs (ops : Array Oper) (β : Nat → Nat) (ob : Nat → Obj) (L : Nat → Bool) : Nat → List HP
 | 0 => []
 | j + 1 => if (alAt ops j && L j) = true then obj (β j) (ob j) :: pcs ops β ob L j else pcs ops β ob L j
theorem pcs_congr {ob ob' : Nat → Obj} {L L' : Nat → Bool} : ∀ {j : Nat}, (∀ x, x < j → ob x = ob' x ∧ (alAt ops x && L x) = (alAt ops x && L' x)) → pcs ops β ob L j = pcs ops β ob' L' j
 | 0, _ => rfl
 | j + 1, h => by
  show (if _ then _ else _) = (if _ then _ else _)
  rw [pcs_congr fun x hx => h x (Nat.lt_succ_of_lt hx), (h j (Nat.lt_succ_self j)).1, (h j (Nat.lt_succ_self j)).2]
theorem pcs_insert {ob : Nat → Obj} {L L' : Nat → Bool} {i : Nat} (hal : alAt ops i = true) (h0 : L i = false) (h1 : L' i = true) (hne : ∀ x, x ≠ i → L x = L' x) :
    ∀ {j : Nat}, i < j → ∃ l1 l2, pcs ops β ob L j = l1 ++ l2 ∧ pcs ops β ob L' j = l1 ++ obj (β i) (ob i) :: l2
  | 0, h => absurd h (Nat.not_lt_zero _)
  | j + 1, h => by
    by_cases hji : j = i
    · subst hji
      refine ⟨[], pcs ops β ob L j, ?_, ?_⟩
      · show (if _ then _ else _) = _
        rw [if_neg (by rw [h0]; simp)]; rfl
      · show (if _ then _ else _) = _
        rw [if_pos (by rw [hal, h1]; rfl), pcs_congr (ob' := ob) (L' := L) fun x hx => ⟨rfl, by rw [hne x (Nat.ne_of_lt hx)]⟩]; rfl
    · obtain ⟨l1, l2, e1, e2⟩ := pcs_insert hal h0 h1 hne (j := j) (Nat.lt_of_le_of_ne (Nat.le_of_lt_succ h) fun e => hji e.symm)
      by_cases hc : (alAt ops j && L j) = true
      · refine ⟨obj (β j) (ob j) :: l1, l2, ?_, ?_⟩
        · show (if _ then _ else _) = _
          rw [if_pos hc, e1]; rfl
        · show (if _ then _ else _) = _
          rw [if_pos (by rw [← hne j hji]; exact hc), e2]; rfl
      · refine ⟨l1, l2, ?_, ?_⟩
        · show (if _ then _ else _) = _
          rw [if_neg hc, e1]
        · show (if _ then _ else _) = _
          rw [if_neg (by rw [← hne j hji]; exact hc), e2]
theorem stA_ds {v : Nat → Value} : ∀ {j : Nat}, (stA ops v σ j).ds = σ.ds
 | 0 => rfl
 | j + 1 => by show (updO (stA ops v σ j) _ _).ds = _; rw [updO_ds]; exact stA_ds
theorem stA_other {v : Nat → Value} {x : Nat} : ∀ {j : Nat}, (∀ i, i < j → dstOf ops i ≠ some x) → stA ops v σ j x = σ x
 | 0, _ => rfl
 | j + 1, h => by
  show updO (stA ops v σ j) _ _ x = _
  rw [updO_other (h j (Nat.lt_succ_self j))]; exact stA_other fun i hi => h i (Nat.lt_succ_of_lt hi)
theorem stA_at {v : Nat → Value} {d i : Nat} (hd : dstOf ops i = some d) : ∀ {j : Nat}, i < j → (∀ k, k < j → k ≠ i → dstOf ops k ≠ some d) → stA ops v σ j d = v i
 | 0, h, _ => absurd h (Nat.not_lt_zero _)
 | j + 1, h, hne => by
  show updO (stA ops v σ j) _ _ d = _
  by_cases hji : j = i
  ·subst hji; rw [hd]; exact upd_same _ _ _
  ·rw [updO_other (hne j (Nat.lt_succ_self j) hji)]
   exact stA_at hd (Nat.lt_of_le_of_ne (Nat.le_of_lt_succ h) fun e => hji e.symm) fun k hk => hne k (Nat.lt_succ_of_lt hk)

/-- One step of the walk. -/
def StepA (P : Program) (ops : Array Oper) (w₀ : World) (S : Nat → Prop) (rs : List HP) (β : Nat → Nat) (i : Nat) (σ : St) (v : Value) (ob : Obj) : Prop :=
 ∃ o, ops[i]? = some o ∧ if allocOp o.op = true then ∀ w, Sep w₀ S rs w → w.heap.size = β i → (execOp (evF σ) o).run P w = .ok (.value v) (w.alloc ob) else ∀ w, Sep w₀ S rs w → (execOp (evF σ) o).run P w = .ok (.value v) w

/-- The numbers that an order of the operations gives their blocks. -/
def Fits (ops : Array Oper) (β : Nat → Nat) : List Nat → Nat → Prop
 | [], _ => True
 | i :: s, N => if alAt ops i = true then β i = N ∧ Fits ops β s (N + 1) else Fits ops β s N
structure CkA (ops : Array Oper) (M : Nat) : Prop where
 le : M ≤ ops.size
 ug : ∀ i, i < M → ∃ o d, ops[i]? = some o ∧ o.guard = none ∧ o.dst = some d
 pr : ∀ i, i < M → ∀ e ∈ preds ops i, e < i
 lk : ∀ i, i < M → ∀ k, k < M → ∀ d, dstOf ops k = some d → d ∈ looks ops i → k ∈ preds ops i
 ds : ∀ i, i < M → ∀ k, k < M → i ≠ k → ∀ d, dstOf ops k = some d → dstOf ops i ≠ some d
 ab : ∀ j, M ≤ j → j < ops.size → ∀ i, i < M → i ∈ above ops j
/-- The real run: whatever comes, there are numbers for the blocks. -/
structure InvA (P : Program) (r : Option Nat) (n : Nat) (ops : Array Oper) (Q : Post) (M : Nat) (w₀ : World) (S : Nat → Prop) (rs : List HP) (σ : St) (lr : Array Bool) (a : Act) (w : World) : Prop where
 sz : lr.size = ops.size
 cl : ∀ i, lr.getD i false = true → ∀ e ∈ preds ops i, lr.getD e false = true
 hi : ∀ j, M ≤ j → j < ops.size → lr.getD j true = false
 fut : ∀ s : List Nat, s.Nodup → (∀ i, i ∈ s ↔ i < M ∧ lr.getD i true = false) → ∃ β, Fits ops β s w.heap.size ∧ ∃ v ob,
  (∀ j, j < M → StepA P ops w₀ S rs β j (stA ops v σ j) (v j) (ob j)) ∧ (∀ w', Sep w₀ S (pcs ops β ob (fun _ => true) M ++ rs) w' → FG P r n ops Q (lvTo ops M) [] (stA ops v σ M) w') ∧
  (∃ σr, Rep n σr a ∧ σr.ds = σ.ds ∧ (∀ i, i < M → lr.getD i true = true → ∀ d, dstOf ops i = some d → σr d = v i) ∧ ∀ x, (∀ i, i < M → lr.getD i true = true → dstOf ops i ≠ some x) → σr x = σ x) ∧
  Sep w₀ S (pcs ops β ob (fun i => lr.getD i true) M ++ rs) w

theorem above_cl {lr : Array Bool} (hcl : ∀ i, lr.getD i false = true → ∀ e ∈ preds ops i, lr.getD e false = true) {e : Nat} (he : ∀ k ∈ preds ops e, lr.getD k false = true) : ∀ k ∈ above ops e, lr.getD k false = true := by
 have key : ∀ (l : List Nat) (S : List Nat), (∀ k ∈ S, lr.getD k false = true) → ∀ k ∈ l.foldl (aboveStep ops) S, lr.getD k false = true := by
  intro l
  induction l with
  | nil => intro S hS; exact hS
  | cons m l ih =>
   intro S hS
   refine ih _ fun k hk => ?_
   unfold aboveStep at hk
   split at hk
   ·rename_i hm
    rcases List.mem_append.1 hk with h1 | h1
    ·exact hS k h1
    ·exact hcl m (hS m (List.contains_iff_mem.1 hm)) k (List.mem_filter.1 h1).1
   ·exact hS k hk
 exact key _ _ he

theorem lvTo_getD {i : Nat} (h : i < ops.size) : (lvTo ops M).getD i true = Nat.blt i M := by
 simp [lvTo, List.getD_eq_getElem?_getD, h]
theorem InvA.fin (hck : CkA ops M) {lr : Array Bool} {a : Act} {w : World} (h : InvA P r n ops Q M w₀ S rs σ lr a w) (hall : ∀ i, i < M → lr.getD i true = true) : wpAnyIn (fen r) 0 P .any ops (lift n Q) (left ops lr) lr a w := by
 obtain ⟨β, _, v, ob, _, hfin, ⟨σr, hrep, hds, ha, hb⟩, hsep⟩ := h.fut [] List.nodup_nil (fun i => ⟨(fun hi => by cases hi), fun hi => by have h2 := hi.2; rw [hall i hi.1] at h2; cases h2⟩)
 rw [pcs_congr (ob' := ob) (L' := fun _ => true) fun x hx => ⟨rfl, by rw [hall x hx]⟩] at hsep
 have hσ : σr = stA ops v σ M := by
  refine St.eq_of (fun x => ?_) (by rw [hds, stA_ds])
  by_cases hx : ∃ i, i < M ∧ dstOf ops i = some x
  ·obtain ⟨i, hi, hd⟩ := hx
   rw [ha i hi (hall i hi) x hd, stA_at hd hi fun k hk hki => hck.ds k hk i hi hki x hd]
  ·have hx' : ∀ i, i < M → dstOf ops i ≠ some x := fun i hi hd => hx ⟨i, hi, hd⟩
   rw [hb x fun i hi _ => hx' i hi, stA_other hx']
 subst hσ
 refine hfin w hsep [] lr a ⟨(fun _ hp => by cases hp), List.nodup_nil, List.Pairwise.nil, (fun _ hp => by cases hp), (fun _ hp => by cases hp), fun i hi => ?_, h.sz, by simp [lvTo], h.cl, ⟨_, hrep, rfl, fun _ _ => rfl⟩, (fun _ hp => by cases hp), (fun _ hp => by cases hp), (fun _ hp => by cases hp)⟩
 rw [lvTo_getD hi]
 rcases Nat.lt_or_ge i M with h1 | h1
 ·rw [hall i h1, show Nat.blt i M = true from by rw [Nat.blt_eq]; exact h1]; rfl
 ·rw [h.hi i h1 hi, show Nat.blt i M = false from by rw [← Bool.not_eq_true, Nat.blt_eq]; omega]; rfl
theorem getD_set_self {lr : Array Bool} {i : Nat} : (lr.setIfInBounds i true).getD i true = true := by
 simp [Array.getD_eq_getD_getElem?, Array.getElem?_setIfInBounds]
 split <;> rfl
theorem InvA.go (hok : okOps n ops = true) (hck : CkA ops M) : ∀ {m : Nat} {lr : Array Bool} {a : Act} {w : World}, left ops lr = m → InvA P r n ops Q M w₀ S rs σ lr a w → wpAnyIn (fen r) 0 P .any ops (lift n Q) (left ops lr) lr a w := by
  intro m
  induction m with
  | zero =>
    intro lr a w hm h
    refine h.fin hck fun i hi => left_zero hm i (Nat.lt_of_lt_of_le hi hck.le)
  | succ m ih =>
    intro lr a w hm h
    by_cases hall : ∀ i, i < M → lr.getD i true = true
    · exact h.fin hck hall
    have hex : ∃ i, i < M ∧ lr.getD i true = false := by
      refine Classical.byContradiction fun hc => hall fun i hi => ?_
      cases hb : lr.getD i true
      · exact absurd ⟨i, hi, hb⟩ hc
      · rfl
    have hlist : ∀ i, i < ops.size → (lr.getD i false = true ↔ lr.getD i true = true) := fun i hi => by rw [getD_true_of_lt h.sz hi]
    have hne : Region.ready .any ops lr ≠ [] := by
      intro h0
      have : ∀ i, i < M → lr.getD i true = true := by
        intro i
        induction i using Nat.strongRecOn with
        | _ i ihi =>
          intro hi
          cases hb : lr.getD i true with
          | true => rfl
          | false =>
            have : i ∈ Region.ready .any ops lr := ready_iff.2 ⟨hb, Nat.lt_of_lt_of_le hi hck.le, fun e he => by
              have h1 := hck.pr i hi e he
              exact (hlist e (by have := hck.le; omega)).2 (ihi e h1 (Nat.lt_trans h1 hi))⟩
            rw [h0] at this; cases this
      exact hall this
    rw [hm]
    refine ⟨fun h0 => absurd h0 hne, fun i hi => ?_⟩
    obtain ⟨h0, hlt, hpre⟩ := ready_iff.1 hi
    have hiM : i < M := by
      rcases Nat.lt_or_ge i M with h1 | h1
      · exact h1
      · exfalso
        exact hall fun k hk => (hlist k (Nat.lt_of_lt_of_le hk hck.le)).1 (above_cl h.cl hpre k (hck.ab i h1 hlt k hk))
    have hleft := left_set hlt h.sz h0
    have hm' : left ops (lr.setIfInBounds i true) = m := by omega
    obtain ⟨o, d, ho, hg, hd⟩ := hck.ug i hiM
    obtain ⟨hod, hopl⟩ := okOps_at hok ho
    have hdo : dstOf ops i = some d := by rw [dstOf_eq ho, hd]
    have hL : ∀ k, k ≠ i → (lr.setIfInBounds i true).getD k true = lr.getD k true := fun k hk => getD_set_ne true fun e => hk e.symm
    -- what a future tells of this step
    have hstep : ∀ s : List Nat, s.Nodup → (∀ k, k ∈ s ↔ k < M ∧ (lr.setIfInBounds i true).getD k true = false) → ∃ β v ob σr, Fits ops β (i :: s) w.heap.size ∧
        (∀ j, j < M → StepA P ops w₀ S rs β j (stA ops v σ j) (v j) (ob j)) ∧ (∀ w', Sep w₀ S (pcs ops β ob (fun _ => true) M ++ rs) w' → FG P r n ops Q (lvTo ops M) [] (stA ops v σ M) w') ∧
        Rep n σr a ∧ σr.ds = σ.ds ∧ (∀ i, i < M → lr.getD i true = true → ∀ d, dstOf ops i = some d → σr d = v i) ∧ (∀ x, (∀ i, i < M → lr.getD i true = true → dstOf ops i ≠ some x) → σr x = σ x) ∧
        Sep w₀ S (pcs ops β ob (fun i => lr.getD i true) M ++ rs) w ∧ (execOp a.eval o).run P w = .ok (.value (v i)) (if allocOp o.op = true then w.alloc (ob i) else w) := by
      intro s hs hms
      have hin : i ∉ s := fun hi => by have := ((hms i).1 hi).2; rw [getD_set_self] at this; cases this
      obtain ⟨β, hf, v, ob, hst, hfin, ⟨σr, hrep, hds, ha, hb⟩, hsep⟩ := h.fut (i :: s) (List.nodup_cons.2 ⟨hin, hs⟩) fun k => by
        rw [List.mem_cons, hms k]
        by_cases hki : k = i
        · subst hki; simp [hiM, h0]
        · rw [hL k hki]; simp [hki]
      refine ⟨β, v, ob, σr, hf, hst, hfin, hrep, hds, ha, hb, hsep, ?_⟩
      obtain ⟨o', ho', hrun⟩ := hst i hiM
      rw [ho] at ho'; injection ho' with ho'; subst ho'
      have hal : alAt ops i = allocOp o.op := by unfold alAt; simp only [ho]
      have hlook : ∀ x ∈ looks ops i, σr x = stA ops v σ i x := fun x hx => by
        by_cases hk : ∃ k, k < M ∧ dstOf ops k = some x
        · obtain ⟨k, hkM, hkd⟩ := hk
          have hkp := hck.lk i hiM k hkM x hkd hx
          have hki := hck.pr i hiM k hkp
          rw [ha k hkM ((hlist k (Nat.lt_of_lt_of_le hkM hck.le)).1 (hpre k hkp)) x hkd, stA_at hkd hki fun j hj hjk => hck.ds j (Nat.lt_trans hj hiM) k hkM hjk x hkd]
        · have hk' : ∀ k, k < M → dstOf ops k ≠ some x := fun k hkM hkd => hk ⟨k, hkM, hkd⟩
          rw [hb x fun k hkM _ => hk' k hkM, stA_other fun k hk => hk' k (Nat.lt_trans hk hiM)]
      rw [hrep.eval, exec_congr ho hopl hlook]
      have hS := Sep.dropL hsep
      split at hrun
      · rename_i hc
        rw [if_pos hc]
        unfold Fits at hf
        rw [if_pos (by rw [hal, hc])] at hf
        exact hrun w hS hf.1.symm
      · rename_i hc
        rw [if_neg hc]
        exact hrun w hS
    obtain ⟨s0, hs0, hms0⟩ : ∃ s : List Nat, s.Nodup ∧ ∀ k, k ∈ s ↔ k < M ∧ (lr.setIfInBounds i true).getD k true = false :=
      ⟨(List.range M).filter fun k => !((lr.setIfInBounds i true).getD k true), List.Nodup.sublist List.filter_sublist List.nodup_range, fun k => by simp⟩
    obtain ⟨β0, v0, ob0, σ0, _, _, _, hrep0, _, _, _, _, hrun0⟩ := hstep s0 hs0 hms0
    unfold wpOpIn
    simp only [ho]
    have hww : Region.wanted o (yielded ops a.tmps) = true := by unfold Region.wanted; rw [hg]
    rw [if_pos hww]
    refine ⟨fun _ _ => trivial, ?_⟩
    have hsem : (o.semAt (fen r).round a.eval) = execOp a.eval o := by
      refine Oper.semAt_eq _ _ _ fun c hc => ?_
      unfold execOp at hrun0
      rw [hc] at hrun0
      simp only [Sem.run_bind] at hrun0
      cases hr : (resolve a.eval c o.type).run P w <;> rw [hr] at hrun0 <;> simp [Result.andThen] at hrun0
    rw [hsem, hrun0]
    have hal : alAt ops i = allocOp o.op := by unfold alAt; simp only [ho]
    have hsz : (lr.setIfInBounds i true).size = ops.size := by simpa using h.sz
    have hnew := ih (lr := lr.setIfInBounds i true) (a := a.put o.dst (v0 i)) (w := if allocOp o.op = true then w.alloc (ob0 i) else w) hm'
      ⟨hsz, fun k hk e he => ?_, fun k hk hk2 => ?_, fun s hs hms => ?_⟩
    · rw [hm'] at hnew
      exact hnew
    · by_cases hki : i = k
      · subst hki; exact getD_set_true (hpre e he)
      · rw [getD_set_ne false hki] at hk; exact getD_set_true (h.cl k hk e he)
    · rw [hL k (by omega)]; exact h.hi k hk hk2
    · obtain ⟨β, v, ob, σr, hf, hst, hfin, hrep, hds, ha, hb, hsep, hrun⟩ := hstep s hs hms
      rw [hrun0] at hrun
      injection hrun with hv hw
      injection hv with hv
      rw [hv, hw]
      have hs' : Sep w₀ S (pcs ops β ob (fun k => (lr.setIfInBounds i true).getD k true) M ++ rs) (if allocOp o.op = true then w.alloc (ob i) else w) := by
        by_cases hc : allocOp o.op = true
        · rw [if_pos hc]
          unfold Fits at hf
          rw [if_pos (by rw [hal, hc])] at hf
          obtain ⟨l1, l2, e1, e2⟩ := pcs_insert (β := β) (ob := ob) (L := fun k => lr.getD k true) (L' := fun k => (lr.setIfInBounds i true).getD k true) (by rw [hal, hc]) h0 getD_set_self (fun x hx => (hL x hx).symm) hiM
          have h1 := hsep.alloc (ob i)
          rw [e1, List.append_assoc] at h1
          rw [e2, List.append_assoc, List.cons_append, hf.1]
          exact h1.unfront
        · rw [if_neg hc, pcs_congr (ob' := ob) (L' := fun k => lr.getD k true) fun x hx => ⟨rfl, ?_⟩]
          · exact hsep
          · by_cases hxi : x = i
            · subst hxi
              rw [hal, Bool.eq_false_iff.2 hc]; rfl
            · rw [hL x hxi]
      refine ⟨β, ?_, v, ob, hst, hfin, ⟨_, hrep.putO hod (v i), by rw [updO_ds, hds], fun k hk hkl dk hdk => ?_, fun x hx => ?_⟩, hs'⟩
      · unfold Fits at hf
        by_cases hc : allocOp o.op = true
        · rw [if_pos (by rw [hal, hc])] at hf
          rw [if_pos hc, show (w.alloc (ob i)).heap.size = w.heap.size + 1 from by simp]
          exact hf.2
        · rw [if_neg (by rw [hal]; exact hc)] at hf
          rw [if_neg hc]; exact hf
      · by_cases hki : k = i
        · subst hki
          rw [hd]
          rw [hdo] at hdk; injection hdk with hdk; subst hdk
          exact upd_same _ _ _
        · rw [updO_other (by rw [← dstOf_eq ho]; exact hck.ds i hiM k hk (fun e => hki e.symm) dk hdk)]
          exact ha k hk (by rw [← hL k hki]; exact hkl) dk hdk
      · rw [updO_other (by rw [← dstOf_eq ho]; exact hx i hiM getD_set_self)]
        refine hb x fun k hk hkl => hx k hk ?_
        by_cases hki : k = i
        · subst hki; exact getD_set_self
        · rw [hL k hki]; exact hkl

/-! The walk's rules, as scripts use them: j is the next one's number. -/
section
variable {op : Op} {ty : TypeId} {pos : String} {after : Array Edge} {guard : Option (Nat × Bool)} {k i : Nat} {β : Nat → Nat} {ps : List HP}
end
end
end Go.Mw
/-
 Rows that are owned, opened to their blocks and shut again; pools of small rows. Nothing of a given program stands here.
-/
namespace Go.Mw
open Go.RowKit

section
variable {w w' w₀ : World} {S : Nat → Prop} {rs : List HP} {put : HP → List HP}
end
end Go.Mw
/-
 Conversions of bytes that mark a block; calls beside a piece that stands apart; least of two. Nothing of a given program stands here.
-/
namespace Go.Mw
open Go.RowKit

section
variable {P : Program} {r : Option Nat} {n : Nat} {ops : Array Oper} {Q : Post} {lv : List Bool} {pd pd' : List (Nat × Bool)} {rest : List Oper} {σ : St} {w w' w₀ : World} {S F : Nat → Prop} {rs : List HP} {p q p0 : HP} {put : HP → List HP} {op : Op} {ty : TypeId} {pos : String} {after : Array Edge} {guard : Option (Nat × Bool)}
end
end Go.Mw
/-
 Arrays: slices of them, arrays of slices, equality of bytes; results that live in a cell; addresses at an offset. Nothing of a given program stands here.
-/
namespace Go.Mw
open Go.RowKit
open Extern.Stop (cell)

section gives
variable {P : Program} {ρ : Operand → Value} {ty : TypeId} {w w' : World} {x y z u : Operand}
/-- Types whose values may be told apart by == without a question. -/
class EqOk (P : Program) (t : TypeId) : Prop where
 ok : P.eqGuardType P.depth t = false
theorem run_eqGuard_agg {op : BinOp} {t : TypeId} [h : EqOk P t] {xs ys : Array Value} (x y : Operand) : (eqGuard op t x y (.agg xs) (.agg ys)).run P w = .ok () w := by
 unfold eqGuard
 cases op <;> simp [h.ok, run_program]
end gives

section cells
variable {P : Program} {w : World}
/-- Results, of which some live in cells. -/
def ResAll (P : Program) (σ : St) (w : World) : List ResultVar → List Value → Prop
 | [], vs => vs = []
 | .tmp t :: l, vs => ∃ us, vs = σ t :: us ∧ ResAll P σ w l us
 | .cell a t :: l, vs => ∃ v us ad, vs = v :: us ∧ σ a = .pointer (some ad) ∧ (loadVar t ad).run P w = .ok v w ∧ ResAll P σ w l us
theorem mapM_resultsC {σ : St} (g : ResultVar → Sem Value) (hg : ∀ t, g (.tmp t) = pure (σ t)) (hc : ∀ a t, g (.cell a t) = (do loadVar t (← asAddr (σ a)))) : ∀ (l : List ResultVar) (vs : List Value), ResAll P σ w l vs →
    (List.mapM g l).run P w = .ok vs w := by
  intro l
  induction l with
  | nil => intro vs h; have h : vs = [] := h; subst h; rfl
  | cons r l ih =>
    intro vs h
    cases r with
    | cell a t =>
      obtain ⟨v, us, ad, rfl, h1, h2, h3⟩ := h
      rw [List.mapM_cons, hc, h1]
      simp [asAddr, h2, ih us h3]
    | tmp t =>
      obtain ⟨us, rfl, h3⟩ := h
      rw [List.mapM_cons, hg]
      simp [ih us h3]
theorem run_resultsC {fn : Func} {tmps : Array Value} {σ : St} (hσ : ∀ i, tmps.getD i undef = σ i) {l : List ResultVar} (hl : fn.results = l.toArray) {vs : List Value} (h : ResAll P σ w l vs) :
    (results fn tmps).run P w = .ok (resPack vs) w := by
  unfold results
  rw [hl, List.mapM_toArray]
  have := mapM_resultsC (P := P) (w := w) (σ := σ) (fun
    | .tmp t => pure (tmps.getD t undef)
    | .cell a t => do loadVar t (← asAddr (tmps.getD a undef))) (fun t => by simp [hσ]) (fun a t => by simp [hσ]) l vs h
  rw [Sem.run_bind, Sem.run_map]
  refine (congrArg (fun r => (Result.andThen r _).andThen _) this).trans ?_
  simp only [Result.andThen_ok]
  match vs with
  | [] => simp [resPack]
  | [v] => simp [resPack]
  | u :: v :: us => simp [resPack]
def QfnC (P : Program) (l : List ResultVar) (R : Value → World → Prop) : Post := fun e σ w => match e with
 | .normal | .ret => σ.ds = [] ∧ ∃ vs, ResAll P σ w l vs ∧ R (resPack vs) w
 | _ => False
theorem QfnC_ret {l : List ResultVar} {R : Value → World → Prop} {σ : St} (h : ∃ vs, ResAll P σ w l vs ∧ R (resPack vs) w) (hd : σ.ds = [] := by exact rfl) : QfnC P l R .ret σ w := ⟨hd, h⟩
theorem retsC_of_FW {f : FuncId} {fn : Func} {c : Code} {args : List Value} {R : Value → World → Prop} {n : Nat} {l : List ResultVar}
    (hf : P.funcs[f]? = some fn) (hb : fn.body = some c) (hn : fn.ntmps = n) (hl : fn.results = l.toArray) (hargs : Nat.ble args.length n = true)
    (h : FW P none n c (QfnC P l R) (args0 0 args) w) : Rets P f args w R := by
  have hle : args.length ≤ n := Nat.le_of_ble_eq_true hargs
  refine (callsIn_wide (n := 0)).1 (callsIn_of_wp_marks (F := fen none) hf hb trivial (Go.wpIn_mono (h _ ⟨?_, (args0_ds args 0).symm, fun i => ?_⟩) ?_))
  · simp [hn]; omega
  · rw [args0_get]
    simp only [Nat.zero_le, if_true, Nat.sub_zero]
    simp only [Array.getD_eq_getD_getElem?, List.getElem?_toArray]
    rw [Array.getElem?_append]
    split
    · simp
    · rename_i hge
      simp at hge
      rw [List.getElem?_eq_none (by omega)]
      rw [Array.getElem?_replicate]
      split <;> rfl
  · rintro e a' w' ⟨s, hs, hq⟩
    cases e with
    | normal =>
      obtain ⟨h0, vs, h1, h2⟩ := hq
      show LeavesInM _ _ _ _ _ _ _ _ _
      rw [hs.defers, h0]
      exact ⟨_, run_resultsC hs.get hl h1, h2⟩
    | ret =>
      obtain ⟨h0, vs, h1, h2⟩ := hq
      show LeavesInM _ _ _ _ _ _ _ _ _
      rw [hs.defers, h0]
      exact ⟨_, run_resultsC hs.get hl h1, h2⟩
    | _ => exact hq.elim
section
variable {f : FuncId} {fn : Func} {c : Code} {R : Value → World → Prop} {n : Nat} {l : List ResultVar} (hf : P.funcs[f]? = some fn) (hb : fn.body = some c) (hn : fn.ntmps = n) (hl : fn.results = l.toArray)
include hf hb hn hl
theorem retsC1 {a0 : Value} (hk : Nat.ble 1 n = true) (h : FW P none n c (QfnC P l R) (upd und 0 a0) w) : Rets P f [a0] w R := retsC_of_FW hf hb hn hl hk h
theorem retsC2 {a0 a1 : Value} (hk : Nat.ble 2 n = true) (h : FW P none n c (QfnC P l R) (upd (upd und 1 a1) 0 a0) w) : Rets P f [a0, a1] w R := retsC_of_FW hf hb hn hl hk h
theorem retsC3 {a0 a1 a2 : Value} (hk : Nat.ble 3 n = true) (h : FW P none n c (QfnC P l R) (upd (upd (upd und 2 a2) 1 a1) 0 a0) w) : Rets P f [a0, a1, a2] w R := retsC_of_FW hf hb hn hl hk h
end
theorem loadVar_blkN {b o T k : Nat} [h1 : Agg P T k] {cs us : List Value} {E : TypeId} (hb : w.heap[b]? = some (.cells cs.toArray E (0, 0))) (hu : (cs.drop o).take k = us) (hk : us.length = k) : (loadVar T ⟨b, o, none⟩).run P w = .ok (.agg us.toArray) w := by
 simp [loadVar, h1.agg, h1.size, run_loadCells_blk hb hu hk]
end cells

section drawq
variable {P : Program} {r : Option Nat} {n : Nat} {ops : Array Oper} {Q : Post} {lv : List Bool} {pd : List (Nat × Bool)} {σ : St} {w w₀ : World} {S : Nat → Prop} {rs : List HP} {ty : TypeId} {pos : String} {after : Array Edge} {guard : Option (Nat × Bool)}
/-- A call that looks alone, in a region that draws. -/
theorem FGcallQ (hok : okOps n ops = true) (e : Nat) (pd' : List (Nat × Bool)) {d : Nat} {f : FuncId} {xs : List Operand} {ats : Array TypeId} {vals : List Value} {v : Value} [he : Enters P f] (H : Sep w₀ S rs w) (hc : Rets P f vals w fun v' w' => v' = v ∧ Kept noB w w')
    (ho : ops[e]? = some { dst := some d, op := .call { callee := .value (.func f), args := xs.toArray, argTypes := ats }, type := ty, pos := pos, after := after, guard := guard } := by exact rfl)
    (hw : Region.wanted { dst := some d, op := .call { callee := .value (.func f), args := xs.toArray, argTypes := ats }, type := ty, pos := pos, after := after, guard := guard } (yieldF ops σ) = true := by kernel_rfl) (hv : xs.map (evF σ) = vals := by exact rfl) (hck : effectOk ops lv (pd.map (·.1)) e = true := by kernel_rfl)
    (hpd : pd.filter (fun p => !((above ops e).contains p.1)) = pd' := by kernel_rfl) (h : ∀ w', Sep w₀ S rs w' → Kept noB w w' → Stab P ops (upd σ d v) w' pd' ∧ FG P r n ops Q (lv.set e true) pd' (upd σ d v) w') : FG P r n ops Q lv pd σ w :=
  FGcall hok e pd' ho hw hc hv hck hpd fun v' w' ⟨h1, h2⟩ => by subst h1; exact h w' (H.keep h2) h2
end drawq
/-- A slice whose cells are the first of a block that is owned, whatever its room. -/
def preH (E : Nat) (v : Value) (n : Nat) (xs : List Value) : HP := exH fun x : Option (Nat × List Value) × Nat => match x with
 | (none, c) => pureH (v = .slice none n c ∧ n = 0 ∧ xs = [])
 | (some (g, rest), c) => star (pureH (v = .slice (some ⟨g, 0, none⟩) n c ∧ xs.length = n ∧ n ≤ c)) (blk g (xs ++ rest) E)
section pre
variable {w₀ w w' : World} {S : Nat → Prop} {rs : List HP} {put : HP → List HP}
theorem pre_row {E n c : Nat} {A : Option Addr} {xs : List Value} {F : Nat → Prop} (h : (preH E (.slice A n c) n xs).ok F w) : RowAt w A n 1 xs := by
 obtain ⟨⟨_ | ⟨g, rest⟩, c'⟩, hx⟩ := h
 ·obtain ⟨⟨h1, h2, h3⟩, _⟩ := hx
  subst h2 h3
  exact RowAt.nil _ _ _
 ·obtain ⟨F1, F2, hF, hd, ⟨⟨h1, h2, h3⟩, _⟩, hb⟩ := hx
  injection h1 with h1 _ _
  subst h1
  refine ⟨by omega, fun _ => ⟨_, rfl, fun j u hu => ?_⟩⟩
  rw [Addr.add_lit, Nat.zero_add, cell_blk hb.2, List.getElem?_append_left (List.getElem?_eq_some_iff.1 hu).1]
  exact hu
theorem Sep.preRow {E n c : Nat} {A : Option Addr} {xs : List Value} (h : Sep w₀ S rs w) (hat : At rs (preH E (.slice A n c) n xs) put) : RowAt w A n 1 xs := by
 obtain ⟨F, hp, _, _⟩ := h.focus hat
 exact pre_row hp
end pre
end Go.Mw
