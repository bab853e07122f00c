/-
  Contracts that turn one owned piece, and their calls. Nothing of a given program stands here.
-/
import Derived.Test.YteflbohpabdjkaaMwB
import Derived.Laws.OwnMore
import Derived.ProofKit
import Derived.Carry
import Derived.ChangeSame
import Derived.Deep.Slices
import Derived.Deep.Fields
import Derived.Stop.BytesEq
namespace Go.Mw
open Go.RowKit

/-- The blocks F have become those of q. -/
def Turn (F : Nat → Prop) (q : HP) (w w' : World) : Prop := Kept F w w' ∧ ∃ F', q.ok F' w' ∧ ∀ b, F' b → F b ∨ w.heap.size ≤ b
section
variable {P : Program} {r : Option Nat} {n : Nat} {ops : Array Oper} {Q : Post} {rest : List Oper} {σ : St} {w w' w₀ : World} {S F : Nat → Prop} {rs : List HP} {p q : HP} {put : HP → List HP} {op : Op} {ty : TypeId} {pos : String} {after : Array Edge}
theorem starL_one {F : Nat → Prop} : (starL [p]).ok F w ↔ p.ok F w := by
  constructor
  · rintro ⟨F1, F2, hF, hd, hp, ⟨_, h2⟩⟩
    have : F = F1 := funext fun b => propext ((hF b).trans ⟨fun h => h.elim id fun h => (h2 b h).elim, .inl⟩)
    rw [this]; exact hp
  · intro h
    exact ⟨F, fun _ => False, fun b => by simp, fun _ _ h => h, h, trivial, fun _ h => h⟩
theorem Sep.start1 (h : p.ok F w) : Sep w F [p] w := Sep.start [p] (starL_one.2 h)
theorem Sep.turn (h : Sep w₀ F [p] w) : Turn F p w₀ w := by
  obtain ⟨h1, F', hF, hs⟩ := h
  exact ⟨h1, F', starL_one.1 hF, hs⟩
theorem Turn.refl (h : p.ok F w) : Turn F p w w := ⟨Kept.refl _ _, F, h, fun _ hb => .inl hb⟩
theorem Sep.turned (H : Sep w₀ S rs w) (hat : At rs p put) (h : ∀ F, p.ok F w → Turn F q w w') : Sep w₀ S (put q) w' := by
  obtain ⟨F, hp, _, hput⟩ := H.focus hat
  obtain ⟨hk, F', hq, hs⟩ := h F hp
  exact hput w' F' q hk hq hs
theorem Sep.front7 {a b c d e f g p : HP} {l : List HP} (h : Sep w₀ S (a :: b :: c :: d :: e :: f :: g :: p :: l) w) : Sep w₀ S (p :: a :: b :: c :: d :: e :: f :: g :: l) w := Sep.front (l1 := [a, b, c, d, e, f, g]) h
theorem Sep.front8 {a b c d e f g i p : HP} {l : List HP} (h : Sep w₀ S (a :: b :: c :: d :: e :: f :: g :: i :: p :: l) w) : Sep w₀ S (p :: a :: b :: c :: d :: e :: f :: g :: i :: l) w := Sep.front (l1 := [a, b, c, d, e, f, g, i]) h
theorem Sep.front9 {a b c d e f g i j p : HP} {l : List HP} (h : Sep w₀ S (a :: b :: c :: d :: e :: f :: g :: i :: j :: p :: l) w) : Sep w₀ S (p :: a :: b :: c :: d :: e :: f :: g :: i :: j :: l) w := Sep.front (l1 := [a, b, c, d, e, f, g, i, j]) h
theorem Sep.back1 {a p : HP} {l : List HP} (h : Sep w₀ S (p :: a :: l) w) : Sep w₀ S (a :: p :: l) w := h.front1
theorem Sep.back2 {a b p : HP} {l : List HP} (h : Sep w₀ S (p :: a :: b :: l) w) : Sep w₀ S (a :: b :: p :: l) w := h.front2.front2
/-- The first alone. -/
theorem Sep.first (h : Sep w₀ S (p :: rs) w) : Sep w₀ S [p] w := by
  induction rs with
  | nil => exact h
  | cons a rs ih => exact ih (h.front1.drop0)
/-- The first few alone. -/
theorem Sep.firsts {l rs : List HP} (h : Sep w₀ S (l ++ rs) w) : Sep w₀ S l w := by
  have := (Sep.bundle h).first.parts
  rwa [List.append_nil] at this
/-- A call that leaves the world as it is. -/
theorem FL_callS {d : Nat} {f : FuncId} {xs : List Operand} {ats : Array TypeId} {vals : List Value} {v : Value} [he : Enters P f]
    (hc : Rets P f vals w fun v' w' => v' = v ∧ w = w') (hv : xs.map (evF σ) = vals := by exact rfl) (hd : Nat.blt d n = true := by exact rfl)
    (h : FL P r n ops Q rest (upd σ d v) w) :
    FL P r n ops Q ({ dst := some d, op := .call { callee := .value (.func f), args := xs.toArray, argTypes := ats }, type := ty, pos := pos, after := after, guard := none } :: rest) σ w :=
  FL_call hc hv hd fun v' w' ⟨hx, hw⟩ => by subst hx; subst hw; exact h
/-- A call of a method that has no body to speak of: its result is dropped, its world is as it was. -/
theorem FL_loadB {d b o : Nat} {x : Operand} {T : TypeId} [OneCell P T] {cs : List Value} {E : TypeId} {v : Value} (hb : w.heap[b]? = some (.cells cs.toArray E (0, 0))) (hx : evF σ x = .pointer (some ⟨b, o, none⟩) := by exact rfl)
    (hv : cs[o]? = some v := by exact rfl) (hd : Nat.blt d n = true := by exact rfl) (h : FL P r n ops Q rest (upd σ d v) w) :
    FL P r n ops Q ({ dst := some d, op := .load T x, type := ty, pos := pos, after := after, guard := none } :: rest) σ w := FL_val (Gives.load1 hx hb hv) hd h
/-- A call that turns one piece. -/
theorem FL_callT {d : Nat} {f : FuncId} {xs : List Operand} {ats : Array TypeId} {vals : List Value} {α : Type} {val : α → Value} {φ : α → Prop} {q : α → HP} [he : Enters P f] (H : Sep w₀ S rs w) (hat : At rs p put)
    (hc : ∀ F, p.ok F w → (∀ b, F b → S b ∨ w₀.heap.size ≤ b) → Rets P f vals w fun v w' => ∃ x, v = val x ∧ φ x ∧ Turn F (q x) w w') (hv : xs.map (evF σ) = vals := by exact rfl) (hd : Nat.blt d n = true := by exact rfl)
    (h : ∀ x w', φ x → Sep w₀ S (put (q x)) w' → FL P r n ops Q rest (upd σ d (val x)) w') :
    FL P r n ops Q ({ dst := some d, op := .call { callee := .value (.func f), args := xs.toArray, argTypes := ats }, type := ty, pos := pos, after := after, guard := none } :: rest) σ w := by
  obtain ⟨F, hp, hS, hput⟩ := H.focus hat
  refine FL_call (hc F hp hS) hv hd fun v w' ⟨x, hx, hφ, hk, F', hq, hs⟩ => ?_
  subst hx
  exact h x w' hφ (hput w' F' _ hk hq hs)
/-- The same, of one outcome. -/
theorem FL_call1 {d : Nat} {f : FuncId} {xs : List Operand} {ats : Array TypeId} {vals : List Value} {v : Value} [he : Enters P f] (H : Sep w₀ S rs w) (hat : At rs p put)
    (hc : ∀ F, p.ok F w → (∀ b, F b → S b ∨ w₀.heap.size ≤ b) → Rets P f vals w fun v' w' => v' = v ∧ Turn F q w w') (hv : xs.map (evF σ) = vals := by exact rfl) (hd : Nat.blt d n = true := by exact rfl)
    (h : ∀ w', Sep w₀ S (put q) w' → FL P r n ops Q rest (upd σ d v) w') :
    FL P r n ops Q ({ dst := some d, op := .call { callee := .value (.func f), args := xs.toArray, argTypes := ats }, type := ty, pos := pos, after := after, guard := none } :: rest) σ w := by
  obtain ⟨F, hp, hS, hput⟩ := H.focus hat
  refine FL_call (hc F hp hS) hv hd fun v' w' ⟨hx, hk, F', hq, hs⟩ => ?_
  subst hx
  exact h w' (hput w' F' _ hk hq hs)
theorem FL_call1_ {f : FuncId} {xs : List Operand} {ats : Array TypeId} {vals : List Value} {v : Value} [he : Enters P f] (H : Sep w₀ S rs w) (hat : At rs p put)
    (hc : ∀ F, p.ok F w → (∀ b, F b → S b ∨ w₀.heap.size ≤ b) → Rets P f vals w fun v' w' => v' = v ∧ Turn F q w w') (hv : xs.map (evF σ) = vals := by exact rfl)
    (h : ∀ w', Sep w₀ S (put q) w' → FL P r n ops Q rest σ w') :
    FL P r n ops Q ({ dst := none, op := .call { callee := .value (.func f), args := xs.toArray, argTypes := ats }, type := ty, pos := pos, after := after, guard := none } :: rest) σ w := by
  obtain ⟨F, hp, hS, hput⟩ := H.focus hat
  refine FL_call0 (hc F hp hS) hv fun v' w' ⟨hx, hk, F', hq, hs⟩ => ?_
  exact h w' (hput w' F' _ hk hq hs)
/-- A piece that is owned, and the first one: they stand apart. -/
theorem Sep.focus1 (h : Sep w₀ S (q :: rs) w) (hat : At rs p put) : ∃ F Fq, p.ok F w ∧ q.ok Fq w ∧ (∀ b, Fq b → ¬ F b) ∧ (∀ b, F b → S b ∨ w₀.heap.size ≤ b) ∧
    ∀ w' F' p', Kept F w w' → p'.ok F' w' → (∀ b, F' b → F b ∨ w.heap.size ≤ b) → Sep w₀ S (q :: put p') w' := by
  obtain ⟨h1, G, ⟨Fq, Fr, hG, hd, hq, hr⟩, hS⟩ := h
  have h2 : Sep w₀ S rs w := ⟨h1, Fr, hr, fun b hb => hS b ((hG b).2 (.inr hb))⟩
  obtain ⟨l1, l2, rfl, hput⟩ := hat
  obtain ⟨F, F2, hF12, hd2, hp, hr2⟩ := starL_split hr
  refine ⟨F, Fq, hp, hq, fun b hb hb2 => hd b hb ((hF12 b).2 (.inl hb2)), fun b hb => hS b ((hG b).2 (.inr ((hF12 b).2 (.inl hb)))), fun w' F' p' hk hp' hsub => ?_⟩
  have hlow := (starL (l1 ++ l2)).low hr2
  have hlowq := q.low hq
  rw [hput]
  refine ⟨h1.trans hk fun b hb => hS b ((hG b).2 (.inr ((hF12 b).2 (.inl hb)))), fun b => Fq b ∨ (F' b ∨ F2 b), ⟨Fq, fun b => F' b ∨ F2 b, fun b => Iff.rfl, fun b hb hb2 => ?_, q.loc hk.size (fun b hb => hk.block b (hlowq b hb) fun hf => hd b hb ((hF12 b).2 (.inl hf))) hq, ?_⟩, ?_⟩
  · rcases hb2 with hb2 | hb2
    · rcases hsub b hb2 with h | h
      · exact hd b hb ((hF12 b).2 (.inl h))
      · have := hlowq b hb; omega
    · exact hd b hb ((hF12 b).2 (.inr hb2))
  · refine starL_join (F1 := F') (F2 := F2) (fun b => Iff.rfl) (fun b hb hb2 => ?_) hp' ((starL (l1 ++ l2)).loc hk.size (fun b hb => hk.block b (hlow b hb) (fun h1 => hd2 b h1 hb)) hr2)
    rcases hsub b hb with h | h
    · exact hd2 b h hb2
    · have := hlow b hb2; omega
  · rintro b (hb | hb | hb)
    · exact hS b ((hG b).2 (.inl hb))
    · rcases hsub b hb with h | h
      · exact hS b ((hG b).2 (.inr ((hF12 b).2 (.inl h))))
      · exact .inr (Nat.le_trans h1.size h)
    · exact hS b ((hG b).2 (.inr ((hF12 b).2 (.inr hb))))
/-- A call that turns one piece and reads the row that stands first. -/
theorem FL_call1R {d : Nat} {f : FuncId} {xs : List Operand} {ats : Array TypeId} {vals us : List Value} {v : Value} {E s m c : Nat} {A : Option Addr} [he : Enters P f] (H : Sep w₀ S (rowH E s (.slice A m c) m us :: rs) w) (hat : At rs p put)
    (hc : ∀ F, p.ok F w → RowAt w A m s us → Off A m F → Rets P f vals w fun v' w' => v' = v ∧ Turn F q w w') (hv : xs.map (evF σ) = vals := by exact rfl) (hd : Nat.blt d n = true := by exact rfl)
    (h : ∀ w', Sep w₀ S (rowH E s (.slice A m c) m us :: put q) w' → FL P r n ops Q rest (upd σ d v) w') :
    FL P r n ops Q ({ dst := some d, op := .call { callee := .value (.func f), args := xs.toArray, argTypes := ats }, type := ty, pos := pos, after := after, guard := none } :: rest) σ w := by
  obtain ⟨F, Fq, hp, hq, hdj, hS, hput⟩ := H.focus1 hat
  refine FL_call (hc F hp (rowAt_of_own hq.1) (rowH_off hq hdj)) hv hd fun v' w' ⟨hx, hk, F', hq', hs⟩ => ?_
  subst hx
  exact h w' (hput w' F' _ hk hq' hs)
theorem HP.stay {F : Nat → Prop} (h : p.ok F w) (hk : Kept noB w w') : p.ok F w' := p.loc hk.size (fun b hb => hk.block b (p.low h b hb) id) h
/-- A call that makes a new piece. -/
theorem FL_callN {d : Nat} {f : FuncId} {xs : List Operand} {ats : Array TypeId} {vals : List Value} {α : Type} {val : α → Value} {φ : α → Prop} {q : α → HP} [he : Enters P f] (H : Sep w₀ S rs w)
    (hc : Rets P f vals w fun v w' => ∃ x, v = val x ∧ φ x ∧ Turn noB (q x) w w') (hv : xs.map (evF σ) = vals := by exact rfl) (hd : Nat.blt d n = true := by exact rfl)
    (h : ∀ x w', φ x → Sep w₀ S (q x :: rs) w' → Kept noB w w' → FL P r n ops Q rest (upd σ d (val x)) w') :
    FL P r n ops Q ({ dst := some d, op := .call { callee := .value (.func f), args := xs.toArray, argTypes := ats }, type := ty, pos := pos, after := after, guard := none } :: rest) σ w := by
  refine FL_call hc hv hd fun v w' ⟨x, hx, hφ, hk, F', hq, hs⟩ => ?_
  subst hx
  exact h x w' hφ (H.new hk hq fun b hb => (hs b hb).resolve_left id) hk
end
end Go.Mw
/-
  The rules of the walk for a region that draws, with the pieces that are owned. Nothing of a given program stands here.
-/
namespace Go.Mw
open Go.RowKit

section
variable {P : Program} {r : Option Nat} {n : Nat} {ops : Array Oper} {Q : Post} {lv : List Bool} {pd pd' : List (Nat × Bool)} {σ : St} {w w' w₀ : World} {S F : Nat → Prop} {rs : List HP} {p q : HP} {put : HP → List HP} {op : Op} {ty : TypeId} {pos : String} {after : Array Edge} {guard : Option (Nat × Bool)}
theorem FW_drawS {id : Nat} {l : List Oper} (hm : P.follows .mixedOrders = true) (H : Sep w₀ S rs w) (hok : okOps n l.toArray = true := by kernel_rfl) (h : okOps n l.toArray = true → ∀ w', Sep w₀ S rs w' → FG P r n l.toArray Q (List.replicate l.length false) [] σ w') : FW P r n (.region id l.toArray true) Q σ w :=
  FW_draw hm hok fun w' hk => h hok w' (H.keep hk)
theorem FG_splitP {t : Nat} {φ : Prop} [Decidable φ] (hb : σ.get t = .bool (decide φ)) (h1 : φ → FG P r n ops Q lv pd (upd σ t (.bool true)) w) (h0 : ¬ φ → FG P r n ops Q lv pd (upd σ t (.bool false)) w) : FG P r n ops Q lv pd σ w := by
  by_cases hp : φ
  · have := h1 hp
    rw [show Value.bool true = σ t from by rw [hb, decide_eq_true hp], upd_self] at this; exact this
  · have := h0 hp
    rw [show Value.bool false = σ t from by rw [hb, decide_eq_false hp], upd_self] at this; exact this
theorem FG_split {t : Nat} {b : Bool} (hb : σ.get t = .bool b) (h1 : b = true → FG P r n ops Q lv pd (upd σ t (.bool true)) w) (h0 : b = false → FG P r n ops Q lv pd (upd σ t (.bool false)) w) : FG P r n ops Q lv pd σ w := by
  cases b
  · have := h0 rfl
    rw [show Value.bool false = σ t from hb.symm, upd_self] at this; exact this
  · have := h1 rfl
    rw [show Value.bool true = σ t from hb.symm, upd_self] at this; exact this
theorem FGmove (hok : okOps n ops = true) (i : Nat) {d : Nat} {x : Operand} {v : Value} (ho : ops[i]? = some { dst := some d, op := .move x, type := ty, pos := pos, after := after, guard := guard } := by exact rfl)
    (hw : Region.wanted { dst := some d, op := .move x, type := ty, pos := pos, after := after, guard := guard } (yieldF ops σ) = true := by kernel_rfl) (hv : evF σ x = v := by simp only [evF, upd_same, upd_ne, ne_eq, Nat.reduceEqDiff, not_false_eq_true]; rfl) (hck : quietOk ops lv (pd.map (·.1)) i = true := by kernel_rfl)
    (h : FG P r n ops Q (lv.set i true) ((i, true) :: pd) (upd σ d v) w) : FG P r n ops Q lv pd σ w := FGp hok i ho hw (fun _ => Gives.move hv) hck h
theorem FGload (hok : okOps n ops = true) (i : Nat) {d b o : Nat} {x : Operand} {T : TypeId} [OneCell P T] {cs : List Value} {E : TypeId} {v : Value} (H : Sep w₀ S rs w) (ho : ops[i]? = some { dst := some d, op := .load T x, type := ty, pos := pos, after := after, guard := guard } := by exact rfl)
    (hw : Region.wanted { dst := some d, op := .load T x, type := ty, pos := pos, after := after, guard := guard } (yieldF ops σ) = true := by kernel_rfl) (hx : evF σ x = .pointer (some ⟨b, o, none⟩) := by exact rfl)
    (hat : At rs (blk b cs E) put := by first | exact At0 | exact At1 | exact At2 | exact At3 | exact At4 | exact At5 | exact At6 | exact At7 | exact At8 | exact At9) (hv : cs[o]? = some v := by exact rfl) (hck : quietOk ops lv (pd.map (·.1)) i = true := by kernel_rfl)
    (h : FG P r n ops Q (lv.set i true) ((i, false) :: pd) (upd σ d v) w) : FG P r n ops Q lv pd σ w := FGl hok i ho hw (Gives.load1 hx (H.obj hat) hv) hck h
theorem FGloadN (hok : okOps n ops = true) (i : Nat) {d b o k : Nat} {x : Operand} {T : TypeId} [Agg P T k] {cs us : List Value} {E : TypeId} (H : Sep w₀ S rs w) (ho : ops[i]? = some { dst := some d, op := .load T x, type := ty, pos := pos, after := after, guard := guard } := by exact rfl)
    (hw : Region.wanted { dst := some d, op := .load T x, type := ty, pos := pos, after := after, guard := guard } (yieldF ops σ) = true := by kernel_rfl) (hx : evF σ x = .pointer (some ⟨b, o, none⟩) := by exact rfl)
    (hat : At rs (blk b cs E) put := by first | exact At0 | exact At1 | exact At2 | exact At3 | exact At4 | exact At5 | exact At6 | exact At7 | exact At8 | exact At9) (hu : (cs.drop o).take k = us) (hk : us.length = k) (hck : quietOk ops lv (pd.map (·.1)) i = true := by kernel_rfl)
    (h : FG P r n ops Q (lv.set i true) ((i, false) :: pd) (upd σ d (.agg us.toArray)) w) : FG P r n ops Q lv pd σ w := FGl hok i ho hw (Gives.loadN hx (H.obj hat) hu hk) hck h
theorem Stab_load {i d b o : Nat} {x : Operand} {T : TypeId} [OneCell P T] {cs : List Value} {E : TypeId} {v : Value} {l : List (Nat × Bool)} (H : Sep w₀ S rs w) (ho : ops[i]? = some { dst := some d, op := .load T x, type := ty, pos := pos, after := after, guard := guard } := by exact rfl)
    (hw : Region.wanted { dst := some d, op := .load T x, type := ty, pos := pos, after := after, guard := guard } (yieldF ops σ) = true := by kernel_rfl) (hx : evF σ x = .pointer (some ⟨b, o, none⟩) := by exact rfl)
    (hat : At rs (blk b cs E) put := by first | exact At0 | exact At1 | exact At2 | exact At3 | exact At4 | exact At5 | exact At6 | exact At7 | exact At8 | exact At9) (hv : cs[o]? = some v := by exact rfl) (hd : σ d = v := by exact rfl) (h : Stab P ops σ w l) : Stab P ops σ w ((i, false) :: l) :=
  Stab_cons ho hw (Gives.load1 hx (H.obj hat) hv) hd h
theorem FGstore (hok : okOps n ops = true) (e : Nat) (pd' : List (Nat × Bool)) {b o : Nat} {x y : Operand} {T : TypeId} [OneCell P T] {cs cs' : List Value} {E : TypeId} {v : Value} (H : Sep w₀ S rs w) (ho : ops[e]? = some { dst := none, op := .store T x y, type := ty, pos := pos, after := after, guard := guard } := by exact rfl)
    (hw : Region.wanted { dst := none, op := .store T x y, type := ty, pos := pos, after := after, guard := guard } (yieldF ops σ) = true := by kernel_rfl) (hx : evF σ x = .pointer (some ⟨b, o, none⟩) := by exact rfl)
    (hy : evF σ y = v := by simp only [evF, upd_same, upd_ne, ne_eq, Nat.reduceEqDiff, not_false_eq_true]; rfl) (hv : v.oneCell' = true := by exact rfl)
    (hat : At rs (blk b cs E) put := by first | exact At0 | exact At1 | exact At2 | exact At3 | exact At4 | exact At5 | exact At6 | exact At7 | exact At8 | exact At9) (hlt : Nat.blt o cs.length = true := by exact rfl)
    (hs : cs.set o v = cs' := by first | (simp only [List.set_cons_zero, List.set_cons_succ]; rfl) | exact rfl) (hck : effectOk ops lv (pd.map (·.1)) e = true := by kernel_rfl) (hpd : pd.filter (fun p => !((above ops e).contains p.1)) = pd' := by kernel_rfl)
    (h : ∀ w', Sep w₀ S (put (blk b cs' E)) w' → Stab P ops σ w' pd' ∧ FG P r n ops Q (lv.set e true) pd' σ w') : FG P r n ops Q lv pd σ w :=
  FGact hok e pd' ho hw (acts_store cs' H hx hy hv hat hlt hs) hck hpd h
theorem FGmapUpdate (hok : okOps n ops = true) (e : Nat) (pd' : List (Nat × Bool)) {x y z : Operand} {T k el : TypeId} [IsMap P T k el] [IsInt P k .i64] {b : Nat} {f : Int → Option Value} {i : Int} {v : Value} (H : Sep w₀ S rs w)
    (ho : ops[e]? = some { dst := none, op := .mapUpdate T x y z, type := ty, pos := pos, after := after, guard := guard } := by exact rfl)
    (hw : Region.wanted { dst := none, op := .mapUpdate T x y z, type := ty, pos := pos, after := after, guard := guard } (yieldF ops σ) = true := by kernel_rfl) (hx : evF σ x = .map (some b) := by exact rfl) (hy : evF σ y = .int .i64 i := by exact rfl) (hz : evF σ z = v := by simp only [evF, upd_same, upd_ne, ne_eq, Nat.reduceEqDiff, not_false_eq_true]; rfl)
    (hat : At rs (mapI b f) put := by first | exact At0 | exact At1 | exact At2 | exact At3 | exact At4 | exact At5 | exact At6 | exact At7 | exact At8 | exact At9) (hck : effectOk ops lv (pd.map (·.1)) e = true := by kernel_rfl) (hpd : pd.filter (fun p => !((above ops e).contains p.1)) = pd' := by kernel_rfl)
    (h : ∀ w', Sep w₀ S (put (mapI b fun k => if k = i then some v else f k)) w' → Stab P ops σ w' pd' ∧ FG P r n ops Q (lv.set e true) pd' σ w') : FG P r n ops Q lv pd σ w :=
  FGact hok e pd' ho hw (acts_mapUpdate H hat hx hy hz) hck hpd h
theorem FGappend (hok : okOps n ops = true) (i : Nat) (pd' : List (Nat × Bool)) {d : Nat} {x y : Operand} {t e : TypeId} [hs : IsSlice P t e] {size bytes : Nat} [hc : Cells P e size bytes] {z : Value} [hz : Zero P e z] {v : Value} {k m c : Nat} {xs news : List Value} {A : Option Addr}
    (H : Sep w₀ S rs w) (hr : RowAt w A m size news) (h1 : ∀ u ∈ news, u.oneCell' = true) (h63 : k + m ≤ maxLen) (hbytes : (k + m) * bytes ≤ 140737488355328)
    (ho : ops[i]? = some { dst := some d, op := .call { callee := .builtin .append, args := #[x, y], argTypes := #[t, t] }, type := ty, pos := pos, after := after, guard := guard } := by exact rfl)
    (hw : Region.wanted { dst := some d, op := .call { callee := .builtin .append, args := #[x, y], argTypes := #[t, t] }, type := ty, pos := pos, after := after, guard := guard } (yieldF ops σ) = true := by kernel_rfl)
    (hx : evF σ x = v := by exact rfl) (hy : evF σ y = .slice A m c := by exact rfl) (hat : At rs (rowH e size v k xs) put := by first | exact At0 | exact At1 | exact At2 | exact At3 | exact At4 | exact At5 | exact At6 | exact At7 | exact At8 | exact At9)
    (hsz : 0 < size := by decide) (hzs : z.cells.size = size := by exact rfl) (hck : effectOk ops lv (pd.map (·.1)) i = true := by kernel_rfl) (hpd : pd.filter (fun p => !((above ops i).contains p.1)) = pd' := by kernel_rfl)
    (h : ∀ v' w', Sep w₀ S (put (rowH e size v' (k + m) (xs ++ news))) w' → Stab P ops (upd σ d v') w' pd' ∧ FG P r n ops Q (lv.set i true) pd' (upd σ d v') w') : FG P r n ops Q lv pd σ w :=
  FGval hok i pd' ho hw (gives_append H hx hy hat hr h1 hsz hzs h63 hbytes) hck hpd h
theorem FGbuildSlice (hok : okOps n ops = true) (i : Nat) (pd' : List (Nat × Bool)) {d : Nat} {t e : TypeId} {xs : List Operand} {parts : List (Nat × Operand)} {out : List Value} {size bytes : Nat} [hs : IsSlice P t e] [hc : Cells P e size bytes] {z : Value} [hz : Zero P e z] (H : Sep w₀ S rs w) (hE : Elems (evF σ) size xs out)
    (ho : ops[i]? = some { dst := some d, op := .buildSlice t xs.length parts.toArray, type := ty, pos := pos, after := after, guard := guard } := by exact rfl)
    (hw : Region.wanted { dst := some d, op := .buildSlice t xs.length parts.toArray, type := ty, pos := pos, after := after, guard := guard } (yieldF ops σ) = true := by kernel_rfl)
    (hp : parts = (xs.zipIdx 0).map fun p => (p.2, p.1) := by exact rfl) (hlen : Nat.ble (xs.length * size) 16777216 = true := by exact rfl)
    (hck : effectOk ops lv (pd.map (·.1)) i = true := by kernel_rfl) (hpd : pd.filter (fun p => !((above ops i).contains p.1)) = pd' := by kernel_rfl)
    (h : ∀ b w', Sep w₀ S (blk b out e :: rs) w' → Stab P ops (upd σ d (.slice (some ⟨b, 0, none⟩) xs.length xs.length)) w' pd' ∧ FG P r n ops Q (lv.set i true) pd' (upd σ d (.slice (some ⟨b, 0, none⟩) xs.length xs.length)) w') : FG P r n ops Q lv pd σ w :=
  FGval hok i pd' (C := fun v w' => ∃ b, v = .slice (some ⟨b, 0, none⟩) xs.length xs.length ∧ Sep w₀ S (blk b out e :: rs) w') ho hw ⟨_, _, Gives.buildSlice hE hp hlen, _, rfl, H.alloc _⟩ hck hpd fun v w' ⟨b, hv, hsep⟩ => by subst hv; exact h b w' hsep
/-- Calls. -/
theorem FGcallS (hok : okOps n ops = true) (e : Nat) (pd' : List (Nat × Bool)) {d : Nat} {f : FuncId} {xs : List Operand} {ats : Array TypeId} {vals : List Value} {v : Value} [he : Enters P f] (H : Sep w₀ S rs w) (hc : Rets P f vals w fun v' w' => v' = v ∧ w = w')
    (ho : ops[e]? = some { dst := some d, op := .call { callee := .value (.func f), args := xs.toArray, argTypes := ats }, type := ty, pos := pos, after := after, guard := guard } := by exact rfl)
    (hw : Region.wanted { dst := some d, op := .call { callee := .value (.func f), args := xs.toArray, argTypes := ats }, type := ty, pos := pos, after := after, guard := guard } (yieldF ops σ) = true := by kernel_rfl) (hv : xs.map (evF σ) = vals := by exact rfl) (hck : effectOk ops lv (pd.map (·.1)) e = true := by kernel_rfl)
    (hpd : pd.filter (fun p => !((above ops e).contains p.1)) = pd' := by kernel_rfl) (h : ∀ w', Sep w₀ S rs w' → Stab P ops (upd σ d v) w' pd' ∧ FG P r n ops Q (lv.set e true) pd' (upd σ d v) w') : FG P r n ops Q lv pd σ w :=
  FGcall hok e pd' ho hw hc hv hck hpd fun v' w' ⟨h1, h2⟩ => by subst h1; subst h2; exact h w H
theorem FGcall1 (hok : okOps n ops = true) (e : Nat) (pd' : List (Nat × Bool)) {d : Nat} {f : FuncId} {xs : List Operand} {ats : Array TypeId} {vals : List Value} {v : Value} [he : Enters P f] (H : Sep w₀ S rs w) (hat : At rs p put)
    (hc : ∀ F, p.ok F w → (∀ b, F b → S b ∨ w₀.heap.size ≤ b) → Rets P f vals w fun v' w' => v' = v ∧ Turn F q w w')
    (ho : ops[e]? = some { dst := some d, op := .call { callee := .value (.func f), args := xs.toArray, argTypes := ats }, type := ty, pos := pos, after := after, guard := guard } := by exact rfl)
    (hw : Region.wanted { dst := some d, op := .call { callee := .value (.func f), args := xs.toArray, argTypes := ats }, type := ty, pos := pos, after := after, guard := guard } (yieldF ops σ) = true := by kernel_rfl) (hv : xs.map (evF σ) = vals := by exact rfl) (hck : effectOk ops lv (pd.map (·.1)) e = true := by kernel_rfl)
    (hpd : pd.filter (fun p => !((above ops e).contains p.1)) = pd' := by kernel_rfl) (h : ∀ w', Sep w₀ S (put q) w' → Stab P ops (upd σ d v) w' pd' ∧ FG P r n ops Q (lv.set e true) pd' (upd σ d v) w') : FG P r n ops Q lv pd σ w := by
  obtain ⟨F, hp, hS, hput⟩ := H.focus hat
  refine FGcall hok e pd' ho hw (hc F hp hS) hv hck hpd fun v' w' ⟨h1, hk, F', hq, hs⟩ => ?_
  subst h1
  exact h w' (hput w' F' _ hk hq hs)
theorem FGcall1R (hok : okOps n ops = true) (e : Nat) (pd' : List (Nat × Bool)) {d : Nat} {f : FuncId} {xs : List Operand} {ats : Array TypeId} {vals us : List Value} {v : Value} {E s m c : Nat} {A : Option Addr} [he : Enters P f] (H : Sep w₀ S (rowH E s (.slice A m c) m us :: rs) w) (hat : At rs p put)
    (hc : ∀ F, p.ok F w → RowAt w A m s us → Off A m F → Rets P f vals w fun v' w' => v' = v ∧ Turn F q w w')
    (ho : ops[e]? = some { dst := some d, op := .call { callee := .value (.func f), args := xs.toArray, argTypes := ats }, type := ty, pos := pos, after := after, guard := guard } := by exact rfl)
    (hw : Region.wanted { dst := some d, op := .call { callee := .value (.func f), args := xs.toArray, argTypes := ats }, type := ty, pos := pos, after := after, guard := guard } (yieldF ops σ) = true := by kernel_rfl) (hv : xs.map (evF σ) = vals := by exact rfl) (hck : effectOk ops lv (pd.map (·.1)) e = true := by kernel_rfl)
    (hpd : pd.filter (fun p => !((above ops e).contains p.1)) = pd' := by kernel_rfl) (h : ∀ w', Sep w₀ S (rowH E s (.slice A m c) m us :: put q) w' → Stab P ops (upd σ d v) w' pd' ∧ FG P r n ops Q (lv.set e true) pd' (upd σ d v) w') : FG P r n ops Q lv pd σ w := by
  obtain ⟨F, Fq, hp, hq, hdj, hS, hput⟩ := H.focus1 hat
  refine FGcall hok e pd' ho hw (hc F hp (rowAt_of_own hq.1) (rowH_off hq hdj)) hv hck hpd fun v' w' ⟨h1, hk, F', hq', hs⟩ => ?_
  subst h1
  exact h w' (hput w' F' _ hk hq' hs)
theorem FGcallN (hok : okOps n ops = true) (e : Nat) (pd' : List (Nat × Bool)) {d : Nat} {f : FuncId} {xs : List Operand} {ats : Array TypeId} {vals : List Value} {α : Type} {val : α → Value} {φ : α → Prop} {q : α → HP} [he : Enters P f] (H : Sep w₀ S rs w)
    (hc : Rets P f vals w fun v w' => ∃ x, v = val x ∧ φ x ∧ Turn noB (q x) w w')
    (ho : ops[e]? = some { dst := some d, op := .call { callee := .value (.func f), args := xs.toArray, argTypes := ats }, type := ty, pos := pos, after := after, guard := guard } := by exact rfl)
    (hw : Region.wanted { dst := some d, op := .call { callee := .value (.func f), args := xs.toArray, argTypes := ats }, type := ty, pos := pos, after := after, guard := guard } (yieldF ops σ) = true := by kernel_rfl) (hv : xs.map (evF σ) = vals := by exact rfl) (hck : effectOk ops lv (pd.map (·.1)) e = true := by kernel_rfl)
    (hpd : pd.filter (fun p => !((above ops e).contains p.1)) = pd' := by kernel_rfl) (h : ∀ x w', φ x → Sep w₀ S (q x :: rs) w' → Kept noB w w' → Stab P ops (upd σ d (val x)) w' pd' ∧ FG P r n ops Q (lv.set e true) pd' (upd σ d (val x)) w') : FG P r n ops Q lv pd σ w := by
  refine FGcall hok e pd' ho hw hc hv hck hpd fun v' w' ⟨x, h1, hφ, hk, F', hq, hs⟩ => ?_
  subst h1
  exact h x w' hφ (H.new hk hq fun b hb => (hs b hb).resolve_left id) hk
end
end Go.Mw
/-
  make of rows, loads through rows that are read. Nothing of a given program stands here.
-/
namespace Go.Mw
open Go.RowKit

section
variable {P : Program} {r : Option Nat} {n : Nat} {ops : Array Oper} {Q : Post} {lv : List Bool} {pd pd' : List (Nat × Bool)} {rest : List Oper} {σ : St} {w w' w₀ : World} {S F : Nat → Prop} {rs : List HP} {put : HP → List HP} {op : Op} {ty : TypeId} {pos : String} {after : Array Edge} {guard : Option (Nat × Bool)}
theorem Gives.make1 {ρ : Operand → Value} {x y : Operand} {t e : TypeId} [hs : IsSlice P t e] {bytes : Nat} [hc : Cells P e 1 bytes] {z : Value} [hz : Zero P e z] {k : Nat} (hx : ρ x = .int .i64 k) (hy : ρ y = .int .i64 k) (hzc : z.cells = #[z]) (hb : bytes * k ≤ 281474976710656) (hk : k ≤ maxLen) :
    Gives P ρ (.makeSlice t x y) ty w (.slice (some ⟨w.heap.size, 0, none⟩) k k) (w.alloc (.cells (List.replicate k z).toArray e)) := fun _ _ _ _ => by
  obtain ⟨i, hi, hsb⟩ := Option.map_eq_some_iff.1 hc.size
  simp only [Prod.mk.injEq] at hsb
  have hzero : i.zero = some z := by
    have := hz.run w
    simp [zeroValue, typeInfo, hi] at this
    cases hq : i.zero with
    | none => simp [hq] at this
    | some u => simp [hq] at this; rw [this]
  have hrun := run_make (P := P) w t e i z hs.und hi hzero .i64 .i64 (k : Int) (k : Int) (by omega) (by omega) (by rw [hsb.2, ← Int.natCast_mul]; generalize bytes * k = q at hb ⊢; omega) (by unfold maxLen at hk; omega)
  have hcells : madeCells z.cells ((k : Int).toNat * i.size) = (List.replicate k z).toArray := by
    rw [hzc, hsb.1]
    have := toList_madeCells_one z (k * 1)
    simp only [Int.toNat_natCast]
    rw [Nat.mul_one] at this ⊢
    rw [← this]
  rw [hcells] at hrun
  simp only [execOp, hx, hy, Sem.run_bind, hrun, Result.andThen_ok, Sem.run_pure, Int.toNat_natCast]
theorem FL_make1 {d : Nat} {x y : Operand} {t e : TypeId} [hs : IsSlice P t e] {bytes : Nat} [hc : Cells P e 1 bytes] {z : Value} [hz : Zero P e z] {k : Nat} (H : Sep w₀ S rs w) (hk : k ≤ maxLen) (hb : bytes * k ≤ 281474976710656) (hx : evF σ x = .int .i64 k := by exact rfl) (hy : evF σ y = .int .i64 k := by exact rfl) (hzc : z.cells = #[z] := by exact rfl) (hd : Nat.blt d n = true := by exact rfl)
    (h : ∀ b w', Sep w₀ S (blk b (List.replicate k z) e :: rs) w' → Kept noB w w' → FL P r n ops Q rest (upd σ d (.slice (some ⟨b, 0, none⟩) k k)) w') :
    FL P r n ops Q ({ dst := some d, op := .makeSlice t x y, type := ty, pos := pos, after := after, guard := none } :: rest) σ w :=
  FL_val (Gives.make1 hx hy hzc hb hk) hd (h _ _ (H.alloc _) (Kept.alloc _ _))
theorem Gives.idxB {ρ : Operand → Value} {x y : Operand} {t e : TypeId} [ht : IsSlice P t e] {bytes : Nat} [hc : Cells P e 1 bytes] {b m c i : Nat} {k : IntKind} (hx : ρ x = .slice (some ⟨b, 0, none⟩) m c) (hy : ρ y = .int k i) (hlt : i < m) : Gives P ρ (.indexAddr t x y) ty w (.pointer (some ⟨b, i, none⟩)) w := by
  have := Gives.idx (P := P) (ρ := ρ) (ty := ty) (w := w) (t := t) (e := e) (size := 1) (bytes := bytes) hx hy hlt
  rwa [Nat.mul_one, Addr.add_lit, Nat.zero_add] at this
theorem Gives.conv {ρ : Operand → Value} {x : Operand} {s t : TypeId} {k j : IntKind} [hs : IsInt P s j] [ht : IsInt P t k] {a : Int} (hx : ρ x = .int j a) : Gives P ρ (.convert s t x) ty w (.int k (k.wrap a)) w :=
  Gives.convI (by rw [hs.und]; rfl) ht.und hx
theorem Gives.loadC {ρ : Operand → Value} {a : Addr} {x : Operand} {T : TypeId} [h1 : OneCell P T] {v : Value} (hx : ρ x = .pointer (some a)) (hc : w.cell? a = some v) : Gives P ρ (.load T x) ty w v w := fun _ _ _ _ => by
  simp [execOp, hx, Instr.loadAt, Instr.sureAddr, loadVar, h1.agg, hc]
theorem Gives.loadCN {ρ : Operand → Value} {k : Nat} {a : Addr} {x : Operand} {T : TypeId} [h1 : Agg P T k] {us : List Value} (hx : ρ x = .pointer (some a)) (hc : ∀ j u, us[j]? = some u → w.cell? (a.add j) = some u) (hk : us.length = k) : Gives P ρ (.load T x) ty w (.agg us.toArray) w := fun _ _ _ _ => by
  have := run_loadCells_list (P := P) w a us hc
  rw [hk] at this
  simp [execOp, hx, Instr.loadAt, Instr.sureAddr, loadVar, h1.agg, h1.size, this]
/-- The cells of one element of a row. -/
theorem RowAt.elem {A : Option Addr} {m s : Nat} {xs us : List Value} (h : RowAt w A m s xs) {ad : Addr} (hA : A = some ad) (i : Nat) (hi : i < m) (hu : ∀ j u, us[j]? = some u → xs[i * s + j]? = some u) : ∀ j u, us[j]? = some u → w.cell? ((ad.add (i * s)).add j) = some u := by
  intro j u hj
  obtain ⟨ad', h1, h2⟩ := h.at_ (by omega)
  rw [hA] at h1
  injection h1 with h1
  subst h1
  rw [add_add]
  exact h2 _ _ (hu j u hj)
theorem RowAt.elemC {A : Option Addr} {m s : Nat} {xs us : List Value} (h : RowAt w A m s xs) {ad : Addr} (hA : A = some ad) (i : Nat) (hi : i < m) (hu : ∀ j u, us[j]? = some u → xs[i * s + j]? = some u) (j : Nat) (u : Value) (hj : us[j]? = some u) : w.cell? (ad.add (i * s + j)) = some u := by
  have := h.elem hA i hi hu j u hj
  rwa [add_add] at this
end
end Go.Mw
/-
  From a contract to a row: arguments read as rows; what a law's row asks behind the call. Nothing of a given program stands here.
-/
namespace Go.Mw
open Go.RowKit Go.ChangeShapes Go.WideShapes Go.Deep

section
variable {H : Type} {enc : TypeId × Value → H} {P : Program}
theorem trodAll_stays (hl : laidOutB P = true) {W W' : World} (hk : Kept noB W W') {sp : Nat → Bool} : ∀ {ts : List TypeId} {vs : List Value} {ds : List (DataW H)} {ps : List MemPlace}, (∀ t ∈ ts, P.readableRec t = true ∧ t < P.types.size) →
    DataW.TrodAll enc P W 0 (fun _ => true) true ts vs ds ps → (∀ x ∈ ps, x.block < W.heap.size) → (∀ x ∈ ps, sp x.block = true) → DataW.TrodAll enc P W' 0 sp true ts vs ds ps
  | [], [], [], _, _, h, _, _ => h
  | t :: ts, v :: vs, d :: ds, ps, ht, ⟨p, q, h1, h2, e⟩, hlt, hsp => by
    subst e
    exact ⟨p, q, WideElems.Trod_stays hl (ht t List.mem_cons_self).1 (ht t List.mem_cons_self).2 h1 (fun x hx => hk.below.same (hlt x (List.mem_append_left _ hx))) (fun x hx => hsp x (List.mem_append_left _ hx)),
      trodAll_stays hl hk (fun u hu => ht u (List.mem_cons_of_mem _ hu)) h2 (fun x hx => hlt x (List.mem_append_right _ hx)) (fun x hx => hsp x (List.mem_append_right _ hx)), rfl⟩
  | [], [], _ :: _, _, _, h, _, _ => h.elim
  | [], _ :: _, _, _, _, h, _, _ => by cases ‹List (DataW H)› <;> exact h.elim
  | _ :: _, [], _, _, _, h, _, _ => h.elim
  | _ :: _, _ :: _, [], _, _, h, _, _ => h.elim
/-- What a row asks, where nothing that was there has turned and the answer is true. -/
theorem post_law {f : Func} {s : ChangeSpec} {apart fresh handsOn again : Bool} {W W' : World} {args : Array Value} {t : TypeId} {ds gs : List (DataW H)} {before : List MemPlace} (hl : laidOutB P = true)
    (hW : DataW.Whole enc P f.params.toList s.vars apart W args.toList ds gs before) (hvars : s.vars = []) (hr : f.resultTypes = #[t]) (hb : P.underlying t = some .bool) (hp0 : (f.params.toList.all fun t => P.readableRec t && decide (t < P.types.size)) = true)
    (hs : s.fn H (ds ++ gs) = { results := [.lit (.bool true)], args := ds }) (hk : Kept noB W W') (hok : Value.okWide P W' .any 0 t (.bool true)) : s.post enc P f apart fresh handsOn again W args (.bool true) W' := by
  have hp : ∀ t ∈ f.params.toList, P.readableRec t = true ∧ t < P.types.size := fun t ht => by
    have := List.all_eq_true.1 hp0 t ht
    simpa using this
  have hW' := hW
  obtain ⟨pa, pv, hA, hV, rfl, hz, hn⟩ := hW
  have hnil : gs = [] ∧ pv = [] := by
    rw [hvars] at hV
    exact trodVars_none hV
  obtain ⟨rfl, rfl⟩ := hnil
  have hlt : ∀ p ∈ pa, p.block < W.heap.size := fun p hp => hW'.lt p (List.mem_append_left _ hp)
  have hres : ∀ (b : Nat) (sp : Nat → Bool) (hd : Bool), DataW.TrodAll enc P W' b sp hd f.resultTypes.toList ((Value.bool true).resultList f.resultTypes.size) (s.fn H (ds ++ [])).results [] := by
    intro b sp hd
    rw [hs, hr]
    exact trodAll_mk1 (shut_bool hb true)
  have hargs : ∀ sp : Nat → Bool, (∀ p ∈ pa, sp p.block = true) → DataW.TrodAll enc P W' 0 sp true f.params.toList args.toList (s.fn H (ds ++ [])).args pa := by
    intro sp hsp
    rw [hs]
    exact trodAll_stays hl hk hp hA hlt hsp
  have hvs : ∀ sp : Nat → Bool, DataW.TrodVars enc P W' sp s.vars (s.fn H (ds ++ [])).vars [] := by
    intro sp
    rw [hvars, hs]
    exact rfl
  refine ⟨ds, [], pa ++ [], [], pa, [], hW', hres _ _ _, hargs _ (fun p hp => by simpa using hlt p hp), hvs _, World.keptBut_mono (fun p hp => ⟨hp, ?_⟩) (hk.below.frame (· ∈ pa ++ [])), fun _ => ?_⟩
  · simpa using hp
  · refine ⟨fun j t' r hj hv => ?_, _, _, ([] ++ pa) ++ [], ⟨[] ++ pa, [], trodAll_append (hargs _ (fun _ _ => rfl)) (hres _ _ _), hvs _, rfl, ?_, ?_⟩, ?_⟩
    · exact ok_one hr rfl hok j t' r hj hv
    · intro b off hp
      have hin : MemPlace.cell b off ∈ pa := by simpa using hp
      rw [hk.below.frozen (hlt _ hin)]
      exact hz b off (by simpa using hin)
    · intro ha
      have := hn ha
      simpa using this
    · intro p hp _
      simpa using hp
/-- So many things that exist make a list. -/
theorem exists_list {α : Type} {Q : Nat → α → Prop} : ∀ n : Nat, (∀ i, i < n → ∃ x, Q i x) → ∃ l : List α, l.length = n ∧ ∀ i x, l[i]? = some x → Q i x
  | 0, _ => ⟨[], rfl, fun i x h => by simp at h⟩
  | n + 1, h => by
    obtain ⟨l, h1, h2⟩ := exists_list n fun i hi => h i (by omega)
    obtain ⟨x, hx⟩ := h n (by omega)
    refine ⟨l ++ [x], by simp [h1], fun i y hy => ?_⟩
    rw [List.getElem?_append] at hy
    split at hy
    · exact h2 i y hy
    · rename_i hge
      have hi : i = n := by
        rcases Nat.lt_or_ge (i - l.length) 1 with h3 | h3
        · omega
        · rw [List.getElem?_eq_none (by simpa using h3)] at hy; cases hy
      subst hi
      rw [h1, Nat.sub_self] at hy
      injection hy with hy
      rw [← hy]; exact hx
/-- Cells of things one behind the other. -/
theorem flatMap_get {α : Type} {f : α → List Value} {s : Nat} (hf : ∀ x, (f x).length = s) : ∀ (l : List α) (k : Nat) (v : Value), (l.flatMap f)[k]? = some v → ∃ i j x, l[i]? = some x ∧ (f x)[j]? = some v ∧ k = i * s + j
  | [], k, v, h => by simp at h
  | x :: l, k, v, h => by
    rw [List.flatMap_cons, List.getElem?_append] at h
    split at h
    · exact ⟨0, k, x, rfl, h, by omega⟩
    · rename_i hge
      obtain ⟨i, j, y, h1, h2, h3⟩ := flatMap_get hf l _ v h
      rw [hf] at h3 hge
      exact ⟨i + 1, j, y, by simpa using h1, h2, by rw [Nat.add_mul]; omega⟩
theorem flatMap_len {α : Type} {f : α → List Value} {s : Nat} (hf : ∀ x, (f x).length = s) : ∀ l : List α, (l.flatMap f).length = l.length * s
  | [] => by simp
  | x :: l => by rw [List.flatMap_cons, List.length_append, hf, flatMap_len hf l, List.length_cons, Nat.add_mul]; omega
/-- A slice that is an argument, read as a row. -/
theorem open_rows {α : Type} {f : α → List Value} {good : α → Prop} {s : Nat} {t e : TypeId} {W : World} {r : Reach} {base : Nat} {v : Value} {d : DataW H} {ps : List MemPlace} (ht : P.underlying t = some (.slice e)) (hC : P.cellsOf e = s) (hf : ∀ x, (f x).length = s)
    (hel : ∀ n cs y, cs.length = s → DataW.trod enc P W 0 (fun _ => true) true n e cs = some y → ∃ x, cs = f x ∧ good x) (hv : Value.okWide P W r base t v) (h : DataW.Trod enc P W 0 (fun _ => true) true t v d ps) :
    ∃ A c, ∃ l : List α, v = .slice A l.length c ∧ l.length ≤ c ∧ c ≤ maxLen ∧ RowAt W A l.length s (l.flatMap f) ∧ ∀ x ∈ l, good x := by
  obtain ⟨a0, len0, cap0, rfl⟩ := okWide_slice ht hv
  obtain ⟨fuel, hfu⟩ := h
  rcases open_slice ht hfu with ⟨h0, _⟩ | ⟨a, len, cap, m, n, D, Pl, hcs, _, hl, hm, hmm, _, hi⟩
  · have h0 : [Value.slice a0 len0 cap0] = [.slice none 0 0] := h0
    injection h0 with h0 _
    exact ⟨none, 0, [], h0, Nat.le_refl _, Nat.zero_le _, RowAt.nil _ _ _, fun _ h => by cases h⟩
  · have hcs : [Value.slice a0 len0 cap0] = [.slice (some a) len cap] := hcs
    injection hcs with hcs _
    have hm2 : m = cap := by simpa using hmm
    subst hm2
    obtain ⟨l, h1, h2⟩ := exists_list (α := α) (Q := fun i x => good x ∧ ∀ j u, (f x)[j]? = some u → W.cell? (a.add (i * s + j)) = some u) len (fun i hi' => by
      obtain ⟨cs', hc, ht'⟩ := hi i (by omega)
      rw [hC] at hc
      obtain ⟨_, hcl, hat⟩ := World.cells?_some hc
      obtain ⟨x, hx, hg⟩ := hel _ _ _ hcl ht'
      refine ⟨x, hg, fun j u hu => ?_⟩
      have hj : j < s := by rw [← hf x]; exact (List.getElem?_eq_some_iff.1 hu).1
      have hcell := hat j hj
      rw [← Go.Deep.add_add, hcell, hx]
      exact hu)
    subst h1
    refine ⟨some a, m, l, hcs, hl, hm, ⟨flatMap_len hf l, fun _ => ⟨a, rfl, fun k u hk => ?_⟩⟩, fun x hx => ?_⟩
    · obtain ⟨i, j, x, hi', hj, rfl⟩ := flatMap_get hf l k u hk
      exact (h2 i x hi').2 j u hj
    · obtain ⟨i, hi'⟩ := List.mem_iff_getElem?.1 hx
      exact (h2 i x hi').1
/-- A struct's reading, field by field. -/
theorem struct_fields {e : TypeId} {fs : Array Field} {W : World} {base n : Nat} {sp : Nat → Bool} {held : Bool} {cs : List Value} {y : DataW H × List MemPlace} (he : P.underlying e = some (.struct fs)) (hone : oneCellFields P fs = true) (h : DataW.trod enc P W base sp held n e cs = some y) (_hC : P.cellsOf e = fs.size) (hcl : cs.length = fs.size) :
    ∀ (j : Nat) (fd : Field), fs[j]? = some fd → ∃ v y' n', cs[j]? = some v ∧ DataW.trod enc P W base sp held n' fd.type [v] = some y' := by
  obtain ⟨ys, n', hn', hy, hlen, hyl, hf⟩ := DataW.trod_struct he h
  intro j fd hj
  obtain ⟨ho, hk⟩ := hone_of hone j fd hj
  have hjl : j < fs.size := (Array.getElem?_eq_some_iff.1 hj).1
  have h1 := hf j fd hj
  rw [ho, hk] at h1
  have hone' : (cs.drop j).take 1 = [cs[j]'(by omega)] := by
    rw [List.drop_eq_getElem_cons (by omega)]
    rfl
  rw [hone'] at h1
  have hys : ys[j]? = some (ys[j]'(by omega)) := List.getElem?_eq_getElem (by omega)
  exact ⟨_, _, _, List.getElem?_eq_getElem (by omega), h1.trans hys⟩
end
end Go.Mw
/-
  Rows that are owned, opened to their blocks and shut again; pools of small rows. Nothing of a given program stands here.
-/
namespace Go.Mw
open Go.RowKit

section
variable {w w' w₀ : World} {S : Nat → Prop} {rs : List HP} {put : HP → List HP}
theorem Sep.rowOpen {E s n : Nat} {v : Value} {xs : List Value} (h : Sep w₀ S rs w) (hat : At rs (rowH E s v n xs) put) (hn : 0 < n) :
    ∃ g c rest, v = .slice (some ⟨g, 0, none⟩) n c ∧ (xs ++ rest).length = c * s ∧ xs.length = n * s ∧ n ≤ c ∧ c ≤ maxLen ∧ Sep w₀ S (put (blk g (xs ++ rest) E)) w := by
  obtain ⟨F, hp, hS, hput⟩ := h.focus hat
  obtain ⟨⟨hl, ho⟩, hF⟩ := hp
  rcases ho with ⟨_, h0⟩ | ⟨g, c, cur, hv, _, hh, hle, hmax, hsz, htk⟩
  · omega
  · have e : cur = (xs ++ cur.toList.drop (n * s)).toArray := by
      rw [← htk, List.take_append_drop, Array.toArray_toList]
    refine ⟨g, c, cur.toList.drop (n * s), hv, ?_, hl, hle, hmax, ?_⟩
    · have := congrArg Array.size e
      rw [hsz] at this
      simpa using this.symm
    · refine h.imp hat fun F hF => ⟨fun b => ?_, ?_⟩
      · rw [hF.2 b, hv]
        simp [Value.ownBlock, eq_comm]
      · show w.heap[g]? = some (.cells (xs ++ cur.toList.drop (n * s)).toArray E (0, 0))
        rw [hh, ← e]
theorem Sep.rowShut {E s n c g : Nat} {xs rest : List Value} (h : Sep w₀ S rs w) (hat : At rs (blk g (xs ++ rest) E) put) (hc : (xs ++ rest).length = c * s) (hl : xs.length = n * s) (hle : n ≤ c) (hm : c ≤ maxLen) :
    Sep w₀ S (put (rowH E s (.slice (some ⟨g, 0, none⟩) n c) n xs)) w :=
  h.imp hat fun F hF => ⟨⟨hl, .inr ⟨g, c, (xs ++ rest).toArray, rfl, Nat.zero_le _, hF.2, hle, hm, by simpa using hc, by rw [← hl]; simp⟩⟩, fun x => by rw [hF.1 x]; simp [Value.ownBlock, eq_comm]⟩
theorem set_front {xs rest : List Value} {i : Nat} {v : Value} (h : i < xs.length) : (xs ++ rest).set i v = xs.set i v ++ rest := by
  rw [List.set_append_left _ _ h]
/-- Small rows, each in a block of its own. -/
def poolH (E : Nat) : List (Nat × List Value) → HP
  | [] => emp
  | x :: l => star (blk x.1 x.2 E) (poolH E l)
theorem poolH_get {E : Nat} : ∀ {pool : List (Nat × List Value)} {F : Nat → Prop} {w : World}, (poolH E pool).ok F w → ∀ x ∈ pool, w.heap[x.1]? = some (.cells x.2.toArray E (0, 0))
  | [], _, _, _, _, hx => by cases hx
  | y :: l, F, w, ⟨F1, F2, _, _, h1, h2⟩, x, hx => by
    rcases List.mem_cons.1 hx with rfl | hx
    · exact h1.2
    · exact poolH_get h2 x hx
theorem Sep.pool {E : Nat} {pool : List (Nat × List Value)} (h : Sep w₀ S rs w) (hat : At rs (poolH E pool) put) {x : Nat × List Value} (hx : x ∈ pool) : w.heap[x.1]? = some (.cells x.2.toArray E (0, 0)) := by
  obtain ⟨F, hp, _, _⟩ := h.focus hat
  exact poolH_get hp x hx
theorem rowAt_of_block {b E m s : Nat} {cs : List Value} (hb : w.heap[b]? = some (.cells cs.toArray E (0, 0))) (hl : cs.length = m * s) : RowAt w (some ⟨b, 0, none⟩) m s cs :=
  ⟨hl, fun _ => ⟨_, rfl, fun j u hu => by rw [Addr.add_lit, Nat.zero_add, cell_blk hb]; exact hu⟩⟩
/-- Two pools are one. -/
theorem poolH_append {E : Nat} {a b : List (Nat × List Value)} : ∀ {F : Nat → Prop} {w : World}, (star (poolH E a) (poolH E b)).ok F w → (poolH E (a ++ b)).ok F w := by
  induction a with
  | nil =>
    rintro F w ⟨F1, F2, hF, hd, ⟨_, h1⟩, h2⟩
    have : F = F2 := funext fun b => propext ((hF b).trans ⟨fun h => h.elim (fun h => (h1 b h).elim) id, .inr⟩)
    rw [this]; exact h2
  | cons p l ih =>
    intro F w h
    obtain ⟨F1, F2, hF, hd, hp, hr⟩ := star_assoc.1 h
    exact ⟨F1, F2, hF, hd, hp, ih hr⟩
theorem Sep.poolJoin {E : Nat} {a b : List (Nat × List Value)} (h : Sep w₀ S (poolH E a :: poolH E b :: rs) w) : Sep w₀ S (poolH E (a ++ b) :: rs) w :=
  Sep.imp h.join0 At0 fun _ hF => poolH_append hF
theorem Sep.poolCons {E b : Nat} {cs : List Value} {a : List (Nat × List Value)} (h : Sep w₀ S (blk b cs E :: poolH E a :: rs) w) : Sep w₀ S (poolH E ((b, cs) :: a) :: rs) w := h.join0
theorem Sep.poolNil (h : Sep w₀ S rs w) (E : Nat) : Sep w₀ S (poolH E [] :: rs) w := Sep.addPure trivial h
end
end Go.Mw
/-
  Conversions of bytes that mark a block; calls beside a piece that stands apart; least of two. Nothing of a given program stands here.
-/
namespace Go.Mw
open Go.RowKit

section
variable {P : Program} {r : Option Nat} {n : Nat} {ops : Array Oper} {Q : Post} {lv : List Bool} {pd pd' : List (Nat × Bool)} {rest : List Oper} {σ : St} {w w' w₀ : World} {S F : Nat → Prop} {rs : List HP} {p q p0 : HP} {put : HP → List HP} {op : Op} {ty : TypeId} {pos : String} {after : Array Edge} {guard : Option (Nat × Bool)}
theorem gives_minN {ρ : Operand → Value} {x y : Operand} {a k m : Nat} {b : Int} {ts : Array TypeId} (hm : min a k = m) (hb : (k : Int) = b) (hx : ρ x = .int .i64 a) (hy : ρ y = .int .i64 b) : Gives P ρ (.call { callee := .builtin .min, args := #[x, y], argTypes := ts }) ty w (.int .i64 (m : Nat)) w := by
  have h := Gives.min (P := P) (ty := ty) (w := w) (ts := ts) hx hy
  rw [← hb, show min (a : Int) (k : Int) = ((min a k : Nat) : Int) by omega, hm] at h
  exact h
/-- Bytes whose block was marked as a text's. -/
def markH (b : Nat) (cs : List Value) (E : TypeId) : HP := obj b (.cells cs.toArray E (cs.length, cs.length + 1))
theorem Sep.markRow {b E m s : Nat} {cs : List Value} (H : Sep w₀ S rs w) (hat : At rs (markH b cs E) put) (hl : cs.length = m * s) : RowAt w (some ⟨b, 0, none⟩) m s cs :=
  ⟨hl, fun _ => ⟨_, rfl, fun j u hu => by rw [Addr.add_lit, Nat.zero_add, cell_of_row w b j _ _ _ (H.obj hat)]; simpa using hu⟩⟩
theorem gives_mark {ρ : Operand → Value} {x : Operand} {t e : TypeId} [hs : IsSlice P t e] [he : IsInt P e .u8] {b m c : Nat} {cs : List Value} {E : TypeId} (H : Sep w₀ S rs w) (hx : ρ x = .slice (some ⟨b, 0, none⟩) m c) (hat : At rs (blk b cs E) put) :
    ∃ w', Gives P ρ (.convert t t x) ty w (.slice (some ⟨b, 0, none⟩) m c) w' ∧ Sep w₀ S (put (markH b cs E)) w' := by
  have hb := H.obj hat
  have hsh : w.shape? b = some (E, cs.length) := by unfold World.shape?; rw [hb]; simp
  refine ⟨w.freeze ⟨b, cs.length, none⟩ 1, fun _ _ _ _ => ?_, ?_⟩
  · have hrun : (convert t t (.slice (some ⟨b, 0, none⟩) m c)).run P w = .ok (.slice (some ⟨b, 0, none⟩) m c) (w.freeze ⟨b, cs.length, none⟩ 1) := by
      simp [convert, run_underlying hs.und, run_underlying he.und, markStringish, hsh]
    simp only [execOp, hx, Sem.run_bind, hrun, Result.andThen_ok, Sem.run_pure]
  · refine H.setObj hat ⟨?_, ?_, ?_, ?_, fun k hk hS => ?_⟩ ?_
    · unfold World.freeze; rw [if_neg (by decide)]
    · unfold World.freeze; rw [if_neg (by decide)]
    · unfold World.freeze; rw [if_neg (by decide)]
    · unfold World.freeze; rw [if_neg (by decide)]; simp
    · unfold World.freeze; rw [if_neg (by decide)]
      simp only [Array.getElem?_modify]
      rw [if_neg (fun e => hS e.symm)]
    · unfold World.freeze; rw [if_neg (by decide)]
      simp only [Array.getElem?_modify, if_true]
      rw [hb]
      rfl
theorem FL_mark {d : Nat} {x : Operand} {t e : TypeId} [hs : IsSlice P t e] [he : IsInt P e .u8] {b m c : Nat} {cs : List Value} {E : TypeId} (H : Sep w₀ S rs w) (hx : evF σ x = .slice (some ⟨b, 0, none⟩) m c := by exact rfl)
    (hat : At rs (blk b cs E) put := by first | exact At0 | exact At1 | exact At2 | exact At3 | exact At4 | exact At5 | exact At6 | exact At7 | exact At8 | exact At9) (hd : Nat.blt d n = true := by exact rfl)
    (h : ∀ w', Sep w₀ S (put (markH b cs E)) w' → FL P r n ops Q rest (upd σ d (.slice (some ⟨b, 0, none⟩) m c)) w') :
    FL P r n ops Q ({ dst := some d, op := .convert t t x, type := ty, pos := pos, after := after, guard := none } :: rest) σ w := by
  obtain ⟨w', hg, hsep⟩ := gives_mark (P := P) (ρ := evF σ) (x := x) (t := t) (e := e) (ty := ty) H hx hat
  exact FL_val hg hd (h w' hsep)
/-- A call that turns one piece, beside the first one, which stands apart. -/
theorem FL_call1Q {d : Nat} {f : FuncId} {xs : List Operand} {ats : Array TypeId} {vals : List Value} {v : Value} [he : Enters P f] (H : Sep w₀ S (p0 :: rs) w) (hat : At rs p put)
    (hc : ∀ F Fq, p.ok F w → p0.ok Fq w → (∀ b, Fq b → ¬ F b) → Rets P f vals w fun v' w' => v' = v ∧ Turn F q w w') (hv : xs.map (evF σ) = vals := by exact rfl) (hd : Nat.blt d n = true := by exact rfl)
    (h : ∀ w', Sep w₀ S (p0 :: put q) w' → FL P r n ops Q rest (upd σ d v) w') :
    FL P r n ops Q ({ dst := some d, op := .call { callee := .value (.func f), args := xs.toArray, argTypes := ats }, type := ty, pos := pos, after := after, guard := none } :: rest) σ w := by
  obtain ⟨F, Fq, hp, hq, hdj, hS, hput⟩ := H.focus1 hat
  refine FL_call (hc F Fq hp hq hdj) hv hd fun v' w' ⟨hx, hk, F', hq', hs⟩ => ?_
  subst hx
  exact h w' (hput w' F' _ hk hq' hs)
theorem markRow_ok {b E m s : Nat} {cs : List Value} {Fq : Nat → Prop} (h : (markH b cs E).ok Fq w) (hl : cs.length = m * s) : RowAt w (some ⟨b, 0, none⟩) m s cs :=
  Sep.markRow (Sep.start1 h) At0 hl
theorem markOff_ok {b E m : Nat} {cs : List Value} {Fq F : Nat → Prop} (h : (markH b cs E).ok Fq w) (hd : ∀ b, Fq b → ¬ F b) : Off (some ⟨b, 0, none⟩) m F := fun _ ad hA hb => by
  injection hA with hA
  subst hA
  exact hd b ((h.1 b).2 rfl) hb
end
end Go.Mw
/-
  Arrays: slices of them, arrays of slices, equality of bytes; results that live in a cell; addresses at an offset. Nothing of a given program stands here.
-/
namespace Go.Mw
open Go.RowKit
open Extern.Stop (cell)

section gives
variable {P : Program} {ρ : Operand → Value} {ty : TypeId} {w w' : World} {x y z u : Operand}
theorem Gives.sliceArrTo {t e : TypeId} {m : Nat} [ht : IsArray P t m e] {size bytes : Nat} [hc : Cells P e size bytes] {a : Addr} {h : Nat} {k : IntKind} (hx : ρ x = .pointer (some a)) (hy : ρ y = .int k h) (hle : h ≤ m) : Gives P ρ (.slice t x none (some y) none) ty w (.slice (some a) h m) w := fun _ _ _ _ => by
  obtain ⟨i, hi, hsb⟩ := Option.map_eq_some_iff.1 hc.size
  have e1 : (0 : Int) ≤ (h : Int) ∧ (h : Int) ≤ (m : Int) := by omega
  simp [execOp, hx, hy, Instr.sliceAt, run_underlying ht.und, Instr.sliceBounds, Instr.sliceBound, asIntOf, e1, Instr.sureAddr, sizeOf, typeInfo, hi, Addr.add_zero']
  omega
theorem Gives.sliceArrBoth {t e : TypeId} {m : Nat} [ht : IsArray P t m e] {size bytes : Nat} [hc : Cells P e size bytes] {a : Addr} {l h : Nat} {k j : IntKind} (hx : ρ x = .pointer (some a)) (hy : ρ y = .int k l) (hz : ρ z = .int j h) (hle : l ≤ h) (hle2 : h ≤ m) : Gives P ρ (.slice t x (some y) (some z) none) ty w (.slice (some (if m = l then a else a.add (l * size))) (h - l) (m - l)) w := fun _ _ _ _ => by
  obtain ⟨i, hi, hsb⟩ := Option.map_eq_some_iff.1 hc.size
  simp only [Prod.mk.injEq] at hsb
  have e1 : (0 : Int) ≤ (l : Int) ∧ (l : Int) ≤ (h : Int) := by omega
  have e2 : (0 : Int) ≤ (h : Int) ∧ (h : Int) ≤ (m : Int) := by omega
  simp [execOp, hx, hy, hz, Instr.sliceAt, run_underlying ht.und, Instr.sliceBounds, Instr.sliceBound, asIntOf, e1, e2, Instr.sureAddr, sizeOf, typeInfo, hi, hsb.1, hle, hle2]
/-- x[:h:c]. -/
theorem Gives.slice3 {t e : TypeId} [ht : IsSlice P t e] {size bytes : Nat} [hc : Cells P e size bytes] {A : Option Addr} {m c h d : Nat} {k j : IntKind} (hx : ρ x = .slice A m c) (hy : ρ y = .int k h) (hz : ρ z = .int j d) (hle : h ≤ d) (hle2 : d ≤ c) : Gives P ρ (.slice t x none (some y) (some z)) ty w (.slice A h d) w := fun _ _ _ _ => by
  obtain ⟨i, hi, hsb⟩ := Option.map_eq_some_iff.1 hc.size
  have e1 : (0 : Int) ≤ (h : Int) ∧ (h : Int) ≤ (d : Int) := by omega
  have e0 : (0 : Int) ≤ (d : Int) ∧ (d : Int) ≤ (c : Int) := by omega
  have e2 : A.map (fun x : Addr => x.add 0) = A := by cases A <;> simp [Addr.add_zero']
  simp [execOp, hx, hy, hz, Instr.sliceAt, run_underlying ht.und, Instr.slice, Instr.sliceBounds, Instr.sliceBound, asIntOf, e0, e1, sizeOf, typeInfo, hi, e2, hle, hle2]
/-- An array's address out of a slice. -/
theorem Gives.arrayAt {t e : TypeId} {m : Nat} [ht : IsArray P t m e] {A : Option Addr} {n c : Nat} (hx : ρ x = .slice A n c) (hle : m ≤ n) : Gives P ρ (.sliceToArrayPointer t x) ty w (.pointer A) w := fun _ _ _ _ => by
  have : ¬ n < m := by omega
  simp [execOp, hx, Instr.arrayAt, run_underlying ht.und, this]
/-- An element's address, at an offset. -/
theorem Gives.idxO {t e : TypeId} [ht : IsSlice P t e] {bytes : Nat} [hc : Cells P e 1 bytes] {b o m c i : Nat} {k : IntKind} (hx : ρ x = .slice (some ⟨b, o, none⟩) m c) (hy : ρ y = .int k i) (hlt : i < m) : Gives P ρ (.indexAddr t x y) ty w (.pointer (some ⟨b, o + i, none⟩)) w := by
  have := Gives.idx (P := P) (ρ := ρ) (ty := ty) (w := w) (t := t) (e := e) (size := 1) (bytes := bytes) hx hy hlt
  rwa [Nat.mul_one, Addr.add_lit] at this
/-- Types whose values may be told apart by == without a question. -/
class EqOk (P : Program) (t : TypeId) : Prop where
  ok : P.eqGuardType P.depth t = false
theorem run_eqGuard_agg {op : BinOp} {t : TypeId} [h : EqOk P t] {xs ys : Array Value} (x y : Operand) : (eqGuard op t x y (.agg xs) (.agg ys)).run P w = .ok () w := by
  unfold eqGuard
  cases op <;> simp [h.ok, run_program]
theorem Gives.eqlBytes {t e : TypeId} {m : Nat} {U : TypeId} [hg : EqOk P t] [ht : IsArray P t m e] [he : IsInt P e .u8] [hs : OneCell P e] {a b : List UInt8} (ha : a.length = m) (hb : b.length = m) (hx : ρ x = .agg (a.map cell).toArray) (hy : ρ y = .agg (b.map cell).toArray) : Gives P ρ (.binOp .eql t x y U) ty w (.bool (a == b)) w :=
  .bin hx hy (fun x y => run_eqGuard_agg x y) (run_eql_bytes w t e m ht.und he.und hs.size a b ha hb)
theorem Gives.neqBytes {t e : TypeId} {m : Nat} {U : TypeId} [hg : EqOk P t] [ht : IsArray P t m e] [he : IsInt P e .u8] [hs : OneCell P e] {a b : List UInt8} (ha : a.length = m) (hb : b.length = m) (hx : ρ x = .agg (a.map cell).toArray) (hy : ρ y = .agg (b.map cell).toArray) : Gives P ρ (.binOp .neq t x y U) ty w (.bool (!(a == b))) w :=
  .bin hx hy (fun x y => run_eqGuard_agg x y) (by rw [run_neq_struct, run_equalIn_bytes w 9998 t e m ht.und he.und hs.size a b ha hb]; rfl)
end gives

/-- Cells laid over a row, one more. -/
theorem lay_set {cs us : List Value} {o : Nat} {v : Value} (h : o + us.length < cs.length) : (lay cs o us).set (o + us.length) v = lay cs o (us ++ [v]) := by
  unfold lay
  have h1 : (cs.take o ++ us).length = o + us.length := by simp; omega
  rw [List.set_append_right _ _ (by omega), h1, Nat.sub_self, List.drop_eq_getElem_cons h, List.set_cons_zero, List.length_append, List.length_singleton, ← Nat.add_assoc]
  simp
theorem lay_length {cs us : List Value} {o : Nat} (h : o + us.length ≤ cs.length) : (lay cs o us).length = cs.length := by unfold lay; simp; omega
theorem lay_nil {cs : List Value} {o : Nat} : lay cs o [] = cs := by unfold lay; simp

section cells
variable {P : Program} {w : World}
/-- Results, of which some live in cells. -/
def ResAll (P : Program) (σ : St) (w : World) : List ResultVar → List Value → Prop
  | [], vs => vs = []
  | .tmp t :: l, vs => ∃ us, vs = σ t :: us ∧ ResAll P σ w l us
  | .cell a t :: l, vs => ∃ v us ad, vs = v :: us ∧ σ a = .pointer (some ad) ∧ (loadVar t ad).run P w = .ok v w ∧ ResAll P σ w l us
theorem mapM_resultsC {σ : St} (g : ResultVar → Sem Value) (hg : ∀ t, g (.tmp t) = pure (σ t)) (hc : ∀ a t, g (.cell a t) = (do loadVar t (← asAddr (σ a)))) : ∀ (l : List ResultVar) (vs : List Value), ResAll P σ w l vs →
    (List.mapM g l).run P w = .ok vs w := by
  intro l
  induction l with
  | nil => intro vs h; have h : vs = [] := h; subst h; rfl
  | cons r l ih =>
    intro vs h
    cases r with
    | cell a t =>
      obtain ⟨v, us, ad, rfl, h1, h2, h3⟩ := h
      rw [List.mapM_cons, hc, h1]
      simp [asAddr, h2, ih us h3]
    | tmp t =>
      obtain ⟨us, rfl, h3⟩ := h
      rw [List.mapM_cons, hg]
      simp [ih us h3]
theorem run_resultsC {fn : Func} {tmps : Array Value} {σ : St} (hσ : ∀ i, tmps.getD i undef = σ i) {l : List ResultVar} (hl : fn.results = l.toArray) {vs : List Value} (h : ResAll P σ w l vs) :
    (results fn tmps).run P w = .ok (resPack vs) w := by
  unfold results
  rw [hl, List.mapM_toArray]
  have := mapM_resultsC (P := P) (w := w) (σ := σ) (fun
    | .tmp t => pure (tmps.getD t undef)
    | .cell a t => do loadVar t (← asAddr (tmps.getD a undef))) (fun t => by simp [hσ]) (fun a t => by simp [hσ]) l vs h
  rw [Sem.run_bind, Sem.run_map]
  refine (congrArg (fun r => (Result.andThen r _).andThen _) this).trans ?_
  simp only [Result.andThen_ok]
  match vs with
  | [] => simp [resPack]
  | [v] => simp [resPack]
  | u :: v :: us => simp [resPack]
def QfnC (P : Program) (l : List ResultVar) (R : Value → World → Prop) : Post := fun e σ w => match e with
  | .normal | .ret => σ.ds = [] ∧ ∃ vs, ResAll P σ w l vs ∧ R (resPack vs) w
  | _ => False
theorem QfnC_ret {l : List ResultVar} {R : Value → World → Prop} {σ : St} (h : ∃ vs, ResAll P σ w l vs ∧ R (resPack vs) w) (hd : σ.ds = [] := by exact rfl) : QfnC P l R .ret σ w := ⟨hd, h⟩
theorem QfnC_normal {l : List ResultVar} {R : Value → World → Prop} {σ : St} (h : ∃ vs, ResAll P σ w l vs ∧ R (resPack vs) w) (hd : σ.ds = [] := by exact rfl) : QfnC P l R .normal σ w := ⟨hd, h⟩
theorem retsC_of_FW {f : FuncId} {fn : Func} {c : Code} {args : List Value} {R : Value → World → Prop} {n : Nat} {l : List ResultVar}
    (hf : P.funcs[f]? = some fn) (hb : fn.body = some c) (hn : fn.ntmps = n) (hl : fn.results = l.toArray) (hargs : Nat.ble args.length n = true)
    (h : FW P none n c (QfnC P l R) (args0 0 args) w) : Rets P f args w R := by
  have hle : args.length ≤ n := Nat.le_of_ble_eq_true hargs
  refine (callsIn_wide (n := 0)).1 (callsIn_of_wp_marks (F := fen none) hf hb trivial (Go.wpIn_mono (h _ ⟨?_, (args0_ds args 0).symm, fun i => ?_⟩) ?_))
  · simp [hn]; omega
  · rw [args0_get]
    simp only [Nat.zero_le, if_true, Nat.sub_zero]
    simp only [Array.getD_eq_getD_getElem?, List.getElem?_toArray]
    rw [Array.getElem?_append]
    split
    · simp
    · rename_i hge
      simp at hge
      rw [List.getElem?_eq_none (by omega)]
      rw [Array.getElem?_replicate]
      split <;> rfl
  · rintro e a' w' ⟨s, hs, hq⟩
    cases e with
    | normal =>
      obtain ⟨h0, vs, h1, h2⟩ := hq
      show LeavesInM _ _ _ _ _ _ _ _ _
      rw [hs.defers, h0]
      exact ⟨_, run_resultsC hs.get hl h1, h2⟩
    | ret =>
      obtain ⟨h0, vs, h1, h2⟩ := hq
      show LeavesInM _ _ _ _ _ _ _ _ _
      rw [hs.defers, h0]
      exact ⟨_, run_resultsC hs.get hl h1, h2⟩
    | _ => exact hq.elim
section
variable {f : FuncId} {fn : Func} {c : Code} {R : Value → World → Prop} {n : Nat} {l : List ResultVar} (hf : P.funcs[f]? = some fn) (hb : fn.body = some c) (hn : fn.ntmps = n) (hl : fn.results = l.toArray)
include hf hb hn hl
theorem retsC1 {a0 : Value} (hk : Nat.ble 1 n = true) (h : FW P none n c (QfnC P l R) (upd und 0 a0) w) : Rets P f [a0] w R := retsC_of_FW hf hb hn hl hk h
theorem retsC2 {a0 a1 : Value} (hk : Nat.ble 2 n = true) (h : FW P none n c (QfnC P l R) (upd (upd und 1 a1) 0 a0) w) : Rets P f [a0, a1] w R := retsC_of_FW hf hb hn hl hk h
theorem retsC3 {a0 a1 a2 : Value} (hk : Nat.ble 3 n = true) (h : FW P none n c (QfnC P l R) (upd (upd (upd und 2 a2) 1 a1) 0 a0) w) : Rets P f [a0, a1, a2] w R := retsC_of_FW hf hb hn hl hk h
end
/-- Reads off owned blocks, for results in cells. -/
theorem loadVar_blk1 {b o T : Nat} [h1 : OneCell P T] {cs : List Value} {E : TypeId} {v : Value} (hb : w.heap[b]? = some (.cells cs.toArray E (0, 0))) (hv : cs[o]? = some v) : (loadVar T ⟨b, o, none⟩).run P w = .ok v w := by
  simp [loadVar, h1.agg, cell_blk hb, hv]
theorem loadVar_blkN {b o T k : Nat} [h1 : Agg P T k] {cs us : List Value} {E : TypeId} (hb : w.heap[b]? = some (.cells cs.toArray E (0, 0))) (hu : (cs.drop o).take k = us) (hk : us.length = k) : (loadVar T ⟨b, o, none⟩).run P w = .ok (.agg us.toArray) w := by
  simp [loadVar, h1.agg, h1.size, run_loadCells_blk hb hu hk]
end cells

section drawq
variable {P : Program} {r : Option Nat} {n : Nat} {ops : Array Oper} {Q : Post} {lv : List Bool} {pd : List (Nat × Bool)} {σ : St} {w w₀ : World} {S : Nat → Prop} {rs : List HP} {ty : TypeId} {pos : String} {after : Array Edge} {guard : Option (Nat × Bool)}
/-- A call that looks alone, in a region that draws. -/
theorem FGcallQ (hok : okOps n ops = true) (e : Nat) (pd' : List (Nat × Bool)) {d : Nat} {f : FuncId} {xs : List Operand} {ats : Array TypeId} {vals : List Value} {v : Value} [he : Enters P f] (H : Sep w₀ S rs w) (hc : Rets P f vals w fun v' w' => v' = v ∧ Kept noB w w')
    (ho : ops[e]? = some { dst := some d, op := .call { callee := .value (.func f), args := xs.toArray, argTypes := ats }, type := ty, pos := pos, after := after, guard := guard } := by exact rfl)
    (hw : Region.wanted { dst := some d, op := .call { callee := .value (.func f), args := xs.toArray, argTypes := ats }, type := ty, pos := pos, after := after, guard := guard } (yieldF ops σ) = true := by kernel_rfl) (hv : xs.map (evF σ) = vals := by exact rfl) (hck : effectOk ops lv (pd.map (·.1)) e = true := by kernel_rfl)
    (hpd : pd.filter (fun p => !((above ops e).contains p.1)) = pd' := by kernel_rfl) (h : ∀ w', Sep w₀ S rs w' → Kept noB w w' → Stab P ops (upd σ d v) w' pd' ∧ FG P r n ops Q (lv.set e true) pd' (upd σ d v) w') : FG P r n ops Q lv pd σ w :=
  FGcall hok e pd' ho hw hc hv hck hpd fun v' w' ⟨h1, h2⟩ => by subst h1; exact h w' (H.keep h2) h2
end drawq
/-- The middle of a row. -/
theorem RowAt.mid {w : World} {A : Option Addr} {n s : Nat} {xs : List Value} (hr : RowAt w A n s xs) {l h cap : Nat} (hl : l ≤ h) (hh : h ≤ n) (hc : n ≤ cap) : RowAt w (if cap = l then A else A.map (·.add (l * s))) (h - l) s ((xs.drop (l * s)).take ((h - l) * s)) :=
  (hr.cut (k := l) (cap := cap) (by omega) hc).take (by omega)

/-- A slice whose cells are the first of a block that is owned, whatever its room. -/
def preH (E : Nat) (v : Value) (n : Nat) (xs : List Value) : HP := exH fun x : Option (Nat × List Value) × Nat => match x with
  | (none, c) => pureH (v = .slice none n c ∧ n = 0 ∧ xs = [])
  | (some (g, rest), c) => star (pureH (v = .slice (some ⟨g, 0, none⟩) n c ∧ xs.length = n ∧ n ≤ c)) (blk g (xs ++ rest) E)
section pre
variable {w₀ w w' : World} {S : Nat → Prop} {rs : List HP} {put : HP → List HP}
theorem pre_row {E n c : Nat} {A : Option Addr} {xs : List Value} {F : Nat → Prop} (h : (preH E (.slice A n c) n xs).ok F w) : RowAt w A n 1 xs := by
  obtain ⟨⟨_ | ⟨g, rest⟩, c'⟩, hx⟩ := h
  · obtain ⟨⟨h1, h2, h3⟩, _⟩ := hx
    subst h2 h3
    exact RowAt.nil _ _ _
  · obtain ⟨F1, F2, hF, hd, ⟨⟨h1, h2, h3⟩, _⟩, hb⟩ := hx
    injection h1 with h1 _ _
    subst h1
    refine ⟨by omega, fun _ => ⟨_, rfl, fun j u hu => ?_⟩⟩
    rw [Addr.add_lit, Nat.zero_add, cell_blk hb.2, List.getElem?_append_left (List.getElem?_eq_some_iff.1 hu).1]
    exact hu
theorem Sep.preRow {E n c : Nat} {A : Option Addr} {xs : List Value} (h : Sep w₀ S rs w) (hat : At rs (preH E (.slice A n c) n xs) put) : RowAt w A n 1 xs := by
  obtain ⟨F, hp, _, _⟩ := h.focus hat
  exact pre_row hp
theorem Sep.preForm {E n : Nat} {v : Value} {xs : List Value} (h : Sep w₀ S rs w) (hat : At rs (preH E v n xs) put) : ∃ A c, v = .slice A n c ∧ xs.length = n := by
  obtain ⟨F, ⟨⟨_ | ⟨g, rest⟩, c'⟩, hx⟩, _, _⟩ := h.focus hat
  · obtain ⟨⟨h1, h2, h3⟩, _⟩ := hx
    exact ⟨none, c', h1, by rw [h3, h2]; rfl⟩
  · obtain ⟨F1, F2, hF, hd, ⟨⟨h1, h2, _⟩, _⟩, hb⟩ := hx
    exact ⟨_, c', h1, h2⟩
theorem Sep.preOpen {E n : Nat} {v : Value} {xs : List Value} (h : Sep w₀ S (preH E v n xs :: rs) w) (hn : 0 < n) : ∃ g c rest, v = .slice (some ⟨g, 0, none⟩) n c ∧ xs.length = n ∧ n ≤ c ∧ Sep w₀ S (blk g (xs ++ rest) E :: rs) w := by
  obtain ⟨⟨_ | ⟨g, rest⟩, c⟩, hx⟩ := h.ex0
  · obtain ⟨⟨_, h2, _⟩, _⟩ := hx.pure0
    omega
  · obtain ⟨⟨h1, h2, h3⟩, hs⟩ := hx.star0.pure0
    exact ⟨g, c, rest, h1, h2, h3, hs⟩
theorem Sep.preShut {E n c g : Nat} {xs rest : List Value} (h : Sep w₀ S (blk g (xs ++ rest) E :: rs) w) (hl : xs.length = n) (hc : n ≤ c) : Sep w₀ S (preH E (.slice (some ⟨g, 0, none⟩) n c) n xs :: rs) w :=
  Sep.pack0 (p := fun x : Option (Nat × List Value) × Nat => match x with
  | (none, c') => pureH (Value.slice (some ⟨g, 0, none⟩) n c = .slice none n c' ∧ n = 0 ∧ xs = [])
  | (some (g', rest'), c') => star (pureH (Value.slice (some ⟨g, 0, none⟩) n c = .slice (some ⟨g', 0, none⟩) n c' ∧ xs.length = n ∧ n ≤ c')) (blk g' (xs ++ rest') E)) (some (g, rest), c) (Sep.join0 (Sep.addPure ⟨rfl, hl, hc⟩ h))
theorem Sep.preNil {E c : Nat} (h : Sep w₀ S rs w) : Sep w₀ S (preH E (.slice none 0 c) 0 [] :: rs) w :=
  Sep.pack0 (p := fun x : Option (Nat × List Value) × Nat => match x with
  | (none, c') => pureH (Value.slice none 0 c = .slice none 0 c' ∧ 0 = 0 ∧ ([] : List Value) = [])
  | (some (g', rest'), c') => star (pureH (Value.slice none 0 c = .slice (some ⟨g', 0, none⟩) 0 c' ∧ ([] : List Value).length = 0 ∧ 0 ≤ c')) (blk g' ([] ++ rest') E)) (none, c) (Sep.addPure ⟨rfl, rfl, rfl⟩ h)
/-- A row that is owned, cut to its first elements. -/
theorem Sep.rowCut {E n c m d : Nat} {A : Option Addr} {xs : List Value} (h : Sep w₀ S (rowH E 1 (.slice A n c) n xs :: rs) w) (hm : m ≤ n) (hd : m ≤ d) : Sep w₀ S (preH E (.slice A m d) m (xs.take m) :: rs) w := by
  obtain ⟨A', c', e, h1, h2, h3⟩ := Sep.rowForm h At0
  injection e with e1 _ e2
  subst e1 e2
  rcases Nat.eq_zero_or_pos n with h0 | h0
  · subst h0
    have : m = 0 := by omega
    subst this
    have hx : xs = [] := List.eq_nil_of_length_eq_zero (by omega)
    subst hx
    rcases A with _ | a
    · exact (h.drop0).preNil
    · obtain ⟨F, hp, _, _⟩ := h.focus At0
      rcases hp.1.2 with ⟨hv, _⟩ | ⟨g, cap, cur, hv, _, hh, _⟩
      · cases hv
      · injection hv with hv _ _
        injection hv with hv
        subst hv
        refine Sep.preShut (g := g) (xs := []) (rest := cur.toList) (h.imp At0 fun F' hF' => ?_) rfl hd
        exact ⟨fun b => by rw [hF'.2 b]; simp [Value.ownBlock, eq_comm], by simpa using hh⟩
  · obtain ⟨g, cg, rest, hg, hcg, hlg, hle, hmx, h4⟩ := Sep.rowOpen h At0 h0
    injection hg with hg1 _ hg2
    subst hg1 hg2
    have e : xs ++ rest = xs.take m ++ (xs.drop m ++ rest) := by rw [← List.append_assoc, List.take_append_drop]
    rw [e] at h4
    exact Sep.preShut h4 (by rw [List.length_take]; omega) hd
end pre
end Go.Mw
/-
  Slices inside of what is read, as rows. Nothing of a given program stands here.
-/
namespace Go.Mw
open Go.RowKit Go.ChangeShapes Go.WideShapes Go.Deep

section
variable {H : Type} {enc : TypeId × Value → H} {P : Program}
theorem open_rows_in {α : Type} {f : α → List Value} {good : α → Prop} {s : Nat} {t e : TypeId} {W : World} {v : Value} {n0 : Nat} {y : DataW H × List MemPlace} (ht : P.underlying t = some (.slice e)) (hC : P.cellsOf e = s) (hf : ∀ x, (f x).length = s)
    (hel : ∀ n cs y, cs.length = s → DataW.trod enc P W 0 (fun _ => true) true n e cs = some y → ∃ x, cs = f x ∧ good x) (h : DataW.trod enc P W 0 (fun _ => true) true n0 t [v] = some y) :
    ∃ A c, ∃ l : List α, v = .slice A l.length c ∧ l.length ≤ c ∧ c ≤ maxLen ∧ RowAt W A l.length s (l.flatMap f) ∧ ∀ x ∈ l, good x := by
  rcases open_slice ht h with ⟨h0, _⟩ | ⟨a, len, cap, m, n, D, Pl, hcs, _, hl, hm, hmm, _, hi⟩
  · injection h0 with h0 _
    exact ⟨none, 0, [], h0, Nat.le_refl _, Nat.zero_le _, RowAt.nil _ _ _, fun _ h => by cases h⟩
  · injection hcs with hcs _
    have hm2 : m = cap := by simpa using hmm
    subst hm2
    obtain ⟨l, h1, h2⟩ := exists_list (α := α) (Q := fun i x => good x ∧ ∀ j u, (f x)[j]? = some u → W.cell? (a.add (i * s + j)) = some u) len (fun i hi' => by
      obtain ⟨cs', hc, ht'⟩ := hi i (by omega)
      rw [hC] at hc
      obtain ⟨_, hcl, hat⟩ := World.cells?_some hc
      obtain ⟨x, hx, hg⟩ := hel _ _ _ hcl ht'
      refine ⟨x, hg, fun j u hu => ?_⟩
      have hj : j < s := by rw [← hf x]; exact (List.getElem?_eq_some_iff.1 hu).1
      have hcell := hat j hj
      rw [← Go.Deep.add_add, hcell, hx]
      exact hu)
    subst h1
    refine ⟨some a, m, l, hcs, hl, hm, ⟨flatMap_len hf l, fun _ => ⟨a, rfl, fun k u hk => ?_⟩⟩, fun x hx => ?_⟩
    · obtain ⟨i, j, x, hi', hj, rfl⟩ := flatMap_get hf l k u hk
      exact (h2 i x hi').2 j u hj
    · obtain ⟨i, hi'⟩ := List.mem_iff_getElem?.1 hx
      exact (h2 i x hi').1
/-- A struct's reading, field by field, of whatever size. -/
theorem struct_fieldsN {e : TypeId} {fs : Array Field} {W : World} {base n : Nat} {sp : Nat → Bool} {held : Bool} {cs : List Value} {y : DataW H × List MemPlace} (he : P.underlying e = some (.struct fs)) (h : DataW.trod enc P W base sp held n e cs = some y) :
    ∀ (j t o k : Nat), (fs[j]?).map (fun fd => (fd.type, fd.offset)) = some (t, o) → P.cellsOf t = k → ∃ y' n', DataW.trod enc P W base sp held n' t ((cs.drop o).take k) = some y' := by
  obtain ⟨ys, n', hn', hy, hlen, hyl, hf⟩ := DataW.trod_struct he h
  intro j t o k hj hk
  obtain ⟨fd, hfd, hto⟩ := Option.map_eq_some_iff.1 hj
  injection hto with h1 h2
  subst h1 h2 hk
  have hjl : j < fs.size := (Array.getElem?_eq_some_iff.1 hfd).1
  have h1 := hf j fd hfd
  have hys : ys[j]? = some (ys[j]'(by omega)) := List.getElem?_eq_getElem (by omega)
  exact ⟨_, _, h1.trans hys⟩
end
end Go.Mw
