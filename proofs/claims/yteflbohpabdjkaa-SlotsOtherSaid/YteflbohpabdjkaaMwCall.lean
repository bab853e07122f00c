/-
  Contracts that turn one owned piece, and their calls. Nothing of a given program stands here.
-/
import Derived.Test.YteflbohpabdjkaaMwMore
namespace Go.Mw
open Go.RowKit

/-- The blocks F have become those of q. -/
def Turn (F : Nat → Prop) (q : HP) (w w' : World) : Prop := Kept F w w' ∧ ∃ F', q.ok F' w' ∧ ∀ b, F' b → F b ∨ w.heap.size ≤ b
section
variable {P : Program} {r : Option Nat} {n : Nat} {ops : Array Oper} {Q : Post} {rest : List Oper} {σ : St} {w w' w₀ : World} {S F : Nat → Prop} {rs : List HP} {p q : HP} {put : HP → List HP} {op : Op} {ty : TypeId} {pos : String} {after : Array Edge}
theorem starL_one {F : Nat → Prop} : (starL [p]).ok F w ↔ p.ok F w := by
  constructor
  · rintro ⟨F1, F2, hF, hd, hp, ⟨_, h2⟩⟩
    have : F = F1 := funext fun b => propext ((hF b).trans ⟨fun h => h.elim id fun h => (h2 b h).elim, .inl⟩)
    rw [this]; exact hp
  · intro h
    exact ⟨F, fun _ => False, fun b => by simp, fun _ _ h => h, h, trivial, fun _ h => h⟩
theorem Sep.start1 (h : p.ok F w) : Sep w F [p] w := Sep.start [p] (starL_one.2 h)
theorem Sep.turn (h : Sep w₀ F [p] w) : Turn F p w₀ w := by
  obtain ⟨h1, F', hF, hs⟩ := h
  exact ⟨h1, F', starL_one.1 hF, hs⟩
theorem Turn.refl (h : p.ok F w) : Turn F p w w := ⟨Kept.refl _ _, F, h, fun _ hb => .inl hb⟩
theorem Sep.turned (H : Sep w₀ S rs w) (hat : At rs p put) (h : ∀ F, p.ok F w → Turn F q w w') : Sep w₀ S (put q) w' := by
  obtain ⟨F, hp, _, hput⟩ := H.focus hat
  obtain ⟨hk, F', hq, hs⟩ := h F hp
  exact hput w' F' q hk hq hs
theorem Sep.front7 {a b c d e f g p : HP} {l : List HP} (h : Sep w₀ S (a :: b :: c :: d :: e :: f :: g :: p :: l) w) : Sep w₀ S (p :: a :: b :: c :: d :: e :: f :: g :: l) w := Sep.front (l1 := [a, b, c, d, e, f, g]) h
theorem Sep.front8 {a b c d e f g i p : HP} {l : List HP} (h : Sep w₀ S (a :: b :: c :: d :: e :: f :: g :: i :: p :: l) w) : Sep w₀ S (p :: a :: b :: c :: d :: e :: f :: g :: i :: l) w := Sep.front (l1 := [a, b, c, d, e, f, g, i]) h
theorem Sep.front9 {a b c d e f g i j p : HP} {l : List HP} (h : Sep w₀ S (a :: b :: c :: d :: e :: f :: g :: i :: j :: p :: l) w) : Sep w₀ S (p :: a :: b :: c :: d :: e :: f :: g :: i :: j :: l) w := Sep.front (l1 := [a, b, c, d, e, f, g, i, j]) h
theorem Sep.back1 {a p : HP} {l : List HP} (h : Sep w₀ S (p :: a :: l) w) : Sep w₀ S (a :: p :: l) w := h.front1
theorem Sep.back2 {a b p : HP} {l : List HP} (h : Sep w₀ S (p :: a :: b :: l) w) : Sep w₀ S (a :: b :: p :: l) w := h.front2.front2
/-- The first alone. -/
theorem Sep.first (h : Sep w₀ S (p :: rs) w) : Sep w₀ S [p] w := by
  induction rs with
  | nil => exact h
  | cons a rs ih => exact ih (h.front1.drop0)
/-- The first few alone. -/
theorem Sep.firsts {l rs : List HP} (h : Sep w₀ S (l ++ rs) w) : Sep w₀ S l w := by
  have := (Sep.bundle h).first.parts
  rwa [List.append_nil] at this
/-- A call that leaves the world as it is. -/
theorem FL_callS {d : Nat} {f : FuncId} {xs : List Operand} {ats : Array TypeId} {vals : List Value} {v : Value} [he : Enters P f]
    (hc : Rets P f vals w fun v' w' => v' = v ∧ w = w') (hv : xs.map (evF σ) = vals := by exact rfl) (hd : Nat.blt d n = true := by exact rfl)
    (h : FL P r n ops Q rest (upd σ d v) w) :
    FL P r n ops Q ({ dst := some d, op := .call { callee := .value (.func f), args := xs.toArray, argTypes := ats }, type := ty, pos := pos, after := after, guard := none } :: rest) σ w :=
  FL_call hc hv hd fun v' w' ⟨hx, hw⟩ => by subst hx; subst hw; exact h
/-- A call of a method that has no body to speak of: its result is dropped, its world is as it was. -/
theorem FL_loadB {d b o : Nat} {x : Operand} {T : TypeId} [OneCell P T] {cs : List Value} {E : TypeId} {v : Value} (hb : w.heap[b]? = some (.cells cs.toArray E (0, 0))) (hx : evF σ x = .pointer (some ⟨b, o, none⟩) := by exact rfl)
    (hv : cs[o]? = some v := by exact rfl) (hd : Nat.blt d n = true := by exact rfl) (h : FL P r n ops Q rest (upd σ d v) w) :
    FL P r n ops Q ({ dst := some d, op := .load T x, type := ty, pos := pos, after := after, guard := none } :: rest) σ w := FL_val (Gives.load1 hx hb hv) hd h
/-- A call that turns one piece. -/
theorem FL_callT {d : Nat} {f : FuncId} {xs : List Operand} {ats : Array TypeId} {vals : List Value} {α : Type} {val : α → Value} {φ : α → Prop} {q : α → HP} [he : Enters P f] (H : Sep w₀ S rs w) (hat : At rs p put)
    (hc : ∀ F, p.ok F w → (∀ b, F b → S b ∨ w₀.heap.size ≤ b) → Rets P f vals w fun v w' => ∃ x, v = val x ∧ φ x ∧ Turn F (q x) w w') (hv : xs.map (evF σ) = vals := by exact rfl) (hd : Nat.blt d n = true := by exact rfl)
    (h : ∀ x w', φ x → Sep w₀ S (put (q x)) w' → FL P r n ops Q rest (upd σ d (val x)) w') :
    FL P r n ops Q ({ dst := some d, op := .call { callee := .value (.func f), args := xs.toArray, argTypes := ats }, type := ty, pos := pos, after := after, guard := none } :: rest) σ w := by
  obtain ⟨F, hp, hS, hput⟩ := H.focus hat
  refine FL_call (hc F hp hS) hv hd fun v w' ⟨x, hx, hφ, hk, F', hq, hs⟩ => ?_
  subst hx
  exact h x w' hφ (hput w' F' _ hk hq hs)
/-- The same, of one outcome. -/
theorem FL_call1 {d : Nat} {f : FuncId} {xs : List Operand} {ats : Array TypeId} {vals : List Value} {v : Value} [he : Enters P f] (H : Sep w₀ S rs w) (hat : At rs p put)
    (hc : ∀ F, p.ok F w → (∀ b, F b → S b ∨ w₀.heap.size ≤ b) → Rets P f vals w fun v' w' => v' = v ∧ Turn F q w w') (hv : xs.map (evF σ) = vals := by exact rfl) (hd : Nat.blt d n = true := by exact rfl)
    (h : ∀ w', Sep w₀ S (put q) w' → FL P r n ops Q rest (upd σ d v) w') :
    FL P r n ops Q ({ dst := some d, op := .call { callee := .value (.func f), args := xs.toArray, argTypes := ats }, type := ty, pos := pos, after := after, guard := none } :: rest) σ w := by
  obtain ⟨F, hp, hS, hput⟩ := H.focus hat
  refine FL_call (hc F hp hS) hv hd fun v' w' ⟨hx, hk, F', hq, hs⟩ => ?_
  subst hx
  exact h w' (hput w' F' _ hk hq hs)
theorem FL_call1_ {f : FuncId} {xs : List Operand} {ats : Array TypeId} {vals : List Value} {v : Value} [he : Enters P f] (H : Sep w₀ S rs w) (hat : At rs p put)
    (hc : ∀ F, p.ok F w → (∀ b, F b → S b ∨ w₀.heap.size ≤ b) → Rets P f vals w fun v' w' => v' = v ∧ Turn F q w w') (hv : xs.map (evF σ) = vals := by exact rfl)
    (h : ∀ w', Sep w₀ S (put q) w' → FL P r n ops Q rest σ w') :
    FL P r n ops Q ({ dst := none, op := .call { callee := .value (.func f), args := xs.toArray, argTypes := ats }, type := ty, pos := pos, after := after, guard := none } :: rest) σ w := by
  obtain ⟨F, hp, hS, hput⟩ := H.focus hat
  refine FL_call0 (hc F hp hS) hv fun v' w' ⟨hx, hk, F', hq, hs⟩ => ?_
  exact h w' (hput w' F' _ hk hq hs)
/-- A piece that is owned, and the first one: they stand apart. -/
theorem Sep.focus1 (h : Sep w₀ S (q :: rs) w) (hat : At rs p put) : ∃ F Fq, p.ok F w ∧ q.ok Fq w ∧ (∀ b, Fq b → ¬ F b) ∧ (∀ b, F b → S b ∨ w₀.heap.size ≤ b) ∧
    ∀ w' F' p', Kept F w w' → p'.ok F' w' → (∀ b, F' b → F b ∨ w.heap.size ≤ b) → Sep w₀ S (q :: put p') w' := by
  obtain ⟨h1, G, ⟨Fq, Fr, hG, hd, hq, hr⟩, hS⟩ := h
  have h2 : Sep w₀ S rs w := ⟨h1, Fr, hr, fun b hb => hS b ((hG b).2 (.inr hb))⟩
  obtain ⟨l1, l2, rfl, hput⟩ := hat
  obtain ⟨F, F2, hF12, hd2, hp, hr2⟩ := starL_split hr
  refine ⟨F, Fq, hp, hq, fun b hb hb2 => hd b hb ((hF12 b).2 (.inl hb2)), fun b hb => hS b ((hG b).2 (.inr ((hF12 b).2 (.inl hb)))), fun w' F' p' hk hp' hsub => ?_⟩
  have hlow := (starL (l1 ++ l2)).low hr2
  have hlowq := q.low hq
  rw [hput]
  refine ⟨h1.trans hk fun b hb => hS b ((hG b).2 (.inr ((hF12 b).2 (.inl hb)))), fun b => Fq b ∨ (F' b ∨ F2 b), ⟨Fq, fun b => F' b ∨ F2 b, fun b => Iff.rfl, fun b hb hb2 => ?_, q.loc hk.size (fun b hb => hk.block b (hlowq b hb) fun hf => hd b hb ((hF12 b).2 (.inl hf))) hq, ?_⟩, ?_⟩
  · rcases hb2 with hb2 | hb2
    · rcases hsub b hb2 with h | h
      · exact hd b hb ((hF12 b).2 (.inl h))
      · have := hlowq b hb; omega
    · exact hd b hb ((hF12 b).2 (.inr hb2))
  · refine starL_join (F1 := F') (F2 := F2) (fun b => Iff.rfl) (fun b hb hb2 => ?_) hp' ((starL (l1 ++ l2)).loc hk.size (fun b hb => hk.block b (hlow b hb) (fun h1 => hd2 b h1 hb)) hr2)
    rcases hsub b hb with h | h
    · exact hd2 b h hb2
    · have := hlow b hb2; omega
  · rintro b (hb | hb | hb)
    · exact hS b ((hG b).2 (.inl hb))
    · rcases hsub b hb with h | h
      · exact hS b ((hG b).2 (.inr ((hF12 b).2 (.inl h))))
      · exact .inr (Nat.le_trans h1.size h)
    · exact hS b ((hG b).2 (.inr ((hF12 b).2 (.inr hb))))
/-- A call that turns one piece and reads the row that stands first. -/
theorem FL_call1R {d : Nat} {f : FuncId} {xs : List Operand} {ats : Array TypeId} {vals us : List Value} {v : Value} {E s m c : Nat} {A : Option Addr} [he : Enters P f] (H : Sep w₀ S (rowH E s (.slice A m c) m us :: rs) w) (hat : At rs p put)
    (hc : ∀ F, p.ok F w → RowAt w A m s us → Off A m F → Rets P f vals w fun v' w' => v' = v ∧ Turn F q w w') (hv : xs.map (evF σ) = vals := by exact rfl) (hd : Nat.blt d n = true := by exact rfl)
    (h : ∀ w', Sep w₀ S (rowH E s (.slice A m c) m us :: put q) w' → FL P r n ops Q rest (upd σ d v) w') :
    FL P r n ops Q ({ dst := some d, op := .call { callee := .value (.func f), args := xs.toArray, argTypes := ats }, type := ty, pos := pos, after := after, guard := none } :: rest) σ w := by
  obtain ⟨F, Fq, hp, hq, hdj, hS, hput⟩ := H.focus1 hat
  refine FL_call (hc F hp (rowAt_of_own hq.1) (rowH_off hq hdj)) hv hd fun v' w' ⟨hx, hk, F', hq', hs⟩ => ?_
  subst hx
  exact h w' (hput w' F' _ hk hq' hs)
theorem HP.stay {F : Nat → Prop} (h : p.ok F w) (hk : Kept noB w w') : p.ok F w' := p.loc hk.size (fun b hb => hk.block b (p.low h b hb) id) h
/-- A call that makes a new piece. -/
theorem FL_callN {d : Nat} {f : FuncId} {xs : List Operand} {ats : Array TypeId} {vals : List Value} {α : Type} {val : α → Value} {φ : α → Prop} {q : α → HP} [he : Enters P f] (H : Sep w₀ S rs w)
    (hc : Rets P f vals w fun v w' => ∃ x, v = val x ∧ φ x ∧ Turn noB (q x) w w') (hv : xs.map (evF σ) = vals := by exact rfl) (hd : Nat.blt d n = true := by exact rfl)
    (h : ∀ x w', φ x → Sep w₀ S (q x :: rs) w' → Kept noB w w' → FL P r n ops Q rest (upd σ d (val x)) w') :
    FL P r n ops Q ({ dst := some d, op := .call { callee := .value (.func f), args := xs.toArray, argTypes := ats }, type := ty, pos := pos, after := after, guard := none } :: rest) σ w := by
  refine FL_call hc hv hd fun v w' ⟨x, hx, hφ, hk, F', hq, hs⟩ => ?_
  subst hx
  exact h x w' hφ (H.new hk hq fun b hb => (hs b hb).resolve_left id) hk
end
end Go.Mw
