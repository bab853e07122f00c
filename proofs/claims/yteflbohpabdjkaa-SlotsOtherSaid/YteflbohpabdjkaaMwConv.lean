/-
  Conversions of bytes that mark a block; calls beside a piece that stands apart; least of two. Nothing of a given program stands here.
-/
import Derived.Test.YteflbohpabdjkaaMwRow
namespace Go.Mw
open Go.RowKit

section
variable {P : Program} {r : Option Nat} {n : Nat} {ops : Array Oper} {Q : Post} {lv : List Bool} {pd pd' : List (Nat × Bool)} {rest : List Oper} {σ : St} {w w' w₀ : World} {S F : Nat → Prop} {rs : List HP} {p q p0 : HP} {put : HP → List HP} {op : Op} {ty : TypeId} {pos : String} {after : Array Edge} {guard : Option (Nat × Bool)}
theorem gives_minN {ρ : Operand → Value} {x y : Operand} {a k m : Nat} {b : Int} {ts : Array TypeId} (hm : min a k = m) (hb : (k : Int) = b) (hx : ρ x = .int .i64 a) (hy : ρ y = .int .i64 b) : Gives P ρ (.call { callee := .builtin .min, args := #[x, y], argTypes := ts }) ty w (.int .i64 (m : Nat)) w := by
  have h := Gives.min (P := P) (ty := ty) (w := w) (ts := ts) hx hy
  rw [← hb, show min (a : Int) (k : Int) = ((min a k : Nat) : Int) by omega, hm] at h
  exact h
/-- Bytes whose block was marked as a text's. -/
def markH (b : Nat) (cs : List Value) (E : TypeId) : HP := obj b (.cells cs.toArray E (cs.length, cs.length + 1))
theorem Sep.markRow {b E m s : Nat} {cs : List Value} (H : Sep w₀ S rs w) (hat : At rs (markH b cs E) put) (hl : cs.length = m * s) : RowAt w (some ⟨b, 0, none⟩) m s cs :=
  ⟨hl, fun _ => ⟨_, rfl, fun j u hu => by rw [Addr.add_lit, Nat.zero_add, cell_of_row w b j _ _ _ (H.obj hat)]; simpa using hu⟩⟩
theorem gives_mark {ρ : Operand → Value} {x : Operand} {t e : TypeId} [hs : IsSlice P t e] [he : IsInt P e .u8] {b m c : Nat} {cs : List Value} {E : TypeId} (H : Sep w₀ S rs w) (hx : ρ x = .slice (some ⟨b, 0, none⟩) m c) (hat : At rs (blk b cs E) put) :
    ∃ w', Gives P ρ (.convert t t x) ty w (.slice (some ⟨b, 0, none⟩) m c) w' ∧ Sep w₀ S (put (markH b cs E)) w' := by
  have hb := H.obj hat
  have hsh : w.shape? b = some (E, cs.length) := by unfold World.shape?; rw [hb]; simp
  refine ⟨w.freeze ⟨b, cs.length, none⟩ 1, fun _ _ _ _ => ?_, ?_⟩
  · have hrun : (convert t t (.slice (some ⟨b, 0, none⟩) m c)).run P w = .ok (.slice (some ⟨b, 0, none⟩) m c) (w.freeze ⟨b, cs.length, none⟩ 1) := by
      simp [convert, run_underlying hs.und, run_underlying he.und, markStringish, hsh]
    simp only [execOp, hx, Sem.run_bind, hrun, Result.andThen_ok, Sem.run_pure]
  · refine H.setObj hat ⟨?_, ?_, ?_, ?_, fun k hk hS => ?_⟩ ?_
    · unfold World.freeze; rw [if_neg (by decide)]
    · unfold World.freeze; rw [if_neg (by decide)]
    · unfold World.freeze; rw [if_neg (by decide)]
    · unfold World.freeze; rw [if_neg (by decide)]; simp
    · unfold World.freeze; rw [if_neg (by decide)]
      simp only [Array.getElem?_modify]
      rw [if_neg (fun e => hS e.symm)]
    · unfold World.freeze; rw [if_neg (by decide)]
      simp only [Array.getElem?_modify, if_true]
      rw [hb]
      rfl
theorem FL_mark {d : Nat} {x : Operand} {t e : TypeId} [hs : IsSlice P t e] [he : IsInt P e .u8] {b m c : Nat} {cs : List Value} {E : TypeId} (H : Sep w₀ S rs w) (hx : evF σ x = .slice (some ⟨b, 0, none⟩) m c := by exact rfl)
    (hat : At rs (blk b cs E) put := by first | exact At0 | exact At1 | exact At2 | exact At3 | exact At4 | exact At5 | exact At6 | exact At7 | exact At8 | exact At9) (hd : Nat.blt d n = true := by exact rfl)
    (h : ∀ w', Sep w₀ S (put (markH b cs E)) w' → FL P r n ops Q rest (upd σ d (.slice (some ⟨b, 0, none⟩) m c)) w') :
    FL P r n ops Q ({ dst := some d, op := .convert t t x, type := ty, pos := pos, after := after, guard := none } :: rest) σ w := by
  obtain ⟨w', hg, hsep⟩ := gives_mark (P := P) (ρ := evF σ) (x := x) (t := t) (e := e) (ty := ty) H hx hat
  exact FL_val hg hd (h w' hsep)
/-- A call that turns one piece, beside the first one, which stands apart. -/
theorem FL_call1Q {d : Nat} {f : FuncId} {xs : List Operand} {ats : Array TypeId} {vals : List Value} {v : Value} [he : Enters P f] (H : Sep w₀ S (p0 :: rs) w) (hat : At rs p put)
    (hc : ∀ F Fq, p.ok F w → p0.ok Fq w → (∀ b, Fq b → ¬ F b) → Rets P f vals w fun v' w' => v' = v ∧ Turn F q w w') (hv : xs.map (evF σ) = vals := by exact rfl) (hd : Nat.blt d n = true := by exact rfl)
    (h : ∀ w', Sep w₀ S (p0 :: put q) w' → FL P r n ops Q rest (upd σ d v) w') :
    FL P r n ops Q ({ dst := some d, op := .call { callee := .value (.func f), args := xs.toArray, argTypes := ats }, type := ty, pos := pos, after := after, guard := none } :: rest) σ w := by
  obtain ⟨F, Fq, hp, hq, hdj, hS, hput⟩ := H.focus1 hat
  refine FL_call (hc F Fq hp hq hdj) hv hd fun v' w' ⟨hx, hk, F', hq', hs⟩ => ?_
  subst hx
  exact h w' (hput w' F' _ hk hq' hs)
theorem markRow_ok {b E m s : Nat} {cs : List Value} {Fq : Nat → Prop} (h : (markH b cs E).ok Fq w) (hl : cs.length = m * s) : RowAt w (some ⟨b, 0, none⟩) m s cs :=
  Sep.markRow (Sep.start1 h) At0 hl
theorem markOff_ok {b E m : Nat} {cs : List Value} {Fq F : Nat → Prop} (h : (markH b cs E).ok Fq w) (hd : ∀ b, Fq b → ¬ F b) : Off (some ⟨b, 0, none⟩) m F := fun _ ad hA hb => by
  injection hA with hA
  subst hA
  exact hd b ((h.1 b).2 rfl) hb
end
end Go.Mw
