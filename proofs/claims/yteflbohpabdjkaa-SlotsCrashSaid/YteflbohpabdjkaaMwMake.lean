/-
  make of rows, loads through rows that are read. Nothing of a given program stands here.
-/
import Derived.Test.YteflbohpabdjkaaMwDraw3
import Derived.Laws.OwnMore
namespace Go.Mw
open Go.RowKit

section
variable {P : Program} {r : Option Nat} {n : Nat} {ops : Array Oper} {Q : Post} {lv : List Bool} {pd pd' : List (Nat × Bool)} {rest : List Oper} {σ : St} {w w' w₀ : World} {S F : Nat → Prop} {rs : List HP} {put : HP → List HP} {op : Op} {ty : TypeId} {pos : String} {after : Array Edge} {guard : Option (Nat × Bool)}
theorem Gives.make1 {ρ : Operand → Value} {x y : Operand} {t e : TypeId} [hs : IsSlice P t e] {bytes : Nat} [hc : Cells P e 1 bytes] {z : Value} [hz : Zero P e z] {k : Nat} (hx : ρ x = .int .i64 k) (hy : ρ y = .int .i64 k) (hzc : z.cells = #[z]) (hb : bytes * k ≤ 281474976710656) (hk : k ≤ maxLen) :
    Gives P ρ (.makeSlice t x y) ty w (.slice (some ⟨w.heap.size, 0, none⟩) k k) (w.alloc (.cells (List.replicate k z).toArray e)) := fun _ _ _ _ => by
  obtain ⟨i, hi, hsb⟩ := Option.map_eq_some_iff.1 hc.size
  simp only [Prod.mk.injEq] at hsb
  have hzero : i.zero = some z := by
    have := hz.run w
    simp [zeroValue, typeInfo, hi] at this
    cases hq : i.zero with
    | none => simp [hq] at this
    | some u => simp [hq] at this; rw [this]
  have hrun := run_make (P := P) w t e i z hs.und hi hzero .i64 .i64 (k : Int) (k : Int) (by omega) (by omega) (by rw [hsb.2, ← Int.natCast_mul]; generalize bytes * k = q at hb ⊢; omega) (by unfold maxLen at hk; omega)
  have hcells : madeCells z.cells ((k : Int).toNat * i.size) = (List.replicate k z).toArray := by
    rw [hzc, hsb.1]
    have := toList_madeCells_one z (k * 1)
    simp only [Int.toNat_natCast]
    rw [Nat.mul_one] at this ⊢
    rw [← this]
  rw [hcells] at hrun
  simp only [execOp, hx, hy, Sem.run_bind, hrun, Result.andThen_ok, Sem.run_pure, Int.toNat_natCast]
theorem FL_make1 {d : Nat} {x y : Operand} {t e : TypeId} [hs : IsSlice P t e] {bytes : Nat} [hc : Cells P e 1 bytes] {z : Value} [hz : Zero P e z] {k : Nat} (H : Sep w₀ S rs w) (hk : k ≤ maxLen) (hb : bytes * k ≤ 281474976710656) (hx : evF σ x = .int .i64 k := by exact rfl) (hy : evF σ y = .int .i64 k := by exact rfl) (hzc : z.cells = #[z] := by exact rfl) (hd : Nat.blt d n = true := by exact rfl)
    (h : ∀ b w', Sep w₀ S (blk b (List.replicate k z) e :: rs) w' → Kept noB w w' → FL P r n ops Q rest (upd σ d (.slice (some ⟨b, 0, none⟩) k k)) w') :
    FL P r n ops Q ({ dst := some d, op := .makeSlice t x y, type := ty, pos := pos, after := after, guard := none } :: rest) σ w :=
  FL_val (Gives.make1 hx hy hzc hb hk) hd (h _ _ (H.alloc _) (Kept.alloc _ _))
theorem Gives.idxB {ρ : Operand → Value} {x y : Operand} {t e : TypeId} [ht : IsSlice P t e] {bytes : Nat} [hc : Cells P e 1 bytes] {b m c i : Nat} {k : IntKind} (hx : ρ x = .slice (some ⟨b, 0, none⟩) m c) (hy : ρ y = .int k i) (hlt : i < m) : Gives P ρ (.indexAddr t x y) ty w (.pointer (some ⟨b, i, none⟩)) w := by
  have := Gives.idx (P := P) (ρ := ρ) (ty := ty) (w := w) (t := t) (e := e) (size := 1) (bytes := bytes) hx hy hlt
  rwa [Nat.mul_one, Addr.add_lit, Nat.zero_add] at this
theorem Gives.conv {ρ : Operand → Value} {x : Operand} {s t : TypeId} {k j : IntKind} [hs : IsInt P s j] [ht : IsInt P t k] {a : Int} (hx : ρ x = .int j a) : Gives P ρ (.convert s t x) ty w (.int k (k.wrap a)) w :=
  Gives.convI (by rw [hs.und]; rfl) ht.und hx
theorem Gives.loadC {ρ : Operand → Value} {a : Addr} {x : Operand} {T : TypeId} [h1 : OneCell P T] {v : Value} (hx : ρ x = .pointer (some a)) (hc : w.cell? a = some v) : Gives P ρ (.load T x) ty w v w := fun _ _ _ _ => by
  simp [execOp, hx, Instr.loadAt, Instr.sureAddr, loadVar, h1.agg, hc]
theorem Gives.loadCN {ρ : Operand → Value} {k : Nat} {a : Addr} {x : Operand} {T : TypeId} [h1 : Agg P T k] {us : List Value} (hx : ρ x = .pointer (some a)) (hc : ∀ j u, us[j]? = some u → w.cell? (a.add j) = some u) (hk : us.length = k) : Gives P ρ (.load T x) ty w (.agg us.toArray) w := fun _ _ _ _ => by
  have := run_loadCells_list (P := P) w a us hc
  rw [hk] at this
  simp [execOp, hx, Instr.loadAt, Instr.sureAddr, loadVar, h1.agg, h1.size, this]
/-- The cells of one element of a row. -/
theorem RowAt.elem {A : Option Addr} {m s : Nat} {xs us : List Value} (h : RowAt w A m s xs) {ad : Addr} (hA : A = some ad) (i : Nat) (hi : i < m) (hu : ∀ j u, us[j]? = some u → xs[i * s + j]? = some u) : ∀ j u, us[j]? = some u → w.cell? ((ad.add (i * s)).add j) = some u := by
  intro j u hj
  obtain ⟨ad', h1, h2⟩ := h.at_ (by omega)
  rw [hA] at h1
  injection h1 with h1
  subst h1
  rw [add_add]
  exact h2 _ _ (hu j u hj)
theorem RowAt.elemC {A : Option Addr} {m s : Nat} {xs us : List Value} (h : RowAt w A m s xs) {ad : Addr} (hA : A = some ad) (i : Nat) (hi : i < m) (hu : ∀ j u, us[j]? = some u → xs[i * s + j]? = some u) (j : Nat) (u : Value) (hj : us[j]? = some u) : w.cell? (ad.add (i * s + j)) = some u := by
  have := h.elem hA i hi hu j u hj
  rwa [add_add] at this
end
end Go.Mw
