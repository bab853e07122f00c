/-
  Slices inside of what is read, as rows. Nothing of a given program stands here.
-/
import Derived.Test.YteflbohpabdjkaaMwClose
namespace Go.Mw
open Go.RowKit Go.ChangeShapes Go.WideShapes Go.Deep

section
variable {H : Type} {enc : TypeId × Value → H} {P : Program}
theorem open_rows_in {α : Type} {f : α → List Value} {good : α → Prop} {s : Nat} {t e : TypeId} {W : World} {v : Value} {n0 : Nat} {y : DataW H × List MemPlace} (ht : P.underlying t = some (.slice e)) (hC : P.cellsOf e = s) (hf : ∀ x, (f x).length = s)
    (hel : ∀ n cs y, cs.length = s → DataW.trod enc P W 0 (fun _ => true) true n e cs = some y → ∃ x, cs = f x ∧ good x) (h : DataW.trod enc P W 0 (fun _ => true) true n0 t [v] = some y) :
    ∃ A c, ∃ l : List α, v = .slice A l.length c ∧ l.length ≤ c ∧ c ≤ maxLen ∧ RowAt W A l.length s (l.flatMap f) ∧ ∀ x ∈ l, good x := by
  rcases open_slice ht h with ⟨h0, _⟩ | ⟨a, len, cap, m, n, D, Pl, hcs, _, hl, hm, hmm, _, hi⟩
  · injection h0 with h0 _
    exact ⟨none, 0, [], h0, Nat.le_refl _, Nat.zero_le _, RowAt.nil _ _ _, fun _ h => by cases h⟩
  · injection hcs with hcs _
    have hm2 : m = cap := by simpa using hmm
    subst hm2
    obtain ⟨l, h1, h2⟩ := exists_list (α := α) (Q := fun i x => good x ∧ ∀ j u, (f x)[j]? = some u → W.cell? (a.add (i * s + j)) = some u) len (fun i hi' => by
      obtain ⟨cs', hc, ht'⟩ := hi i (by omega)
      rw [hC] at hc
      obtain ⟨_, hcl, hat⟩ := World.cells?_some hc
      obtain ⟨x, hx, hg⟩ := hel _ _ _ hcl ht'
      refine ⟨x, hg, fun j u hu => ?_⟩
      have hj : j < s := by rw [← hf x]; exact (List.getElem?_eq_some_iff.1 hu).1
      have hcell := hat j hj
      rw [← Go.Deep.add_add, hcell, hx]
      exact hu)
    subst h1
    refine ⟨some a, m, l, hcs, hl, hm, ⟨flatMap_len hf l, fun _ => ⟨a, rfl, fun k u hk => ?_⟩⟩, fun x hx => ?_⟩
    · obtain ⟨i, j, x, hi', hj, rfl⟩ := flatMap_get hf l k u hk
      exact (h2 i x hi').2 j u hj
    · obtain ⟨i, hi'⟩ := List.mem_iff_getElem?.1 hx
      exact (h2 i x hi').1
/-- A struct's reading, field by field, of whatever size. -/
theorem struct_fieldsN {e : TypeId} {fs : Array Field} {W : World} {base n : Nat} {sp : Nat → Bool} {held : Bool} {cs : List Value} {y : DataW H × List MemPlace} (he : P.underlying e = some (.struct fs)) (h : DataW.trod enc P W base sp held n e cs = some y) :
    ∀ (j t o k : Nat), (fs[j]?).map (fun fd => (fd.type, fd.offset)) = some (t, o) → P.cellsOf t = k → ∃ y' n', DataW.trod enc P W base sp held n' t ((cs.drop o).take k) = some y' := by
  obtain ⟨ys, n', hn', hy, hlen, hyl, hf⟩ := DataW.trod_struct he h
  intro j t o k hj hk
  obtain ⟨fd, hfd, hto⟩ := Option.map_eq_some_iff.1 hj
  injection hto with h1 h2
  subst h1 h2 hk
  have hjl : j < fs.size := (Array.getElem?_eq_some_iff.1 hfd).1
  have h1 := hf j fd hfd
  have hys : ys[j]? = some (ys[j]'(by omega)) := List.getElem?_eq_getElem (by omega)
  exact ⟨_, _, h1.trans hys⟩
end
end Go.Mw
