/-
  The arguments of the slots' statements, read.
-/
import Derived.Test.YteflbohpabdjkaaOpen
import Derived.Test.YteflbohpabdjkaaMwOpen
import Derived.Test.YteflbohpabdjkaaSlotS
namespace Go.Proofs.Yteflbohpabdjkaa
open Go Go.Mw Go.ChangeShapes Go.WideShapes Go.RowKit
set_option maxRecDepth 4000

section
variable {H : Type} {enc : TypeId × Value → H} {W : World} {r : Reach} {base : Nat} {v : Value} {d : DataW H} {ps : List MemPlace}
theorem put_in {n0 : Nat} {cs : List Value} {y : DataW H × List MemPlace} (hl : cs.length = 2) (h : DataW.trod enc Try.prog W 0 (fun _ => true) true n0 67 cs = some y) : ∃ x : PutS, cs = [I x.from_, I x.many] ∧ x.fit := by
  have hf := struct_fields Try.underlying67 (by kernel_rfl) h (by kernel_rfl) hl
  obtain ⟨v0, _, _, hv0, h0⟩ := hf 0 _ rfl
  obtain ⟨v1, _, _, hv1, h1⟩ := hf 1 _ rfl
  obtain ⟨a, ha, _, wa⟩ := DataW.trod_int Try.underlying3 h0
  obtain ⟨b, hb, _, wb⟩ := DataW.trod_int Try.underlying3 h1
  injection ha with ha _
  injection hb with hb _
  subst ha hb
  refine ⟨⟨a, b⟩, ?_, fits_of wa, fits_of wb⟩
  match cs, hl with
  | [_, _], _ =>
    simp at hv0 hv1
    subst hv0 hv1
    rfl
theorem open_putsS (hv : Value.okWide Try.prog W r base 65 v) (h : DataW.Trod enc Try.prog W 0 (fun _ => true) true 65 v d ps) :
    ∃ A c, ∃ l : List PutS, v = .slice A l.length c ∧ l.length ≤ c ∧ c ≤ maxLen ∧ RowAt W A l.length 2 (putsCells l) ∧ ∀ x ∈ l, x.fit :=
  open_rows (f := fun x : PutS => [I x.from_, I x.many]) (good := PutS.fit) (s := 2) Try.underlying65 (by kernel_rfl) (fun _ => rfl) (fun n cs y hl hc => put_in hl hc) hv h
theorem open_putS (hv : Value.okWide Try.prog W r base 67 v) (h : DataW.Trod enc Try.prog W 0 (fun _ => true) true 67 v d ps) : ∃ x : PutS, v = .agg #[I x.from_, I x.many] ∧ x.fit := by
  obtain ⟨cs, rfl, hsz⟩ := okWide_struct Try.underlying67 hv
  obtain ⟨fuel, hfu⟩ := h
  have hl : cs.toList.length = 2 := by rw [Array.length_toList, hsz]; kernel_rfl
  obtain ⟨x, hx, hf⟩ := put_in hl (cs := cs.toList) hfu
  refine ⟨x, ?_, hf⟩
  rw [← Array.toArray_toList (xs := cs), hx]
theorem open_case (hv : Value.okWide Try.prog W r base 78 v) (h : DataW.Trod enc Try.prog W 0 (fun _ => true) true 78 v d ps) :
    ∃ x : PutS, ∃ a m, v = .agg #[I x.from_, I x.many, I a, I m] ∧ x.fit ∧ fits a := by
  obtain ⟨cs, rfl, hsz⟩ := okWide_struct Try.underlying78 hv
  obtain ⟨fuel, hfu⟩ := h
  have hl : cs.toList.length = 4 := by rw [Array.length_toList, hsz]; kernel_rfl
  have hf := struct_fieldsN (cs := cs.toList) Try.underlying78 hfu
  obtain ⟨_, _, h0⟩ := hf 0 67 0 2 rfl (by kernel_rfl)
  obtain ⟨_, _, h1⟩ := hf 1 3 2 1 rfl (by kernel_rfl)
  obtain ⟨_, _, h2⟩ := hf 2 3 3 1 rfl (by kernel_rfl)
  have e : ∃ c0 c1 c2 c3, cs.toList = [c0, c1, c2, c3] := by
    match cs.toList, hl with
    | [a, b, c, d], _ => exact ⟨a, b, c, d, rfl⟩
  obtain ⟨c0, c1, c2, c3, e⟩ := e
  rw [e] at h0 h1 h2
  simp only [List.drop_zero, List.drop_succ_cons, List.take_succ_cons, List.take_zero] at h0 h1 h2
  obtain ⟨x, hx, hxf⟩ := put_in rfl h0
  obtain ⟨a, ha, _, wa⟩ := DataW.trod_int Try.underlying3 h1
  obtain ⟨m, hm, _, wm⟩ := DataW.trod_int Try.underlying3 h2
  injection hx with hx0 hx1
  injection hx1 with hx1 _
  injection ha with ha _
  injection hm with hm _
  subst hx0 hx1 ha hm
  refine ⟨x, a, m, ?_, hxf, fits_of wa⟩
  rw [← Array.toArray_toList (xs := cs), e]
  rfl
end
end Go.Proofs.Yteflbohpabdjkaa
