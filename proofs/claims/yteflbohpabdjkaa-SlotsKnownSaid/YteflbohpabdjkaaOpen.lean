/-
  The arguments of the disk's statements, read as rows.
-/
import Derived.Test.YteflbohpabdjkaaLawT
import Derived.Test.YteflbohpabdjkaaMwC
namespace Go.Proofs.Yteflbohpabdjkaa
open Go Go.Mw Go.ChangeShapes Go.WideShapes Go.RowKit
set_option maxRecDepth 4000

theorem ownIs : ownKnob Try.prog.godebug = none := by kernel_rfl
theorem laidIs : laidOutB Try.prog = true := by kernel_rfl
theorem ints_flat : ∀ l : List Int, l.flatMap (fun x : Int => [I x]) = l.map I
  | [] => rfl
  | x :: l => by rw [List.flatMap_cons, List.map_cons, ints_flat l]; rfl
section
variable {H : Type} {enc : TypeId × Value → H} {W : World} {r : Reach} {base : Nat} {v : Value} {d : DataW H} {ps : List MemPlace}
theorem fits_of {n : Int} (h : (Lit.int .i64 n).wf = true) : fits n := by
  simp [Lit.wf, IntKind.min, IntKind.max, IntKind.bits, IntKind.signed] at h
  unfold fits
  omega
theorem open_keep (hv : Value.okWide Try.prog W r base 23 v) (h : DataW.Trod enc Try.prog W 0 (fun _ => true) true 23 v d ps) :
    ∃ A c, ∃ l : List Int, v = .slice A l.length c ∧ l.length ≤ c ∧ c ≤ maxLen ∧ RowAt W A l.length 1 (l.map I) ∧ ∀ x ∈ l, fits x := by
  obtain ⟨A, c, l, h1, h2, h3, h4, h5⟩ := open_rows (f := fun x : Int => [I x]) (good := fits) (s := 1) Try.underlying23 (by kernel_rfl) (fun _ => rfl) (fun n cs y _ hc => by
    obtain ⟨k, hk, _, hw⟩ := DataW.trod_int Try.underlying3 hc
    exact ⟨k, hk, fits_of hw⟩) hv h
  exact ⟨A, c, l, h1, h2, h3, by rwa [ints_flat] at h4, h5⟩
theorem open_puts (hv : Value.okWide Try.prog W r base 22 v) (h : DataW.Trod enc Try.prog W 0 (fun _ => true) true 22 v d ps) :
    ∃ A c, ∃ l : List PutM, v = .slice A l.length c ∧ l.length ≤ c ∧ c ≤ maxLen ∧ RowAt W A l.length 3 (putCells l) ∧ ∀ x ∈ l, x.fit := by
  refine open_rows (f := fun x : PutM => [I x.at_, I x.byte, I x.many]) (good := PutM.fit) (s := 3) Try.underlying22 (by kernel_rfl) (fun _ => rfl) (fun n cs y hl hc => ?_) hv h
  have hf := struct_fields Try.underlying37 (by kernel_rfl) hc (by kernel_rfl) hl
  obtain ⟨v0, _, _, hv0, h0⟩ := hf 0 _ rfl
  obtain ⟨v1, _, _, hv1, h1⟩ := hf 1 _ rfl
  obtain ⟨v2, _, _, hv2, h2⟩ := hf 2 _ rfl
  obtain ⟨a, ha, _, wa⟩ := DataW.trod_int Try.underlying3 h0
  obtain ⟨b, hb, _, wb⟩ := DataW.trod_int Try.underlying3 h1
  obtain ⟨m, hm, _, wm⟩ := DataW.trod_int Try.underlying3 h2
  injection ha with ha _
  injection hb with hb _
  injection hm with hm _
  subst ha hb hm
  refine ⟨⟨a, b, m⟩, ?_, fits_of wa, fits_of wb, fits_of wm⟩
  match cs, hl with
  | [c0, c1, c2], _ =>
    simp at hv0 hv1 hv2
    subst hv0 hv1 hv2
    rfl
theorem open_num (hv : Value.okWide Try.prog W r base 3 v) (h : DataW.Trod enc Try.prog W 0 (fun _ => true) true 3 v d ps) : ∃ n, v = I n ∧ fits n := by
  obtain ⟨a, h1, _, _, wa⟩ := open_int Try.underlying3 hv h
  exact ⟨a, h1, fits_of wa⟩
end
end Go.Proofs.Yteflbohpabdjkaa
