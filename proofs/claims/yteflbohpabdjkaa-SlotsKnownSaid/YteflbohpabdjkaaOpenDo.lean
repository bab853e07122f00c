/-
  The calls of a play, as an argument, read as rows.
-/
import Derived.Test.YteflbohpabdjkaaOpen
import Derived.Test.YteflbohpabdjkaaMwC
import Derived.Test.YteflbohpabdjkaaPlayW
namespace Go.Proofs.Yteflbohpabdjkaa
open Go Go.Mw Go.ChangeShapes Go.WideShapes Go.RowKit
set_option maxRecDepth 4000

theorem bytes_flat : ∀ l : List UInt8, l.flatMap (fun x : UInt8 => [B x]) = l.map B
  | [] => rfl
  | x :: l => by rw [List.flatMap_cons, List.map_cons, bytes_flat l]; rfl
theorem byte_of {k : Int} (h : (Lit.int .u8 k).wf = true) : ∃ u : UInt8, Value.int .u8 k = B u := by
  simp [Lit.wf, IntKind.min, IntKind.max, IntKind.bits, IntKind.signed] at h
  have hk : k.toNat < 256 := by omega
  refine ⟨UInt8.ofNat k.toNat, ?_⟩
  unfold B
  congr 1
  rw [UInt8.toNat_ofNat_of_lt' (by simpa using hk)]
  omega
section
variable {H : Type} {enc : TypeId × Value → H} {W : World} {r : Reach} {base : Nat} {v : Value} {d : DataW H} {ps : List MemPlace}
theorem bytes_in {n0 : Nat} {y : DataW H × List MemPlace} (h : DataW.trod enc Try.prog W 0 (fun _ => true) true n0 27 [v] = some y) : ∃ A c, ∃ l : List UInt8, v = .slice A l.length c ∧ l.length ≤ c ∧ c ≤ maxLen ∧ RowAt W A l.length 1 (l.map B) := by
  obtain ⟨A, c, l, h1, h2, h3, h4, _⟩ := open_rows_in (f := fun x : UInt8 => [B x]) (good := fun _ => True) (s := 1) Try.underlying27 (by kernel_rfl) (fun _ => rfl) (fun n cs y _ hc => by
    obtain ⟨k, hk, _, hw⟩ := DataW.trod_int Try.underlying5 hc
    obtain ⟨u, hu⟩ := byte_of hw
    exact ⟨u, by rw [hk, hu], trivial⟩) h
  exact ⟨A, c, l, h1, h2, h3, by rwa [bytes_flat] at h4⟩
theorem ints_in {n0 : Nat} {y : DataW H × List MemPlace} (h : DataW.trod enc Try.prog W 0 (fun _ => true) true n0 23 [v] = some y) : ∃ A c, ∃ l : List Int, v = .slice A l.length c ∧ l.length ≤ c ∧ c ≤ maxLen ∧ RowAt W A l.length 1 (l.map I) ∧ ∀ x ∈ l, fits x := by
  obtain ⟨A, c, l, h1, h2, h3, h4, h5⟩ := open_rows_in (f := fun x : Int => [I x]) (good := fits) (s := 1) Try.underlying23 (by kernel_rfl) (fun _ => rfl) (fun n cs y _ hc => by
    obtain ⟨k, hk, _, hw⟩ := DataW.trod_int Try.underlying3 hc
    exact ⟨k, hk, fits_of hw⟩) h
  exact ⟨A, c, l, h1, h2, h3, by rwa [ints_flat] at h4, h5⟩
theorem open_dos (hv : Value.okWide Try.prog W r base 46 v) (h : DataW.Trod enc Try.prog W 0 (fun _ => true) true 46 v d ps) :
    ∃ A c, ∃ l : List DoM, v = .slice A l.length c ∧ l.length ≤ c ∧ c ≤ maxLen ∧ RowAt W A l.length 4 (l.flatMap doCells) ∧ ∀ x ∈ l, x.good W := by
  refine open_rows (f := doCells) (good := DoM.good W) (s := 4) Try.underlying46 (by kernel_rfl) (fun _ => rfl) (fun n cs y hl hc => ?_) hv h
  have hf := struct_fields Try.underlying54 (by kernel_rfl) hc (by kernel_rfl) hl
  obtain ⟨v0, _, _, hv0, h0⟩ := hf 0 _ rfl
  obtain ⟨v1, _, _, hv1, h1⟩ := hf 1 _ rfl
  obtain ⟨v2, _, _, hv2, h2⟩ := hf 2 _ rfl
  obtain ⟨v3, _, _, hv3, h3⟩ := hf 3 _ rfl
  obtain ⟨a, ha, _, wa⟩ := DataW.trod_int Try.underlying3 h0
  obtain ⟨b, hb, _, wb⟩ := DataW.trod_int Try.underlying3 h1
  obtain ⟨A2, c2, l2, e2, g2, _, r2⟩ := bytes_in h2
  obtain ⟨A3, c3, l3, e3, g3, _, r3, _⟩ := ints_in h3
  injection ha with ha _
  injection hb with hb _
  subst ha hb e2 e3
  refine ⟨⟨a, b, A2, l2, c2, A3, l3, c3⟩, ?_, fits_of wa, fits_of wb, g2, g3, r2, r3⟩
  match cs, hl with
  | [_, _, _, _], _ =>
    simp at hv0 hv1 hv2 hv3
    subst hv0 hv1 hv2 hv3
    rfl
end
end Go.Proofs.Yteflbohpabdjkaa
