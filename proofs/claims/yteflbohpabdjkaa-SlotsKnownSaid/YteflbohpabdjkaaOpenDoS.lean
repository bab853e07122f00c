/-
  The arguments of SlotsPlay, read; SlotsPlay of all numbers of sectors.
-/
import Derived.Test.YteflbohpabdjkaaOpenDo
import Derived.Test.YteflbohpabdjkaaPlayT
namespace Go.Proofs.Yteflbohpabdjkaa
open Go Go.Mw Go.ChangeShapes Go.WideShapes Go.RowKit
set_option maxRecDepth 4000

section
variable {H : Type} {enc : TypeId × Value → H} {W : World} {r : Reach} {base : Nat} {v : Value} {d : DataW H} {ps : List MemPlace}
theorem open_bytes (hv : Value.okWide Try.prog W r base 27 v) (h : DataW.Trod enc Try.prog W 0 (fun _ => true) true 27 v d ps) :
    ∃ A c, ∃ l : List UInt8, v = .slice A l.length c ∧ l.length ≤ c ∧ RowAt W A l.length 1 (l.map B) := by
  obtain ⟨A, c, l, h1, h2, _, h4, _⟩ := open_rows (f := fun x : UInt8 => [B x]) (good := fun _ => True) (s := 1) Try.underlying27 (by kernel_rfl) (fun _ => rfl) (fun n cs y _ hc => by
    obtain ⟨k, hk, _, hw⟩ := DataW.trod_int Try.underlying5 hc
    obtain ⟨u, hu⟩ := byte_of hw
    exact ⟨u, by rw [hk, hu], trivial⟩) hv h
  exact ⟨A, c, l, h1, h2, by rwa [bytes_flat] at h4⟩
theorem open_dosS (hv : Value.okWide Try.prog W r base 85 v) (h : DataW.Trod enc Try.prog W 0 (fun _ => true) true 85 v d ps) :
    ∃ A c, ∃ l : List DoS, v = .slice A l.length c ∧ RowAt W A l.length 4 (l.flatMap doSCells) ∧ ∀ x ∈ l, x.good W := by
  obtain ⟨A, c, l, h1, _, _, h4, h5⟩ := open_rows (f := doSCells) (good := DoS.good W) (s := 4) Try.underlying85 (by kernel_rfl) (fun _ => rfl) (fun n cs y hl hc => by
    have hf := struct_fields Try.underlying90 (by kernel_rfl) hc (by kernel_rfl) hl
    obtain ⟨v0, _, _, hv0, h0⟩ := hf 0 _ rfl
    obtain ⟨v1, _, _, hv1, h1⟩ := hf 1 _ rfl
    obtain ⟨v2, _, _, hv2, h2⟩ := hf 2 _ rfl
    obtain ⟨v3, _, _, hv3, h3⟩ := hf 3 _ rfl
    obtain ⟨a, ha, _, wa⟩ := DataW.trod_int Try.underlying3 h0
    obtain ⟨b, hb, _, wb⟩ := DataW.trod_int Try.underlying3 h1
    obtain ⟨m, hm, _, wm⟩ := DataW.trod_int Try.underlying3 h2
    obtain ⟨A3, c3, l3, e3, g3, _, r3, _⟩ := ints_in h3
    injection ha with ha _
    injection hb with hb _
    injection hm with hm _
    subst ha hb hm e3
    refine ⟨⟨a, b, m, A3, l3, c3⟩, ?_, fits_of wa, fits_of wb, fits_of wm, g3, r3⟩
    match cs, hl with
    | [_, _, _, _], _ =>
      simp at hv0 hv1 hv2 hv3
      subst hv0 hv1 hv2 hv3
      rfl) hv h
  exact ⟨A, c, l, h1, h4, h5⟩
end
theorem slotsPlay_any {w : World} {sect : Int} {A1 L : Option Addr} {c1 cl : Nat} {first : List UInt8} {l : List DoS} (hf : fits sect) (hc1 : first.length ≤ c1) (hr1 : RowAt w A1 first.length 1 (first.map B)) (hr : RowAt w L l.length 4 (l.flatMap doSCells)) (hl : ∀ x ∈ l, x.good w) :
    Rets Try.prog 15 [I sect, .slice A1 first.length c1, .slice L l.length cl] w fun v w' => v = .bool true ∧ Kept noB w w' := by
  by_cases hn : sect % 13 = 0
  · exact slotsPlay_bad hf hn
  · exact slotsPlay_ok hf hn hc1 hr1 hr hl
end Go.Proofs.Yteflbohpabdjkaa
