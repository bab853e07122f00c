/-
 The arguments of the statements on expressions, read as rows.
-/
import Derived.Test.YtmkaahkbhdlniaaGreatDoorWi16
import Derived.Test.YtmkaahkbhdlniaaGreatDoorWi24
import Derived.ChangeMaps5
import Derived.Test.YtmkaahkbhdlniaaGreatDoorWi23
import Derived.JoinedOf
set_option linter.unusedVariables false
set_option linter.unusedSimpArgs false
namespace Go.Proofs.YtmkaahkbhdlniaaGreatDoor
open Go Go.Mw Go.ChangeShapes Go.WideShapes Go.RowKit
set_option maxRecDepth 4000
section
variable {H : Type} {enc : TypeId × Value → H} {W : World} {r : Reach} {base : Nat} {v : Value} {d : DataW H} {ps : List MemPlace}
theorem fits_of {n : Int} {k : IntKind} (hk : k = .i64) (h : (Lit.int k n).wf = true) : fits n := by
 subst hk
 simp [Lit.wf, IntKind.min, IntKind.max, IntKind.bits, IntKind.signed] at h
 unfold fits
 omega
theorem rowIn_of {α : Type} {f : α → List Value} {k c : Nat} {A : Option Addr} {l : List α} (hc : l.length ≤ c) (hm : c ≤ maxLen) (h : RowAt W A l.length k (l.flatMap f)) : RowIn W (.slice A l.length c) f k l :=
 ⟨A, c, rfl, ⟨hc, by unfold maxLen at hm; omega⟩, h⟩
end
end Go.Proofs.YtmkaahkbhdlniaaGreatDoor
/-
 Slices inside of what is read, as rows. Nothing of a given program stands here.
-/
namespace Go.Mw
open Go.RowKit Go.ChangeShapes Go.WideShapes Go.Deep

section
variable {H : Type} {enc : TypeId × Value → H} {P : Program}
theorem open_rows_in {α : Type} {f : α → List Value} {good : α → Prop} {s : Nat} {t e : TypeId} {W : World} {v : Value} {n0 : Nat} {y : DataW H × List MemPlace} (ht : P.underlying t = some (.slice e)) (hC : P.cellsOf e = s) (hf : ∀ x, (f x).length = s)
    (hel : ∀ n cs y, cs.length = s → DataW.trod enc P W 0 (fun _ => true) true n e cs = some y → ∃ x, cs = f x ∧ good x) (h : DataW.trod enc P W 0 (fun _ => true) true n0 t [v] = some y) :
    ∃ A c, ∃ l : List α, v = .slice A l.length c ∧ l.length ≤ c ∧ c ≤ maxLen ∧ RowAt W A l.length s (l.flatMap f) ∧ ∀ x ∈ l, good x := by
  rcases open_slice ht h with ⟨h0, _⟩ | ⟨a, len, cap, m, n, D, Pl, hcs, _, hl, hm, hmm, _, hi⟩
  · injection h0 with h0 _
    exact ⟨none, 0, [], h0, Nat.le_refl _, Nat.zero_le _, RowAt.nil _ _ _, fun _ h => by cases h⟩
  · injection hcs with hcs _
    have hm2 : m = cap := by simpa using hmm
    subst hm2
    obtain ⟨l, h1, h2⟩ := exists_list (α := α) (Q := fun i x => good x ∧ ∀ j u, (f x)[j]? = some u → W.cell? (a.add (i * s + j)) = some u) len (fun i hi' => by
      obtain ⟨cs', hc, ht'⟩ := hi i (by omega)
      rw [hC] at hc
      obtain ⟨_, hcl, hat⟩ := World.cells?_some hc
      obtain ⟨x, hx, hg⟩ := hel _ _ _ hcl ht'
      refine ⟨x, hg, fun j u hu => ?_⟩
      have hj : j < s := by rw [← hf x]; exact (List.getElem?_eq_some_iff.1 hu).1
      have hcell := hat j hj
      rw [← Go.Deep.add_add, hcell, hx]
      exact hu)
    subst h1
    refine ⟨some a, m, l, hcs, hl, hm, ⟨flatMap_len hf l, fun _ => ⟨a, rfl, fun k u hk => ?_⟩⟩, fun x hx => ?_⟩
    · obtain ⟨i, j, x, hi', hj, rfl⟩ := flatMap_get hf l k u hk
      exact (h2 i x hi').2 j u hj
    · obtain ⟨i, hi'⟩ := List.mem_iff_getElem?.1 hx
      exact (h2 i x hi').1
end
end Go.Mw
/-
 The arguments of the statements on drawn expressions, read.
-/
namespace Go.Proofs.YtmkaahkbhdlniaaGreatDoor
open Go Go.Mw Go.ChangeShapes Go.WideShapes Go.RowKit
set_option maxRecDepth 4000
section
variable {H : Type} {enc : TypeId × Value → H} {W : World} {r : Reach} {base : Nat} {v : Value} {d : DataW H} {ps : List MemPlace}
theorem intsX_in {n0 : Nat} {y : DataW H × List MemPlace} (h : DataW.trod enc Tryz.prog W 0 (fun _ => true) true n0 37 [v] = some y) : ∃ l : List Int, RowIn W v intCells 1 l ∧ ∀ x ∈ l, fits x := by
 obtain ⟨A, c, l, rfl, h2, h3, h4, h5⟩ := open_rows_in (f := intCells) (good := fits) (s := 1) Tryz.underlying37 (by kernel_rfl) (fun _ => rfl) (fun n cs y _ hc => by
  obtain ⟨k, hk, _, hw⟩ := DataW.trod_int Tryz.underlying3 hc
  exact ⟨k, hk, fits_of rfl hw⟩) h
 exact ⟨l, rowIn_of h2 h3 h4, h5⟩
theorem open_ints (hv : Value.okWide Tryz.prog W r base 37 v) (h : DataW.Trod enc Tryz.prog W 0 (fun _ => true) true 37 v d ps) : ∃ l : List Int, RowIn W v intCells 1 l ∧ ∀ x ∈ l, fits x := by
 obtain ⟨a0, len0, cap0, rfl⟩ := okWide_slice Tryz.underlying37 hv
 obtain ⟨fuel, hfu⟩ := h
 exact intsX_in hfu
theorem open_intX (hv : Value.okWide Tryz.prog W r base 3 v) (h : DataW.Trod enc Tryz.prog W 0 (fun _ => true) true 3 v d ps) : ∃ k, v = I k ∧ fits k := by
 obtain ⟨k0, rfl⟩ := okWide_int Tryz.underlying3 hv
 obtain ⟨fuel, hfu⟩ := h
 obtain ⟨k, hk, _, hw⟩ := DataW.trod_int Tryz.underlying3 hfu
 have hk : [Value.int .i64 k0] = [Value.int .i64 k] := hk
 injection hk with hk _
 injection hk with _ hk
 subst hk
 exact ⟨_, rfl, fits_of rfl hw⟩
theorem seed_in {n0 : Nat} {y : DataW H × List MemPlace} (h : DataW.trod enc Tryz.prog W 0 (fun _ => true) true n0 46 [v] = some y) : ∃ l : List Int, RowIn W v intCells 1 l := by
 have hf := struct_fields Tryz.underlying46 (by kernel_rfl) h (by kernel_rfl) rfl
 obtain ⟨v0, _, _, hv0, h0⟩ := hf 0 _ rfl
 simp only [List.getElem?_cons_zero, Option.some.injEq] at hv0
 subst hv0
 obtain ⟨l, hl, _⟩ := intsX_in h0
 exact ⟨l, hl⟩
theorem open_seed (hv : Value.okWide Tryz.prog W r base 46 v) (h : DataW.Trod enc Tryz.prog W 0 (fun _ => true) true 46 v d ps) : ∃ vn, v = agg [vn] ∧ ∃ l : List Int, RowIn W vn intCells 1 l := by
 obtain ⟨cs, rfl, hsz⟩ := okWide_struct Tryz.underlying46 hv
 have hc : Tryz.prog.cellsOf 46 = 1 := by kernel_rfl
 rw [hc] at hsz
 obtain ⟨fuel, hfu⟩ := h
 obtain ⟨l⟩ := cs
 match l, hsz with
 | [vn], _ => exact ⟨vn, rfl, seed_in hfu⟩
end
end Go.Proofs.YtmkaahkbhdlniaaGreatDoor
/-
 The closed facts of a row in two parts, so that each is checked by itself. No program stands here.
-/
namespace Go.Proofs.YtmkaahkbhdlniaaGreatDoor
open Go
def facts1 (P : Program) (f : FuncId) (fn : Func) (s : ChangeSpec) (c : OpenClaim) : Bool :=
 c.wf (OpenSpec.ofChange s) && laidOutB P && mapsRowed P &&
 fn.params.all (P.readableRec ·) && namedTie P c.named s.vars &&
 (c.stops == []) && (P.stops == []) && (c.knobs == []) && (P.stopKnobs == []) &&
 (c.inPlace == P.inPlace f) && (c.unfollowed == P.unfollowed f) && (c.recurses == P.recurses f) && (c.named == P.varsNamed f)
def facts2 (P : Program) (fn : Func) (s : ChangeSpec) (c : OpenClaim) : Bool :=
 (c.maps == (fn.params.toList ++ s.plain.varTypes P).any (P.mapsRec ·)) && (c.ifaces == (fn.params.toList ++ s.plain.varTypes P).any (P.ifacesRec ·)) && (c.mapsOut == P.mapsAmong fn.resultTypes.toList) &&
 (c.loops == (fn.params.toList ++ s.plain.varTypes P).any (P.loopsFrom ·)) && (c.wideKeys == (fn.params.toList ++ s.plain.varTypes P ++ fn.resultTypes.toList).any (P.wideKeysFrom ·)) &&
 s.vars.all (P.varReadable ·) && fn.resultTypes.all (fun t => P.readableRec t && decide (t < P.types.size)) && (c.ifacesOut == fn.resultTypes.toList.any (P.ifacesRec ·)) && (c.loopsOut == fn.resultTypes.toList.any (P.loopsFrom ·)) && (c.plainKeys == P.plainKeys) && c.shortTexts.isNone
def facts3 (P : Program) (fn : Func) (s : ChangeSpec) (c : OpenClaim) : Bool :=
 P.stopsHeard && P.mayEnter && (c.lifted == P.liftsFinal) && (P.make == some c.make) && (c.kinds == (if c.domain.isEmpty then [] else fn.params.toList.map fun t => match P.underlying t with | some (.int k) => some k | _ => none)) && (c.pinned == c.pinnedBy) &&
 (c.veiled == (fn.params.toList ++ s.plain.varTypes P ++ fn.resultTypes.toList).any (P.veiledRec ·)) && c.veiledFits P fn.params.toList (fn.params.toList ++ s.plain.varTypes P ++ fn.resultTypes.toList)
theorem joined_of {P : Program} {f : FuncId} {fn : Func} {s : ChangeSpec} {c : OpenClaim} (h1 : facts1 P f fn s c = true) (h2 : facts2 P fn s c = true) (h3 : facts3 P fn s c = true) : joinedFacts P f fn s c = true := by
 simp only [facts1, Bool.and_eq_true] at h1
 simp only [facts2, Bool.and_eq_true] at h2
 simp only [facts3, Bool.and_eq_true] at h3
 simp only [joinedFacts, Bool.and_eq_true]
 simp only [h1, h2, h3, and_self, and_true, true_and]
 exact h3.1.1.1.2
end Go.Proofs.YtmkaahkbhdlniaaGreatDoor
