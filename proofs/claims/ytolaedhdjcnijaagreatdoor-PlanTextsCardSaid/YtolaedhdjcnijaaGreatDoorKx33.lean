/-
 From a contract to a row: arguments read as rows; what a law's row asks behind the call. Nothing of a given program stands here.
-/
import Derived.Test.YtolaedhdjcnijaaGreatDoorKx6
import Derived.ProofKit
import Derived.Carry
import Derived.ChangeSame
import Derived.Deep.Slices
import Derived.Deep.Fields
import Derived.Test.YtolaedhdjcnijaaGreatDoorKx19
import Derived.Test.YtolaedhdjcnijaaGreatDoorRows
import Derived.PinnedBridge
import Derived.Lib.LaidU8
import Derived.Stop.LaidErr
import Derived.Deep.DeepHandedRow
import Derived.Lay
import Derived.MakeChecks
import Derived.Test.YtolaedhdjcnijaaGreatDoorKx18
import Derived.ChangeMaps5
import Derived.Test.YtolaedhdjcnijaaGreatDoorKx26
import Derived.OpenShut
import Derived.Test.YtolaedhdjcnijaaGreatDoorKx32
import Derived.JoinedOf
set_option linter.unusedVariables false
set_option linter.unusedSimpArgs false
namespace Go.Mw
open Go.RowKit Go.ChangeShapes Go.WideShapes Go.Deep

section
variable {H : Type} {enc : TypeId × Value → H} {P : Program}
theorem trodAll_stays (hl : laidOutB P = true) {W W' : World} (hk : Kept noB W W') {sp : Nat → Bool} : ∀ {ts : List TypeId} {vs : List Value} {ds : List (DataW H)} {ps : List MemPlace}, (∀ t ∈ ts, P.readableRec t = true ∧ t < P.types.size) →
    DataW.TrodAll enc P W 0 (fun _ => true) true ts vs ds ps → (∀ x ∈ ps, x.block < W.heap.size) → (∀ x ∈ ps, sp x.block = true) → DataW.TrodAll enc P W' 0 sp true ts vs ds ps
  | [], [], [], _, _, h, _, _ => h
  | t :: ts, v :: vs, d :: ds, ps, ht, ⟨p, q, h1, h2, e⟩, hlt, hsp => by
    subst e
    exact ⟨p, q, WideElems.Trod_stays hl (ht t List.mem_cons_self).1 (ht t List.mem_cons_self).2 h1 (fun x hx => hk.below.same (hlt x (List.mem_append_left _ hx))) (fun x hx => hsp x (List.mem_append_left _ hx)),
      trodAll_stays hl hk (fun u hu => ht u (List.mem_cons_of_mem _ hu)) h2 (fun x hx => hlt x (List.mem_append_right _ hx)) (fun x hx => hsp x (List.mem_append_right _ hx)), rfl⟩
  | [], [], _ :: _, _, _, h, _, _ => h.elim
  | [], _ :: _, _, _, _, h, _, _ => by cases ‹List (DataW H)› <;> exact h.elim
  | _ :: _, [], _, _, _, h, _, _ => h.elim
  | _ :: _, _ :: _, [], _, _, h, _, _ => h.elim
theorem post_law {f : Func} {s : ChangeSpec} {apart fresh handsOn again : Bool} {W W' : World} {args : Array Value} {t : TypeId} {ds gs : List (DataW H)} {before : List MemPlace} (hl : laidOutB P = true)
    (hW : DataW.Whole enc P f.params.toList s.vars apart W args.toList ds gs before) (hvars : s.vars = []) (hr : f.resultTypes = #[t]) (hb : P.underlying t = some .bool) (hp0 : (f.params.toList.all fun t => P.readableRec t && decide (t < P.types.size)) = true)
    (hs : s.fn H (ds ++ gs) = { results := [.lit (.bool true)], args := ds }) (hk : Kept noB W W') (hok : Value.okWide P W' .any 0 t (.bool true)) : s.post enc P f apart fresh handsOn again W args (.bool true) W' := by
  have hp : ∀ t ∈ f.params.toList, P.readableRec t = true ∧ t < P.types.size := fun t ht => by
    have := List.all_eq_true.1 hp0 t ht
    simpa using this
  have hW' := hW
  obtain ⟨pa, pv, hA, hV, rfl, hz, hn⟩ := hW
  have hnil : gs = [] ∧ pv = [] := by
    rw [hvars] at hV
    exact trodVars_none hV
  obtain ⟨rfl, rfl⟩ := hnil
  have hlt : ∀ p ∈ pa, p.block < W.heap.size := fun p hp => hW'.lt p (List.mem_append_left _ hp)
  have hres : ∀ (b : Nat) (sp : Nat → Bool) (hd : Bool), DataW.TrodAll enc P W' b sp hd f.resultTypes.toList ((Value.bool true).resultList f.resultTypes.size) (s.fn H (ds ++ [])).results [] := by
    intro b sp hd
    rw [hs, hr]
    exact trodAll_mk1 (shut_bool hb true)
  have hargs : ∀ sp : Nat → Bool, (∀ p ∈ pa, sp p.block = true) → DataW.TrodAll enc P W' 0 sp true f.params.toList args.toList (s.fn H (ds ++ [])).args pa := by
    intro sp hsp
    rw [hs]
    exact trodAll_stays hl hk hp hA hlt hsp
  have hvs : ∀ sp : Nat → Bool, DataW.TrodVars enc P W' sp s.vars (s.fn H (ds ++ [])).vars [] := by
    intro sp
    rw [hvars, hs]
    exact rfl
  refine ⟨ds, [], pa ++ [], [], pa, [], hW', hres _ _ _, hargs _ (fun p hp => by simpa using hlt p hp), hvs _, World.keptBut_mono (fun p hp => ⟨hp, ?_⟩) (hk.below.frame (· ∈ pa ++ [])), fun _ => ?_⟩
  · simpa using hp
  refine ⟨fun j t' r hj hv => ?_, _, _, ([] ++ pa) ++ [], ⟨[] ++ pa, [], trodAll_append (hargs _ (fun _ _ => rfl)) (hres _ _ _), hvs _, rfl, ?_, ?_⟩, ?_⟩
  · exact ok_one hr rfl hok j t' r hj hv
  · intro b off hp
    have hin : MemPlace.cell b off ∈ pa := by simpa using hp
    rw [hk.below.frozen (hlt _ hin)]
    exact hz b off (by simpa using hin)
  · intro ha
    have := hn ha
    simpa using this
  intro p hp _
  simpa using hp
theorem exists_list {α : Type} {Q : Nat → α → Prop} : ∀ n : Nat, (∀ i, i < n → ∃ x, Q i x) → ∃ l : List α, l.length = n ∧ ∀ i x, l[i]? = some x → Q i x
 | 0, _ => ⟨[], rfl, fun i x h => by simp at h⟩
 | n + 1, h => by
  obtain ⟨l, h1, h2⟩ := exists_list n fun i hi => h i (by omega)
  obtain ⟨x, hx⟩ := h n (by omega)
  refine ⟨l ++ [x], by simp [h1], fun i y hy => ?_⟩
  rw [List.getElem?_append] at hy
  split at hy
  ·exact h2 i y hy
  rename_i hge
  have hi : i = n := by
   rcases Nat.lt_or_ge (i - l.length) 1 with h3 | h3
   ·omega
   rw [List.getElem?_eq_none (by simpa using h3)] at hy; cases hy
  subst hi
  rw [h1, Nat.sub_self] at hy
  injection hy with hy
  rw [← hy]; exact hx
theorem flatMap_get {α : Type} {f : α → List Value} {s : Nat} (hf : ∀ x, (f x).length = s) : ∀ (l : List α) (k : Nat) (v : Value), (l.flatMap f)[k]? = some v → ∃ i j x, l[i]? = some x ∧ (f x)[j]? = some v ∧ k = i * s + j
 | [], k, v, h => by simp at h
 | x :: l, k, v, h => by
  rw [List.flatMap_cons, List.getElem?_append] at h
  split at h
  ·exact ⟨0, k, x, rfl, h, by omega⟩
  rename_i hge
  obtain ⟨i, j, y, h1, h2, h3⟩ := flatMap_get hf l _ v h
  rw [hf] at h3 hge
  exact ⟨i + 1, j, y, by simpa using h1, h2, by rw [Nat.add_mul]; omega⟩
theorem flatMap_len {α : Type} {f : α → List Value} {s : Nat} (hf : ∀ x, (f x).length = s) : ∀ l : List α, (l.flatMap f).length = l.length * s
 | [] => by simp
 | x :: l => by rw [List.flatMap_cons, List.length_append, hf, flatMap_len hf l, List.length_cons, Nat.add_mul]; omega
theorem struct_fields {e : TypeId} {fs : Array Field} {W : World} {base n : Nat} {sp : Nat → Bool} {held : Bool} {cs : List Value} {y : DataW H × List MemPlace} (he : P.underlying e = some (.struct fs)) (hone : oneCellFields P fs = true) (h : DataW.trod enc P W base sp held n e cs = some y) (_hC : P.cellsOf e = fs.size) (hcl : cs.length = fs.size) :
    ∀ (j : Nat) (fd : Field), fs[j]? = some fd → ∃ v y' n', cs[j]? = some v ∧ DataW.trod enc P W base sp held n' fd.type [v] = some y' := by
  obtain ⟨ys, n', hn', hy, hlen, hyl, hf⟩ := DataW.trod_struct he h
  intro j fd hj
  obtain ⟨ho, hk⟩ := hone_of hone j fd hj
  have hjl : j < fs.size := (Array.getElem?_eq_some_iff.1 hj).1
  have h1 := hf j fd hj
  rw [ho, hk] at h1
  have hone' : (cs.drop j).take 1 = [cs[j]'(by omega)] := by
    rw [List.drop_eq_getElem_cons (by omega)]
    rfl
  rw [hone'] at h1
  have hys : ys[j]? = some (ys[j]'(by omega)) := List.getElem?_eq_getElem (by omega)
  exact ⟨_, _, _, List.getElem?_eq_getElem (by omega), h1.trans hys⟩
end
end Go.Mw
namespace Go.Proofs.YtolaedhdjcnijaaGreatDoor
open Go Go.Mw Go.Lib Go.RowKit
set_option maxRecDepth 100000
theorem ownIs : ownKnob Tryz.prog.godebug = none := by kernel_rfl
theorem laidIs : laidOutB Tryz.prog = true := by kernel_rfl
def laidL : List (String × DataW Unit) := [("math/bits.deBruijn32tab", Rows.laid_math_bits_deBruijn32tab), ("math/bits.deBruijn64tab", Rows.laid_math_bits_deBruijn64tab), ("internal/strconv.uint64pow10", Rows.laid_internal_strconv_uint64pow10), ("unicode/utf8.acceptRanges", Rows.laid_unicode_utf8_acceptRanges), ("strconv.ErrRange", Rows.laid_strconv_ErrRange), ("strconv.ErrSyntax", Rows.laid_strconv_ErrSyntax), ("unicode/utf8.first", Rows.laid_unicode_utf8_first)]
theorem u8extra : U8Extra Tryz.prog Tryz.lays260_ren := ⟨by kernel_rfl, by kernel_rfl, by kernel_rfl, by kernel_rfl, by kernel_rfl, by kernel_rfl, by kernel_rfl⟩
theorem first_eq : Rows.laid_unicode_utf8_first = firstData := Pinned.utf8First_eq
theorem accept_eq : (Rows.laid_unicode_utf8_acceptRanges : DataW Unit) = acceptData := by kernel_rfl
theorem pow_eq : (Rows.laid_internal_strconv_uint64pow10 : DataW Unit) = tabData .u64 pow10Tab := by kernel_rfl
theorem star_eq : "*" ++ "errors.errorString" = "*errors.errorString" := by decide
theorem errRow (u : TypeId) (h : Tryz.prog.typeName? 3 u = some "*errors.errorString") : u = 275 :=
 typeName_ptr_named (nm := "errors.errorString") (by rw [star_eq]; kernel_rfl) (by kernel_rfl) (by decide) u (by rw [star_eq]; exact h)
theorem cellsErr : Tryz.prog.cellsOf 277 = 1 := by kernel_rfl
theorem cellsStr : Tryz.prog.cellsOf 9 = 1 := by kernel_rfl
theorem tabsX_of {W : World} (h0 : laidMetH Tryz.prog laidL W) (hsh : W.ShapedOpen Tryz.prog) : TabsX W := by
 rw [MakeChecks.laidMetH_plain _ _ _ (by kernel_rfl)] at h0
 have h := h0
 refine ⟨?_, ?_, ?_, ?_, ?_⟩
 ·exact utf8Tabs_of_reads Tryz.lays260 u8extra (first_eq ▸ Lib.laidMet.reads h (by unfold laidL; simp)) (accept_eq ▸ Lib.laidMet.reads h (by unfold laidL; simp))
 ·obtain ⟨g, t, cs, fuel, p, hg, hty, hvar, hd⟩ := Lib.laidMet.reads (n := "internal/strconv.uint64pow10") h (by unfold laidL; exact .tail _ (.tail _ (.head _)))
  have hg' : Tryz.prog.globalNamed "internal/strconv.uint64pow10" = some 1 := by kernel_rfl
  obtain rfl := Option.some.inj (hg'.symm.trans hg)
  have hty' : (Tryz.prog.globals[1]?).map (·.type) = some 253 := by kernel_rfl
  obtain rfl := Option.some.inj (hty'.symm.trans hty)
  rw [pow_eq] at hd
  have hcs := cells_of_tab Tryz.underlying253 Tryz.underlying156 (by kernel_rfl) (by kernel_rfl) hd
  unfold Lib.TabIs
  rw [hvar, ← hcs]
 ·obtain ⟨a, s, hv, _⟩ := laid_sentinel (g := 2) (ti := 127) (tp := 275) (te := 277) (ts := 9) h.tail.tail.tail.tail.tail (by kernel_rfl) (by kernel_rfl) Tryz.underlying127 errRow Tryz.underlying275 Tryz.underlying277 rfl rfl Tryz.underlying9 cellsErr cellsStr
  exact ⟨_, _, hv⟩
 ·obtain ⟨a, s, hv, _⟩ := laid_sentinel (g := 3) (ti := 127) (tp := 275) (te := 277) (ts := 9) h.tail.tail.tail.tail (by kernel_rfl) (by kernel_rfl) Tryz.underlying127 errRow Tryz.underlying275 Tryz.underlying277 rfl rfl Tryz.underlying9 cellsErr cellsStr
  exact ⟨_, _, hv⟩
 exact Tryz.laysM219.s1_3 W hsh
end Go.Proofs.YtolaedhdjcnijaaGreatDoor
namespace Go.Proofs.YtolaedhdjcnijaaGreatDoor
open Go Go.Mw Go.ChangeShapes Go.WideShapes Go.RowKit
set_option maxRecDepth 4000
section
variable {H : Type} {enc : TypeId × Value → H} {W : World} {r : Reach} {base : Nat} {v : Value} {d : DataW H} {ps : List MemPlace}
theorem fits_of {n : Int} {k : IntKind} (hk : k = .i64) (h : (Lit.int k n).wf = true) : fits n := by
 subst hk
 simp [Lit.wf, IntKind.min, IntKind.max, IntKind.bits, IntKind.signed] at h
 unfold fits
 omega
theorem str_of (s : ByteArray) : Value.string s = str s.data.toList := by
 unfold str
 congr 1
theorem step_read {n : Nat} {cs : List Value} {y : DataW H × List MemPlace} (hl : cs.length = 3) (hc : DataW.trod enc Tryz.prog W 0 (fun _ => true) true n 60 cs = some y) : ∃ x : StepM, cs = stepCells x ∧ fits x.n := by
 have hf := struct_fields Tryz.underlying60 (by kernel_rfl) hc (by kernel_rfl) hl
 obtain ⟨v0, _, _, hv0, h0⟩ := hf 0 _ rfl
 obtain ⟨v1, _, _, hv1, h1⟩ := hf 1 _ rfl
 obtain ⟨v2, _, _, hv2, h2⟩ := hf 2 _ rfl
 obtain ⟨b, hb, _, _⟩ := DataW.trod_int Tryz.underlying3 h0
 obtain ⟨m, hm, _, wm⟩ := DataW.trod_int Tryz.underlying2 h1
 obtain ⟨s, hs, _⟩ := DataW.trod_string Tryz.underlying9 h2
 injection hb with hb _
 injection hm with hm _
 injection hs with hs _
 subst hb hm hs
 match cs, hl with
 | [c0, c1, c2], _ =>
  simp at hv0 hv1 hv2
  subst hv0 hv1 hv2
  refine ⟨⟨b, m, s.data.toList⟩, ?_, fits_of rfl wm⟩
  rw [str_of]
  rfl
theorem rowIn_of {α : Type} {f : α → List Value} {k c : Nat} {A : Option Addr} {l : List α} (hc : l.length ≤ c) (hm : c ≤ maxLen) (h : RowAt W A l.length k (l.flatMap f)) : RowIn W (.slice A l.length c) f k l :=
 ⟨A, c, rfl, ⟨hc, by unfold maxLen at hm; omega⟩, h⟩
theorem open_text (hv : Value.okWide Tryz.prog W r base 9 v) (h : DataW.Trod enc Tryz.prog W 0 (fun _ => true) true 9 v d ps) : ∃ s : List UInt8, v = str s := by
 obtain ⟨s, rfl, _⟩ := Go.ChangeMaps.open_string Tryz.underlying9 hv h
 exact ⟨s.data.toList, str_of s⟩
end
end Go.Proofs.YtolaedhdjcnijaaGreatDoor
namespace Go.Mw
open Go.RowKit Go.ChangeShapes Go.WideShapes Go.Deep

section
variable {H : Type} {enc : TypeId × Value → H} {P : Program}
theorem open_rows_in {α : Type} {f : α → List Value} {good : α → Prop} {s : Nat} {t e : TypeId} {W : World} {v : Value} {n0 : Nat} {y : DataW H × List MemPlace} (ht : P.underlying t = some (.slice e)) (hC : P.cellsOf e = s) (hf : ∀ x, (f x).length = s)
    (hel : ∀ n cs y, cs.length = s → DataW.trod enc P W 0 (fun _ => true) true n e cs = some y → ∃ x, cs = f x ∧ good x) (h : DataW.trod enc P W 0 (fun _ => true) true n0 t [v] = some y) :
    ∃ A c, ∃ l : List α, v = .slice A l.length c ∧ l.length ≤ c ∧ c ≤ maxLen ∧ RowAt W A l.length s (l.flatMap f) ∧ ∀ x ∈ l, good x := by
  rcases open_slice ht h with ⟨h0, _⟩ | ⟨a, len, cap, m, n, D, Pl, hcs, _, hl, hm, hmm, _, hi⟩
  · injection h0 with h0 _
    exact ⟨none, 0, [], h0, Nat.le_refl _, Nat.zero_le _, RowAt.nil _ _ _, fun _ h => by cases h⟩
  injection hcs with hcs _
  have hm2 : m = cap := by simpa using hmm
  subst hm2
  obtain ⟨l, h1, h2⟩ := exists_list (α := α) (Q := fun i x => good x ∧ ∀ j u, (f x)[j]? = some u → W.cell? (a.add (i * s + j)) = some u) len (fun i hi' => by
    obtain ⟨cs', hc, ht'⟩ := hi i (by omega)
    rw [hC] at hc
    obtain ⟨_, hcl, hat⟩ := World.cells?_some hc
    obtain ⟨x, hx, hg⟩ := hel _ _ _ hcl ht'
    refine ⟨x, hg, fun j u hu => ?_⟩
    have hj : j < s := by rw [← hf x]; exact (List.getElem?_eq_some_iff.1 hu).1
    have hcell := hat j hj
    rw [← Go.Deep.add_add, hcell, hx]
    exact hu)
  subst h1
  refine ⟨some a, m, l, hcs, hl, hm, ⟨flatMap_len hf l, fun _ => ⟨a, rfl, fun k u hk => ?_⟩⟩, fun x hx => ?_⟩
  · obtain ⟨i, j, x, hi', hj, rfl⟩ := flatMap_get hf l k u hk
    exact (h2 i x hi').2 j u hj
  obtain ⟨i, hi'⟩ := List.mem_iff_getElem?.1 hx
  exact (h2 i x hi').1
end
end Go.Mw
namespace Go.Proofs.YtolaedhdjcnijaaGreatDoor
open Go Go.Mw Go.ChangeShapes Go.WideShapes Go.RowKit
set_option maxRecDepth 4000
section
variable {H : Type} {enc : TypeId × Value → H} {W : World} {r : Reach} {base : Nat} {v : Value} {d : DataW H} {ps : List MemPlace}
end
section
variable {H : Type} {enc : TypeId × Value → H} {W : World} {r : Reach} {base : Nat} {v : Value} {d : DataW H} {ps : List MemPlace}
end
theorem raws_of {W : World} : ∀ r : List (List UInt8 × Value), (∀ x ∈ r, ∃ l, RowIn W x.2 stepCells 3 l ∧ StepsFit l) → ∃ cols : List OutM, RawOf W r cols ∧ ∀ o ∈ cols, StepsFit o.steps
 | [], _ => ⟨[], RawOf.nil, fun o h => absurd h List.not_mem_nil⟩
 | x :: r, h => by
  obtain ⟨l, hl, hf⟩ := h x List.mem_cons_self
  obtain ⟨cols, ⟨h1, h2⟩, hc⟩ := raws_of r fun y hy => h y (List.mem_cons_of_mem _ hy)
  refine ⟨⟨x.1, l⟩ :: cols, ⟨by rw [List.map_cons, List.map_cons, h1], fun i y o hy ho => ?_⟩, fun o ho => ?_⟩
  ·cases i with
   | zero =>
    rw [List.getElem?_cons_zero] at hy ho
    injection hy with hy
    injection ho with ho
    subst hy ho
    exact hl
   | succ i => exact h2 i y o hy ho
  rcases List.mem_cons.1 ho with e | e
  ·subst e; exact hf
  exact hc o e
section
variable {H : Type} {enc : TypeId × Value → H} {W : World} {r : Reach} {base : Nat} {v : Value} {d : DataW H} {ps : List MemPlace}
theorem steps_in {n0 : Nat} {y : DataW H × List MemPlace} (h : DataW.trod enc Tryz.prog W 0 (fun _ => true) true n0 22 [v] = some y) : ∃ l : List StepM, RowIn W v stepCells 3 l ∧ StepsFit l := by
 obtain ⟨A, c, l, rfl, h2, h3, h4, h5⟩ := open_rows_in (f := stepCells) (good := fun x : StepM => fits x.n) (s := 3) Tryz.underlying22 (by kernel_rfl) (fun _ => rfl) (fun n cs y hl hc => step_read hl hc) h
 exact ⟨l, rowIn_of h2 h3 h4, h5⟩
theorem out_read {n : Nat} {cs : List Value} {y : DataW H × List MemPlace} (hl : cs.length = 2) (hc : DataW.trod enc Tryz.prog W 0 (fun _ => true) true n 53 cs = some y) : ∃ x : List UInt8 × Value, cs = outCells x ∧ ∃ l, RowIn W x.2 stepCells 3 l ∧ StepsFit l := by
 have hf := struct_fields Tryz.underlying53 (by kernel_rfl) hc (by kernel_rfl) hl
 obtain ⟨v0, _, _, hv0, h0⟩ := hf 0 _ rfl
 obtain ⟨v1, _, _, hv1, h1⟩ := hf 1 _ rfl
 obtain ⟨s, hs, _⟩ := DataW.trod_string Tryz.underlying9 h0
 obtain ⟨l, hr, hfl⟩ := steps_in h1
 injection hs with hs _
 subst hs
 match cs, hl with
 | [c0, c1], _ =>
  simp only [List.getElem?_cons_zero, List.getElem?_cons_succ, Option.some.injEq] at hv0 hv1
  subst hv0 hv1
  exact ⟨(s.data.toList, c1), by rw [str_of s]; rfl, l, hr, hfl⟩
theorem outs_in {n0 : Nat} {y : DataW H × List MemPlace} (h : DataW.trod enc Tryz.prog W 0 (fun _ => true) true n0 23 [v] = some y) : ∃ l : List OutM, OutsIn W v l ∧ ∀ o ∈ l, StepsFit o.steps := by
 obtain ⟨A, c, q, rfl, h2, h3, h4, h5⟩ := open_rows_in (f := outCells) (good := fun x : List UInt8 × Value => ∃ l, RowIn W x.2 stepCells 3 l ∧ StepsFit l) (s := 2) Tryz.underlying23 (by kernel_rfl) (fun _ => rfl) (fun n cs y hl hc => out_read hl hc) h
 obtain ⟨cols, hr, hf⟩ := raws_of q h5
 exact ⟨cols, ⟨q, rowIn_of h2 h3 h4, hr⟩, hf⟩
theorem open_plan (hv : Value.okWide Tryz.prog W r base 25 v) (h : DataW.Trod enc Tryz.prog W 0 (fun _ => true) true 25 v d ps) : ∃ p : PlanM, PlanIn W v p ∧ AllFit p := by
 obtain ⟨cs, rfl, hsz⟩ := okWide_struct Tryz.underlying25 hv
 have hc : Tryz.prog.cellsOf 25 = 3 := by kernel_rfl
 rw [hc] at hsz
 obtain ⟨fuel, hfu⟩ := h
 obtain ⟨l⟩ := cs
 match l, hsz with
 | [a, b, c], _ =>
  have hf := struct_fields Tryz.underlying25 (by kernel_rfl) hfu (by kernel_rfl) rfl
  obtain ⟨v0, _, _, hv0, h0⟩ := hf 0 _ rfl
  obtain ⟨v1, _, _, hv1, h1⟩ := hf 1 _ rfl
  obtain ⟨v2, _, _, hv2, h2⟩ := hf 2 _ rfl
  have e0 : some a = some v0 := hv0
  have e1 : some b = some v1 := hv1
  have e2 : some c = some v2 := hv2
  injection e0 with e0
  injection e1 with e1
  injection e2 with e2
  subst e0 e1 e2
  obtain ⟨wh, hw, hwf⟩ := steps_in h0
  obtain ⟨cols, ho, hof⟩ := outs_in h1
  obtain ⟨g, hg, _, _⟩ := DataW.trod_int Tryz.underlying3 h2
  injection hg with hg _
  subst hg
  exact ⟨⟨wh, cols, g⟩, ⟨a, b, rfl, hw, ho⟩, hwf, hof⟩
end
end Go.Proofs.YtolaedhdjcnijaaGreatDoor
namespace Go.Proofs.YtolaedhdjcnijaaGreatDoor
open Go
def facts1 (P : Program) (f : FuncId) (fn : Func) (s : ChangeSpec) (c : OpenClaim) : Bool :=
 c.wf (OpenSpec.ofChange s) && laidOutB P && mapsRowed P &&
 fn.params.all (P.readableRec ·) && namedTie P c.named s.vars &&
 (c.stops == []) && (P.stops == []) && (c.knobs == []) && (P.stopKnobs == []) &&
 (c.inPlace == P.inPlace f) && (c.unfollowed == P.unfollowed f) && (c.recurses == P.recurses f) && (c.named == P.varsNamed f)
def facts2 (P : Program) (fn : Func) (s : ChangeSpec) (c : OpenClaim) : Bool :=
 (c.maps == (fn.params.toList ++ s.plain.varTypes P).any (P.mapsRec ·)) && (c.ifaces == (fn.params.toList ++ s.plain.varTypes P).any (P.ifacesRec ·)) && (c.mapsOut == P.mapsAmong fn.resultTypes.toList) &&
 (c.loops == (fn.params.toList ++ s.plain.varTypes P).any (P.loopsFrom ·)) && (c.wideKeys == (fn.params.toList ++ s.plain.varTypes P ++ fn.resultTypes.toList).any (P.wideKeysFrom ·)) &&
 s.vars.all (P.varReadable ·) && fn.resultTypes.all (fun t => P.readableRec t && decide (t < P.types.size)) && (c.ifacesOut == fn.resultTypes.toList.any (P.ifacesRec ·)) && (c.loopsOut == fn.resultTypes.toList.any (P.loopsFrom ·)) && (c.plainKeys == P.plainKeys) && c.shortTexts.isNone
def facts3 (P : Program) (fn : Func) (s : ChangeSpec) (c : OpenClaim) : Bool :=
 P.stopsHeard && P.mayEnter && (c.lifted == P.liftsFinal) && (P.make == some c.make) && (c.kinds == (if c.domain.isEmpty then [] else fn.params.toList.map fun t => match P.underlying t with | some (.int k) => some k | _ => none)) && (c.pinned == c.pinnedBy) &&
 (c.veiled == (fn.params.toList ++ s.plain.varTypes P ++ fn.resultTypes.toList).any (P.veiledRec ·)) && c.veiledFits P fn.params.toList (fn.params.toList ++ s.plain.varTypes P ++ fn.resultTypes.toList)
theorem joined_of {P : Program} {f : FuncId} {fn : Func} {s : ChangeSpec} {c : OpenClaim} (h1 : facts1 P f fn s c = true) (h2 : facts2 P fn s c = true) (h3 : facts3 P fn s c = true) : joinedFacts P f fn s c = true := by
 simp only [facts1, Bool.and_eq_true] at h1
 simp only [facts2, Bool.and_eq_true] at h2
 simp only [facts3, Bool.and_eq_true] at h3
 simp only [joinedFacts, Bool.and_eq_true]
 simp only [h1, h2, h3, and_self, and_true, true_and]
 exact h3.1.1.1.2
end Go.Proofs.YtolaedhdjcnijaaGreatDoor
