/-
 More rules of the walk. Nothing of a given program stands here.
-/
import Derived.Test.YtolaedhdjcnijaaGreatDoorKt3
import Derived.Laws.BytesArg
import Derived.Laws.RangeString
import Derived.Laws.Strings
import Derived.Laws.IdiomStrings
import Derived.Laws.StructEq
set_option linter.unusedVariables false
set_option linter.unusedSimpArgs false
namespace Go.Mw
open Go.RowKit

section
variable {P : Program} {r : Option Nat} {n : Nat} {ops : Array Oper} {Q : Post} {rest : List Oper} {σ : St} {w w₀ : World} {S : Nat → Prop} {rs : List HP} {put : HP → List HP} {op : Op} {ty : TypeId} {pos : String} {after : Array Edge}
theorem FL_splitP {t : Nat} {p : Prop} [Decidable p] {l : List Oper} (hb : σ.get t = .bool (decide p)) (h1 : p → FL P r n ops Q l (upd σ t (.bool true)) w) (h0 : ¬ p → FL P r n ops Q l (upd σ t (.bool false)) w) : FL P r n ops Q l σ w :=
 FL_split hb (fun h => h1 (of_decide_eq_true h)) (fun h => h0 (of_decide_eq_false h))
theorem FL_offU {dst : Option Nat} {j : Nat} {b : Bool} {t : Nat} (hj : (ops[j]?).bind (fun o : Oper => o.dst) = some t) (hb : σ.get t = undef) (hd : okDst n dst = true)
    (h : FL P r n ops Q rest (updO σ dst undef) w) :
    FL P r n ops Q ({ dst := dst, op := op, type := ty, pos := pos, after := after, guard := some (j, b) } :: rest) σ w := fun a ha => by
  have h1 := h _ (ha.putO hd undef)
  have hy : Go.yielded ops a.tmps j = none := by
    unfold Go.yielded
    have hg := ha.get t
    rw [hb] at hg
    simp only [hj, Option.bind_some]
    cases hq : a.tmps[t]? with
    | none => rfl
    | some v =>
      have hv : v = undef := by simpa [Array.getD_eq_getD_getElem?, hq] using hg
      subst hv
      rfl
  have hw : Region.wanted { dst := dst, op := op, type := ty, pos := pos, after := after, guard := some (j, b) } (Go.yielded ops a.tmps) = false := by
    simp [Region.wanted, hy]
  unfold wpListIn
  rw [if_neg (by simp [hw])]
  exact ⟨fun _ _ => trivial, h1⟩
theorem Gives.fieldA {ρ : Operand → Value} {x : Operand} {s f k : Nat} [h : FieldAt P s f k] {a : Addr} {j : Nat} (hx : ρ x = .pointer (some (a.add j))) : Gives P ρ (.fieldAddr s x f) ty w (.pointer (some (a.add (j + k)))) w := fun _ _ _ _ => by
 simp only [execOp, hx, Sem.run_bind, h.run, Result.andThen_ok, Sem.run_pure, add_add]
theorem Gives.extract {ρ : Operand → Value} {x : Operand} {i : Nat} {vs : Array Value} {v : Value} (hx : ρ x = .tuple vs) (hv : vs[i]? = some v) : Gives P ρ (.extract x i) ty w v w := fun _ _ _ _ => by
 simp [execOp, hx, Instr.extract, hv]
theorem Gives.bytesStr {ρ : Operand → Value} {x : Operand} {s t e : TypeId} [hs : IsSlice P s e] [he : IsInt P e .u8] [hd : IsStr P t] {A : Option Addr} {m c : Nat} {l : List UInt8} (hx : ρ x = .slice A m c) (hr : RowAt w A m 1 (l.map fun u => Value.int .u8 u.toNat)) : Gives P ρ (.convert s t x) ty w (.string ⟨l.toArray⟩) w := fun _ _ _ _ => by
  have hlen : l.length = m := by have := hr.len; simpa using this
  have hrun : (convert s t (.slice A m c)).run P w = .ok (.string ⟨l.toArray⟩) w := by
    rcases A with _ | a
    · have h0 : m = 0 := by
        rcases Nat.eq_zero_or_pos m with h0 | h0
        · exact h0
        obtain ⟨ad, h, _⟩ := hr.at_ h0; cases h
      have hl : l = [] := List.eq_nil_of_length_eq_zero (by rw [hlen, h0])
      subst hl
      rw [run_convert_bytes_string w s t e none m c hs.und he.und hd.und]
      rfl
    rw [← hlen]
    refine run_convert_bytes_back w s t e a c l hs.und he.und hd.und fun j hj => ?_
    obtain ⟨ad, h, hc⟩ := hr.at_ (by omega)
    injection h with h
    subst h
    exact hc j _ (by simp [hj])
  simp only [execOp, hx, Sem.run_bind, hrun, Result.andThen_ok, Sem.run_pure]
class IsClone (P : Program) (f : FuncId) : Prop where
 run : ∀ args w, (callFunc f args).run P w = ((Extern.MapsClone.clone args).run P w).andThen fun v w' => .ok (.value v) w'
def lay (zs : List Value) (o : Nat) (us : List Value) : List Value := zs.take o ++ us ++ zs.drop (o + us.length)
theorem foldl_lay (o : Nat) : ∀ (us : List Value) (k : Nat) (zs : List Value), o + k + us.length ≤ zs.length →
    (us.zipIdx k).foldl (fun (cs : Array Value) (x : Value × Nat) => cs.setIfInBounds (o + x.2) x.1) zs.toArray = (lay zs (o + k) us).toArray
  | [], k, zs, _ => by simp [lay]
  | u :: us, k, zs, h => by
    simp only [List.zipIdx_cons, List.foldl_cons]
    have e : zs.toArray.setIfInBounds (o + k) u = (zs.set (o + k) u).toArray := by simp
    rw [e, foldl_lay o us (k + 1) _ (by simp at h ⊢; omega)]
    congr 1
    have := list_seg_step zs (o + k) u us (by simp at h; omega)
    unfold lay
    simp only [List.length_cons]
    rw [← Nat.add_assoc]
    exact this
def Fills (place : Nat → Option (Nat × Nat)) (ρ : Operand → Value) : List (Nat × Operand) → List Value → List Value → Prop
 | [], zs, out => zs = out
 | (i, x) :: l, zs, out => ∃ o us, place i = some (o, us.length) ∧ (ρ x).cells = us.toArray ∧ o + us.length ≤ zs.length ∧ Fills place ρ l (lay zs o us) out
theorem fill_of {place : Nat → Option (Nat × Nat)} {ρ : Operand → Value} : ∀ {l : List (Nat × Operand)} {zs out : List Value}, Fills place ρ l zs out → Instr.fill place zs.toArray (l.map fun (i, x) => (i, ρ x)) = some out.toArray
 | [], zs, out, h => by have h : zs = out := h; subst h; rfl
 | (i, x) :: l, zs, out, ⟨o, us, h1, h2, h3, h4⟩ => by
  simp only [List.map_cons, Instr.fill, h1, h2]
  have e : (us.toArray.zipIdx.foldl (fun (cs : Array Value) (x : Value × Nat) => cs.setIfInBounds (o + x.2) x.1) zs.toArray) = (lay zs o us).toArray := by
   have e0 : us.toArray.zipIdx = (us.zipIdx 0).toArray := by simp
   rw [e0, List.foldl_toArray]
   exact foldl_lay o us 0 zs (by simpa using h3)
  have e2 : (us.toArray.size ≠ us.length || o + us.toArray.size > zs.toArray.size) = false := by simp; omega
  simp only [e2]
  exact (congrArg (fun z => Instr.fill place z (l.map fun (i, x) => (i, ρ x))) e).trans (fill_of h4)
theorem Fills.nil {place : Nat → Option (Nat × Nat)} {ρ : Operand → Value} {zs : List Value} : Fills place ρ [] zs zs := rfl
theorem lay_one {zs : List Value} {o : Nat} {v : Value} (h : o < zs.length) : lay zs o [v] = zs.set o v := by
 unfold lay
 rw [List.set_eq_take_append_cons_drop, if_pos h]
 simp
theorem Fills.one {place : Nat → Option (Nat × Nat)} {ρ : Operand → Value} {i o : Nat} {x : Operand} {l : List (Nat × Operand)} {v : Value} {zs zs' out : List Value} (hp : place i = some (o, 1)) (hx : ρ x = v) (hv : v.oneCell' = true) (ho : o < zs.length) (hs : zs.set o v = zs') (h : Fills place ρ l zs' out) : Fills place ρ ((i, x) :: l) zs out := by
 subst hs
 refine ⟨o, [v], hp, ?_, ho, by rw [lay_one ho]; exact h⟩
 rw [hx]
 cases v <;> first | rfl | cases hv
theorem Fills.many {place : Nat → Option (Nat × Nat)} {ρ : Operand → Value} {i o : Nat} {x : Operand} {l : List (Nat × Operand)} {us zs zs' out : List Value} (hp : place i = some (o, us.length)) (hx : ρ x = .agg us.toArray) (ho : o + us.length ≤ zs.length) (hs : lay zs o us = zs') (h : Fills place ρ l zs' out) : Fills place ρ ((i, x) :: l) zs out := by
 subst hs
 exact ⟨o, us, hp, by rw [hx]; rfl, ho, h⟩
class BuildS (P : Program) (T : TypeId) (zs : outParam (List Value)) (pl : outParam (List (Nat × Nat))) : Prop where
 zero : ∀ w, (zeroValue T).run P w = .ok (.agg zs.toArray) w
 und : ∃ fields : Array Field, P.underlying T = some (.struct fields) ∧ ∀ w, (fields.mapM fun f => (do pure (f.offset, ← sizeOf f.type) : Sem (Nat × Nat))).run P w = .ok pl.toArray w
theorem Gives.build {ρ : Operand → Value} {T : TypeId} {zs : List Value} {pl : List (Nat × Nat)} [hb : BuildS P T zs pl] {parts : List (Nat × Operand)} {out : List Value} (h : Fills (fun i : Nat => pl[i]?) ρ parts zs out) : Gives P ρ (.build T parts.toArray) ty w (.agg out.toArray) w := fun _ _ _ _ => by
 obtain ⟨fields, hu, hpl⟩ := hb.und
 have hf := fill_of h
 have hpl' := hpl w
 simp only [execOp, Instr.build, Sem.run_bind, hb.zero, Result.andThen_ok, run_underlying hu, hpl', Value.cells, List.map_toArray, Sem.run_pure]
 have e : (fun x : Nat => pl.toArray[x]?) = fun i : Nat => pl[i]? := by funext i; simp
 simp only [e, hf, Sem.run_pure, Result.andThen_ok]

theorem lay_mid {a us b c : List Value} {o : Nat} (ho : a.length = o) (hb : b.length = us.length) : lay (a ++ (b ++ c)) o us = (a ++ us) ++ c := by
 unfold lay
 rw [List.take_append_of_le_length (by omega), List.take_of_length_le (by omega), ← List.append_assoc a b c, List.drop_append_of_le_length (by simp; omega), List.drop_of_length_le (by simp; omega), List.nil_append]
def Elems (ρ : Operand → Value) (size : Nat) : List Operand → List Value → Prop
 | [], out => out = []
 | x :: l, out => ∃ us rest, (ρ x).cells = us.toArray ∧ us.length = size ∧ out = us ++ rest ∧ Elems ρ size l rest
theorem fills_elems {ρ : Operand → Value} {size : Nat} : ∀ (l : List Operand) (k : Nat) (a z out : List Value), a.length = k * size → z.length = l.length * size → Elems ρ size l out →
    Fills (fun i => some (i * size, size)) ρ ((l.zipIdx k).map fun p => (p.2, p.1)) (a ++ z) (a ++ out)
  | [], k, a, z, out, _, hz, h => by
    have h : out = [] := h
    subst h
    have : z = [] := List.eq_nil_of_length_eq_zero (by simpa using hz)
    subst this
    exact rfl
  | x :: l, k, a, z, out, ha, hz, ⟨us, rest, h1, h2, h3, h4⟩ => by
    subst h3
    have hz' : z.length = size + l.length * size := by rw [hz, List.length_cons, Nat.add_mul]; omega
    refine ⟨k * size, us, by rw [h2], h1, by rw [List.length_append, ha, hz', h2]; omega, ?_⟩
    have e : z = z.take size ++ z.drop size := (List.take_append_drop size z).symm
    rw [e, lay_mid ha (by rw [List.length_take, h2]; omega), ← List.append_assoc]
    exact fills_elems l (k + 1) (a ++ us) (z.drop size) rest (by rw [List.length_append, ha, h2, Nat.add_mul]; omega) (by rw [List.length_drop]; omega) h4
theorem Elems.nil {ρ : Operand → Value} {size : Nat} : Elems ρ size [] [] := rfl
theorem Elems.one {ρ : Operand → Value} {x : Operand} {l : List Operand} {v : Value} {rest : List Value} (hx : ρ x = v) (hv : v.oneCell' = true) (h : Elems ρ 1 l rest) : Elems ρ 1 (x :: l) (v :: rest) :=
 ⟨[v], rest, (by rw [hx]; cases v <;> first | rfl | cases hv), rfl, rfl, h⟩
theorem Elems.many {ρ : Operand → Value} {size : Nat} {x : Operand} {l : List Operand} {us rest : List Value} (hx : ρ x = .agg us.toArray) (hl : us.length = size) (h : Elems ρ size l rest) : Elems ρ size (x :: l) (us ++ rest) :=
 ⟨us, rest, by rw [hx]; rfl, hl, rfl, h⟩
theorem Gives.buildSlice {ρ : Operand → Value} {t e : TypeId} {xs : List Operand} {parts : List (Nat × Operand)} {out : List Value} {size bytes : Nat} [hs : IsSlice P t e] [hc : Cells P e size bytes] {z : Value} [hz : Zero P e z] (hE : Elems ρ size xs out) (hp : parts = (xs.zipIdx 0).map fun p => (p.2, p.1)) (hlen : Nat.ble (xs.length * size) 16777216 = true) :
    Gives P ρ (.buildSlice t xs.length parts.toArray) ty w (.slice (some ⟨w.heap.size, 0, none⟩) xs.length xs.length) (w.alloc (.cells out.toArray e)) := fun _ _ _ _ => by
  obtain ⟨i, hi, hsb⟩ := Option.map_eq_some_iff.1 hc.size
  simp only [Prod.mk.injEq] at hsb
  have hle := Nat.le_of_ble_eq_true hlen
  have hfill : ∀ Z : List Value, Z.length = xs.length * size → Instr.fill (fun i => some (i * size, size)) Z.toArray (parts.map fun (i, x) => (i, ρ x)) = some out.toArray := fun Z hZ => by
    subst hp
    exact fill_of (fills_elems xs 0 [] Z out (by simp) hZ hE)
  have hbig : ¬ (2 ^ 24 < xs.length * size) := by omega
  by_cases h0 : xs.length * size = 0
  · have := hfill [] (by simp [h0])
    simp at this
    simp only [execOp, Instr.buildSlice, Sem.run_bind, run_underlying hs.und, Result.andThen_ok, sizeOf, typeInfo, run_program, hi, Sem.run_pure, hsb.1]
    simp only [h0, Array.range_zero']
    simp
    rw [this]
    simp [newRow]
  obtain ⟨Z, hZ⟩ : ∃ Z : List Value, (Array.range (xs.length * size)).map (fun x => z.cells[x % z.cells.size]!) = Z.toArray := ⟨_, (Array.toArray_toList).symm⟩
  have hZl : Z.length = xs.length * size := by
    have := congrArg Array.size hZ
    simpa using this.symm
  simp only [execOp, Instr.buildSlice, Sem.run_bind, run_underlying hs.und, Result.andThen_ok, sizeOf, typeInfo, run_program, hi, Sem.run_pure, hsb.1]
  simp only [gt_iff_lt, hbig, if_false, h0, hz.run, Result.andThen_ok, Sem.run_bind, Sem.run_pure, List.map_toArray, hZ, hfill Z hZl]
  simp [newRow]
theorem FL_buildSlice {d : Nat} {t e : TypeId} {xs : List Operand} {parts : List (Nat × Operand)} {out : List Value} {size bytes : Nat} [hs : IsSlice P t e] [hc : Cells P e size bytes] {z : Value} [hz : Zero P e z] (H : Sep w₀ S rs w) (hE : Elems (evF σ) size xs out) (hp : parts = (xs.zipIdx 0).map fun p => (p.2, p.1)) (hlen : Nat.ble (xs.length * size) 16777216 = true) (hd : Nat.blt d n = true)
    (h : ∀ b w', Sep w₀ S (blk b out e :: rs) w' → Kept noB w w' → FL P r n ops Q rest (upd σ d (.slice (some ⟨b, 0, none⟩) xs.length xs.length)) w') :
    FL P r n ops Q ({ dst := some d, op := .buildSlice t xs.length parts.toArray, type := ty, pos := pos, after := after, guard := none } :: rest) σ w :=
  FL_val (Gives.buildSlice hE hp hlen) hd (h _ _ (H.alloc _) (Kept.alloc _ _))
theorem Sep.blkRow {b E m s : Nat} {cs : List Value} (H : Sep w₀ S rs w) (hat : At rs (blk b cs E) put) (hl : cs.length = m * s) : RowAt w (some ⟨b, 0, none⟩) m s cs :=
 ⟨hl, fun _ => ⟨_, rfl, fun j u hu => by rw [Addr.add_lit, Nat.zero_add, cell_blk (H.obj hat)]; exact hu⟩⟩
end
end Go.Mw
namespace Go.Mw
open Go.RowKit

def str (l : List UInt8) : Value := .string ⟨l.toArray⟩
theorem str_of (s : ByteArray) : Value.string s = str s.data.toList := by cases s; simp [str]
theorem size_mk (l : List UInt8) : (⟨l.toArray⟩ : ByteArray).size = l.length := by simp [ByteArray.size]
theorem extract_mk (l : List UInt8) (a b : Nat) : (⟨l.toArray⟩ : ByteArray).extract a b = ⟨((l.take b).drop a).toArray⟩ := by
 apply ByteArray.ext
 rw [ByteArray.data_extract]
 apply Array.ext'
 rw [Array.toList_extract]
 simp [List.extract_eq_take_drop, List.drop_take]
theorem append_mk (a b : List UInt8) : (⟨a.toArray⟩ : ByteArray) ++ ⟨b.toArray⟩ = ⟨(a ++ b).toArray⟩ := by
 apply ByteArray.ext
 rw [ByteArray.data_append]
 simp
section gives
variable {P : Program} {ρ : Operand → Value} {ty : TypeId} {w w' : World} {x y z : Operand} {a b l : List UInt8}
theorem Gives.lenT {t : TypeId} [h : IsStr P t] (hx : ρ x = str l) : Gives P ρ (.call { callee := .builtin .len, args := #[x], argTypes := #[t] }) ty w (.int .i64 l.length) w := by
 have := Gives.lenStr (P := P) (ty := ty) (w := w) (t := t) hx
 rw [size_mk] at this; exact this
theorem Gives.eqlT {T U : TypeId} (hx : ρ x = str a) (hy : ρ y = str b) : Gives P ρ (.binOp .eql T x y U) ty w (.bool (decide (a = b))) w := by
 have := Gives.eqlS (P := P) (ty := ty) (w := w) (T := T) (U := U) hx hy
 rw [ByteArray.toList_mk, ByteArray.toList_mk, show (a == b) = decide (a = b) from by rw [Bool.eq_iff_iff]; simp] at this; exact this
theorem Gives.neqT {T U : TypeId} (hx : ρ x = str a) (hy : ρ y = str b) : Gives P ρ (.binOp .neq T x y U) ty w (.bool (decide (a ≠ b))) w := by
 have := Gives.neqS (P := P) (ty := ty) (w := w) (T := T) (U := U) hx hy
 rw [ByteArray.toList_mk, ByteArray.toList_mk, show (!(a == b)) = decide (a ≠ b) from by rw [Bool.eq_iff_iff]; simp] at this; exact this
theorem Gives.catT {T U : TypeId} (hx : ρ x = str a) (hy : ρ y = str b) (h : a.length + b.length ≤ 9223372036854775807) : Gives P ρ (.binOp .add T x y U) ty w (str (a ++ b)) w := .bin hx hy (fun _ _ => rfl) (by
 show (Op.stringOp .add _ _).run P w = _
 simp only [Op.stringOp, size_mk]
 rw [if_neg (by show ¬ (((a.length + b.length : Nat) : Int) > 9223372036854775807); omega), append_mk]
 rfl)
theorem Gives.idxT {t : TypeId} [h : IsStr P t] {k : IntKind} {i : Nat} {c : UInt8} (hx : ρ x = str l) (hy : ρ y = .int k i) (hc : l[i]? = some c) : Gives P ρ (.index t x y) ty w (.int .u8 c.toNat) w := fun _ _ _ _ => by
 have hlt := (List.getElem?_eq_some_iff.1 hc).1
 have e : (⟨l.toArray⟩ : ByteArray)[i]? = some c := by
  rw [getElem?_pos (h := by rw [size_mk]; exact hlt)]
  show some (l.toArray[i]) = _
  rw [List.getElem_toArray, ← List.getElem?_eq_getElem hlt, hc]
 simp only [execOp, Instr.index, hx, hy, str, Sem.run_bind]
 simp [asIntOf, run_underlying h.und, e]
theorem Gives.sliceToT {t : TypeId} [h : IsStr P t] {k : IntKind} {i : Nat} (hx : ρ x = str l) (hy : ρ y = .int k i) (hi : i ≤ l.length) : Gives P ρ (.slice t x none (some y) none) ty w (str (l.take i)) w := fun _ _ _ _ => by
 have e1 : (0 : Int) ≤ (i : Int) ∧ (i : Int) ≤ ((⟨l.toArray⟩ : ByteArray).size : Int) := by rw [size_mk]; omega
 simp [execOp, hx, hy, str, Instr.sliceAt, Instr.slice, run_underlying h.und, Instr.sliceBounds, Instr.sliceBound, asIntOf, e1, extract_mk, size_mk]
 try omega
theorem Gives.sliceFromT {t : TypeId} [h : IsStr P t] {k : IntKind} {i : Nat} (hx : ρ x = str l) (hy : ρ y = .int k i) (hi : i ≤ l.length) : Gives P ρ (.slice t x (some y) none none) ty w (str (l.drop i)) w := fun _ _ _ _ => by
 have e1 : (0 : Int) ≤ (i : Int) ∧ (i : Int) ≤ ((⟨l.toArray⟩ : ByteArray).size : Int) := by rw [size_mk]; omega
 simp [execOp, hx, hy, str, Instr.sliceAt, Instr.slice, run_underlying h.und, Instr.sliceBounds, Instr.sliceBound, asIntOf, e1, extract_mk, size_mk]
 try omega
theorem Gives.sliceBothT {t : TypeId} [h : IsStr P t] {k j : IntKind} {i m : Nat} (hx : ρ x = str l) (hy : ρ y = .int k i) (hz : ρ z = .int j m) (hi : i ≤ m) (hm : m ≤ l.length) : Gives P ρ (.slice t x (some y) (some z) none) ty w (str ((l.take m).drop i)) w := fun _ _ _ _ => by
 have e1 : (0 : Int) ≤ (i : Int) ∧ (i : Int) ≤ (m : Int) := by omega
 have e2 : (0 : Int) ≤ (m : Int) ∧ (m : Int) ≤ ((⟨l.toArray⟩ : ByteArray).size : Int) := by rw [size_mk]; omega
 simp [execOp, hx, hy, hz, str, Instr.sliceAt, Instr.slice, run_underlying h.und, Instr.sliceBounds, Instr.sliceBound, asIntOf, e1, e2, extract_mk, size_mk, hi, hm]
def encL (r : Int) : List UInt8 := (Utf8.encode r).data.toList
theorem str_encode (r : Int) : Value.string (Utf8.encode r) = str (encL r) := by
 unfold encL str
 congr 1
theorem Gives.runeT {s t : TypeId} {k : IntKind} [hs : IsInt P s k] [ht : IsStr P t] {n : Int} (hx : ρ x = .int k n) : Gives P ρ (.convert s t x) ty w (str (encL n)) w := fun _ _ _ _ => by
 rw [← str_encode]
 simp [execOp, hx, convert, run_underlying hs.und, run_underlying ht.und, Conv.intToString]
theorem Gives.bytesT {s t e : TypeId} [hs : IsSlice P s e] [he : IsInt P e .u8] [hd : IsStr P t] {A : Option Addr} {m c : Nat} (hx : ρ x = .slice A m c) (hr : RowAt w A m 1 (l.map fun u => Value.int .u8 u.toNat)) : Gives P ρ (.convert s t x) ty w (str l) w := Gives.bytesStr hx hr
end gives
section rules
variable {P : Program} {r : Option Nat} {n : Nat} {ops : Array Oper} {Q : Post} {rest : List Oper} {σ : St} {w w' w₀ : World} {S : Nat → Prop} {rs : List HP} {put : HP → List HP} {ty : TypeId} {pos : String} {after : Array Edge} {l : List UInt8}
end rules
end Go.Mw
namespace Go.Mw
open Go.RowKit

class FieldOf (P : Program) (s f : Nat) (o : outParam Nat) (t : outParam TypeId) : Prop where
 und : ∃ fields, P.underlying s = some (.struct fields) ∧ (fields[f]?).map (fun f : Field => (f.offset, f.type)) = some (o, t)
class EqData (P : Program) (T : TypeId) (α : Type) [DecidableEq α] (enc : α → List Value) : Prop where
 run : ∀ (a b : α) (w : World), (Op.equalIn 10000 T (.agg (enc a).toArray) (.agg (enc b).toArray)).run P w = .ok (decide (a = b)) w
 guard : P.eqGuardType P.depth T = false
section gives
variable {P : Program} {ρ : Operand → Value} {ty : TypeId} {w w' : World} {x y z : Operand} {l : List UInt8}
theorem run_part1 {t : TypeId} [h1 : OneCell P t] {cs : List Value} {o : Nat} {v : Value} (hv : cs[o]? = some v) : (part t cs.toArray o).run P w = .ok v w := by
 simp [part, h1.agg, hv]
theorem run_partN {t k : TypeId} [h1 : Agg P t k] {cs us : List Value} {o : Nat} (hu : (cs.drop o).take k = us) : (part t cs.toArray o).run P w = .ok (.agg us.toArray) w := by
 have e : cs.toArray.extract o (o + k) = us.toArray := by
  subst hu
  apply Array.ext'
  rw [Array.toList_extract]
  simp [List.extract_eq_take_drop]
 simp only [part, Sem.run_bind, h1.agg, Result.andThen_ok, if_true, h1.size, Sem.run_pure]
 rw [e]
theorem Gives.fieldOf1 {s f o t : Nat} [h : FieldOf P s f o t] [h1 : OneCell P t] {cs : List Value} {v : Value} (hx : ρ x = .agg cs.toArray) (hv : cs[o]? = some v) : Gives P ρ (.field s x f) ty w v w := fun _ _ _ _ => by
 obtain ⟨fields, hf, hm⟩ := h.und
 obtain ⟨fl, hfl, he⟩ := Option.map_eq_some_iff.1 hm
 simp only [Prod.mk.injEq] at he
 obtain ⟨he1, he2⟩ := he
 subst he2; subst he1
 simp [execOp, hx, Instr.field, run_underlying hf, hfl, asAgg, run_part1 (P := P) (w := w) (t := fl.type) hv]
theorem Gives.idxD {t : TypeId} [h : IsStr P t] {k : IntKind} {i : Nat} (hx : ρ x = str l) (hy : ρ y = .int k i) (hi : i < l.length) : Gives P ρ (.index t x y) ty w (.int .u8 (l.getD i 0).toNat) w :=
 Gives.idxT hx hy (by rw [List.getD_eq_getElem?_getD, List.getElem?_eq_getElem hi]; rfl)
theorem Gives.neqG {T U : TypeId} {α : Type} [DecidableEq α] {enc : α → List Value} [h : EqData P T α enc] (a b : α) (hx : ρ x = .agg (enc a).toArray) (hy : ρ y = .agg (enc b).toArray) : Gives P ρ (.binOp .neq T x y U) ty w (.bool (decide (a ≠ b))) w :=
 .bin hx hy (fun x y => run_eqGuard_agg w .neq T x y _ _ h.guard) (by rw [run_neq_struct, h.run]; simp [Result.andThen])
end gives
end Go.Mw
