/-
  More rules of the walk. Nothing of a given program stands here.
-/
import Derived.Test.YteflbohpabdjkaaMwRange
import Derived.Laws.BytesArg
namespace Go.Mw
open Go.RowKit

section
variable {P : Program} {r : Option Nat} {n : Nat} {ops : Array Oper} {Q : Post} {rest : List Oper} {σ : St} {w w₀ : World} {S : Nat → Prop} {rs : List HP} {put : HP → List HP} {op : Op} {ty : TypeId} {pos : String} {after : Array Edge}
theorem FL_splitP {t : Nat} {p : Prop} [Decidable p] {l : List Oper} (hb : σ.get t = .bool (decide p)) (h1 : p → FL P r n ops Q l (upd σ t (.bool true)) w) (h0 : ¬ p → FL P r n ops Q l (upd σ t (.bool false)) w) : FL P r n ops Q l σ w :=
  FL_split hb (fun h => h1 (of_decide_eq_true h)) (fun h => h0 (of_decide_eq_false h))
theorem FL_offU {dst : Option Nat} {j : Nat} {b : Bool} {t : Nat} (hj : (ops[j]?).bind (fun o : Oper => o.dst) = some t) (hb : σ.get t = undef) (hd : okDst n dst = true)
    (h : FL P r n ops Q rest (updO σ dst undef) w) :
    FL P r n ops Q ({ dst := dst, op := op, type := ty, pos := pos, after := after, guard := some (j, b) } :: rest) σ w := fun a ha => by
  have h1 := h _ (ha.putO hd undef)
  have hy : Go.yielded ops a.tmps j = none := by
    unfold Go.yielded
    have hg := ha.get t
    rw [hb] at hg
    simp only [hj, Option.bind_some]
    cases hq : a.tmps[t]? with
    | none => rfl
    | some v =>
      have hv : v = undef := by simpa [Array.getD_eq_getD_getElem?, hq] using hg
      subst hv
      rfl
  have hw : Region.wanted { dst := dst, op := op, type := ty, pos := pos, after := after, guard := some (j, b) } (Go.yielded ops a.tmps) = false := by
    simp [Region.wanted, hy]
  unfold wpListIn
  rw [if_neg (by simp [hw])]
  exact ⟨fun _ _ => trivial, h1⟩
theorem Gives.fieldA {ρ : Operand → Value} {x : Operand} {s f k : Nat} [h : FieldAt P s f k] {a : Addr} {j : Nat} (hx : ρ x = .pointer (some (a.add j))) : Gives P ρ (.fieldAddr s x f) ty w (.pointer (some (a.add (j + k)))) w := fun _ _ _ _ => by
  simp only [execOp, hx, Sem.run_bind, h.run, Result.andThen_ok, Sem.run_pure, add_add]
theorem Gives.fieldV {ρ : Operand → Value} {x : Operand} {s f k : Nat} [h : FieldAt P s f k] {a : Addr} (hx : ρ x = .pointer (some a)) : Gives P ρ (.fieldAddr s x f) ty w (.pointer (some (a.add k))) w := fun _ _ _ _ => by
  simp only [execOp, hx, Sem.run_bind, h.run, Result.andThen_ok, Sem.run_pure]
theorem run_equalIn_map_nil (d : Nat) {T k e : TypeId} (he : P.underlying T = some (.map k e)) (a : Option Nat) : (Op.equalIn (d + 1) T (.map a) (.map none)).run P w = .ok a.isNone w := by
  cases a <;> simp [Op.equalIn, run_underlying he]
theorem Gives.eqlNilM {ρ : Operand → Value} {x y : Operand} {T U k e : TypeId} [hm : IsMap P T k e] {a : Option Nat} (hx : ρ x = .map a) (hy : ρ y = .map none) : Gives P ρ (.binOp .eql T x y U) ty w (.bool a.isNone) w :=
  .bin hx hy (fun _ _ => by rw [eqGuard_at_map]; rfl) (by
    have : (Op.equal T (.map a) (.map none)).run P w = .ok a.isNone w := run_equalIn_map_nil 9999 hm.und a
    simp [binOp, this])
theorem run_equalIn_slice_nil (d : Nat) {T e : TypeId} (he : P.underlying T = some (.slice e)) (a : Option Addr) (m c : Nat) : (Op.equalIn (d + 1) T (.slice a m c) (.slice none 0 0)).run P w = .ok a.isNone w := by
  cases a <;> simp [Op.equalIn, run_underlying he]
theorem Gives.eqlNilSl {ρ : Operand → Value} {x y : Operand} {T U e : TypeId} [hm : IsSlice P T e] {a : Option Addr} {m c : Nat} (hx : ρ x = .slice a m c) (hy : ρ y = .slice none 0 0) : Gives P ρ (.binOp .eql T x y U) ty w (.bool a.isNone) w :=
  .bin hx hy (fun _ _ => by rw [eqGuard_at_slice]; rfl) (by
    have : (Op.equal T (.slice a m c) (.slice none 0 0)).run P w = .ok a.isNone w := run_equalIn_slice_nil 9999 hm.und a m c
    simp [binOp, this])
theorem Gives.extract {ρ : Operand → Value} {x : Operand} {i : Nat} {vs : Array Value} {v : Value} (hx : ρ x = .tuple vs) (hv : vs[i]? = some v) : Gives P ρ (.extract x i) ty w v w := fun _ _ _ _ => by
  simp [execOp, hx, Instr.extract, hv]
/-- string(b) of a row of bytes. -/
theorem Gives.bytesStr {ρ : Operand → Value} {x : Operand} {s t e : TypeId} [hs : IsSlice P s e] [he : IsInt P e .u8] [hd : IsStr P t] {A : Option Addr} {m c : Nat} {l : List UInt8} (hx : ρ x = .slice A m c) (hr : RowAt w A m 1 (l.map fun u => Value.int .u8 u.toNat)) : Gives P ρ (.convert s t x) ty w (.string ⟨l.toArray⟩) w := fun _ _ _ _ => by
  have hlen : l.length = m := by have := hr.len; simpa using this
  have hrun : (convert s t (.slice A m c)).run P w = .ok (.string ⟨l.toArray⟩) w := by
    rcases A with _ | a
    · have h0 : m = 0 := by
        rcases Nat.eq_zero_or_pos m with h0 | h0
        · exact h0
        · obtain ⟨ad, h, _⟩ := hr.at_ h0; cases h
      have hl : l = [] := List.eq_nil_of_length_eq_zero (by rw [hlen, h0])
      subst hl
      rw [run_convert_bytes_string w s t e none m c hs.und he.und hd.und]
      rfl
    · rw [← hlen]
      refine run_convert_bytes_back w s t e a c l hs.und he.und hd.und fun j hj => ?_
      obtain ⟨ad, h, hc⟩ := hr.at_ (by omega)
      injection h with h
      subst h
      exact hc j _ (by simp [hj])
  simp only [execOp, hx, Sem.run_bind, hrun, Result.andThen_ok, Sem.run_pure]
/-- A call of maps.Clone's body-less core. -/
class IsClone (P : Program) (f : FuncId) : Prop where
  run : ∀ args w, (callFunc f args).run P w = ((Extern.MapsClone.clone args).run P w).andThen fun v w' => .ok (.value v) w'
theorem FL_cloneB {d : Nat} {f : FuncId} {y : Operand} {T : TypeId} {b : Nat} {g : Int → Option Value} {es : Array MapEntry} {c : Nat} {ats : Array TypeId} [hc : IsClone P f] (H : Sep w₀ S rs w) (hy : evF σ y = .iface T (.map (some b))) (hb : w.heap[b]? = some (.map es c)) (hk : intKeys es.toList) (hf : ∀ k, mget es.toList k = g k) (hd : Nat.blt d n = true)
    (h : ∀ b' w', Sep w₀ S (mapI b' g :: rs) w' → FL P r n ops Q rest (upd σ d (.iface T (.map (some b')))) w') :
    FL P r n ops Q ({ dst := some d, op := .call { callee := .value (.func f), args := #[y], argTypes := ats }, type := ty, pos := pos, after := after, guard := none } :: rest) σ w := by
  refine FL_val (v := .iface T (.map (some w.heap.size))) (w' := w.alloc (.map es c)) (fun _ _ _ _ => ?_) hd (h _ _ ?_)
  · have e : (execOp (evF σ) { dst := (by assumption : Option Tmp), op := .call { callee := .value (.func f), args := #[y], argTypes := ats }, type := ty, pos := (by assumption : String), after := (by assumption : Array Edge), guard := (by assumption : Option (Nat × Bool)) }) = callFunc f (#[] ++ #[y].map (evF σ) ++ #[]) := rfl
    show (callFunc f (#[] ++ #[y].map (evF σ) ++ #[])).run P w = _
    have e2 : (#[] ++ #[y].map (evF σ) ++ #[] : Array Value) = #[.iface T (.map (some b))] := by simp [hy]
    rw [e2, hc.run]
    have e3 : Extern.MapsClone.clone #[.iface T (.map (some b))] = (getObj b >>= fun o => match o with
      | .map entries clock => (newObj (.map entries clock) >>= fun n => pure (.iface T (.map (some n))))
      | _ => stuck "maps.clone: a map expected") := rfl
    rw [e3]
    simp [run_getObj_map hb]
  · have h1 := H.alloc (.map es c)
    exact h1.imp (At0 (p := obj w.heap.size (.map es c)) (l := rs)) fun F hF => mapI_ok.2 ⟨hF.1, es, c, hF.2, hk, hf⟩
theorem FL_clone {d : Nat} {f : FuncId} {y : Operand} {T : TypeId} {b : Nat} {g : Int → Option Value} {ats : Array TypeId} [hc : IsClone P f] (H : Sep w₀ S rs w) (hy : evF σ y = .iface T (.map (some b))) (hat : At rs (mapI b g) put) (hd : Nat.blt d n = true)
    (h : ∀ b' w', Sep w₀ S (mapI b' g :: rs) w' → FL P r n ops Q rest (upd σ d (.iface T (.map (some b')))) w') :
    FL P r n ops Q ({ dst := some d, op := .call { callee := .value (.func f), args := #[y], argTypes := ats }, type := ty, pos := pos, after := after, guard := none } :: rest) σ w := by
  obtain ⟨es, c, hb, hk, hf⟩ := H.mapAt hat
  exact FL_cloneB H hy hb hk hf hd h
theorem Gives.makeIfaceM {ρ : Operand → Value} {x : Operand} {T k e : TypeId} [hm : IsMap P T k e] {v : Value} (hx : ρ x = v) : Gives P ρ (.makeInterface T x) ty w (.iface T v) w := fun _ _ _ _ => by
  simp [execOp, Instr.makeInterface, run_underlying hm.und, hx]
theorem Gives.assertM {ρ : Operand → Value} {x : Operand} {X T k e : TypeId} [hm : IsMap P T k e] {v : Value} (hx : ρ x = .iface T v) : Gives P ρ (.typeAssert x X T false) ty w v w := fun _ _ _ _ => by
  simp [execOp, Instr.typeAssert, run_underlying hm.und, hx]

/-- Cells laid over a list at a place. -/
def lay (zs : List Value) (o : Nat) (us : List Value) : List Value := zs.take o ++ us ++ zs.drop (o + us.length)
theorem foldl_lay (o : Nat) : ∀ (us : List Value) (k : Nat) (zs : List Value), o + k + us.length ≤ zs.length →
    (us.zipIdx k).foldl (fun (cs : Array Value) (x : Value × Nat) => cs.setIfInBounds (o + x.2) x.1) zs.toArray = (lay zs (o + k) us).toArray
  | [], k, zs, _ => by simp [lay]
  | u :: us, k, zs, h => by
    simp only [List.zipIdx_cons, List.foldl_cons]
    have e : zs.toArray.setIfInBounds (o + k) u = (zs.set (o + k) u).toArray := by simp
    rw [e, foldl_lay o us (k + 1) _ (by simp at h ⊢; omega)]
    congr 1
    have := list_seg_step zs (o + k) u us (by simp at h; omega)
    unfold lay
    simp only [List.length_cons]
    rw [← Nat.add_assoc]
    exact this
/-- What a composite's parts come to. -/
def Fills (place : Nat → Option (Nat × Nat)) (ρ : Operand → Value) : List (Nat × Operand) → List Value → List Value → Prop
  | [], zs, out => zs = out
  | (i, x) :: l, zs, out => ∃ o us, place i = some (o, us.length) ∧ (ρ x).cells = us.toArray ∧ o + us.length ≤ zs.length ∧ Fills place ρ l (lay zs o us) out
theorem fill_of {place : Nat → Option (Nat × Nat)} {ρ : Operand → Value} : ∀ {l : List (Nat × Operand)} {zs out : List Value}, Fills place ρ l zs out → Instr.fill place zs.toArray (l.map fun (i, x) => (i, ρ x)) = some out.toArray
  | [], zs, out, h => by have h : zs = out := h; subst h; rfl
  | (i, x) :: l, zs, out, ⟨o, us, h1, h2, h3, h4⟩ => by
    simp only [List.map_cons, Instr.fill, h1, h2]
    have e : (us.toArray.zipIdx.foldl (fun (cs : Array Value) (x : Value × Nat) => cs.setIfInBounds (o + x.2) x.1) zs.toArray) = (lay zs o us).toArray := by
      have e0 : us.toArray.zipIdx = (us.zipIdx 0).toArray := by simp
      rw [e0, List.foldl_toArray]
      exact foldl_lay o us 0 zs (by simpa using h3)
    have e2 : (us.toArray.size ≠ us.length || o + us.toArray.size > zs.toArray.size) = false := by simp; omega
    simp only [e2]
    exact (congrArg (fun z => Instr.fill place z (l.map fun (i, x) => (i, ρ x))) e).trans (fill_of h4)
theorem Fills.nil {place : Nat → Option (Nat × Nat)} {ρ : Operand → Value} {zs : List Value} : Fills place ρ [] zs zs := rfl
theorem lay_one {zs : List Value} {o : Nat} {v : Value} (h : o < zs.length) : lay zs o [v] = zs.set o v := by
  unfold lay
  rw [List.set_eq_take_append_cons_drop, if_pos h]
  simp
theorem Fills.one {place : Nat → Option (Nat × Nat)} {ρ : Operand → Value} {i o : Nat} {x : Operand} {l : List (Nat × Operand)} {v : Value} {zs zs' out : List Value} (hp : place i = some (o, 1)) (hx : ρ x = v) (hv : v.oneCell' = true) (ho : o < zs.length) (hs : zs.set o v = zs') (h : Fills place ρ l zs' out) : Fills place ρ ((i, x) :: l) zs out := by
  subst hs
  refine ⟨o, [v], hp, ?_, ho, by rw [lay_one ho]; exact h⟩
  rw [hx]
  cases v <;> first | rfl | cases hv
theorem Fills.many {place : Nat → Option (Nat × Nat)} {ρ : Operand → Value} {i o : Nat} {x : Operand} {l : List (Nat × Operand)} {us zs zs' out : List Value} (hp : place i = some (o, us.length)) (hx : ρ x = .agg us.toArray) (ho : o + us.length ≤ zs.length) (hs : lay zs o us = zs') (h : Fills place ρ l zs' out) : Fills place ρ ((i, x) :: l) zs out := by
  subst hs
  exact ⟨o, us, hp, by rw [hx]; rfl, ho, h⟩
/-- A struct's zero and its fields' places, for composites. -/
class BuildS (P : Program) (T : TypeId) (zs : outParam (List Value)) (pl : outParam (List (Nat × Nat))) : Prop where
  zero : ∀ w, (zeroValue T).run P w = .ok (.agg zs.toArray) w
  und : ∃ fields : Array Field, P.underlying T = some (.struct fields) ∧ ∀ w, (fields.mapM fun f => (do pure (f.offset, ← sizeOf f.type) : Sem (Nat × Nat))).run P w = .ok pl.toArray w
theorem Gives.build {ρ : Operand → Value} {T : TypeId} {zs : List Value} {pl : List (Nat × Nat)} [hb : BuildS P T zs pl] {parts : List (Nat × Operand)} {out : List Value} (h : Fills (fun i : Nat => pl[i]?) ρ parts zs out) : Gives P ρ (.build T parts.toArray) ty w (.agg out.toArray) w := fun _ _ _ _ => by
  obtain ⟨fields, hu, hpl⟩ := hb.und
  have hf := fill_of h
  have hpl' := hpl w
  simp only [execOp, Instr.build, Sem.run_bind, hb.zero, Result.andThen_ok, run_underlying hu, hpl', Value.cells, List.map_toArray, Sem.run_pure]
  have e : (fun x : Nat => pl.toArray[x]?) = fun i : Nat => pl[i]? := by funext i; simp
  simp only [e, hf, Sem.run_pure, Result.andThen_ok]

theorem lay_append {a us b : List Value} {o : Nat} (ho : a.length = o) (hb : b.length = us.length) : lay (a ++ b) o us = a ++ us := by
  unfold lay
  rw [List.take_append_of_le_length (by omega), List.take_of_length_le (by omega), List.drop_of_length_le (by simp; omega), List.append_nil]
theorem lay_mid {a us b c : List Value} {o : Nat} (ho : a.length = o) (hb : b.length = us.length) : lay (a ++ (b ++ c)) o us = (a ++ us) ++ c := by
  unfold lay
  rw [List.take_append_of_le_length (by omega), List.take_of_length_le (by omega), ← List.append_assoc a b c, List.drop_append_of_le_length (by simp; omega), List.drop_of_length_le (by simp; omega), List.nil_append]
/-- The parts of a slice's literal, one behind the other. -/
def Elems (ρ : Operand → Value) (size : Nat) : List Operand → List Value → Prop
  | [], out => out = []
  | x :: l, out => ∃ us rest, (ρ x).cells = us.toArray ∧ us.length = size ∧ out = us ++ rest ∧ Elems ρ size l rest
theorem fills_elems {ρ : Operand → Value} {size : Nat} : ∀ (l : List Operand) (k : Nat) (a z out : List Value), a.length = k * size → z.length = l.length * size → Elems ρ size l out →
    Fills (fun i => some (i * size, size)) ρ ((l.zipIdx k).map fun p => (p.2, p.1)) (a ++ z) (a ++ out)
  | [], k, a, z, out, _, hz, h => by
    have h : out = [] := h
    subst h
    have : z = [] := List.eq_nil_of_length_eq_zero (by simpa using hz)
    subst this
    exact rfl
  | x :: l, k, a, z, out, ha, hz, ⟨us, rest, h1, h2, h3, h4⟩ => by
    subst h3
    have hz' : z.length = size + l.length * size := by rw [hz, List.length_cons, Nat.add_mul]; omega
    refine ⟨k * size, us, by rw [h2], h1, by rw [List.length_append, ha, hz', h2]; omega, ?_⟩
    have e : z = z.take size ++ z.drop size := (List.take_append_drop size z).symm
    rw [e, lay_mid ha (by rw [List.length_take, h2]; omega), ← List.append_assoc]
    exact fills_elems l (k + 1) (a ++ us) (z.drop size) rest (by rw [List.length_append, ha, h2, Nat.add_mul]; omega) (by rw [List.length_drop]; omega) h4
theorem Elems.nil {ρ : Operand → Value} {size : Nat} : Elems ρ size [] [] := rfl
theorem Elems.one {ρ : Operand → Value} {x : Operand} {l : List Operand} {v : Value} {rest : List Value} (hx : ρ x = v) (hv : v.oneCell' = true) (h : Elems ρ 1 l rest) : Elems ρ 1 (x :: l) (v :: rest) :=
  ⟨[v], rest, (by rw [hx]; cases v <;> first | rfl | cases hv), rfl, rfl, h⟩
theorem Elems.many {ρ : Operand → Value} {size : Nat} {x : Operand} {l : List Operand} {us rest : List Value} (hx : ρ x = .agg us.toArray) (hl : us.length = size) (h : Elems ρ size l rest) : Elems ρ size (x :: l) (us ++ rest) :=
  ⟨us, rest, by rw [hx]; rfl, hl, rfl, h⟩
/-- A slice's literal: a new row. -/
theorem Gives.buildSlice {ρ : Operand → Value} {t e : TypeId} {xs : List Operand} {parts : List (Nat × Operand)} {out : List Value} {size bytes : Nat} [hs : IsSlice P t e] [hc : Cells P e size bytes] {z : Value} [hz : Zero P e z] (hE : Elems ρ size xs out) (hp : parts = (xs.zipIdx 0).map fun p => (p.2, p.1)) (hlen : Nat.ble (xs.length * size) 16777216 = true) :
    Gives P ρ (.buildSlice t xs.length parts.toArray) ty w (.slice (some ⟨w.heap.size, 0, none⟩) xs.length xs.length) (w.alloc (.cells out.toArray e)) := fun _ _ _ _ => by
  obtain ⟨i, hi, hsb⟩ := Option.map_eq_some_iff.1 hc.size
  simp only [Prod.mk.injEq] at hsb
  have hle := Nat.le_of_ble_eq_true hlen
  have hfill : ∀ Z : List Value, Z.length = xs.length * size → Instr.fill (fun i => some (i * size, size)) Z.toArray (parts.map fun (i, x) => (i, ρ x)) = some out.toArray := fun Z hZ => by
    subst hp
    exact fill_of (fills_elems xs 0 [] Z out (by simp) hZ hE)
  have hbig : ¬ (2 ^ 24 < xs.length * size) := by omega
  by_cases h0 : xs.length * size = 0
  · have := hfill [] (by simp [h0])
    simp at this
    simp only [execOp, Instr.buildSlice, Sem.run_bind, run_underlying hs.und, Result.andThen_ok, sizeOf, typeInfo, run_program, hi, Sem.run_pure, hsb.1]
    simp only [h0, Array.range_zero']
    simp
    rw [this]
    simp [newRow]
  · obtain ⟨Z, hZ⟩ : ∃ Z : List Value, (Array.range (xs.length * size)).map (fun x => z.cells[x % z.cells.size]!) = Z.toArray := ⟨_, (Array.toArray_toList).symm⟩
    have hZl : Z.length = xs.length * size := by
      have := congrArg Array.size hZ
      simpa using this.symm
    simp only [execOp, Instr.buildSlice, Sem.run_bind, run_underlying hs.und, Result.andThen_ok, sizeOf, typeInfo, run_program, hi, Sem.run_pure, hsb.1]
    simp only [gt_iff_lt, hbig, if_false, h0, hz.run, Result.andThen_ok, Sem.run_bind, Sem.run_pure, List.map_toArray, hZ, hfill Z hZl]
    simp [newRow]
theorem FL_buildSlice {d : Nat} {t e : TypeId} {xs : List Operand} {parts : List (Nat × Operand)} {out : List Value} {size bytes : Nat} [hs : IsSlice P t e] [hc : Cells P e size bytes] {z : Value} [hz : Zero P e z] (H : Sep w₀ S rs w) (hE : Elems (evF σ) size xs out) (hp : parts = (xs.zipIdx 0).map fun p => (p.2, p.1)) (hlen : Nat.ble (xs.length * size) 16777216 = true) (hd : Nat.blt d n = true)
    (h : ∀ b w', Sep w₀ S (blk b out e :: rs) w' → Kept noB w w' → FL P r n ops Q rest (upd σ d (.slice (some ⟨b, 0, none⟩) xs.length xs.length)) w') :
    FL P r n ops Q ({ dst := some d, op := .buildSlice t xs.length parts.toArray, type := ty, pos := pos, after := after, guard := none } :: rest) σ w :=
  FL_val (Gives.buildSlice hE hp hlen) hd (h _ _ (H.alloc _) (Kept.alloc _ _))
/-- A block that is owned, read as a row. -/
theorem Sep.blkRow {b E m s : Nat} {cs : List Value} (H : Sep w₀ S rs w) (hat : At rs (blk b cs E) put) (hl : cs.length = m * s) : RowAt w (some ⟨b, 0, none⟩) m s cs :=
  ⟨hl, fun _ => ⟨_, rfl, fun j u hu => by rw [Addr.add_lit, Nat.zero_add, cell_blk (H.obj hat)]; exact hu⟩⟩
/-- A copy from a row into a block that is owned. -/
theorem gives_copy {ρ : Operand → Value} {b o dl dc m c : Nat} {x y : Operand} {dT sT e : TypeId} [hs : IsSlice P dT e] {bytes : Nat} [hc : Cells P e 1 bytes] {A : Option Addr} {cs cs' xs : List Value} {E : TypeId} (H : Sep w₀ S rs w) (hr : RowAt w A m 1 xs) (h1 : ∀ u ∈ xs, u.oneCell' = true)
    (hx : ρ x = .slice (some ⟨b, o, none⟩) dl dc) (hy : ρ y = .slice A m c) (hat : At rs (blk b cs E) put) (ho : o + min m dl ≤ cs.length) (hcs : cs.take o ++ xs.take (min m dl) ++ cs.drop (o + min m dl) = cs') :
    ∃ w', Gives P ρ (.call { callee := .builtin .copy, args := #[x, y], argTypes := #[dT, sT] }) ty w (.int .i64 (min m dl : Nat)) w' ∧ Sep w₀ S (put (blk b cs' E)) w' := by
  obtain ⟨i, hi, hsb⟩ := Option.map_eq_some_iff.1 hc.size
  simp only [Prod.mk.injEq] at hsb
  have hb := H.obj hat
  have hlen : xs.length = m := by have := hr.len; omega
  rcases A with _ | ad
  · have hm : m = 0 := by
      rcases Nat.eq_zero_or_pos m with h0 | h0
      · exact h0
      · obtain ⟨ad, h, _⟩ := hr.at_ h0; cases h
    subst hm
    refine ⟨w, fun _ _ _ _ => ?_, ?_⟩
    · have hrun : (Builtin.copy_ #[dT, sT] ty #[.slice (some ⟨b, o, none⟩) dl dc, .slice none 0 c]).run P w = .ok (goInt 0) w := by
        simp [Builtin.copy_, run_underlying hs.und, Builtin.lenOf, Builtin.firstCells, sizeOf, typeInfo, hi, storeCells]
      simp only [execOp, resolve, invoke, builtin, Sem.run_bind, Sem.run_pure, Result.andThen_ok, List.map_toArray, List.map_cons, List.map_nil, hx, hy, hrun]
      simp [goInt]
    · subst hcs
      have : cs.take o ++ xs.take (min 0 dl) ++ cs.drop (o + min 0 dl) = cs := by simp
      rw [this]
      exact H.imp hat fun _ h => h
  · refine ⟨w.setRow b (cs.take o ++ xs.take (min m dl) ++ cs.drop (o + min m dl)).toArray, fun _ _ _ _ => ?_, ?_⟩
    · have hrun := run_copy_row (P := P) w dT sT ty e b o dl dc ad m c cs.toArray E (xs.take (min m dl)) hs.und (by rw [hi]; simp [hsb.1]) hb (by simp [hlen]) (fun j v hj => by
        rw [List.getElem?_take] at hj
        split at hj
        · rename_i hlt
          obtain ⟨ad', h, hcell⟩ := hr.at_ (by omega)
          injection h with h
          subst h
          exact hcell j v hj
        · cases hj) (by simp [hlen]; omega) (fun u hu => h1 u (List.mem_of_mem_take hu))
      have e0 : (xs.take (min m dl)).length = min m dl := by simp [hlen]
      rw [e0] at hrun
      simp only [execOp, resolve, invoke, builtin, Sem.run_bind, Sem.run_pure, Result.andThen_ok, List.map_toArray, List.map_cons, List.map_nil, hx, hy, hrun]
      simp [goInt]
    · subst hcs
      refine H.setObj hat ⟨rfl, rfl, rfl, by simp, fun j hj hS => ?_⟩ ?_
      · simp only [World.setRow, Array.getElem?_modify]; rw [if_neg (fun e => hS e.symm)]
      · simp only [World.setRow, Array.getElem?_modify, if_true, hb, Option.map_some]
theorem FL_copy {d b o dl dc m c : Nat} {x y : Operand} {dT sT e : TypeId} [hs : IsSlice P dT e] {bytes : Nat} [hc : Cells P e 1 bytes] {A : Option Addr} {cs cs' xs : List Value} {E : TypeId} (H : Sep w₀ S rs w) (hr : RowAt w A m 1 xs) (h1 : ∀ u ∈ xs, u.oneCell' = true)
    (ho : o + min m dl ≤ cs.length) (hcs : cs.take o ++ xs.take (min m dl) ++ cs.drop (o + min m dl) = cs') (hx : evF σ x = .slice (some ⟨b, o, none⟩) dl dc := by exact rfl) (hy : evF σ y = .slice A m c := by exact rfl)
    (hat : At rs (blk b cs E) put := by first | exact At0 | exact At1 | exact At2 | exact At3 | exact At4 | exact At5 | exact At6 | exact At7 | exact At8 | exact At9) (hd : Nat.blt d n = true := by exact rfl)
    (h : ∀ w', Sep w₀ S (put (blk b cs' E)) w' → FL P r n ops Q rest (upd σ d (.int .i64 (min m dl : Nat))) w') :
    FL P r n ops Q ({ dst := some d, op := .call { callee := .builtin .copy, args := #[x, y], argTypes := #[dT, sT] }, type := ty, pos := pos, after := after, guard := none } :: rest) σ w := by
  obtain ⟨w', hg, hsep⟩ := gives_copy (P := P) (ρ := evF σ) (x := x) (y := y) (dT := dT) (sT := sT) (e := e) (ty := ty) H hr h1 hx hy hat ho hcs
  exact FL_val hg hd (h w' hsep)
end
end Go.Mw
