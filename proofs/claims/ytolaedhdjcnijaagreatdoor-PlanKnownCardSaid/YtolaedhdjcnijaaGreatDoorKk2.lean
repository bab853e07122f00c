/-
 Maps keyed by int, told by a function; maps.Clone. Nothing of a given program stands here.
-/
import Derived.Test.YtolaedhdjcnijaaGreatDoorKk1
import Derived.Laws.Externs
import Derived.MapKept
import Derived.RangeFuncIn
import Derived.Laws.BytesArg
import Derived.Laws.RangeString
import Derived.Laws.Strings
import Derived.Laws.IdiomStrings
import Derived.Laws.StructEq
import Derived.Test.YtolaedhdjcnijaaGreatDoorProg
import Derived.KernelRfl
import Derived.Laws.OwnMore
import Derived.Stop.BytesEq
import Derived.Lib.MapLaws
import Derived.Lib.ValidLaws
set_option linter.unusedVariables false
set_option linter.unusedSimpArgs false
namespace Go.Mw
open Go.RowKit

def mg (k : Int) (e : MapEntry) : Bool := match e.key with
 | .int .i64 a => a == k
 | _ => false
def yE (es : List MapEntry) (k : Int) : Option Value := (es.find? (mg k)).map (·.val)
def intKeys (es : List MapEntry) : Prop := ∀ e ∈ es, ∃ a, e.key = .int .i64 a
section
variable {w₀ w w' : World} {S : Nat → Prop} {rs : List HP} {put : HP → List HP} {P : Program}
theorem uY (k : Int) : ∀ (es : List MapEntry) (i : Nat), intKeys es → ∃ r, Instr.findNow (.int .i64) (.int .i64 k) es i = some r ∧ r.map (·.2) = yE es k ∧
    (∀ j v, r = some (j, v) → ∃ m, j = i + m ∧ ∃ e, es[m]? = some e ∧ mg k e = true ∧ es.find? (mg k) = some e ∧ ∀ m' e', m' < m → es[m']? = some e' → mg k e' = false) := by
  intro es
  induction es with
  | nil => intro i _; exact ⟨none, rfl, rfl, fun _ _ h => by cases h⟩
  | cons e es ih =>
    intro i hk
    obtain ⟨a, ha⟩ := hk e List.mem_cons_self
    obtain ⟨r, h1, h2, h3⟩ := ih (i + 1) fun x hx => hk x (List.mem_cons_of_mem _ hx)
    have hs : Instr.sameNow (.int .i64) (.int .i64 k) e.key = some (k == a) := by rw [ha]; simp [Instr.sameNow]
    have BZ : mg k e = (a == k) := by unfold mg; rw [ha]
    by_cases LX : k = a
    · subst LX
      have Gw : mg k e = true := by rw [BZ]; simp
      refine ⟨some (i, e.val), ?_, ?_, ?_⟩
      · unfold Instr.findNow; rw [hs]; simp
      · simp [yE, Gw]
      rintro j v Ec
      injection Ec with Ec
      injection Ec with h4 h5
      exact ⟨0, by omega, e, rfl, Gw, by simp [Gw], fun m' _ hm => by omega⟩
    have LY : mg k e = false := by rw [BZ]; simpa using fun h : a = k => LX h.symm
    refine ⟨r, ?_, ?_, ?_⟩
    · unfold Instr.findNow; rw [hs, h1]
      have : (k == a) = false := by simpa using LX
      rw [this]
    · rw [h2]; simp [yE, LY]
    rintro j v Ec
    obtain ⟨m, hm, e', Ut, hk', Wq, bU⟩ := h3 j v Ec
    refine ⟨m + 1, by omega, e', by simpa using Ut, hk', by simp [LY, Wq], fun m' e'' xK Ed => ?_⟩
    cases m' with
    | zero => simp at Ed; rw [← Ed]; exact LY
    | succ m' => exact bU m' e'' (by omega) (by simpa using Ed)
theorem oL {kt : TypeId} (hu : P.underlying kt = some (.int .i64)) (k : Int) (es : List MapEntry) (hk : intKeys es) :
    ∃ r, (Instr.findKey kt (.int .i64 k) es).run P w = .ok r w ∧ r.map (·.2) = yE es k ∧
    (∀ j v, r = some (j, v) → ∃ e, es[j]? = some e ∧ mg k e = true ∧ ∀ m' e', m' < j → es[m']? = some e' → mg k e' = false) := by
  obtain ⟨r, h1, h2, h3⟩ := uY k es 0 hk
  refine ⟨r, by simp [Instr.findKey, run_underlying hu, h1], h2, fun j v Ec => ?_⟩
  obtain ⟨m, hm, e, he, xR, _, bU⟩ := h3 j v Ec
  have : j = m := by omega
  subst this
  exact ⟨e, he, xR, bU⟩
theorem nU {kt : TypeId} (hu : P.underlying kt = some (.int .i64)) (b : Bool) (k : Int) (d : Nat) : (Instr.checkKey b (d + 1) kt (.int .i64 k)).run P w = .ok () w := by
 simp [Instr.checkKey, run_underlying hu]
theorem run_getObj_map {b : Nat} {es : Array MapEntry} {c : Nat} (h : w.heap[b]? = some (.map es c)) : (getObj b).run P w = .ok (.map es c) w := by
 simp [getObj, Sem.run, h]
end
end Go.Mw
namespace Go.Mw
open Go.RowKit

section
variable {P : Program} {r : Option Nat} {n : Nat} {ops : Array Oper} {Q : Post} {rest : List Oper} {σ : St} {w w₀ : World} {S : Nat → Prop} {rs : List HP} {ty : TypeId} {pos : String} {after : Array Edge}
theorem Gives.makeFunc {ρ : Operand → Value} {fn : Fn} {fs cs : List Operand} {us vs : List Value} (hf : fs.map ρ = us) (hc : cs.map ρ = vs) : Gives P ρ (.makeFunc fn fs.toArray cs.toArray) ty w (.func fn us.toArray vs.toArray) w := fun _ _ _ _ => by
 simp [execOp, Instr.makeFunc, hf, hc]
theorem jr {d : Nat} {y : Operand} {f : FuncId} {fs cs : List Value} {xs : List Operand} {ats : Array TypeId} {vals : List Value} {R : Value → World → Prop} [he : Enters P f] (hy : evF σ y = .func (.func f) fs.toArray cs.toArray) (hc : bF P f (fs ++ vals ++ cs) w R)
    (hv : xs.map (evF σ) = vals) (hd : Nat.blt d n = true) (h : ∀ v w', R v w' → FL P r n ops Q rest (upd σ d v) w') :
    FL P r n ops Q ({ dst := some d, op := .call { callee := .value y, args := xs.toArray, argTypes := ats }, type := ty, pos := pos, after := after, guard := none } :: rest) σ w := fun a ha =>
  wpListIn_plain rfl fun K hK => by
    refine ⟨fun _ _ => trivial, ?_⟩
    rw [Oper.semAt_eq _ _ _ (fun _ h => by cases h), ha.eval]
    have e : (execOp (evF σ) { dst := some d, op := .call { callee := .value y, args := xs.toArray, argTypes := ats }, type := ty, pos := pos, after := after, guard := none }).run P w = .ok (.enter f (fs ++ vals ++ cs).toArray) w := by
      simp [execOp, resolve, hy, Deferred.ofValue, invoke, hv]
      rw [← he.run (fs ++ (vals ++ cs)).toArray w]
    rw [e, Oper.uponIn_enter]
    refine ⟨(fun h => by cases h), rH r (Calls.mono hc fun e w'' hr => ?_)⟩
    cases e with
    | returned v => exact hK _ _ (h v w'' hr _ (ha.put (Nat.le_of_ble_eq_true hd) v))
    | _ => exact hr.elim
def Vr (st : LoopState) (fn : FuncId) (tmps : Array Value) (ps : Array Tmp) (assign body : Code) (D : Nat) : Obj := .loop { state := st, pending := none, fn := fn, tmps := tmps, params := ps, assign := assign, body := body, defers := D }

theorem Sep.Te {o o' : Obj} {b : Nat} (h : Sep w₀ S (Mw.obj b o :: rs) w) : Sep w₀ S (Mw.obj b o' :: rs) (w.putObj b o') := by
 have hb := h.obj At0
 have bU := lX hb
 exact h.setObj (At0 (p := Mw.obj b o) (l := rs)) ⟨rfl, rfl, rfl, by simp [World.putObj], fun k _ hS => World.putObj_heap_other hS⟩ (World.putObj_heap_same bU)

def OH (K : St → World → Prop) : Post := fun e σ w => match e with
 | .normal => K σ w
 | _ => False
theorem uZ {K : St → World → Prop} (h : K σ w) : OH K .normal σ w := h

end
end Go.Mw
namespace Go.Mw
open Go.RowKit

section
variable {P : Program} {r : Option Nat} {n : Nat} {ops : Array Oper} {Q : Post} {rest : List Oper} {σ : St} {w w₀ : World} {S : Nat → Prop} {rs : List HP} {put : HP → List HP} {op : Op} {ty : TypeId} {pos : String} {after : Array Edge}
theorem aG {t : Nat} {p : Prop} [Decidable p] {l : List Oper} (hb : σ.get t = .bool (decide p)) (h1 : p → FL P r n ops Q l (upd σ t (.bool true)) w) (h0 : ¬ p → FL P r n ops Q l (upd σ t (.bool false)) w) : FL P r n ops Q l σ w :=
 dh hb (fun h => h1 (of_decide_eq_true h)) (fun h => h0 (of_decide_eq_false h))
theorem Vw {dst : Option Nat} {j : Nat} {b : Bool} {t : Nat} (hj : (ops[j]?).bind (fun o : Oper => o.dst) = some t) (hb : σ.get t = undef) (hd : Ct n dst = true)
    (h : FL P r n ops Q rest (nu σ dst undef) w) :
    FL P r n ops Q ({ dst := dst, op := op, type := ty, pos := pos, after := after, guard := some (j, b) } :: rest) σ w := fun a ha => by
  have h1 := h _ (ha.Ep hd undef)
  have hy : Go.yielded ops a.tmps j = none := by
    unfold Go.yielded
    have hg := ha.get t
    rw [hb] at hg
    simp only [hj, Option.bind_some]
    cases hq : a.tmps[t]? with
    | none => rfl
    | some v =>
      have hv : v = undef := by simpa [Array.getD_eq_getD_getElem?, hq] using hg
      subst hv
      rfl
  have hw : Region.wanted { dst := dst, op := op, type := ty, pos := pos, after := after, guard := some (j, b) } (Go.yielded ops a.tmps) = false := by
    simp [Region.wanted, hy]
  unfold wpListIn
  rw [if_neg (by simp [hw])]
  exact ⟨fun _ _ => trivial, h1⟩
theorem Gives.XF {ρ : Operand → Value} {x : Operand} {s f k : Nat} [h : dZ P s f k] {a : Addr} {j : Nat} (hx : ρ x = .pointer (some (a.add j))) : Gives P ρ (.fieldAddr s x f) ty w (.pointer (some (a.add (j + k)))) w := fun _ _ _ _ => by
 simp only [execOp, hx, Sem.run_bind, h.run, Result.andThen_ok, Sem.run_pure, add_add]
theorem Gives.extract {ρ : Operand → Value} {x : Operand} {i : Nat} {vs : Array Value} {v : Value} (hx : ρ x = .tuple vs) (hv : vs[i]? = some v) : Gives P ρ (.extract x i) ty w v w := fun _ _ _ _ => by
 simp [execOp, hx, Instr.extract, hv]
theorem Gives.Tf {ρ : Operand → Value} {x : Operand} {s t e : TypeId} [hs : dA P s e] [he : iH P e .u8] [hd : lM P t] {A : Option Addr} {m c : Nat} {l : List UInt8} (hx : ρ x = .slice A m c) (hr : iI w A m 1 (l.map fun u => Value.int .u8 u.toNat)) : Gives P ρ (.convert s t x) ty w (.string ⟨l.toArray⟩) w := fun _ _ _ _ => by
  have hlen : l.length = m := by have := hr.len; simpa using this
  have iP : (convert s t (.slice A m c)).run P w = .ok (.string ⟨l.toArray⟩) w := by
    rcases A with _ | a
    · have h0 : m = 0 := by
        rcases Nat.eq_zero_or_pos m with h0 | h0
        · exact h0
        obtain ⟨ad, h, _⟩ := hr.at_ h0; cases h
      have hl : l = [] := List.eq_nil_of_length_eq_zero (by rw [hlen, h0])
      subst hl
      rw [run_convert_bytes_string w s t e none m c hs.und he.und hd.und]
      rfl
    rw [← hlen]
    refine run_convert_bytes_back w s t e a c l hs.und he.und hd.und fun j hj => ?_
    obtain ⟨ad, h, hc⟩ := hr.at_ (by omega)
    injection h with h
    subst h
    exact hc j _ (by simp [hj])
  simp only [execOp, hx, Sem.run_bind, iP, Result.andThen_ok, Sem.run_pure]
class aaE (P : Program) (f : FuncId) : Prop where
 run : ∀ args w, (callFunc f args).run P w = ((Extern.MapsClone.clone args).run P w).andThen fun v w' => .ok (.value v) w'
def lay (zs : List Value) (o : Nat) (us : List Value) : List Value := zs.take o ++ us ++ zs.drop (o + us.length)
theorem FE (o : Nat) : ∀ (us : List Value) (k : Nat) (zs : List Value), o + k + us.length ≤ zs.length →
    (us.zipIdx k).foldl (fun (cs : Array Value) (x : Value × Nat) => cs.setIfInBounds (o + x.2) x.1) zs.toArray = (lay zs (o + k) us).toArray
  | [], k, zs, _ => by simp [lay]
  | u :: us, k, zs, h => by
    simp only [List.zipIdx_cons, List.foldl_cons]
    have e : zs.toArray.setIfInBounds (o + k) u = (zs.set (o + k) u).toArray := by simp
    rw [e, FE o us (k + 1) _ (by simp at h ⊢; omega)]
    congr 1
    have := list_seg_step zs (o + k) u us (by simp at h; omega)
    unfold lay
    simp only [List.length_cons]
    rw [← Nat.add_assoc]
    exact this
def Fills (place : Nat → Option (Nat × Nat)) (ρ : Operand → Value) : List (Nat × Operand) → List Value → List Value → Prop
 | [], zs, out => zs = out
 | (i, x) :: l, zs, out => ∃ o us, place i = some (o, us.length) ∧ (ρ x).cells = us.toArray ∧ o + us.length ≤ zs.length ∧ Fills place ρ l (lay zs o us) out
theorem Cg {place : Nat → Option (Nat × Nat)} {ρ : Operand → Value} : ∀ {l : List (Nat × Operand)} {zs out : List Value}, Fills place ρ l zs out → Instr.fill place zs.toArray (l.map fun (i, x) => (i, ρ x)) = some out.toArray
 | [], zs, out, h => by have h : zs = out := h; subst h; rfl
 | (i, x) :: l, zs, out, ⟨o, us, h1, h2, h3, h4⟩ => by
  simp only [List.map_cons, Instr.fill, h1, h2]
  have e : (us.toArray.zipIdx.foldl (fun (cs : Array Value) (x : Value × Nat) => cs.setIfInBounds (o + x.2) x.1) zs.toArray) = (lay zs o us).toArray := by
   have e0 : us.toArray.zipIdx = (us.zipIdx 0).toArray := by simp
   rw [e0, List.foldl_toArray]
   exact FE o us 0 zs (by simpa using h3)
  have e2 : (us.toArray.size ≠ us.length || o + us.toArray.size > zs.toArray.size) = false := by simp; omega
  simp only [e2]
  exact (congrArg (fun z => Instr.fill place z (l.map fun (i, x) => (i, ρ x))) e).trans (Cg h4)
theorem Fills.nil {place : Nat → Option (Nat × Nat)} {ρ : Operand → Value} {zs : List Value} : Fills place ρ [] zs zs := rfl
theorem Vy {zs : List Value} {o : Nat} {v : Value} (h : o < zs.length) : lay zs o [v] = zs.set o v := by
 unfold lay
 rw [List.set_eq_take_append_cons_drop, if_pos h]
 simp
theorem Fills.one {place : Nat → Option (Nat × Nat)} {ρ : Operand → Value} {i o : Nat} {x : Operand} {l : List (Nat × Operand)} {v : Value} {zs zs' out : List Value} (hp : place i = some (o, 1)) (hx : ρ x = v) (hv : v.oneCell' = true) (ho : o < zs.length) (hs : zs.set o v = zs') (h : Fills place ρ l zs' out) : Fills place ρ ((i, x) :: l) zs out := by
 subst hs
 refine ⟨o, [v], hp, ?_, ho, by rw [Vy ho]; exact h⟩
 rw [hx]
 cases v <;> first | rfl | cases hv
theorem Fills.many {place : Nat → Option (Nat × Nat)} {ρ : Operand → Value} {i o : Nat} {x : Operand} {l : List (Nat × Operand)} {us zs zs' out : List Value} (hp : place i = some (o, us.length)) (hx : ρ x = .agg us.toArray) (ho : o + us.length ≤ zs.length) (hs : lay zs o us = zs') (h : Fills place ρ l zs' out) : Fills place ρ ((i, x) :: l) zs out := by
 subst hs
 exact ⟨o, us, hp, by rw [hx]; rfl, ho, h⟩
class oM (P : Program) (T : TypeId) (zs : outParam (List Value)) (pl : outParam (List (Nat × Nat))) : Prop where
 zero : ∀ w, (zeroValue T).run P w = .ok (.agg zs.toArray) w
 und : ∃ fields : Array Field, P.underlying T = some (.struct fields) ∧ ∀ w, (fields.mapM fun f => (do pure (f.offset, ← sizeOf f.type) : Sem (Nat × Nat))).run P w = .ok pl.toArray w
theorem Gives.build {ρ : Operand → Value} {T : TypeId} {zs : List Value} {pl : List (Nat × Nat)} [hb : oM P T zs pl] {parts : List (Nat × Operand)} {out : List Value} (h : Fills (fun i : Nat => pl[i]?) ρ parts zs out) : Gives P ρ (.build T parts.toArray) ty w (.agg out.toArray) w := fun _ _ _ _ => by
 obtain ⟨fields, hu, O6⟩ := hb.und
 have hf := Cg h
 have hpl' := O6 w
 simp only [execOp, Instr.build, Sem.run_bind, hb.zero, Result.andThen_ok, run_underlying hu, hpl', Value.cells, List.map_toArray, Sem.run_pure]
 have e : (fun x : Nat => pl.toArray[x]?) = fun i : Nat => pl[i]? := by funext i; simp
 simp only [e, hf, Sem.run_pure, Result.andThen_ok]

theorem Vz {a us b c : List Value} {o : Nat} (ho : a.length = o) (hb : b.length = us.length) : lay (a ++ (b ++ c)) o us = (a ++ us) ++ c := by
 unfold lay
 rw [List.take_append_of_le_length (by omega), List.take_of_length_le (by omega), ← List.append_assoc a b c, List.drop_append_of_le_length (by simp; omega), List.drop_of_length_le (by simp; omega), List.nil_append]
def aU (ρ : Operand → Value) (size : Nat) : List Operand → List Value → Prop
 | [], out => out = []
 | x :: l, out => ∃ us rest, (ρ x).cells = us.toArray ∧ us.length = size ∧ out = us ++ rest ∧ aU ρ size l rest
theorem Bh {ρ : Operand → Value} {size : Nat} : ∀ (l : List Operand) (k : Nat) (a z out : List Value), a.length = k * size → z.length = l.length * size → aU ρ size l out →
    Fills (fun i => some (i * size, size)) ρ ((l.zipIdx k).map fun p => (p.2, p.1)) (a ++ z) (a ++ out)
  | [], k, a, z, out, _, hz, h => by
    have h : out = [] := h
    subst h
    have : z = [] := List.eq_nil_of_length_eq_zero (by simpa using hz)
    subst this
    exact rfl
  | x :: l, k, a, z, out, ha, hz, ⟨us, rest, h1, h2, h3, h4⟩ => by
    subst h3
    have hz' : z.length = size + l.length * size := by rw [hz, List.length_cons, Nat.add_mul]; omega
    refine ⟨k * size, us, by rw [h2], h1, by rw [List.length_append, ha, hz', h2]; omega, ?_⟩
    have e : z = z.take size ++ z.drop size := (List.take_append_drop size z).symm
    rw [e, Vz ha (by rw [List.length_take, h2]; omega), ← List.append_assoc]
    exact Bh l (k + 1) (a ++ us) (z.drop size) rest (by rw [List.length_append, ha, h2, Nat.add_mul]; omega) (by rw [List.length_drop]; omega) h4
theorem aU.nil {ρ : Operand → Value} {size : Nat} : aU ρ size [] [] := rfl
theorem aU.one {ρ : Operand → Value} {x : Operand} {l : List Operand} {v : Value} {rest : List Value} (hx : ρ x = v) (hv : v.oneCell' = true) (h : aU ρ 1 l rest) : aU ρ 1 (x :: l) (v :: rest) :=
 ⟨[v], rest, (by rw [hx]; cases v <;> first | rfl | cases hv), rfl, rfl, h⟩
theorem aU.many {ρ : Operand → Value} {size : Nat} {x : Operand} {l : List Operand} {us rest : List Value} (hx : ρ x = .agg us.toArray) (hl : us.length = size) (h : aU ρ size l rest) : aU ρ size (x :: l) (us ++ rest) :=
 ⟨us, rest, by rw [hx]; rfl, hl, rfl, h⟩
theorem Gives.buildSlice {ρ : Operand → Value} {t e : TypeId} {xs : List Operand} {parts : List (Nat × Operand)} {out : List Value} {size bytes : Nat} [hs : dA P t e] [hc : Cells P e size bytes] {z : Value} [hz : Zero P e z] (hE : aU ρ size xs out) (hp : parts = (xs.zipIdx 0).map fun p => (p.2, p.1)) (hlen : Nat.ble (xs.length * size) 16777216 = true) :
    Gives P ρ (.buildSlice t xs.length parts.toArray) ty w (.slice (some ⟨w.heap.size, 0, none⟩) xs.length xs.length) (w.alloc (.cells out.toArray e)) := fun _ _ _ _ => by
  obtain ⟨i, hi, qB⟩ := Option.map_eq_some_iff.1 hc.size
  simp only [Prod.mk.injEq] at qB
  have rG := Nat.le_of_ble_eq_true hlen
  have Xn : ∀ Z : List Value, Z.length = xs.length * size → Instr.fill (fun i => some (i * size, size)) Z.toArray (parts.map fun (i, x) => (i, ρ x)) = some out.toArray := fun Z hZ => by
    subst hp
    exact Cg (Bh xs 0 [] Z out (by simp) hZ hE)
  have abQ : ¬ (2 ^ 24 < xs.length * size) := by omega
  by_cases h0 : xs.length * size = 0
  · have := Xn [] (by simp [h0])
    simp at this
    simp only [execOp, Instr.buildSlice, Sem.run_bind, run_underlying hs.und, Result.andThen_ok, sizeOf, typeInfo, run_program, hi, Sem.run_pure, qB.1]
    simp only [h0, Array.range_zero']
    simp
    rw [this]
    simp [newRow]
  obtain ⟨Z, hZ⟩ : ∃ Z : List Value, (Array.range (xs.length * size)).map (fun x => z.cells[x % z.cells.size]!) = Z.toArray := ⟨_, (Array.toArray_toList).symm⟩
  have hZl : Z.length = xs.length * size := by
    have := congrArg Array.size hZ
    simpa using this.symm
  simp only [execOp, Instr.buildSlice, Sem.run_bind, run_underlying hs.und, Result.andThen_ok, sizeOf, typeInfo, run_program, hi, Sem.run_pure, qB.1]
  simp only [gt_iff_lt, abQ, if_false, h0, hz.run, Result.andThen_ok, Sem.run_bind, Sem.run_pure, List.map_toArray, hZ, Xn Z hZl]
  simp [newRow]
theorem aX {d : Nat} {t e : TypeId} {xs : List Operand} {parts : List (Nat × Operand)} {out : List Value} {size bytes : Nat} [hs : dA P t e] [hc : Cells P e size bytes] {z : Value} [hz : Zero P e z] (H : Sep w₀ S rs w) (hE : aU (evF σ) size xs out) (hp : parts = (xs.zipIdx 0).map fun p => (p.2, p.1)) (hlen : Nat.ble (xs.length * size) 16777216 = true) (hd : Nat.blt d n = true)
    (h : ∀ b w', Sep w₀ S (blk b out e :: rs) w' → Kept noB w w' → FL P r n ops Q rest (upd σ d (.slice (some ⟨b, 0, none⟩) xs.length xs.length)) w') :
    FL P r n ops Q ({ dst := some d, op := .buildSlice t xs.length parts.toArray, type := ty, pos := pos, after := after, guard := none } :: rest) σ w :=
  eu (Gives.buildSlice hE hp hlen) hd (h _ _ (H.alloc _) (Kept.alloc _ _))
theorem Sep.gJ {b E m s : Nat} {cs : List Value} (H : Sep w₀ S rs w) (hat : At rs (blk b cs E) put) (hl : cs.length = m * s) : iI w (some ⟨b, 0, none⟩) m s cs :=
 ⟨hl, fun _ => ⟨_, rfl, fun j u hu => by rw [Addr.add_lit, Nat.zero_add, og (H.obj hat)]; exact hu⟩⟩
end
end Go.Mw
namespace Go.Mw
open Go.RowKit

def str (l : List UInt8) : Value := .string ⟨l.toArray⟩
theorem size_mk (l : List UInt8) : (⟨l.toArray⟩ : ByteArray).size = l.length := by simp [ByteArray.size]
theorem extract_mk (l : List UInt8) (a b : Nat) : (⟨l.toArray⟩ : ByteArray).extract a b = ⟨((l.take b).drop a).toArray⟩ := by
 apply ByteArray.ext
 rw [ByteArray.data_extract]
 apply Array.ext'
 rw [Array.toList_extract]
 simp [List.extract_eq_take_drop, List.drop_take]
theorem P9 (a b : List UInt8) : (⟨a.toArray⟩ : ByteArray) ++ ⟨b.toArray⟩ = ⟨(a ++ b).toArray⟩ := by
 apply ByteArray.ext
 rw [ByteArray.data_append]
 simp
section gives
variable {P : Program} {ρ : Operand → Value} {ty : TypeId} {w w' : World} {x y z : Operand} {a b l : List UInt8}
theorem Gives.VA {t : TypeId} [h : lM P t] (hx : ρ x = str l) : Gives P ρ (.call { callee := .builtin .len, args := #[x], argTypes := #[t] }) ty w (.int .i64 l.length) w := by
 have := Gives.lenStr (P := P) (ty := ty) (w := w) (t := t) hx
 rw [size_mk] at this; exact this
theorem Gives.iD {T U : TypeId} (hx : ρ x = str a) (hy : ρ y = str b) : Gives P ρ (.binOp .eql T x y U) ty w (.bool (decide (a = b))) w := by
 have := Gives.aaZ (P := P) (ty := ty) (w := w) (T := T) (U := U) hx hy
 rw [ByteArray.toList_mk, ByteArray.toList_mk, show (a == b) = decide (a = b) from by rw [Bool.eq_iff_iff]; simp] at this; exact this
theorem Gives.EA {T U : TypeId} (hx : ρ x = str a) (hy : ρ y = str b) : Gives P ρ (.binOp .neq T x y U) ty w (.bool (decide (a ≠ b))) w := by
 have := Gives.aa0 (P := P) (ty := ty) (w := w) (T := T) (U := U) hx hy
 rw [ByteArray.toList_mk, ByteArray.toList_mk, show (!(a == b)) = decide (a ≠ b) from by rw [Bool.eq_iff_iff]; simp] at this; exact this
theorem Gives.iW {T U : TypeId} (hx : ρ x = str a) (hy : ρ y = str b) (h : a.length + b.length ≤ 9223372036854775807) : Gives P ρ (.binOp .add T x y U) ty w (str (a ++ b)) w := .bin hx hy (fun _ _ => rfl) (by
 show (Op.stringOp .add _ _).run P w = _
 simp only [Op.stringOp, size_mk]
 rw [if_neg (by show ¬ (((a.length + b.length : Nat) : Int) > 9223372036854775807); omega), P9]
 rfl)
theorem Gives.aa3 {t : TypeId} [h : lM P t] {k : IntKind} {i : Nat} {c : UInt8} (hx : ρ x = str l) (hy : ρ y = .int k i) (hc : l[i]? = some c) : Gives P ρ (.index t x y) ty w (.int .u8 c.toNat) w := fun _ _ _ _ => by
 have bU := (List.getElem?_eq_some_iff.1 hc).1
 have e : (⟨l.toArray⟩ : ByteArray)[i]? = some c := by
  rw [getElem?_pos (h := by rw [size_mk]; exact bU)]
  show some (l.toArray[i]) = _
  rw [List.getElem_toArray, ← List.getElem?_eq_getElem bU, hc]
 simp only [execOp, Instr.index, hx, hy, str, Sem.run_bind]
 simp [asIntOf, run_underlying h.und, e]
theorem Gives.lq {t : TypeId} [h : lM P t] {k : IntKind} {i : Nat} (hx : ρ x = str l) (hy : ρ y = .int k i) (hi : i ≤ l.length) : Gives P ρ (.slice t x none (some y) none) ty w (str (l.take i)) w := fun _ _ _ _ => by
 have e1 : (0 : Int) ≤ (i : Int) ∧ (i : Int) ≤ ((⟨l.toArray⟩ : ByteArray).size : Int) := by rw [size_mk]; omega
 simp [execOp, hx, hy, str, Instr.sliceAt, Instr.slice, run_underlying h.und, Instr.sliceBounds, Instr.sliceBound, asIntOf, e1, extract_mk, size_mk]
 try omega
theorem Gives.dW {t : TypeId} [h : lM P t] {k : IntKind} {i : Nat} (hx : ρ x = str l) (hy : ρ y = .int k i) (hi : i ≤ l.length) : Gives P ρ (.slice t x (some y) none none) ty w (str (l.drop i)) w := fun _ _ _ _ => by
 have e1 : (0 : Int) ≤ (i : Int) ∧ (i : Int) ≤ ((⟨l.toArray⟩ : ByteArray).size : Int) := by rw [size_mk]; omega
 simp [execOp, hx, hy, str, Instr.sliceAt, Instr.slice, run_underlying h.und, Instr.sliceBounds, Instr.sliceBound, asIntOf, e1, extract_mk, size_mk]
 try omega
theorem Gives.fE {t : TypeId} [h : lM P t] {k j : IntKind} {i m : Nat} (hx : ρ x = str l) (hy : ρ y = .int k i) (hz : ρ z = .int j m) (hi : i ≤ m) (hm : m ≤ l.length) : Gives P ρ (.slice t x (some y) (some z) none) ty w (str ((l.take m).drop i)) w := fun _ _ _ _ => by
 have e1 : (0 : Int) ≤ (i : Int) ∧ (i : Int) ≤ (m : Int) := by omega
 have e2 : (0 : Int) ≤ (m : Int) ∧ (m : Int) ≤ ((⟨l.toArray⟩ : ByteArray).size : Int) := by rw [size_mk]; omega
 simp [execOp, hx, hy, hz, str, Instr.sliceAt, Instr.slice, run_underlying h.und, Instr.sliceBounds, Instr.sliceBound, asIntOf, e1, e2, extract_mk, size_mk, hi, hm]
def BP (r : Int) : List UInt8 := (Utf8.encode r).data.toList
theorem Dg (r : Int) : Value.string (Utf8.encode r) = str (BP r) := by
 unfold BP str
 congr 1
theorem Gives.Tg {s t : TypeId} {k : IntKind} [hs : iH P s k] [ht : lM P t] {n : Int} (hx : ρ x = .int k n) : Gives P ρ (.convert s t x) ty w (str (BP n)) w := fun _ _ _ _ => by
 rw [← Dg]
 simp [execOp, hx, convert, run_underlying hs.und, run_underlying ht.und, Conv.intToString]
theorem Gives.tq {s t e : TypeId} [hs : dA P s e] [he : iH P e .u8] [hd : lM P t] {A : Option Addr} {m c : Nat} (hx : ρ x = .slice A m c) (hr : iI w A m 1 (l.map fun u => Value.int .u8 u.toNat)) : Gives P ρ (.convert s t x) ty w (str l) w := Gives.Tf hx hr
end gives
section rules
variable {P : Program} {r : Option Nat} {n : Nat} {ops : Array Oper} {Q : Post} {rest : List Oper} {σ : St} {w w' w₀ : World} {S : Nat → Prop} {rs : List HP} {put : HP → List HP} {ty : TypeId} {pos : String} {after : Array Edge} {l : List UInt8}
end rules
end Go.Mw
namespace Go.Mw
open Go.RowKit

class Ch (P : Program) (s f : Nat) (o : outParam Nat) (t : outParam TypeId) : Prop where
 und : ∃ fields, P.underlying s = some (.struct fields) ∧ (fields[f]?).map (fun f : Field => (f.offset, f.type)) = some (o, t)
class EqData (P : Program) (T : TypeId) (α : Type) [DecidableEq α] (enc : α → List Value) : Prop where
 run : ∀ (a b : α) (w : World), (Op.equalIn 10000 T (.agg (enc a).toArray) (.agg (enc b).toArray)).run P w = .ok (decide (a = b)) w
 guard : P.eqGuardType P.depth T = false
section gives
variable {P : Program} {ρ : Operand → Value} {ty : TypeId} {w w' : World} {x y z : Operand} {l : List UInt8}
theorem Ah {t : TypeId} [h1 : OneCell P t] {cs : List Value} {o : Nat} {v : Value} (hv : cs[o]? = some v) : (part t cs.toArray o).run P w = .ok v w := by
 simp [part, h1.agg, hv]
theorem FH {t k : TypeId} [h1 : Agg P t k] {cs us : List Value} {o : Nat} (hu : (cs.drop o).take k = us) : (part t cs.toArray o).run P w = .ok (.agg us.toArray) w := by
 have e : cs.toArray.extract o (o + k) = us.toArray := by
  subst hu
  apply Array.ext'
  rw [Array.toList_extract]
  simp [List.extract_eq_take_drop]
 simp only [part, Sem.run_bind, h1.agg, Result.andThen_ok, if_true, h1.size, Sem.run_pure]
 rw [e]
theorem Gives.Dh {s f o t : Nat} [h : Ch P s f o t] [h1 : OneCell P t] {cs : List Value} {v : Value} (hx : ρ x = .agg cs.toArray) (hv : cs[o]? = some v) : Gives P ρ (.field s x f) ty w v w := fun _ _ _ _ => by
 obtain ⟨fields, hf, hm⟩ := h.und
 obtain ⟨fl, O7, he⟩ := Option.map_eq_some_iff.1 hm
 simp only [Prod.mk.injEq] at he
 obtain ⟨UW, Ym⟩ := he
 subst Ym; subst UW
 simp [execOp, hx, Instr.field, run_underlying hf, O7, asAgg, Ah (P := P) (w := w) (t := fl.type) hv]
theorem Gives.fF {t : TypeId} [h : lM P t] {k : IntKind} {i : Nat} (hx : ρ x = str l) (hy : ρ y = .int k i) (hi : i < l.length) : Gives P ρ (.index t x y) ty w (.int .u8 (l.getD i 0).toNat) w :=
 Gives.aa3 hx hy (by rw [List.getD_eq_getElem?_getD, List.getElem?_eq_getElem hi]; rfl)
theorem Gives.VB {T U : TypeId} {α : Type} [DecidableEq α] {enc : α → List Value} [h : EqData P T α enc] (a b : α) (hx : ρ x = .agg (enc a).toArray) (hy : ρ y = .agg (enc b).toArray) : Gives P ρ (.binOp .neq T x y U) ty w (.bool (decide (a ≠ b))) w :=
 .bin hx hy (fun x y => run_eqGuard_agg w .neq T x y _ _ h.guard) (by rw [run_neq_struct, h.run]; simp [Result.andThen])
end gives
end Go.Mw
namespace Go.Proofs.YtolaedhdjcnijaaGreatDoor
open Go Go.Mw
instance : OneCell Tryz.prog 1 := ⟨fun _ => by kernel_rfl, fun _ => by kernel_rfl⟩
instance : Zero Tryz.prog 1 (Value.nilFunc) := ⟨fun _ => by kernel_rfl⟩
instance : Cells Tryz.prog 1 1 8 := ⟨by kernel_rfl⟩
instance Zq : OneCell Tryz.prog 2 := ⟨fun _ => by kernel_rfl, fun _ => by kernel_rfl⟩
instance : Zero Tryz.prog 2 (Value.int .i64 0) := ⟨fun _ => by kernel_rfl⟩
instance : Cells Tryz.prog 2 1 8 := ⟨by kernel_rfl⟩
instance : iH Tryz.prog 2 .i64 := ⟨by kernel_rfl⟩
instance XG : OneCell Tryz.prog 3 := ⟨fun _ => by kernel_rfl, fun _ => by kernel_rfl⟩
instance : Zero Tryz.prog 3 (Value.int .i64 0) := ⟨fun _ => by kernel_rfl⟩
instance : Cells Tryz.prog 3 1 8 := ⟨by kernel_rfl⟩
instance : iH Tryz.prog 3 .i64 := ⟨by kernel_rfl⟩
instance Zr : OneCell Tryz.prog 4 := ⟨fun _ => by kernel_rfl, fun _ => by kernel_rfl⟩
instance : Zero Tryz.prog 4 (Value.bool false) := ⟨fun _ => by kernel_rfl⟩
instance : Cells Tryz.prog 4 1 1 := ⟨by kernel_rfl⟩
instance : Rq Tryz.prog 4 := ⟨by kernel_rfl⟩
instance : OneCell Tryz.prog 5 := ⟨fun _ => by kernel_rfl, fun _ => by kernel_rfl⟩
instance : Zero Tryz.prog 5 (Value.int .u8 0) := ⟨fun _ => by kernel_rfl⟩
instance : Cells Tryz.prog 5 1 1 := ⟨by kernel_rfl⟩
instance : iH Tryz.prog 5 .u8 := ⟨by kernel_rfl⟩
instance : OneCell Tryz.prog 6 := ⟨fun _ => by kernel_rfl, fun _ => by kernel_rfl⟩
instance : Zero Tryz.prog 6 (Value.int .u8 0) := ⟨fun _ => by kernel_rfl⟩
instance : Cells Tryz.prog 6 1 1 := ⟨by kernel_rfl⟩
instance : iH Tryz.prog 6 .u8 := ⟨by kernel_rfl⟩
instance XH : OneCell Tryz.prog 9 := ⟨fun _ => by kernel_rfl, fun _ => by kernel_rfl⟩
instance : Zero Tryz.prog 9 (Value.string .empty) := ⟨fun _ => by kernel_rfl⟩
instance : Cells Tryz.prog 9 1 16 := ⟨by kernel_rfl⟩
instance : lM Tryz.prog 9 := ⟨by kernel_rfl⟩
instance : OneCell Tryz.prog 12 := ⟨fun _ => by kernel_rfl, fun _ => by kernel_rfl⟩
instance : Zero Tryz.prog 12 (Value.int .u64 0) := ⟨fun _ => by kernel_rfl⟩
instance : Cells Tryz.prog 12 1 8 := ⟨by kernel_rfl⟩
instance : iH Tryz.prog 12 .u64 := ⟨by kernel_rfl⟩
instance : OneCell Tryz.prog 20 := ⟨fun _ => by kernel_rfl, fun _ => by kernel_rfl⟩
instance : Zero Tryz.prog 20 (Value.nilIface) := ⟨fun _ => by kernel_rfl⟩
instance : Cells Tryz.prog 20 1 16 := ⟨by kernel_rfl⟩
instance : OneCell Tryz.prog 21 := ⟨fun _ => by kernel_rfl, fun _ => by kernel_rfl⟩
instance : Zero Tryz.prog 21 (Value.int .i32 0) := ⟨fun _ => by kernel_rfl⟩
instance : Cells Tryz.prog 21 1 4 := ⟨by kernel_rfl⟩
instance : iH Tryz.prog 21 .i32 := ⟨by kernel_rfl⟩
instance : OneCell Tryz.prog 22 := ⟨fun _ => by kernel_rfl, fun _ => by kernel_rfl⟩
instance : Zero Tryz.prog 22 (Value.slice none 0 0) := ⟨fun _ => by kernel_rfl⟩
instance : Cells Tryz.prog 22 1 24 := ⟨by kernel_rfl⟩
instance : dA Tryz.prog 22 60 := ⟨by kernel_rfl⟩
instance : OneCell Tryz.prog 23 := ⟨fun _ => by kernel_rfl, fun _ => by kernel_rfl⟩
instance : Zero Tryz.prog 23 (Value.slice none 0 0) := ⟨fun _ => by kernel_rfl⟩
instance : Cells Tryz.prog 23 1 24 := ⟨by kernel_rfl⟩
instance : dA Tryz.prog 23 53 := ⟨by kernel_rfl⟩
instance : Agg Tryz.prog 25 3 := ⟨fun _ => by kernel_rfl, fun _ => by kernel_rfl⟩
instance : Zero Tryz.prog 25 (Value.agg #[Value.slice none 0 0, Value.slice none 0 0, Value.int .i64 0]) := ⟨fun _ => by kernel_rfl⟩
instance : Cells Tryz.prog 25 3 56 := ⟨by kernel_rfl⟩
instance : OneCell Tryz.prog 27 := ⟨fun _ => by kernel_rfl, fun _ => by kernel_rfl⟩
instance : Zero Tryz.prog 27 (Value.int .i64 0) := ⟨fun _ => by kernel_rfl⟩
instance : Cells Tryz.prog 27 1 8 := ⟨by kernel_rfl⟩
instance : iH Tryz.prog 27 .i64 := ⟨by kernel_rfl⟩
instance : OneCell Tryz.prog 35 := ⟨fun _ => by kernel_rfl, fun _ => by kernel_rfl⟩
instance : Zero Tryz.prog 35 (Value.slice none 0 0) := ⟨fun _ => by kernel_rfl⟩
instance : Cells Tryz.prog 35 1 24 := ⟨by kernel_rfl⟩
instance : dA Tryz.prog 35 95 := ⟨by kernel_rfl⟩
instance : OneCell Tryz.prog 39 := ⟨fun _ => by kernel_rfl, fun _ => by kernel_rfl⟩
instance : Zero Tryz.prog 39 (Value.nilFunc) := ⟨fun _ => by kernel_rfl⟩
instance : Cells Tryz.prog 39 1 8 := ⟨by kernel_rfl⟩
instance : OneCell Tryz.prog 40 := ⟨fun _ => by kernel_rfl, fun _ => by kernel_rfl⟩
instance : Zero Tryz.prog 40 (Value.slice none 0 0) := ⟨fun _ => by kernel_rfl⟩
instance : Cells Tryz.prog 40 1 24 := ⟨by kernel_rfl⟩
instance : dA Tryz.prog 40 49 := ⟨by kernel_rfl⟩
instance Zt : Agg Tryz.prog 45 2 := ⟨fun _ => by kernel_rfl, fun _ => by kernel_rfl⟩
instance : Zero Tryz.prog 45 (Value.agg #[Value.int .i64 0, Value.bool false]) := ⟨fun _ => by kernel_rfl⟩
instance : Cells Tryz.prog 45 2 16 := ⟨by kernel_rfl⟩
instance Zu : Agg Tryz.prog 47 3 := ⟨fun _ => by kernel_rfl, fun _ => by kernel_rfl⟩
instance : Zero Tryz.prog 47 (Value.agg #[Value.bool false, Value.int .i64 0, Value.string .empty]) := ⟨fun _ => by kernel_rfl⟩
instance : Cells Tryz.prog 47 3 32 := ⟨by kernel_rfl⟩
instance : Agg Tryz.prog 49 7 := ⟨fun _ => by kernel_rfl, fun _ => by kernel_rfl⟩
instance : Zero Tryz.prog 49 (Value.agg #[Value.int .i64 0, Value.string .empty, Value.int .i64 0, Value.bool false, Value.bool false, Value.int .i64 0, Value.string .empty]) := ⟨fun _ => by kernel_rfl⟩
instance : Cells Tryz.prog 49 7 72 := ⟨by kernel_rfl⟩
instance : Agg Tryz.prog 53 2 := ⟨fun _ => by kernel_rfl, fun _ => by kernel_rfl⟩
instance : Zero Tryz.prog 53 (Value.agg #[Value.string .empty, Value.slice none 0 0]) := ⟨fun _ => by kernel_rfl⟩
instance : Cells Tryz.prog 53 2 40 := ⟨by kernel_rfl⟩
instance : OneCell Tryz.prog 56 := ⟨fun _ => by kernel_rfl, fun _ => by kernel_rfl⟩
instance : Zero Tryz.prog 56 (Value.slice none 0 0) := ⟨fun _ => by kernel_rfl⟩
instance : Cells Tryz.prog 56 1 24 := ⟨by kernel_rfl⟩
instance : dA Tryz.prog 56 9 := ⟨by kernel_rfl⟩
instance : OneCell Tryz.prog 57 := ⟨fun _ => by kernel_rfl, fun _ => by kernel_rfl⟩
instance : Zero Tryz.prog 57 (Value.slice none 0 0) := ⟨fun _ => by kernel_rfl⟩
instance : Cells Tryz.prog 57 1 24 := ⟨by kernel_rfl⟩
instance : dA Tryz.prog 57 3 := ⟨by kernel_rfl⟩
instance : Agg Tryz.prog 60 3 := ⟨fun _ => by kernel_rfl, fun _ => by kernel_rfl⟩
instance : Zero Tryz.prog 60 (Value.agg #[Value.int .i64 0, Value.int .i64 0, Value.string .empty]) := ⟨fun _ => by kernel_rfl⟩
instance : Cells Tryz.prog 60 3 32 := ⟨by kernel_rfl⟩
instance : Agg Tryz.prog 74 4 := ⟨fun _ => by kernel_rfl, fun _ => by kernel_rfl⟩
instance : Zero Tryz.prog 74 (Value.agg #[Value.slice none 0 0, Value.slice none 0 0, Value.int .i64 0, Value.int .i64 0]) := ⟨fun _ => by kernel_rfl⟩
instance : Cells Tryz.prog 74 4 64 := ⟨by kernel_rfl⟩
instance : OneCell Tryz.prog 75 := ⟨fun _ => by kernel_rfl, fun _ => by kernel_rfl⟩
instance : Zero Tryz.prog 75 (Value.nilFunc) := ⟨fun _ => by kernel_rfl⟩
instance : Cells Tryz.prog 75 1 8 := ⟨by kernel_rfl⟩
instance : OneCell Tryz.prog 76 := ⟨fun _ => by kernel_rfl, fun _ => by kernel_rfl⟩
instance : Zero Tryz.prog 76 (Value.nilFunc) := ⟨fun _ => by kernel_rfl⟩
instance : Cells Tryz.prog 76 1 8 := ⟨by kernel_rfl⟩
instance : Agg Tryz.prog 95 2 := ⟨fun _ => by kernel_rfl, fun _ => by kernel_rfl⟩
instance : Zero Tryz.prog 95 (Value.agg #[Value.int .i64 0, Value.int .i64 0]) := ⟨fun _ => by kernel_rfl⟩
instance : Cells Tryz.prog 95 2 16 := ⟨by kernel_rfl⟩
instance : lI Tryz.prog 95 2 3 := ⟨by kernel_rfl⟩
instance : OneCell Tryz.prog 96 := ⟨fun _ => by kernel_rfl, fun _ => by kernel_rfl⟩
instance : Zero Tryz.prog 96 (Value.nilFunc) := ⟨fun _ => by kernel_rfl⟩
instance : Cells Tryz.prog 96 1 8 := ⟨by kernel_rfl⟩
instance : OneCell Tryz.prog 100 := ⟨fun _ => by kernel_rfl, fun _ => by kernel_rfl⟩
instance : Zero Tryz.prog 100 (Value.nilFunc) := ⟨fun _ => by kernel_rfl⟩
instance : Cells Tryz.prog 100 1 8 := ⟨by kernel_rfl⟩
instance : OneCell Tryz.prog 101 := ⟨fun _ => by kernel_rfl, fun _ => by kernel_rfl⟩
instance : Zero Tryz.prog 101 (Value.slice none 0 0) := ⟨fun _ => by kernel_rfl⟩
instance : Cells Tryz.prog 101 1 24 := ⟨by kernel_rfl⟩
instance : dA Tryz.prog 101 45 := ⟨by kernel_rfl⟩
instance : Agg Tryz.prog 103 1 := ⟨fun _ => by kernel_rfl, fun _ => by kernel_rfl⟩
instance : Zero Tryz.prog 103 (Value.agg #[Value.slice none 0 0]) := ⟨fun _ => by kernel_rfl⟩
instance : Cells Tryz.prog 103 1 24 := ⟨by kernel_rfl⟩
instance : OneCell Tryz.prog 112 := ⟨fun _ => by kernel_rfl, fun _ => by kernel_rfl⟩
instance : Zero Tryz.prog 112 (Value.nilFunc) := ⟨fun _ => by kernel_rfl⟩
instance : Cells Tryz.prog 112 1 8 := ⟨by kernel_rfl⟩
instance : OneCell Tryz.prog 117 := ⟨fun _ => by kernel_rfl, fun _ => by kernel_rfl⟩
instance : Zero Tryz.prog 117 (Value.int .u64 0) := ⟨fun _ => by kernel_rfl⟩
instance : Cells Tryz.prog 117 1 8 := ⟨by kernel_rfl⟩
instance : iH Tryz.prog 117 .u64 := ⟨by kernel_rfl⟩
instance : OneCell Tryz.prog 121 := ⟨fun _ => by kernel_rfl, fun _ => by kernel_rfl⟩
instance : Zero Tryz.prog 121 (Value.pointer none) := ⟨fun _ => by kernel_rfl⟩
instance : Cells Tryz.prog 121 1 8 := ⟨by kernel_rfl⟩
instance : uz Tryz.prog 121 := ⟨_, (by kernel_rfl : Program.underlying _ _ = some (.pointer 124))⟩
instance : OneCell Tryz.prog 122 := ⟨fun _ => by kernel_rfl, fun _ => by kernel_rfl⟩
instance : Zero Tryz.prog 122 (Value.slice none 0 0) := ⟨fun _ => by kernel_rfl⟩
instance : Cells Tryz.prog 122 1 24 := ⟨by kernel_rfl⟩
instance : dA Tryz.prog 122 5 := ⟨by kernel_rfl⟩
instance : Agg Tryz.prog 124 2 := ⟨fun _ => by kernel_rfl, fun _ => by kernel_rfl⟩
instance : Zero Tryz.prog 124 (Value.agg #[Value.pointer none, Value.slice none 0 0]) := ⟨fun _ => by kernel_rfl⟩
instance : Cells Tryz.prog 124 2 32 := ⟨by kernel_rfl⟩
instance : OneCell Tryz.prog 127 := ⟨fun _ => by kernel_rfl, fun _ => by kernel_rfl⟩
instance : Zero Tryz.prog 127 (Value.nilIface) := ⟨fun _ => by kernel_rfl⟩
instance : Cells Tryz.prog 127 1 16 := ⟨by kernel_rfl⟩
instance : OneCell Tryz.prog 132 := ⟨fun _ => by kernel_rfl, fun _ => by kernel_rfl⟩
instance : Zero Tryz.prog 132 (Value.map none) := ⟨fun _ => by kernel_rfl⟩
instance : Cells Tryz.prog 132 1 8 := ⟨by kernel_rfl⟩
instance : IsMap Tryz.prog 132 9 3 := ⟨by kernel_rfl⟩
instance : OneCell Tryz.prog 134 := ⟨fun _ => by kernel_rfl, fun _ => by kernel_rfl⟩
instance : Zero Tryz.prog 134 (Value.pointer none) := ⟨fun _ => by kernel_rfl⟩
instance : Cells Tryz.prog 134 1 8 := ⟨by kernel_rfl⟩
instance : uz Tryz.prog 134 := ⟨_, (by kernel_rfl : Program.underlying _ _ = some (.pointer 74))⟩
instance : OneCell Tryz.prog 143 := ⟨fun _ => by kernel_rfl, fun _ => by kernel_rfl⟩
instance : Zero Tryz.prog 143 (Value.pointer none) := ⟨fun _ => by kernel_rfl⟩
instance : Cells Tryz.prog 143 1 8 := ⟨by kernel_rfl⟩
instance : uz Tryz.prog 143 := ⟨_, (by kernel_rfl : Program.underlying _ _ = some (.pointer 103))⟩
instance : Agg Tryz.prog 145 6 := ⟨fun _ => by kernel_rfl, fun _ => by kernel_rfl⟩
instance : Zero Tryz.prog 145 (Value.agg #[Value.int .i64 0, Value.int .i64 0, Value.int .i64 0, Value.int .i64 0, Value.int .i64 0, Value.int .i64 0]) := ⟨fun _ => by kernel_rfl⟩
instance : Cells Tryz.prog 145 6 48 := ⟨by kernel_rfl⟩
instance : lI Tryz.prog 145 6 3 := ⟨by kernel_rfl⟩
instance : OneCell Tryz.prog 149 := ⟨fun _ => by kernel_rfl, fun _ => by kernel_rfl⟩
instance : Zero Tryz.prog 149 (Value.nilFunc) := ⟨fun _ => by kernel_rfl⟩
instance : Cells Tryz.prog 149 1 8 := ⟨by kernel_rfl⟩
instance : OneCell Tryz.prog 153 := ⟨fun _ => by kernel_rfl, fun _ => by kernel_rfl⟩
instance : Zero Tryz.prog 153 (Value.int .u32 0) := ⟨fun _ => by kernel_rfl⟩
instance : Cells Tryz.prog 153 1 4 := ⟨by kernel_rfl⟩
instance : iH Tryz.prog 153 .u32 := ⟨by kernel_rfl⟩
instance : OneCell Tryz.prog 156 := ⟨fun _ => by kernel_rfl, fun _ => by kernel_rfl⟩
instance : Zero Tryz.prog 156 (Value.int .u64 0) := ⟨fun _ => by kernel_rfl⟩
instance : Cells Tryz.prog 156 1 8 := ⟨by kernel_rfl⟩
instance : iH Tryz.prog 156 .u64 := ⟨by kernel_rfl⟩
instance : OneCell Tryz.prog 159 := ⟨fun _ => by kernel_rfl, fun _ => by kernel_rfl⟩
instance : Zero Tryz.prog 159 (Value.pointer none) := ⟨fun _ => by kernel_rfl⟩
instance : Cells Tryz.prog 159 1 8 := ⟨by kernel_rfl⟩
instance : uz Tryz.prog 159 := ⟨_, (by kernel_rfl : Program.underlying _ _ = some (.pointer 5))⟩
instance : OneCell Tryz.prog 162 := ⟨fun _ => by kernel_rfl, fun _ => by kernel_rfl⟩
instance : Zero Tryz.prog 162 (Value.nilFunc) := ⟨fun _ => by kernel_rfl⟩
instance : Cells Tryz.prog 162 1 8 := ⟨by kernel_rfl⟩
instance : OneCell Tryz.prog 180 := ⟨fun _ => by kernel_rfl, fun _ => by kernel_rfl⟩
instance : Zero Tryz.prog 180 (Value.nilFunc) := ⟨fun _ => by kernel_rfl⟩
instance : Cells Tryz.prog 180 1 8 := ⟨by kernel_rfl⟩
instance : OneCell Tryz.prog 181 := ⟨fun _ => by kernel_rfl, fun _ => by kernel_rfl⟩
instance : Zero Tryz.prog 181 (Value.nilFunc) := ⟨fun _ => by kernel_rfl⟩
instance : Cells Tryz.prog 181 1 8 := ⟨by kernel_rfl⟩
instance : OneCell Tryz.prog 182 := ⟨fun _ => by kernel_rfl, fun _ => by kernel_rfl⟩
instance : Zero Tryz.prog 182 (Value.nilFunc) := ⟨fun _ => by kernel_rfl⟩
instance : Cells Tryz.prog 182 1 8 := ⟨by kernel_rfl⟩
instance : Agg Tryz.prog 185 5 := ⟨fun _ => by kernel_rfl, fun _ => by kernel_rfl⟩
instance : Zero Tryz.prog 185 (Value.agg #[Value.nilFunc, Value.nilFunc, Value.nilFunc, Value.nilFunc, Value.nilFunc]) := ⟨fun _ => by kernel_rfl⟩
instance : Cells Tryz.prog 185 5 40 := ⟨by kernel_rfl⟩
instance : OneCell Tryz.prog 188 := ⟨fun _ => by kernel_rfl, fun _ => by kernel_rfl⟩
instance : Zero Tryz.prog 188 (Value.nilFunc) := ⟨fun _ => by kernel_rfl⟩
instance : Cells Tryz.prog 188 1 8 := ⟨by kernel_rfl⟩
instance : OneCell Tryz.prog 192 := ⟨fun _ => by kernel_rfl, fun _ => by kernel_rfl⟩
instance : Zero Tryz.prog 192 (Value.int .i64 0) := ⟨fun _ => by kernel_rfl⟩
instance : Cells Tryz.prog 192 1 8 := ⟨by kernel_rfl⟩
instance : iH Tryz.prog 192 .i64 := ⟨by kernel_rfl⟩
instance : OneCell Tryz.prog 201 := ⟨fun _ => by kernel_rfl, fun _ => by kernel_rfl⟩
instance : Zero Tryz.prog 201 (Value.pointer none) := ⟨fun _ => by kernel_rfl⟩
instance : Cells Tryz.prog 201 1 8 := ⟨by kernel_rfl⟩
instance : Agg Tryz.prog 206 256 := ⟨fun _ => by kernel_rfl, fun _ => by kernel_rfl⟩
instance : Zero Tryz.prog 206 (Value.agg (List.replicate 256 (Value.bool false)).toArray) := ⟨fun _ => by kernel_rfl⟩
instance : Cells Tryz.prog 206 256 256 := ⟨by kernel_rfl⟩
instance : lI Tryz.prog 206 256 4 := ⟨by kernel_rfl⟩
instance : OneCell Tryz.prog 210 := ⟨fun _ => by kernel_rfl, fun _ => by kernel_rfl⟩
instance : Zero Tryz.prog 210 (Value.pointer none) := ⟨fun _ => by kernel_rfl⟩
instance : Cells Tryz.prog 210 1 8 := ⟨by kernel_rfl⟩
instance : uz Tryz.prog 210 := ⟨_, (by kernel_rfl : Program.underlying _ _ = some (.pointer 206))⟩
instance : OneCell Tryz.prog 213 := ⟨fun _ => by kernel_rfl, fun _ => by kernel_rfl⟩
instance : Zero Tryz.prog 213 (Value.map none) := ⟨fun _ => by kernel_rfl⟩
instance : Cells Tryz.prog 213 1 8 := ⟨by kernel_rfl⟩
instance : IsMap Tryz.prog 213 21 5 := ⟨by kernel_rfl⟩
instance : Agg Tryz.prog 217 24 := ⟨fun _ => by kernel_rfl, fun _ => by kernel_rfl⟩
instance : Zero Tryz.prog 217 (Value.agg (List.replicate 24 (Value.int .u8 0)).toArray) := ⟨fun _ => by kernel_rfl⟩
instance : Cells Tryz.prog 217 24 24 := ⟨by kernel_rfl⟩
instance : lI Tryz.prog 217 24 5 := ⟨by kernel_rfl⟩
instance : OneCell Tryz.prog 224 := ⟨fun _ => by kernel_rfl, fun _ => by kernel_rfl⟩
instance : Zero Tryz.prog 224 (Value.int .i64 0) := ⟨fun _ => by kernel_rfl⟩
instance : Cells Tryz.prog 224 1 8 := ⟨by kernel_rfl⟩
instance : iH Tryz.prog 224 .i64 := ⟨by kernel_rfl⟩
instance : OneCell Tryz.prog 225 := ⟨fun _ => by kernel_rfl, fun _ => by kernel_rfl⟩
instance : Zero Tryz.prog 225 (Value.pointer none) := ⟨fun _ => by kernel_rfl⟩
instance : Cells Tryz.prog 225 1 8 := ⟨by kernel_rfl⟩
instance : uz Tryz.prog 225 := ⟨_, (by kernel_rfl : Program.underlying _ _ = some (.pointer 260))⟩
instance : OneCell Tryz.prog 233 := ⟨fun _ => by kernel_rfl, fun _ => by kernel_rfl⟩
instance : Zero Tryz.prog 233 (Value.pointer none) := ⟨fun _ => by kernel_rfl⟩
instance : Cells Tryz.prog 233 1 8 := ⟨by kernel_rfl⟩
instance : uz Tryz.prog 233 := ⟨_, (by kernel_rfl : Program.underlying _ _ = some (.pointer 235))⟩
instance : Agg Tryz.prog 235 3 := ⟨fun _ => by kernel_rfl, fun _ => by kernel_rfl⟩
instance : Zero Tryz.prog 235 (Value.agg #[Value.string .empty, Value.int .i64 0, Value.int .i64 0]) := ⟨fun _ => by kernel_rfl⟩
instance : Cells Tryz.prog 235 3 32 := ⟨by kernel_rfl⟩
instance : OneCell Tryz.prog 239 := ⟨fun _ => by kernel_rfl, fun _ => by kernel_rfl⟩
instance : Zero Tryz.prog 239 (Value.nilFunc) := ⟨fun _ => by kernel_rfl⟩
instance : Cells Tryz.prog 239 1 8 := ⟨by kernel_rfl⟩
instance : Agg Tryz.prog 240 30 := ⟨fun _ => by kernel_rfl, fun _ => by kernel_rfl⟩
instance : Zero Tryz.prog 240 (Value.agg (List.replicate 30 (Value.nilFunc)).toArray) := ⟨fun _ => by kernel_rfl⟩
instance : Cells Tryz.prog 240 30 240 := ⟨by kernel_rfl⟩
instance : lI Tryz.prog 240 6 185 := ⟨by kernel_rfl⟩
instance : OneCell Tryz.prog 241 := ⟨fun _ => by kernel_rfl, fun _ => by kernel_rfl⟩
instance : Zero Tryz.prog 241 (Value.int .u64 0) := ⟨fun _ => by kernel_rfl⟩
instance : Cells Tryz.prog 241 1 8 := ⟨by kernel_rfl⟩
instance : iH Tryz.prog 241 .u64 := ⟨by kernel_rfl⟩
instance : OneCell Tryz.prog 245 := ⟨fun _ => by kernel_rfl, fun _ => by kernel_rfl⟩
instance : Zero Tryz.prog 245 (Value.pointer none) := ⟨fun _ => by kernel_rfl⟩
instance : Cells Tryz.prog 245 1 8 := ⟨by kernel_rfl⟩
instance : uz Tryz.prog 245 := ⟨_, (by kernel_rfl : Program.underlying _ _ = some (.pointer 3))⟩
instance : Agg Tryz.prog 253 20 := ⟨fun _ => by kernel_rfl, fun _ => by kernel_rfl⟩
instance : Zero Tryz.prog 253 (Value.agg (List.replicate 20 (Value.int .u64 0)).toArray) := ⟨fun _ => by kernel_rfl⟩
instance : Cells Tryz.prog 253 20 160 := ⟨by kernel_rfl⟩
instance : lI Tryz.prog 253 20 156 := ⟨by kernel_rfl⟩
instance : Agg Tryz.prog 254 65 := ⟨fun _ => by kernel_rfl, fun _ => by kernel_rfl⟩
instance : Zero Tryz.prog 254 (Value.agg (List.replicate 65 (Value.int .u8 0)).toArray) := ⟨fun _ => by kernel_rfl⟩
instance : Cells Tryz.prog 254 65 65 := ⟨by kernel_rfl⟩
instance : lI Tryz.prog 254 65 5 := ⟨by kernel_rfl⟩
instance : Agg Tryz.prog 260 3 := ⟨fun _ => by kernel_rfl, fun _ => by kernel_rfl⟩
instance : Zero Tryz.prog 260 (Value.agg #[Value.string .empty, Value.string .empty, Value.nilIface]) := ⟨fun _ => by kernel_rfl⟩
instance : Cells Tryz.prog 260 3 48 := ⟨by kernel_rfl⟩
instance : Agg Tryz.prog 264 8 := ⟨fun _ => by kernel_rfl, fun _ => by kernel_rfl⟩
instance : Zero Tryz.prog 264 (Value.agg (List.replicate 8 (Value.int .u8 0)).toArray) := ⟨fun _ => by kernel_rfl⟩
instance : Cells Tryz.prog 264 8 8 := ⟨by kernel_rfl⟩
instance : lI Tryz.prog 264 8 5 := ⟨by kernel_rfl⟩
instance : OneCell Tryz.prog 265 := ⟨fun _ => by kernel_rfl, fun _ => by kernel_rfl⟩
instance : Zero Tryz.prog 265 (Value.pointer none) := ⟨fun _ => by kernel_rfl⟩
instance : Cells Tryz.prog 265 1 8 := ⟨by kernel_rfl⟩
instance : uz Tryz.prog 265 := ⟨_, (by kernel_rfl : Program.underlying _ _ = some (.pointer 241))⟩
instance : Agg Tryz.prog 270 256 := ⟨fun _ => by kernel_rfl, fun _ => by kernel_rfl⟩
instance : Zero Tryz.prog 270 (Value.agg (List.replicate 256 (Value.int .u8 0)).toArray) := ⟨fun _ => by kernel_rfl⟩
instance : Cells Tryz.prog 270 256 256 := ⟨by kernel_rfl⟩
instance : lI Tryz.prog 270 256 5 := ⟨by kernel_rfl⟩
instance : Agg Tryz.prog 272 2 := ⟨fun _ => by kernel_rfl, fun _ => by kernel_rfl⟩
instance : Zero Tryz.prog 272 (Value.agg #[Value.int .u8 0, Value.int .u8 0]) := ⟨fun _ => by kernel_rfl⟩
instance : Cells Tryz.prog 272 2 2 := ⟨by kernel_rfl⟩
instance : Agg Tryz.prog 273 32 := ⟨fun _ => by kernel_rfl, fun _ => by kernel_rfl⟩
instance : Zero Tryz.prog 273 (Value.agg (List.replicate 32 (Value.int .u8 0)).toArray) := ⟨fun _ => by kernel_rfl⟩
instance : Cells Tryz.prog 273 32 32 := ⟨by kernel_rfl⟩
instance : lI Tryz.prog 273 16 272 := ⟨by kernel_rfl⟩
instance : OneCell Tryz.prog 275 := ⟨fun _ => by kernel_rfl, fun _ => by kernel_rfl⟩
instance : Zero Tryz.prog 275 (Value.pointer none) := ⟨fun _ => by kernel_rfl⟩
instance : Cells Tryz.prog 275 1 8 := ⟨by kernel_rfl⟩
instance : uz Tryz.prog 275 := ⟨_, (by kernel_rfl : Program.underlying _ _ = some (.pointer 277))⟩
instance : Agg Tryz.prog 277 1 := ⟨fun _ => by kernel_rfl, fun _ => by kernel_rfl⟩
instance : Zero Tryz.prog 277 (Value.agg #[Value.string .empty]) := ⟨fun _ => by kernel_rfl⟩
instance : Cells Tryz.prog 277 1 16 := ⟨by kernel_rfl⟩
instance : Agg Tryz.prog 280 32 := ⟨fun _ => by kernel_rfl, fun _ => by kernel_rfl⟩
instance : Zero Tryz.prog 280 (Value.agg (List.replicate 32 (Value.int .u8 0)).toArray) := ⟨fun _ => by kernel_rfl⟩
instance : Cells Tryz.prog 280 32 32 := ⟨by kernel_rfl⟩
instance : lI Tryz.prog 280 32 5 := ⟨by kernel_rfl⟩
instance : Agg Tryz.prog 281 64 := ⟨fun _ => by kernel_rfl, fun _ => by kernel_rfl⟩
instance : Zero Tryz.prog 281 (Value.agg (List.replicate 64 (Value.int .u8 0)).toArray) := ⟨fun _ => by kernel_rfl⟩
instance : Cells Tryz.prog 281 64 64 := ⟨by kernel_rfl⟩
instance : lI Tryz.prog 281 64 5 := ⟨by kernel_rfl⟩
instance : oM Tryz.prog 25 ((Value.slice none 0 0) :: (Value.slice none 0 0) :: (Value.int .i64 0) :: []) [(0, 1), (1, 1), (2, 1)] := ⟨fun _ => by kernel_rfl, _, Tryz.underlying25, fun _ => by kernel_rfl⟩
instance : oM Tryz.prog 45 ((Value.int .i64 0) :: (Value.bool false) :: []) [(0, 1), (1, 1)] := ⟨fun _ => by kernel_rfl, _, Tryz.underlying45, fun _ => by kernel_rfl⟩
instance : oM Tryz.prog 47 ((Value.bool false) :: (Value.int .i64 0) :: (Value.string .empty) :: []) [(0, 1), (1, 1), (2, 1)] := ⟨fun _ => by kernel_rfl, _, Tryz.underlying47, fun _ => by kernel_rfl⟩
instance : oM Tryz.prog 49 ((Value.int .i64 0) :: (Value.string .empty) :: (Value.int .i64 0) :: (Value.bool false) :: (Value.bool false) :: (Value.int .i64 0) :: (Value.string .empty) :: []) [(0, 1), (1, 1), (2, 2), (4, 3)] := ⟨fun _ => by kernel_rfl, _, Tryz.underlying49, fun _ => by kernel_rfl⟩
instance : oM Tryz.prog 53 ((Value.string .empty) :: (Value.slice none 0 0) :: []) [(0, 1), (1, 1)] := ⟨fun _ => by kernel_rfl, _, Tryz.underlying53, fun _ => by kernel_rfl⟩
instance : oM Tryz.prog 60 ((Value.int .i64 0) :: (Value.int .i64 0) :: (Value.string .empty) :: []) [(0, 1), (1, 1), (2, 1)] := ⟨fun _ => by kernel_rfl, _, Tryz.underlying60, fun _ => by kernel_rfl⟩
instance : oM Tryz.prog 185 ((Value.nilFunc) :: (Value.nilFunc) :: (Value.nilFunc) :: (Value.nilFunc) :: (Value.nilFunc) :: []) [(0, 1), (1, 1), (2, 1), (3, 1), (4, 1)] := ⟨fun _ => by kernel_rfl, _, Tryz.underlying185, fun _ => by kernel_rfl⟩
instance : oM Tryz.prog 235 ((Value.string .empty) :: (Value.int .i64 0) :: (Value.int .i64 0) :: []) [(0, 1), (1, 1), (2, 1)] := ⟨fun _ => by kernel_rfl, _, Tryz.underlying235, fun _ => by kernel_rfl⟩
instance : oM Tryz.prog 260 ((Value.string .empty) :: (Value.string .empty) :: (Value.nilIface) :: []) [(0, 1), (1, 1), (2, 1)] := ⟨fun _ => by kernel_rfl, _, Tryz.underlying260, fun _ => by kernel_rfl⟩
instance : oM Tryz.prog 272 ((Value.int .u8 0) :: (Value.int .u8 0) :: []) [(0, 1), (1, 1)] := ⟨fun _ => by kernel_rfl, _, Tryz.underlying272, fun _ => by kernel_rfl⟩
instance : oM Tryz.prog 277 ((Value.string .empty) :: []) [(0, 1)] := ⟨fun _ => by kernel_rfl, _, Tryz.underlying277, fun _ => by kernel_rfl⟩
instance : dZ Tryz.prog 25 0 0 := ⟨fun _ _ => by kernel_rfl⟩
instance : dZ Tryz.prog 25 1 1 := ⟨fun _ _ => by kernel_rfl⟩
instance : dZ Tryz.prog 25 2 2 := ⟨fun _ _ => by kernel_rfl⟩
instance : dZ Tryz.prog 45 0 0 := ⟨fun _ _ => by kernel_rfl⟩
instance : dZ Tryz.prog 45 1 1 := ⟨fun _ _ => by kernel_rfl⟩
instance : dZ Tryz.prog 47 0 0 := ⟨fun _ _ => by kernel_rfl⟩
instance : dZ Tryz.prog 47 1 1 := ⟨fun _ _ => by kernel_rfl⟩
instance : dZ Tryz.prog 47 2 2 := ⟨fun _ _ => by kernel_rfl⟩
instance : dZ Tryz.prog 49 0 0 := ⟨fun _ _ => by kernel_rfl⟩
instance : dZ Tryz.prog 49 1 1 := ⟨fun _ _ => by kernel_rfl⟩
instance : dZ Tryz.prog 49 2 2 := ⟨fun _ _ => by kernel_rfl⟩
instance : dZ Tryz.prog 49 3 4 := ⟨fun _ _ => by kernel_rfl⟩
instance : dZ Tryz.prog 53 0 0 := ⟨fun _ _ => by kernel_rfl⟩
instance : dZ Tryz.prog 53 1 1 := ⟨fun _ _ => by kernel_rfl⟩
instance : dZ Tryz.prog 60 0 0 := ⟨fun _ _ => by kernel_rfl⟩
instance : dZ Tryz.prog 60 1 1 := ⟨fun _ _ => by kernel_rfl⟩
instance : dZ Tryz.prog 60 2 2 := ⟨fun _ _ => by kernel_rfl⟩
instance : dZ Tryz.prog 74 0 0 := ⟨fun _ _ => by kernel_rfl⟩
instance : dZ Tryz.prog 74 1 3 := ⟨fun _ _ => by kernel_rfl⟩
instance : dZ Tryz.prog 103 0 0 := ⟨fun _ _ => by kernel_rfl⟩
instance : dZ Tryz.prog 124 0 0 := ⟨fun _ _ => by kernel_rfl⟩
instance : dZ Tryz.prog 124 1 1 := ⟨fun _ _ => by kernel_rfl⟩
instance : dZ Tryz.prog 235 0 0 := ⟨fun _ _ => by kernel_rfl⟩
instance : dZ Tryz.prog 235 1 1 := ⟨fun _ _ => by kernel_rfl⟩
instance : dZ Tryz.prog 235 2 2 := ⟨fun _ _ => by kernel_rfl⟩
instance : dZ Tryz.prog 272 0 0 := ⟨fun _ _ => by kernel_rfl⟩
instance : dZ Tryz.prog 272 1 1 := ⟨fun _ _ => by kernel_rfl⟩
instance : Ch Tryz.prog 185 0 0 180 := ⟨_, Tryz.underlying185, rfl⟩
instance : Ch Tryz.prog 185 1 1 181 := ⟨_, Tryz.underlying185, rfl⟩
instance : Ch Tryz.prog 185 2 2 182 := ⟨_, Tryz.underlying185, rfl⟩
instance : Enters Tryz.prog 3 := ⟨fun _ _ => by kernel_rfl⟩
instance : Enters Tryz.prog 8 := ⟨fun _ _ => by kernel_rfl⟩
instance : Enters Tryz.prog 10 := ⟨fun _ _ => by kernel_rfl⟩
instance : Enters Tryz.prog 11 := ⟨fun _ _ => by kernel_rfl⟩
instance : Enters Tryz.prog 12 := ⟨fun _ _ => by kernel_rfl⟩
instance : Enters Tryz.prog 13 := ⟨fun _ _ => by kernel_rfl⟩
instance : Enters Tryz.prog 14 := ⟨fun _ _ => by kernel_rfl⟩
instance : Enters Tryz.prog 15 := ⟨fun _ _ => by kernel_rfl⟩
instance : Enters Tryz.prog 16 := ⟨fun _ _ => by kernel_rfl⟩
instance : Enters Tryz.prog 17 := ⟨fun _ _ => by kernel_rfl⟩
instance : Enters Tryz.prog 18 := ⟨fun _ _ => by kernel_rfl⟩
instance : Enters Tryz.prog 19 := ⟨fun _ _ => by kernel_rfl⟩
instance : Enters Tryz.prog 20 := ⟨fun _ _ => by kernel_rfl⟩
instance : Enters Tryz.prog 21 := ⟨fun _ _ => by kernel_rfl⟩
instance : Enters Tryz.prog 22 := ⟨fun _ _ => by kernel_rfl⟩
instance : Enters Tryz.prog 23 := ⟨fun _ _ => by kernel_rfl⟩
instance : Enters Tryz.prog 24 := ⟨fun _ _ => by kernel_rfl⟩
instance : Enters Tryz.prog 25 := ⟨fun _ _ => by kernel_rfl⟩
instance : Enters Tryz.prog 26 := ⟨fun _ _ => by kernel_rfl⟩
instance : Enters Tryz.prog 27 := ⟨fun _ _ => by kernel_rfl⟩
instance : Enters Tryz.prog 28 := ⟨fun _ _ => by kernel_rfl⟩
instance : Enters Tryz.prog 29 := ⟨fun _ _ => by kernel_rfl⟩
instance : Enters Tryz.prog 30 := ⟨fun _ _ => by kernel_rfl⟩
instance : Enters Tryz.prog 31 := ⟨fun _ _ => by kernel_rfl⟩
instance : Enters Tryz.prog 32 := ⟨fun _ _ => by kernel_rfl⟩
instance : Enters Tryz.prog 33 := ⟨fun _ _ => by kernel_rfl⟩
instance : Enters Tryz.prog 34 := ⟨fun _ _ => by kernel_rfl⟩
instance : Enters Tryz.prog 35 := ⟨fun _ _ => by kernel_rfl⟩
instance : Enters Tryz.prog 36 := ⟨fun _ _ => by kernel_rfl⟩
instance : Enters Tryz.prog 37 := ⟨fun _ _ => by kernel_rfl⟩
instance : Enters Tryz.prog 38 := ⟨fun _ _ => by kernel_rfl⟩
instance : Enters Tryz.prog 39 := ⟨fun _ _ => by kernel_rfl⟩
instance : Enters Tryz.prog 40 := ⟨fun _ _ => by kernel_rfl⟩
instance : Enters Tryz.prog 41 := ⟨fun _ _ => by kernel_rfl⟩
instance : Enters Tryz.prog 42 := ⟨fun _ _ => by kernel_rfl⟩
instance : Enters Tryz.prog 43 := ⟨fun _ _ => by kernel_rfl⟩
instance : Enters Tryz.prog 44 := ⟨fun _ _ => by kernel_rfl⟩
instance : Enters Tryz.prog 45 := ⟨fun _ _ => by kernel_rfl⟩
instance : Enters Tryz.prog 46 := ⟨fun _ _ => by kernel_rfl⟩
instance : Enters Tryz.prog 47 := ⟨fun _ _ => by kernel_rfl⟩
instance : Enters Tryz.prog 48 := ⟨fun _ _ => by kernel_rfl⟩
instance : Enters Tryz.prog 49 := ⟨fun _ _ => by kernel_rfl⟩
instance : Enters Tryz.prog 50 := ⟨fun _ _ => by kernel_rfl⟩
instance : Enters Tryz.prog 51 := ⟨fun _ _ => by kernel_rfl⟩
instance : Enters Tryz.prog 52 := ⟨fun _ _ => by kernel_rfl⟩
instance : Enters Tryz.prog 53 := ⟨fun _ _ => by kernel_rfl⟩
instance : Enters Tryz.prog 54 := ⟨fun _ _ => by kernel_rfl⟩
instance : Enters Tryz.prog 55 := ⟨fun _ _ => by kernel_rfl⟩
instance : Enters Tryz.prog 56 := ⟨fun _ _ => by kernel_rfl⟩
instance : Enters Tryz.prog 57 := ⟨fun _ _ => by kernel_rfl⟩
instance : Enters Tryz.prog 58 := ⟨fun _ _ => by kernel_rfl⟩
instance : Enters Tryz.prog 61 := ⟨fun _ _ => by kernel_rfl⟩
instance : Enters Tryz.prog 62 := ⟨fun _ _ => by kernel_rfl⟩
instance : Enters Tryz.prog 63 := ⟨fun _ _ => by kernel_rfl⟩
instance : Enters Tryz.prog 64 := ⟨fun _ _ => by kernel_rfl⟩
instance : Enters Tryz.prog 65 := ⟨fun _ _ => by kernel_rfl⟩
instance : Enters Tryz.prog 66 := ⟨fun _ _ => by kernel_rfl⟩
instance : Enters Tryz.prog 67 := ⟨fun _ _ => by kernel_rfl⟩
instance : Enters Tryz.prog 68 := ⟨fun _ _ => by kernel_rfl⟩
instance : Enters Tryz.prog 69 := ⟨fun _ _ => by kernel_rfl⟩
instance : Enters Tryz.prog 70 := ⟨fun _ _ => by kernel_rfl⟩
instance : Enters Tryz.prog 71 := ⟨fun _ _ => by kernel_rfl⟩
instance : Enters Tryz.prog 72 := ⟨fun _ _ => by kernel_rfl⟩
instance : Enters Tryz.prog 73 := ⟨fun _ _ => by kernel_rfl⟩
instance : Enters Tryz.prog 74 := ⟨fun _ _ => by kernel_rfl⟩
instance : Enters Tryz.prog 75 := ⟨fun _ _ => by kernel_rfl⟩
instance : Enters Tryz.prog 77 := ⟨fun _ _ => by kernel_rfl⟩
instance : Enters Tryz.prog 79 := ⟨fun _ _ => by kernel_rfl⟩
instance : Enters Tryz.prog 81 := ⟨fun _ _ => by kernel_rfl⟩
instance : Enters Tryz.prog 82 := ⟨fun _ _ => by kernel_rfl⟩
instance : Enters Tryz.prog 83 := ⟨fun _ _ => by kernel_rfl⟩
instance : Enters Tryz.prog 85 := ⟨fun _ _ => by kernel_rfl⟩
instance : Enters Tryz.prog 86 := ⟨fun _ _ => by kernel_rfl⟩
instance : Enters Tryz.prog 87 := ⟨fun _ _ => by kernel_rfl⟩
instance : Enters Tryz.prog 88 := ⟨fun _ _ => by kernel_rfl⟩
instance : Enters Tryz.prog 89 := ⟨fun _ _ => by kernel_rfl⟩
instance : Enters Tryz.prog 91 := ⟨fun _ _ => by kernel_rfl⟩
instance : Enters Tryz.prog 92 := ⟨fun _ _ => by kernel_rfl⟩
instance : Enters Tryz.prog 93 := ⟨fun _ _ => by kernel_rfl⟩
instance : Enters Tryz.prog 94 := ⟨fun _ _ => by kernel_rfl⟩
instance : Enters Tryz.prog 95 := ⟨fun _ _ => by kernel_rfl⟩
instance : Enters Tryz.prog 96 := ⟨fun _ _ => by kernel_rfl⟩
instance : Enters Tryz.prog 97 := ⟨fun _ _ => by kernel_rfl⟩
instance : Enters Tryz.prog 98 := ⟨fun _ _ => by kernel_rfl⟩
instance : Enters Tryz.prog 99 := ⟨fun _ _ => by kernel_rfl⟩
instance : Enters Tryz.prog 100 := ⟨fun _ _ => by kernel_rfl⟩
instance : Enters Tryz.prog 102 := ⟨fun _ _ => by kernel_rfl⟩
instance : Enters Tryz.prog 103 := ⟨fun _ _ => by kernel_rfl⟩
instance : Enters Tryz.prog 104 := ⟨fun _ _ => by kernel_rfl⟩
instance : Enters Tryz.prog 105 := ⟨fun _ _ => by kernel_rfl⟩
instance : Enters Tryz.prog 106 := ⟨fun _ _ => by kernel_rfl⟩
instance : Enters Tryz.prog 107 := ⟨fun _ _ => by kernel_rfl⟩
instance : Enters Tryz.prog 108 := ⟨fun _ _ => by kernel_rfl⟩
instance : Enters Tryz.prog 109 := ⟨fun _ _ => by kernel_rfl⟩
instance : Enters Tryz.prog 110 := ⟨fun _ _ => by kernel_rfl⟩
instance : Enters Tryz.prog 111 := ⟨fun _ _ => by kernel_rfl⟩
instance : Enters Tryz.prog 112 := ⟨fun _ _ => by kernel_rfl⟩
instance : Enters Tryz.prog 113 := ⟨fun _ _ => by kernel_rfl⟩
instance : Enters Tryz.prog 114 := ⟨fun _ _ => by kernel_rfl⟩
instance : Enters Tryz.prog 120 := ⟨fun _ _ => by kernel_rfl⟩
instance : Enters Tryz.prog 122 := ⟨fun _ _ => by kernel_rfl⟩
instance : Enters Tryz.prog 123 := ⟨fun _ _ => by kernel_rfl⟩
instance : Enters Tryz.prog 124 := ⟨fun _ _ => by kernel_rfl⟩
instance : Enters Tryz.prog 125 := ⟨fun _ _ => by kernel_rfl⟩
instance : Enters Tryz.prog 126 := ⟨fun _ _ => by kernel_rfl⟩
instance : Enters Tryz.prog 127 := ⟨fun _ _ => by kernel_rfl⟩
instance : Enters Tryz.prog 128 := ⟨fun _ _ => by kernel_rfl⟩
instance : Enters Tryz.prog 129 := ⟨fun _ _ => by kernel_rfl⟩
instance : Enters Tryz.prog 131 := ⟨fun _ _ => by kernel_rfl⟩
instance : Enters Tryz.prog 132 := ⟨fun _ _ => by kernel_rfl⟩
instance : Enters Tryz.prog 133 := ⟨fun _ _ => by kernel_rfl⟩
instance : Enters Tryz.prog 134 := ⟨fun _ _ => by kernel_rfl⟩
instance : Enters Tryz.prog 135 := ⟨fun _ _ => by kernel_rfl⟩
instance : Enters Tryz.prog 141 := ⟨fun _ _ => by kernel_rfl⟩
instance : Enters Tryz.prog 142 := ⟨fun _ _ => by kernel_rfl⟩
instance : Enters Tryz.prog 143 := ⟨fun _ _ => by kernel_rfl⟩
instance : Enters Tryz.prog 144 := ⟨fun _ _ => by kernel_rfl⟩
instance : Enters Tryz.prog 145 := ⟨fun _ _ => by kernel_rfl⟩
instance : Enters Tryz.prog 146 := ⟨fun _ _ => by kernel_rfl⟩
instance : Enters Tryz.prog 147 := ⟨fun _ _ => by kernel_rfl⟩
instance : Enters Tryz.prog 151 := ⟨fun _ _ => by kernel_rfl⟩
instance : Enters Tryz.prog 152 := ⟨fun _ _ => by kernel_rfl⟩
instance : Enters Tryz.prog 153 := ⟨fun _ _ => by kernel_rfl⟩
instance : Enters Tryz.prog 154 := ⟨fun _ _ => by kernel_rfl⟩
instance : Enters Tryz.prog 155 := ⟨fun _ _ => by kernel_rfl⟩
instance : Enters Tryz.prog 156 := ⟨fun _ _ => by kernel_rfl⟩
instance : Enters Tryz.prog 157 := ⟨fun _ _ => by kernel_rfl⟩
instance : Enters Tryz.prog 173 := ⟨fun _ _ => by kernel_rfl⟩
instance : Enters Tryz.prog 174 := ⟨fun _ _ => by kernel_rfl⟩
instance : Enters Tryz.prog 175 := ⟨fun _ _ => by kernel_rfl⟩
instance : Enters Tryz.prog 180 := ⟨fun _ _ => by kernel_rfl⟩
instance : Enters Tryz.prog 181 := ⟨fun _ _ => by kernel_rfl⟩
instance : Enters Tryz.prog 182 := ⟨fun _ _ => by kernel_rfl⟩
instance : Enters Tryz.prog 183 := ⟨fun _ _ => by kernel_rfl⟩
instance : Enters Tryz.prog 188 := ⟨fun _ _ => by kernel_rfl⟩
instance : Enters Tryz.prog 189 := ⟨fun _ _ => by kernel_rfl⟩
instance : Enters Tryz.prog 196 := ⟨fun _ _ => by kernel_rfl⟩
instance : Enters Tryz.prog 197 := ⟨fun _ _ => by kernel_rfl⟩
instance : Enters Tryz.prog 198 := ⟨fun _ _ => by kernel_rfl⟩
instance : Enters Tryz.prog 199 := ⟨fun _ _ => by kernel_rfl⟩
instance : Enters Tryz.prog 200 := ⟨fun _ _ => by kernel_rfl⟩
instance : Enters Tryz.prog 201 := ⟨fun _ _ => by kernel_rfl⟩
instance : Enters Tryz.prog 202 := ⟨fun _ _ => by kernel_rfl⟩
instance : Enters Tryz.prog 203 := ⟨fun _ _ => by kernel_rfl⟩
instance : Enters Tryz.prog 204 := ⟨fun _ _ => by kernel_rfl⟩
instance : Enters Tryz.prog 206 := ⟨fun _ _ => by kernel_rfl⟩
instance : Enters Tryz.prog 207 := ⟨fun _ _ => by kernel_rfl⟩
instance : Enters Tryz.prog 208 := ⟨fun _ _ => by kernel_rfl⟩
instance : Enters Tryz.prog 217 := ⟨fun _ _ => by kernel_rfl⟩
instance : Enters Tryz.prog 222 := ⟨fun _ _ => by kernel_rfl⟩
instance : Enters Tryz.prog 223 := ⟨fun _ _ => by kernel_rfl⟩
instance : Enters Tryz.prog 230 := ⟨fun _ _ => by kernel_rfl⟩
instance : Enters Tryz.prog 234 := ⟨fun _ _ => by kernel_rfl⟩
instance : Enters Tryz.prog 235 := ⟨fun _ _ => by kernel_rfl⟩
instance : Enters Tryz.prog 240 := ⟨fun _ _ => by kernel_rfl⟩
instance : Enters Tryz.prog 241 := ⟨fun _ _ => by kernel_rfl⟩
instance : Enters Tryz.prog 245 := ⟨fun _ _ => by kernel_rfl⟩
instance : Enters Tryz.prog 246 := ⟨fun _ _ => by kernel_rfl⟩
instance : Enters Tryz.prog 248 := ⟨fun _ _ => by kernel_rfl⟩
instance : Enters Tryz.prog 249 := ⟨fun _ _ => by kernel_rfl⟩
instance : Enters Tryz.prog 250 := ⟨fun _ _ => by kernel_rfl⟩
instance : Enters Tryz.prog 251 := ⟨fun _ _ => by kernel_rfl⟩
instance : Enters Tryz.prog 252 := ⟨fun _ _ => by kernel_rfl⟩
instance : Enters Tryz.prog 257 := ⟨fun _ _ => by kernel_rfl⟩
instance : Enters Tryz.prog 262 := ⟨fun _ _ => by kernel_rfl⟩
instance : Enters Tryz.prog 263 := ⟨fun _ _ => by kernel_rfl⟩
instance : Enters Tryz.prog 266 := ⟨fun _ _ => by kernel_rfl⟩
end Go.Proofs.YtolaedhdjcnijaaGreatDoor
namespace Go.Mw
open Go.RowKit

section
variable {P : Program} {r : Option Nat} {n : Nat} {ops : Array Oper} {Q : Post} {rest : List Oper} {σ : St} {w w₀ : World} {S : Nat → Prop} {rs : List HP} {ty : TypeId} {pos : String} {after : Array Edge}
def Jd (P : Program) (l : Nat) (xs : List Value) (w : World) (R : Bool → World → Prop) : Prop :=
 ∃ fn tmps assign body, (Instr.yield l xs.toArray).run P w = .ok (.round l fn tmps assign body) w ∧ RoundIn (fen none) 0 P l fn tmps assign body w (Ret fun v w' => ∃ b, v = .bool b ∧ R b w')
theorem vX {d l : Nat} {y : Operand} {xs : List Operand} {ats : Array TypeId} {vals : List Value} {R : Bool → World → Prop} (hy : evF σ y = .func (.yield l) #[] #[]) (hc : Jd P l vals w R)
    (hv : xs.map (evF σ) = vals) (hd : Nat.blt d n = true) (h : ∀ b w', R b w' → FL P r n ops Q rest (upd σ d (.bool b)) w') :
    FL P r n ops Q ({ dst := some d, op := .call { callee := .value y, args := xs.toArray, argTypes := ats }, type := ty, pos := pos, after := after, guard := none } :: rest) σ w := fun a ha =>
  wpListIn_plain rfl fun K hK => by
    obtain ⟨fn, tmps, assign, body, iP, JG⟩ := hc
    refine ⟨fun _ _ => trivial, ?_⟩
    rw [Oper.semAt_eq _ _ _ (fun _ h => by cases h), ha.eval]
    have e : (execOp (evF σ) { dst := some d, op := .call { callee := .value y, args := xs.toArray, argTypes := ats }, type := ty, pos := pos, after := after, guard := none }).run P w = .ok (.round l fn tmps assign body) w := by
      simp [execOp, resolve, hy, Deferred.ofValue, invoke, hv, iP]
    rw [e, Oper.uponIn_round]
    refine ⟨(fun h => by cases h), RoundIn.mono (F := fen r) JG fun en w'' hr => ?_⟩
    cases en with
    | returned v => obtain ⟨b, rfl, hR⟩ := hr; exact hK _ _ (h b w'' hR _ (ha.put (Nat.le_of_ble_eq_true hd) _))
    | _ => exact hr.elim

def Nb (K Kr : World → Prop) : Post := fun e _ w => match e with
 | .normal => K w
 | .ret => Kr w
 | _ => False
theorem xW {K Kr : World → Prop} (h : K w) : Nb K Kr .normal σ w := h
theorem tu {K Kr : World → Prop} (h : Kr w) : Nb K Kr .ret σ w := h

end
end Go.Mw
namespace Go.Mw
open Go.RowKit

def Turn (F : Nat → Prop) (q : HP) (w w' : World) : Prop := Kept F w w' ∧ ∃ F', q.ok F' w' ∧ ∀ b, F' b → F b ∨ w.heap.size ≤ b
section
variable {P : Program} {r : Option Nat} {n : Nat} {ops : Array Oper} {Q : Post} {rest : List Oper} {σ : St} {w w' w₀ : World} {S F : Nat → Prop} {rs : List HP} {p q : HP} {put : HP → List HP} {op : Op} {ty : TypeId} {pos : String} {after : Array Edge}
theorem vY {F : Nat → Prop} : (jc [p]).ok F w ↔ p.ok F w := by
 constructor
 ·rintro ⟨F1, F2, hF, hd, hp, ⟨_, h2⟩⟩
  have : F = F1 := funext fun b => propext ((hF b).trans ⟨fun h => h.elim id fun h => (h2 b h).elim, .inl⟩)
  rw [this]; exact hp
 intro h
 exact ⟨F, fun _ => False, fun b => by simp, fun _ _ h => h, h, trivial, fun _ h => h⟩
theorem Sep.iy (h : p.ok F w) : Sep w F [p] w := Sep.start [p] (vY.2 h)
theorem Sep.turn (h : Sep w₀ F [p] w) : Turn F p w₀ w := by
 obtain ⟨h1, F', hF, hs⟩ := h
 exact ⟨h1, F', vY.1 hF, hs⟩
theorem Turn.refl (h : p.ok F w) : Turn F p w w := ⟨Kept.refl _ _, F, h, fun _ hb => .inl hb⟩
theorem Sep.gT {a b c d e f g p : HP} {l : List HP} (h : Sep w₀ S (a :: b :: c :: d :: e :: f :: g :: p :: l) w) : Sep w₀ S (p :: a :: b :: c :: d :: e :: f :: g :: l) w := Sep.front (l1 := [a, b, c, d, e, f, g]) h
theorem Sep.Zv {a p : HP} {l : List HP} (h : Sep w₀ S (p :: a :: l) w) : Sep w₀ S (a :: p :: l) w := h.dS
theorem Sep.Di {a b p : HP} {l : List HP} (h : Sep w₀ S (p :: a :: b :: l) w) : Sep w₀ S (a :: b :: p :: l) w := h.iK.iK
theorem Sep.first (h : Sep w₀ S (p :: rs) w) : Sep w₀ S [p] w := by
 induction rs with
 | nil => exact h
 | cons a rs ih => exact ih (h.dS.fI)
theorem Sep.firsts {l rs : List HP} (h : Sep w₀ S (l ++ rs) w) : Sep w₀ S l w := by
 have := (Sep.bundle h).first.parts
 rwa [List.append_nil] at this
theorem dY {d : Nat} {f : FuncId} {xs : List Operand} {ats : Array TypeId} {vals : List Value} {v : Value} [he : Enters P f]
    (hc : bF P f vals w fun v' w' => v' = v ∧ w = w') (hv : xs.map (evF σ) = vals := by exact rfl) (hd : Nat.blt d n = true := by exact rfl)
    (h : FL P r n ops Q rest (upd σ d v) w) :
    FL P r n ops Q ({ dst := some d, op := .call { callee := .value (.func f), args := xs.toArray, argTypes := ats }, type := ty, pos := pos, after := after, guard := none } :: rest) σ w :=
  bH hc hv hd fun v' w' ⟨hx, hw⟩ => by subst hx; subst hw; exact h
theorem rR {d b o : Nat} {x : Operand} {T : TypeId} [OneCell P T] {cs : List Value} {E : TypeId} {v : Value} (hb : w.heap[b]? = some (.cells cs.toArray E (0, 0))) (hx : evF σ x = .pointer (some ⟨b, o, none⟩) := by exact rfl)
    (hv : cs[o]? = some v := by exact rfl) (hd : Nat.blt d n = true := by exact rfl) (h : FL P r n ops Q rest (upd σ d v) w) :
    FL P r n ops Q ({ dst := some d, op := .load T x, type := ty, pos := pos, after := after, guard := none } :: rest) σ w := eu (Gives.Ol hx hb hv) hd h
theorem eX {d : Nat} {f : FuncId} {xs : List Operand} {ats : Array TypeId} {vals : List Value} {α : Type} {val : α → Value} {φ : α → Prop} {q : α → HP} [he : Enters P f] (H : Sep w₀ S rs w)
    (hc : bF P f vals w fun v w' => ∃ x, v = val x ∧ φ x ∧ Turn noB (q x) w w') (hv : xs.map (evF σ) = vals := by exact rfl) (hd : Nat.blt d n = true := by exact rfl)
    (h : ∀ x w', φ x → Sep w₀ S (q x :: rs) w' → Kept noB w w' → FL P r n ops Q rest (upd σ d (val x)) w') :
    FL P r n ops Q ({ dst := some d, op := .call { callee := .value (.func f), args := xs.toArray, argTypes := ats }, type := ty, pos := pos, after := after, guard := none } :: rest) σ w := by
  refine bH hc hv hd fun v w' ⟨x, hx, hφ, hk, F', hq, hs⟩ => ?_
  subst hx
  exact h x w' hφ (H.new hk hq fun b hb => (hs b hb).resolve_left id) hk
end
end Go.Mw
namespace Go.Mw
open Go.RowKit

section
variable {P : Program} {r : Option Nat} {n : Nat} {ops : Array Oper} {Q : Post} {lv : List Bool} {pd pd' : List (Nat × Bool)} {σ : St} {w w' w₀ : World} {S F : Nat → Prop} {rs : List HP} {p q : HP} {put : HP → List HP} {op : Op} {ty : TypeId} {pos : String} {after : Array Edge} {guard : Option (Nat × Bool)}
theorem bG {id : Nat} {l : List Oper} (hm : P.follows .mixedOrders = true) (H : Sep w₀ S rs w) (fK : fC n l.toArray = true := by kernel_rfl) (h : fC n l.toArray = true → ∀ w', Sep w₀ S rs w' → FG P r n l.toArray Q (List.replicate l.length false) [] σ w') : FW P r n (.region id l.toArray true) Q σ w :=
 U1 hm fK fun w' hk => h fK w' (H.keep hk)
theorem lC {t : Nat} {φ : Prop} [Decidable φ] (hb : σ.get t = .bool (decide φ)) (h1 : φ → FG P r n ops Q lv pd (upd σ t (.bool true)) w) (h0 : ¬ φ → FG P r n ops Q lv pd (upd σ t (.bool false)) w) : FG P r n ops Q lv pd σ w := by
 by_cases hp : φ
 ·have := h1 hp
  rw [show Value.bool true = σ t from by rw [hb, decide_eq_true hp], pV] at this; exact this
 have := h0 hp
 rw [show Value.bool false = σ t from by rw [hb, decide_eq_false hp], pV] at this; exact this
theorem jP {t : Nat} {b : Bool} (hb : σ.get t = .bool b) (h1 : b = true → FG P r n ops Q lv pd (upd σ t (.bool true)) w) (h0 : b = false → FG P r n ops Q lv pd (upd σ t (.bool false)) w) : FG P r n ops Q lv pd σ w := by
 cases b
 ·have := h0 rfl
  rw [show Value.bool false = σ t from hb.symm, pV] at this; exact this
 have := h1 rfl
 rw [show Value.bool true = σ t from hb.symm, pV] at this; exact this
theorem XI (fK : fC n ops = true) (i : Nat) {d : Nat} {x : Operand} {v : Value} (ho : ops[i]? = some { dst := some d, op := .move x, type := ty, pos := pos, after := after, guard := guard } := by exact rfl)
    (hw : Region.wanted { dst := some d, op := .move x, type := ty, pos := pos, after := after, guard := guard } (dR ops σ) = true := by kernel_rfl) (hv : evF σ x = v := by simp only [evF, upd_same, upd_ne, ne_eq, Nat.reduceEqDiff, not_false_eq_true]; rfl) (jl : mP ops lv (pd.map (·.1)) i = true := by kernel_rfl)
    (h : FG P r n ops Q (lv.set i true) ((i, true) :: pd) (upd σ d v) w) : FG P r n ops Q lv pd σ w := FGp fK i ho hw (fun _ => Gives.move hv) jl h
theorem cK (fK : fC n ops = true) (i : Nat) {d b o : Nat} {x : Operand} {T : TypeId} [OneCell P T] {cs : List Value} {E : TypeId} {v : Value} (H : Sep w₀ S rs w) (ho : ops[i]? = some { dst := some d, op := .load T x, type := ty, pos := pos, after := after, guard := guard } := by exact rfl)
    (hw : Region.wanted { dst := some d, op := .load T x, type := ty, pos := pos, after := after, guard := guard } (dR ops σ) = true := by kernel_rfl) (hx : evF σ x = .pointer (some ⟨b, o, none⟩) := by exact rfl)
    (hat : At rs (blk b cs E) put := by first | exact At0 | exact At1 | exact At2 | exact At3 | exact At4 | exact At5 | exact At6 | exact At7 | exact At8 | exact At9) (hv : cs[o]? = some v := by exact rfl) (jl : mP ops lv (pd.map (·.1)) i = true := by kernel_rfl)
    (h : FG P r n ops Q (lv.set i true) ((i, false) :: pd) (upd σ d v) w) : FG P r n ops Q lv pd σ w := FGl fK i ho hw (Gives.Ol hx (H.obj hat) hv) jl h
theorem VD (fK : fC n ops = true) (i : Nat) {d b o k : Nat} {x : Operand} {T : TypeId} [Agg P T k] {cs us : List Value} {E : TypeId} (H : Sep w₀ S rs w) (ho : ops[i]? = some { dst := some d, op := .load T x, type := ty, pos := pos, after := after, guard := guard } := by exact rfl)
    (hw : Region.wanted { dst := some d, op := .load T x, type := ty, pos := pos, after := after, guard := guard } (dR ops σ) = true := by kernel_rfl) (hx : evF σ x = .pointer (some ⟨b, o, none⟩) := by exact rfl)
    (hat : At rs (blk b cs E) put := by first | exact At0 | exact At1 | exact At2 | exact At3 | exact At4 | exact At5 | exact At6 | exact At7 | exact At8 | exact At9) (hu : (cs.drop o).take k = us) (hk : us.length = k) (jl : mP ops lv (pd.map (·.1)) i = true := by kernel_rfl)
    (h : FG P r n ops Q (lv.set i true) ((i, false) :: pd) (upd σ d (.agg us.toArray)) w) : FG P r n ops Q lv pd σ w := FGl fK i ho hw (Gives.nQ hx (H.obj hat) hu hk) jl h
theorem bQ {i d b o : Nat} {x : Operand} {T : TypeId} [OneCell P T] {cs : List Value} {E : TypeId} {v : Value} {l : List (Nat × Bool)} (H : Sep w₀ S rs w) (ho : ops[i]? = some { dst := some d, op := .load T x, type := ty, pos := pos, after := after, guard := guard } := by exact rfl)
    (hw : Region.wanted { dst := some d, op := .load T x, type := ty, pos := pos, after := after, guard := guard } (dR ops σ) = true := by kernel_rfl) (hx : evF σ x = .pointer (some ⟨b, o, none⟩) := by exact rfl)
    (hat : At rs (blk b cs E) put := by first | exact At0 | exact At1 | exact At2 | exact At3 | exact At4 | exact At5 | exact At6 | exact At7 | exact At8 | exact At9) (hv : cs[o]? = some v := by exact rfl) (hd : σ d = v := by exact rfl) (h : jX P ops σ w l) : jX P ops σ w ((i, false) :: l) :=
  eZ ho hw (Gives.Ol hx (H.obj hat) hv) hd h
theorem nI (fK : fC n ops = true) (e : Nat) (pd' : List (Nat × Bool)) {b o : Nat} {x y : Operand} {T : TypeId} [OneCell P T] {cs cs' : List Value} {E : TypeId} {v : Value} (H : Sep w₀ S rs w) (ho : ops[e]? = some { dst := none, op := .store T x y, type := ty, pos := pos, after := after, guard := guard } := by exact rfl)
    (hw : Region.wanted { dst := none, op := .store T x y, type := ty, pos := pos, after := after, guard := guard } (dR ops σ) = true := by kernel_rfl) (hx : evF σ x = .pointer (some ⟨b, o, none⟩) := by exact rfl)
    (hy : evF σ y = v := by simp only [evF, upd_same, upd_ne, ne_eq, Nat.reduceEqDiff, not_false_eq_true]; rfl) (hv : v.oneCell' = true := by exact rfl)
    (hat : At rs (blk b cs E) put := by first | exact At0 | exact At1 | exact At2 | exact At3 | exact At4 | exact At5 | exact At6 | exact At7 | exact At8 | exact At9) (bU : Nat.blt o cs.length = true := by exact rfl)
    (hs : cs.set o v = cs' := by first | (simp only [List.set_cons_zero, List.set_cons_succ]; rfl) | exact rfl) (jl : iq ops lv (pd.map (·.1)) e = true := by kernel_rfl) (qA : pd.filter (fun p => !((above ops e).contains p.1)) = pd' := by kernel_rfl)
    (h : ∀ w', Sep w₀ S (put (blk b cs' E)) w' → jX P ops σ w' pd' ∧ FG P r n ops Q (lv.set e true) pd' σ w') : FG P r n ops Q lv pd σ w :=
  WR fK e pd' ho hw (Ms cs' H hx hy hv hat bU hs) jl qA h
theorem eD (fK : fC n ops = true) (i : Nat) (pd' : List (Nat × Bool)) {d : Nat} {t e : TypeId} {xs : List Operand} {parts : List (Nat × Operand)} {out : List Value} {size bytes : Nat} [hs : dA P t e] [hc : Cells P e size bytes] {z : Value} [hz : Zero P e z] (H : Sep w₀ S rs w) (hE : aU (evF σ) size xs out)
    (ho : ops[i]? = some { dst := some d, op := .buildSlice t xs.length parts.toArray, type := ty, pos := pos, after := after, guard := guard } := by exact rfl)
    (hw : Region.wanted { dst := some d, op := .buildSlice t xs.length parts.toArray, type := ty, pos := pos, after := after, guard := guard } (dR ops σ) = true := by kernel_rfl)
    (hp : parts = (xs.zipIdx 0).map fun p => (p.2, p.1) := by exact rfl) (hlen : Nat.ble (xs.length * size) 16777216 = true := by exact rfl)
    (jl : iq ops lv (pd.map (·.1)) i = true := by kernel_rfl) (qA : pd.filter (fun p => !((above ops i).contains p.1)) = pd' := by kernel_rfl)
    (h : ∀ b w', Sep w₀ S (blk b out e :: rs) w' → jX P ops (upd σ d (.slice (some ⟨b, 0, none⟩) xs.length xs.length)) w' pd' ∧ FG P r n ops Q (lv.set i true) pd' (upd σ d (.slice (some ⟨b, 0, none⟩) xs.length xs.length)) w') : FG P r n ops Q lv pd σ w :=
  xS fK i pd' (C := fun v w' => ∃ b, v = .slice (some ⟨b, 0, none⟩) xs.length xs.length ∧ Sep w₀ S (blk b out e :: rs) w') ho hw ⟨_, _, Gives.buildSlice hE hp hlen, _, rfl, H.alloc _⟩ jl qA fun v w' ⟨b, hv, Rj⟩ => by subst hv; exact h b w' Rj
theorem OI (fK : fC n ops = true) (e : Nat) (pd' : List (Nat × Bool)) {d : Nat} {f : FuncId} {xs : List Operand} {ats : Array TypeId} {vals : List Value} {v : Value} [he : Enters P f] (H : Sep w₀ S rs w) (hc : bF P f vals w fun v' w' => v' = v ∧ w = w')
    (ho : ops[e]? = some { dst := some d, op := .call { callee := .value (.func f), args := xs.toArray, argTypes := ats }, type := ty, pos := pos, after := after, guard := guard } := by exact rfl)
    (hw : Region.wanted { dst := some d, op := .call { callee := .value (.func f), args := xs.toArray, argTypes := ats }, type := ty, pos := pos, after := after, guard := guard } (dR ops σ) = true := by kernel_rfl) (hv : xs.map (evF σ) = vals := by exact rfl) (jl : iq ops lv (pd.map (·.1)) e = true := by kernel_rfl)
    (qA : pd.filter (fun p => !((above ops e).contains p.1)) = pd' := by kernel_rfl) (h : ∀ w', Sep w₀ S rs w' → jX P ops (upd σ d v) w' pd' ∧ FG P r n ops Q (lv.set e true) pd' (upd σ d v) w') : FG P r n ops Q lv pd σ w :=
  sN fK e pd' ho hw hc hv jl qA fun v' w' ⟨h1, h2⟩ => by subst h1; subst h2; exact h w H
theorem lK (fK : fC n ops = true) (e : Nat) (pd' : List (Nat × Bool)) {d : Nat} {f : FuncId} {xs : List Operand} {ats : Array TypeId} {vals : List Value} {α : Type} {val : α → Value} {φ : α → Prop} {q : α → HP} [he : Enters P f] (H : Sep w₀ S rs w)
    (hc : bF P f vals w fun v w' => ∃ x, v = val x ∧ φ x ∧ Turn noB (q x) w w')
    (ho : ops[e]? = some { dst := some d, op := .call { callee := .value (.func f), args := xs.toArray, argTypes := ats }, type := ty, pos := pos, after := after, guard := guard } := by exact rfl)
    (hw : Region.wanted { dst := some d, op := .call { callee := .value (.func f), args := xs.toArray, argTypes := ats }, type := ty, pos := pos, after := after, guard := guard } (dR ops σ) = true := by kernel_rfl) (hv : xs.map (evF σ) = vals := by exact rfl) (jl : iq ops lv (pd.map (·.1)) e = true := by kernel_rfl)
    (qA : pd.filter (fun p => !((above ops e).contains p.1)) = pd' := by kernel_rfl) (h : ∀ x w', φ x → Sep w₀ S (q x :: rs) w' → Kept noB w w' → jX P ops (upd σ d (val x)) w' pd' ∧ FG P r n ops Q (lv.set e true) pd' (upd σ d (val x)) w') : FG P r n ops Q lv pd σ w := by
  refine sN fK e pd' ho hw hc hv jl qA fun v' w' ⟨x, h1, hφ, hk, F', hq, hs⟩ => ?_
  subst h1
  exact h x w' hφ (H.new hk hq fun b hb => (hs b hb).resolve_left id) hk
end
end Go.Mw
namespace Go.Mw
open Go.RowKit

section
variable {P : Program} {r : Option Nat} {n : Nat} {ops : Array Oper} {Q : Post} {lv : List Bool} {pd pd' : List (Nat × Bool)} {rest : List Oper} {σ : St} {w w' w₀ : World} {S F : Nat → Prop} {rs : List HP} {put : HP → List HP} {op : Op} {ty : TypeId} {pos : String} {after : Array Edge} {guard : Option (Nat × Bool)}
theorem Gives.Zw {ρ : Operand → Value} {x y : Operand} {t e : TypeId} [ht : dA P t e] {bytes : Nat} [hc : Cells P e 1 bytes] {b m c i : Nat} {k : IntKind} (hx : ρ x = .slice (some ⟨b, 0, none⟩) m c) (hy : ρ y = .int k i) (bU : i < m) : Gives P ρ (.indexAddr t x y) ty w (.pointer (some ⟨b, i, none⟩)) w := by
 have := Gives.idx (P := P) (ρ := ρ) (ty := ty) (w := w) (t := t) (e := e) (size := 1) (bytes := bytes) hx hy bU
 rwa [Nat.mul_one, Addr.add_lit, Nat.zero_add] at this
theorem Gives.conv {ρ : Operand → Value} {x : Operand} {s t : TypeId} {k j : IntKind} [hs : iH P s j] [ht : iH P t k] {a : Int} (hx : ρ x = .int j a) : Gives P ρ (.convert s t x) ty w (.int k (k.wrap a)) w :=
 Gives.Y1 (by rw [hs.und]; rfl) ht.und hx
theorem Gives.WV {ρ : Operand → Value} {a : Addr} {x : Operand} {T : TypeId} [h1 : OneCell P T] {v : Value} (hx : ρ x = .pointer (some a)) (hc : w.cell? a = some v) : Gives P ρ (.load T x) ty w v w := fun _ _ _ _ => by
 simp [execOp, hx, Instr.loadAt, Instr.sureAddr, loadVar, h1.agg, hc]
theorem Gives.XJ {ρ : Operand → Value} {k : Nat} {a : Addr} {x : Operand} {T : TypeId} [h1 : Agg P T k] {us : List Value} (hx : ρ x = .pointer (some a)) (hc : ∀ j u, us[j]? = some u → w.cell? (a.add j) = some u) (hk : us.length = k) : Gives P ρ (.load T x) ty w (.agg us.toArray) w := fun _ _ _ _ => by
 have := run_loadCells_list (P := P) w a us hc
 rw [hk] at this
 simp [execOp, hx, Instr.loadAt, Instr.sureAddr, loadVar, h1.agg, h1.size, this]
end
end Go.Mw
namespace Go.Mw
open Go.RowKit

def OJ : Op → Bool
 | .buildSlice .. => true
 | .makeSlice .. => true
 | _ => false
def VE (ops : Array Oper) (i : Nat) : Bool := match ops[i]? with
 | some o => OJ o.op
 | none => false
def VF (ops : Array Oper) (M : Nat) : List Bool := (List.range ops.size).map fun i => Nat.blt i M

section
variable (P : Program) (r : Option Nat) (n : Nat) (ops : Array Oper) (Q : Post) (M : Nat) (w₀ : World) (S : Nat → Prop) (rs : List HP) (β : Nat → Nat)
end

section
variable {P : Program} {r : Option Nat} {n : Nat} {ops : Array Oper} {Q : Post} {M : Nat} {w₀ w : World} {S : Nat → Prop} {rs ps : List HP} {β : Nat → Nat} {σ : St} {k i : Nat} {op : Op} {ty : TypeId} {pos : String} {after : Array Edge} {guard : Option (Nat × Bool)}
def stA (ops : Array Oper) (v : Nat → Value) (σ : St) : Nat → St
 | 0 => σ
 | j + 1 => nu (stA ops v σ j) (ig ops j) (v j)
def pcs (ops : Array Oper) (β : Nat → Nat) (ob : Nat → Obj) (L : Nat → Bool) : Nat → List HP
 | 0 => []
 | j + 1 => if (VE ops j && L j) = true then obj (β j) (ob j) :: pcs ops β ob L j else pcs ops β ob L j
theorem FI {ob ob' : Nat → Obj} {L L' : Nat → Bool} : ∀ {j : Nat}, (∀ x, x < j → ob x = ob' x ∧ (VE ops x && L x) = (VE ops x && L' x)) → pcs ops β ob L j = pcs ops β ob' L' j
 | 0, _ => rfl
 | j + 1, h => by
  show (if _ then _ else _) = (if _ then _ else _)
  rw [FI fun x hx => h x (Nat.lt_succ_of_lt hx), (h j (Nat.lt_succ_self j)).1, (h j (Nat.lt_succ_self j)).2]
theorem Ti {v : Nat → Value} : ∀ {j : Nat}, (stA ops v σ j).ds = σ.ds
 | 0 => rfl
 | j + 1 => by show (nu (stA ops v σ j) _ _).ds = _; rw [yX]; exact Ti
theorem FJ {v : Nat → Value} {x : Nat} : ∀ {j : Nat}, (∀ i, i < j → ig ops i ≠ some x) → stA ops v σ j x = σ x
 | 0, _ => rfl
 | j + 1, h => by
  show nu (stA ops v σ j) _ _ x = _
  rw [gI (h j (Nat.lt_succ_self j))]; exact FJ fun i hi => h i (Nat.lt_succ_of_lt hi)
theorem Tj {v : Nat → Value} {d i : Nat} (hd : ig ops i = some d) : ∀ {j : Nat}, i < j → (∀ k, k < j → k ≠ i → ig ops k ≠ some d) → stA ops v σ j d = v i
 | 0, h, _ => absurd h (Nat.not_lt_zero _)
 | j + 1, h, fM => by
  show nu (stA ops v σ j) _ _ d = _
  by_cases hji : j = i
  ·subst hji; rw [hd]; exact upd_same _ _ _
  rw [gI (fM j (Nat.lt_succ_self j) hji)]
  exact Tj hd (Nat.lt_of_le_of_ne (Nat.le_of_lt_succ h) fun e => hji e.symm) fun k hk => fM k (Nat.lt_succ_of_lt hk)

def StepA (P : Program) (ops : Array Oper) (w₀ : World) (S : Nat → Prop) (rs : List HP) (β : Nat → Nat) (i : Nat) (σ : St) (v : Value) (ob : Obj) : Prop :=
 ∃ o, ops[i]? = some o ∧ if OJ o.op = true then ∀ w, Sep w₀ S rs w → w.heap.size = β i → (execOp (evF σ) o).run P w = .ok (.value v) (w.alloc ob) else ∀ w, Sep w₀ S rs w → (execOp (evF σ) o).run P w = .ok (.value v) w

def Fits (ops : Array Oper) (β : Nat → Nat) : List Nat → Nat → Prop
 | [], _ => True
 | i :: s, N => if VE ops i = true then β i = N ∧ Fits ops β s (N + 1) else Fits ops β s N
structure CkA (ops : Array Oper) (M : Nat) : Prop where
 le : M ≤ ops.size
 ug : ∀ i, i < M → ∃ o d, ops[i]? = some o ∧ o.guard = none ∧ o.dst = some d
 pr : ∀ i, i < M → ∀ e ∈ j4 ops i, e < i
 lk : ∀ i, i < M → ∀ k, k < M → ∀ d, ig ops k = some d → d ∈ looks ops i → k ∈ j4 ops i
 ds : ∀ i, i < M → ∀ k, k < M → i ≠ k → ∀ d, ig ops k = some d → ig ops i ≠ some d
 ab : ∀ j, M ≤ j → j < ops.size → ∀ i, i < M → i ∈ above ops j
structure Zx (P : Program) (r : Option Nat) (n : Nat) (ops : Array Oper) (Q : Post) (M : Nat) (w₀ : World) (S : Nat → Prop) (rs : List HP) (σ : St) (lr : Array Bool) (a : Act) (w : World) : Prop where
 sz : lr.size = ops.size
 cl : ∀ i, lr.getD i false = true → ∀ e ∈ j4 ops i, lr.getD e false = true
 hi : ∀ j, M ≤ j → j < ops.size → lr.getD j true = false
 fut : ∀ s : List Nat, s.Nodup → (∀ i, i ∈ s ↔ i < M ∧ lr.getD i true = false) → ∃ β, Fits ops β s w.heap.size ∧ ∃ v ob,
  (∀ j, j < M → StepA P ops w₀ S rs β j (stA ops v σ j) (v j) (ob j)) ∧ (∀ w', Sep w₀ S (pcs ops β ob (fun _ => true) M ++ rs) w' → FG P r n ops Q (VF ops M) [] (stA ops v σ M) w') ∧
  (∃ σr, Rep n σr a ∧ σr.ds = σ.ds ∧ (∀ i, i < M → lr.getD i true = true → ∀ d, ig ops i = some d → σr d = v i) ∧ ∀ x, (∀ i, i < M → lr.getD i true = true → ig ops i ≠ some x) → σr x = σ x) ∧
  Sep w₀ S (pcs ops β ob (fun i => lr.getD i true) M ++ rs) w

theorem Qa {i : Nat} (h : i < ops.size) : (VF ops M).getD i true = Nat.blt i M := by
 simp [VF, List.getD_eq_getElem?_getD, h]
theorem Zx.fin (jl : CkA ops M) {lr : Array Bool} {a : Act} {w : World} (h : Zx P r n ops Q M w₀ S rs σ lr a w) (lu : ∀ i, i < M → lr.getD i true = true) : wpAnyIn (fen r) 0 P .any ops (lift n Q) (left ops lr) lr a w := by
 obtain ⟨β, _, v, ob, _, bY, ⟨σr, yR, Q7, ha, hb⟩, Rj⟩ := h.fut [] List.nodup_nil (fun i => ⟨(fun hi => by cases hi), fun hi => by have h2 := hi.2; rw [lu i hi.1] at h2; cases h2⟩)
 rw [FI (ob' := ob) (L' := fun _ => true) fun x hx => ⟨rfl, by rw [lu x hx]⟩] at Rj
 have hσ : σr = stA ops v σ M := by
  refine St.Oj (fun x => ?_) (by rw [Q7, Ti])
  by_cases hx : ∃ i, i < M ∧ ig ops i = some x
  ·obtain ⟨i, hi, hd⟩ := hx
   rw [ha i hi (lu i hi) x hd, Tj hd hi fun k hk BZ => jl.ds k hk i hi BZ x hd]
  have mq : ∀ i, i < M → ig ops i ≠ some x := fun i hi hd => hx ⟨i, hi, hd⟩
  rw [hb x fun i hi _ => mq i hi, FJ mq]
 subst hσ
 refine bY w Rj [] lr a ⟨(fun _ hp => by cases hp), List.nodup_nil, List.Pairwise.nil, (fun _ hp => by cases hp), (fun _ hp => by cases hp), fun i hi => ?_, h.sz, by simp [VF], h.cl, ⟨_, yR, rfl, fun _ _ => rfl⟩, (fun _ hp => by cases hp), (fun _ hp => by cases hp), (fun _ hp => by cases hp)⟩
 rw [Qa hi]
 rcases Nat.lt_or_ge i M with h1 | h1
 ·rw [lu i h1, show Nat.blt i M = true from by rw [Nat.blt_eq]; exact h1]; rfl
 rw [h.hi i h1 hi, show Nat.blt i M = false from by rw [← Bool.not_eq_true, Nat.blt_eq]; omega]; rfl
/-! The walk's rules, as scripts use them: j is the next one's number. -/
section
variable {op : Op} {ty : TypeId} {pos : String} {after : Array Edge} {guard : Option (Nat × Bool)} {k i : Nat} {β : Nat → Nat} {ps : List HP}
end
end
end Go.Mw
namespace Go.Mw
open Go.RowKit

section
variable {w w' w₀ : World} {S : Nat → Prop} {rs : List HP} {put : HP → List HP}
theorem Sep.Je {E s n : Nat} {v : Value} {xs : List Value} (h : Sep w₀ S rs w) (hat : At rs (yj E s v n xs) put) (hn : 0 < n) :
    ∃ g c rest, v = .slice (some ⟨g, 0, none⟩) n c ∧ (xs ++ rest).length = c * s ∧ xs.length = n * s ∧ n ≤ c ∧ c ≤ maxLen ∧ Sep w₀ S (put (blk g (xs ++ rest) E)) w := by
  obtain ⟨F, hp, hS, zR⟩ := h.focus hat
  obtain ⟨⟨hl, ho⟩, hF⟩ := hp
  rcases ho with ⟨_, h0⟩ | ⟨g, c, cur, hv, _, hh, rG, hmax, hsz, Ca⟩
  · omega
  have e : cur = (xs ++ cur.toList.drop (n * s)).toArray := by
    rw [← Ca, List.take_append_drop, Array.toArray_toList]
  refine ⟨g, c, cur.toList.drop (n * s), hv, ?_, hl, rG, hmax, ?_⟩
  · have := congrArg Array.size e
    rw [hsz] at this
    simpa using this.symm
  refine h.imp hat fun F hF => ⟨fun b => ?_, ?_⟩
  · rw [hF.2 b, hv]
    simp [Value.ownBlock, eq_comm]
  show w.heap[g]? = some (.cells (xs ++ cur.toList.drop (n * s)).toArray E (0, 0))
  rw [hh, ← e]
theorem Sep.Jf {E s n c g : Nat} {xs rest : List Value} (h : Sep w₀ S rs w) (hat : At rs (blk g (xs ++ rest) E) put) (hc : (xs ++ rest).length = c * s) (hl : xs.length = n * s) (rG : n ≤ c) (hm : c ≤ maxLen) :
    Sep w₀ S (put (yj E s (.slice (some ⟨g, 0, none⟩) n c) n xs)) w :=
  h.imp hat fun F hF => ⟨⟨hl, .inr ⟨g, c, (xs ++ rest).toArray, rfl, Nat.zero_le _, hF.2, rG, hm, by simpa using hc, by rw [← hl]; simp⟩⟩, fun x => by rw [hF.1 x]; simp [Value.ownBlock, eq_comm]⟩
theorem FK {xs rest : List Value} {i : Nat} {v : Value} (h : i < xs.length) : (xs ++ rest).set i v = xs.set i v ++ rest := by
 rw [List.set_append_left _ _ h]
end
end Go.Mw
namespace Go.Mw
open Go.RowKit

section
variable {P : Program} {r : Option Nat} {n : Nat} {ops : Array Oper} {Q : Post} {lv : List Bool} {pd pd' : List (Nat × Bool)} {rest : List Oper} {σ : St} {w w' w₀ : World} {S F : Nat → Prop} {rs : List HP} {p q p0 : HP} {put : HP → List HP} {op : Op} {ty : TypeId} {pos : String} {after : Array Edge} {guard : Option (Nat × Bool)}
end
end Go.Mw
namespace Go.Mw
open Go.RowKit
open Extern.Stop (cell)

section gives
variable {P : Program} {ρ : Operand → Value} {ty : TypeId} {w w' : World} {x y z u : Operand}
class aa4 (P : Program) (t : TypeId) : Prop where
 ok : P.eqGuardType P.depth t = false
theorem run_eqGuard_agg {op : BinOp} {t : TypeId} [h : aa4 P t] {xs ys : Array Value} (x y : Operand) : (eqGuard op t x y (.agg xs) (.agg ys)).run P w = .ok () w := by
 unfold eqGuard
 cases op <;> simp [h.ok, run_program]
end gives

section cells
variable {P : Program} {w : World}
def nJ (P : Program) (σ : St) (w : World) : List ResultVar → List Value → Prop
 | [], vs => vs = []
 | .tmp t :: l, vs => ∃ us, vs = σ t :: us ∧ nJ P σ w l us
 | .cell a t :: l, vs => ∃ v us ad, vs = v :: us ∧ σ a = .pointer (some ad) ∧ (loadVar t ad).run P w = .ok v w ∧ nJ P σ w l us
theorem EB {σ : St} (g : ResultVar → Sem Value) (hg : ∀ t, g (.tmp t) = pure (σ t)) (hc : ∀ a t, g (.cell a t) = (do loadVar t (← asAddr (σ a)))) : ∀ (l : List ResultVar) (vs : List Value), nJ P σ w l vs →
    (List.mapM g l).run P w = .ok vs w := by
  intro l
  induction l with
  | nil => intro vs h; have h : vs = [] := h; subst h; rfl
  | cons r l ih =>
    intro vs h
    cases r with
    | cell a t =>
      obtain ⟨v, us, ad, rfl, h1, h2, h3⟩ := h
      rw [List.mapM_cons, hc, h1]
      simp [asAddr, h2, ih us h3]
    | tmp t =>
      obtain ⟨us, rfl, h3⟩ := h
      rw [List.mapM_cons, hg]
      simp [ih us h3]
theorem pF {fn : Func} {tmps : Array Value} {σ : St} (hσ : ∀ i, tmps.getD i undef = σ i) {l : List ResultVar} (hl : fn.results = l.toArray) {vs : List Value} (h : nJ P σ w l vs) :
    (results fn tmps).run P w = .ok (fB vs) w := by
  unfold results
  rw [hl, List.mapM_toArray]
  have := EB (P := P) (w := w) (σ := σ) (fun
    | .tmp t => pure (tmps.getD t undef)
    | .cell a t => do loadVar t (← asAddr (tmps.getD a undef))) (fun t => by simp [hσ]) (fun a t => by simp [hσ]) l vs h
  rw [Sem.run_bind, Sem.run_map]
  refine (congrArg (fun r => (Result.andThen r _).andThen _) this).trans ?_
  simp only [Result.andThen_ok]
  match vs with
  | [] => simp [fB]
  | [v] => simp [fB]
  | u :: v :: us => simp [fB]
def Tk (P : Program) (l : List ResultVar) (R : Value → World → Prop) : Post := fun e σ w => match e with
 | .normal | .ret => σ.ds = [] ∧ ∃ vs, nJ P σ w l vs ∧ R (fB vs) w
 | _ => False
theorem aW {l : List ResultVar} {R : Value → World → Prop} {σ : St} (h : ∃ vs, nJ P σ w l vs ∧ R (fB vs) w) (hd : σ.ds = [] := by exact rfl) : Tk P l R .ret σ w := ⟨hd, h⟩
theorem u6 {f : FuncId} {fn : Func} {c : Code} {args : List Value} {R : Value → World → Prop} {n : Nat} {l : List ResultVar}
    (hf : P.funcs[f]? = some fn) (hb : fn.body = some c) (hn : fn.ntmps = n) (hl : fn.results = l.toArray) (Gv : Nat.ble args.length n = true)
    (h : FW P none n c (Tk P l R) (AU 0 args) w) : bF P f args w R := by
  have rG : args.length ≤ n := Nat.le_of_ble_eq_true Gv
  refine (callsIn_wide (n := 0)).1 (callsIn_of_wp_marks (F := fen none) hf hb trivial (Go.wpIn_mono (h _ ⟨?_, (Cw args 0).symm, fun i => ?_⟩) ?_))
  · simp [hn]; omega
  · rw [vR]
    simp only [Nat.zero_le, if_true, Nat.sub_zero]
    simp only [Array.getD_eq_getD_getElem?, List.getElem?_toArray]
    rw [Array.getElem?_append]
    split
    · simp
    rename_i LU
    simp at LU
    rw [List.getElem?_eq_none (by omega)]
    rw [Array.getElem?_replicate]
    split <;> rfl
  rintro e a' w' ⟨s, hs, hq⟩
  cases e with
  | normal =>
    obtain ⟨h0, vs, h1, h2⟩ := hq
    show LeavesInM _ _ _ _ _ _ _ _ _
    rw [hs.defers, h0]
    exact ⟨_, pF hs.get hl h1, h2⟩
  | ret =>
    obtain ⟨h0, vs, h1, h2⟩ := hq
    show LeavesInM _ _ _ _ _ _ _ _ _
    rw [hs.defers, h0]
    exact ⟨_, pF hs.get hl h1, h2⟩
  | _ => exact hq.elim
section
variable {f : FuncId} {fn : Func} {c : Code} {R : Value → World → Prop} {n : Nat} {l : List ResultVar} (hf : P.funcs[f]? = some fn) (hb : fn.body = some c) (hn : fn.ntmps = n) (hl : fn.results = l.toArray)
include hf hb hn hl
theorem qo {a0 : Value} (hk : Nat.ble 1 n = true) (h : FW P none n c (Tk P l R) (upd und 0 a0) w) : bF P f [a0] w R := u6 hf hb hn hl hk h
theorem Ai {a0 a1 : Value} (hk : Nat.ble 2 n = true) (h : FW P none n c (Tk P l R) (upd (upd und 1 a1) 0 a0) w) : bF P f [a0, a1] w R := u6 hf hb hn hl hk h
theorem Tm {a0 a1 a2 : Value} (hk : Nat.ble 3 n = true) (h : FW P none n c (Tk P l R) (upd (upd (upd und 2 a2) 1 a1) 0 a0) w) : bF P f [a0, a1, a2] w R := u6 hf hb hn hl hk h
end
theorem jw {b o T k : Nat} [h1 : Agg P T k] {cs us : List Value} {E : TypeId} (hb : w.heap[b]? = some (.cells cs.toArray E (0, 0))) (hu : (cs.drop o).take k = us) (hk : us.length = k) : (loadVar T ⟨b, o, none⟩).run P w = .ok (.agg us.toArray) w := by
 simp [loadVar, h1.agg, h1.size, qD hb hu hk]
end cells

section drawq
variable {P : Program} {r : Option Nat} {n : Nat} {ops : Array Oper} {Q : Post} {lv : List Bool} {pd : List (Nat × Bool)} {σ : St} {w w₀ : World} {S : Nat → Prop} {rs : List HP} {ty : TypeId} {pos : String} {after : Array Edge} {guard : Option (Nat × Bool)}
theorem fQ (fK : fC n ops = true) (e : Nat) (pd' : List (Nat × Bool)) {d : Nat} {f : FuncId} {xs : List Operand} {ats : Array TypeId} {vals : List Value} {v : Value} [he : Enters P f] (H : Sep w₀ S rs w) (hc : bF P f vals w fun v' w' => v' = v ∧ Kept noB w w')
    (ho : ops[e]? = some { dst := some d, op := .call { callee := .value (.func f), args := xs.toArray, argTypes := ats }, type := ty, pos := pos, after := after, guard := guard } := by exact rfl)
    (hw : Region.wanted { dst := some d, op := .call { callee := .value (.func f), args := xs.toArray, argTypes := ats }, type := ty, pos := pos, after := after, guard := guard } (dR ops σ) = true := by kernel_rfl) (hv : xs.map (evF σ) = vals := by exact rfl) (jl : iq ops lv (pd.map (·.1)) e = true := by kernel_rfl)
    (qA : pd.filter (fun p => !((above ops e).contains p.1)) = pd' := by kernel_rfl) (h : ∀ w', Sep w₀ S rs w' → Kept noB w w' → jX P ops (upd σ d v) w' pd' ∧ FG P r n ops Q (lv.set e true) pd' (upd σ d v) w') : FG P r n ops Q lv pd σ w :=
  sN fK e pd' ho hw hc hv jl qA fun v' w' ⟨h1, h2⟩ => by subst h1; exact h w' (H.keep h2) h2
end drawq
def Zy (E : Nat) (v : Value) (n : Nat) (xs : List Value) : HP := exH fun x : Option (Nat × List Value) × Nat => match x with
 | (none, c) => mH (v = .slice none n c ∧ n = 0 ∧ xs = [])
 | (some (g, rest), c) => star (mH (v = .slice (some ⟨g, 0, none⟩) n c ∧ xs.length = n ∧ n ≤ c)) (blk g (xs ++ rest) E)
section pre
variable {w₀ w w' : World} {S : Nat → Prop} {rs : List HP} {put : HP → List HP}
theorem VG {E n c : Nat} {A : Option Addr} {xs : List Value} {F : Nat → Prop} (h : (Zy E (.slice A n c) n xs).ok F w) : iI w A n 1 xs := by
 obtain ⟨⟨_ | ⟨g, rest⟩, c'⟩, hx⟩ := h
 ·obtain ⟨⟨h1, h2, h3⟩, _⟩ := hx
  subst h2 h3
  exact iI.nil _ _ _
 obtain ⟨F1, F2, hF, hd, ⟨⟨h1, h2, h3⟩, _⟩, hb⟩ := hx
 injection h1 with h1 _ _
 subst h1
 refine ⟨by omega, fun _ => ⟨_, rfl, fun j u hu => ?_⟩⟩
 rw [Addr.add_lit, Nat.zero_add, og hb.2, List.getElem?_append_left (List.getElem?_eq_some_iff.1 hu).1]
 exact hu
theorem Sep.preRow {E n c : Nat} {A : Option Addr} {xs : List Value} (h : Sep w₀ S rs w) (hat : At rs (Zy E (.slice A n c) n xs) put) : iI w A n 1 xs := by
 obtain ⟨F, hp, _, _⟩ := h.focus hat
 exact VG hp
end pre
end Go.Mw
namespace Go.Proofs.YtolaedhdjcnijaaGreatDoor
open Go Go.Lib

def d9 (l : List UInt8) : Option (Nat × Nat) := if l = [] ∨ ((decodeL l).1 = 65533 ∧ (decodeL l).2 = 1) then none else some (decodeL l)
def u7 (r : Int) : Option (List UInt8) := if r < 0 ∨ 1114111 < r ∨ (55296 ≤ r ∧ r ≤ 57343) then none else some (encodeRune r)
def qZ : List UInt8 → Nat
 | [a] => a.toNat
 | [a, b] => 64 * (a.toNat % 32) + b.toNat % 64
 | [a, b, c] => 64 * (64 * (a.toNat % 16) + b.toNat % 64) + c.toNat % 64
 | [a, b, c, d] => 64 * (64 * (64 * (a.toNat % 8) + b.toNat % 64) + c.toNat % 64) + d.toNat % 64
 | _ => 0
def okL (l : List UInt8) (k : Nat) : Prop := u7 (qZ (l.take k) : Nat) = some (l.take k)
instance (l : List UInt8) (k : Nat) : Decidable (okL l k) := by unfold okL; infer_instance

theorem OL {n : Nat} {a : UInt8} : n.toUInt8 = a ↔ n % 256 = a.toNat := by
 rw [← UInt8.toNat_inj]
 simp
section
variable {a b c d : UInt8} {t : List UInt8}
theorem ok1 : okL (a :: t) 1 ↔ a.toNat < 128 := by
 have ha := a.toNat_lt
 unfold okL
 simp only [List.take_succ_cons, List.take_zero, qZ]
 unfold u7
 rw [if_neg (by omega)]
 constructor
 ·intro h
  refine Classical.byContradiction fun hn => ?_
  rw [encodeRune, encodeRuneZ_two (by omega) (by omega)] at h
  simp at h
 intro h
 rw [encodeRune, encodeRuneZ_one (by omega) (by omega)]
 simp
theorem ok2 : okL (a :: b :: t) 2 ↔ a.toNat / 32 = 6 ∧ b.toNat / 64 = 2 ∧ 128 ≤ a.toNat % 32 * 64 + b.toNat % 64 := by
 have ha := a.toNat_lt
 have hb := b.toNat_lt
 unfold okL
 simp only [List.take_succ_cons, List.take_zero, qZ]
 unfold u7
 rw [if_neg (by omega)]
 by_cases h0 : 64 * (a.toNat % 32) + b.toNat % 64 < 128
 ·rw [encodeRune, encodeRuneZ_one (by omega) (by omega)]
  simp
  omega
 rw [encodeRune, encodeRuneZ_two (by omega) (by omega)]
 simp only [List.map_cons, List.map_nil, Option.some.injEq, List.cons.injEq, and_true, OL]
 omega
theorem ok3 : okL (a :: b :: c :: t) 3 ↔ a.toNat / 16 = 14 ∧ b.toNat / 64 = 2 ∧ c.toNat / 64 = 2 ∧ 2048 ≤ a.toNat % 16 * 4096 + b.toNat % 64 * 64 + c.toNat % 64 ∧
    (a.toNat % 16 * 4096 + b.toNat % 64 * 64 + c.toNat % 64 < 55296 ∨ 57344 ≤ a.toNat % 16 * 4096 + b.toNat % 64 * 64 + c.toNat % 64) := by
  have ha := a.toNat_lt
  have hb := b.toNat_lt
  have hc := c.toNat_lt
  unfold okL
  simp only [List.take_succ_cons, List.take_zero, qZ]
  unfold u7
  by_cases hs : 55296 ≤ 64 * (64 * (a.toNat % 16) + b.toNat % 64) + c.toNat % 64 ∧ 64 * (64 * (a.toNat % 16) + b.toNat % 64) + c.toNat % 64 ≤ 57343
  · rw [if_pos (by omega)]
    simp
    omega
  rw [if_neg (by omega)]
  by_cases h0 : 64 * (64 * (a.toNat % 16) + b.toNat % 64) + c.toNat % 64 < 128
  · rw [encodeRune, encodeRuneZ_one (by omega) (by omega)]
    simp
    omega
  by_cases h1 : 64 * (64 * (a.toNat % 16) + b.toNat % 64) + c.toNat % 64 < 2048
  · rw [encodeRune, encodeRuneZ_two (by omega) (by omega)]
    simp
    omega
  rw [encodeRune, encodeRuneZ_three (by omega)]
  simp only [List.map_cons, List.map_nil, Option.some.injEq, List.cons.injEq, and_true, OL]
  omega
theorem ok4 : okL (a :: b :: c :: d :: t) 4 ↔ a.toNat / 8 = 30 ∧ b.toNat / 64 = 2 ∧ c.toNat / 64 = 2 ∧ d.toNat / 64 = 2 ∧ 65536 ≤ a.toNat % 8 * 262144 + b.toNat % 64 * 4096 + c.toNat % 64 * 64 + d.toNat % 64 ∧
    a.toNat % 8 * 262144 + b.toNat % 64 * 4096 + c.toNat % 64 * 64 + d.toNat % 64 ≤ 1114111 := by
  have ha := a.toNat_lt
  have hb := b.toNat_lt
  have hc := c.toNat_lt
  have hd := d.toNat_lt
  unfold okL
  simp only [List.take_succ_cons, List.take_zero, qZ]
  unfold u7
  obtain ⟨n, hn⟩ : ∃ n, n = 64 * (64 * (64 * (a.toNat % 8) + b.toNat % 64) + c.toNat % 64) + d.toNat % 64 := ⟨_, rfl⟩
  rw [← hn]
  by_cases hs : 1114111 < n ∨ (55296 ≤ n ∧ n ≤ 57343)
  · rw [if_pos (by omega)]
    simp
    omega
  rw [if_neg (by omega)]
  by_cases h0 : n < 128
  · rw [encodeRune, encodeRuneZ_one (by omega) (by omega)]
    simp
    omega
  by_cases h1 : n < 2048
  · rw [encodeRune, encodeRuneZ_two (by omega) (by omega)]
    simp
    omega
  by_cases h2 : n < 65536
  · rw [encodeRune, encodeRuneZ_three (by omega)]
    simp
    omega
  rw [encodeRune, encodeRuneZ_four (by omega) (by omega)]
  simp only [List.map_cons, List.map_nil, Option.some.injEq, List.cons.injEq, and_true, OL]
  omega
end
theorem nK (a : UInt8) (t : List UInt8) : decodeL (a :: t) = decodeN (t.length + 1) a.toNat (t.getD 0 0).toNat (t.getD 1 0).toNat (t.getD 2 0).toNat := by
 rw [decodeL_N]; rfl
theorem nV {l : List UInt8} {k : Nat} (h1 : 1 ≤ k) (h4 : k ≤ 4) (hk : k ≤ l.length) (h : okL l k) : d9 l = some (qZ (l.take k), k) := by
 have hk' : k = 1 ∨ k = 2 ∨ k = 3 ∨ k = 4 := by omega
 unfold d9
 rcases hk' with rfl | rfl | rfl | rfl
 ·obtain ⟨a, t, rfl⟩ : ∃ a t, l = a :: t := by cases l with | nil => simp at hk | cons a t => exact ⟨a, t, rfl⟩
  have h := ok1.1 h
  have hd : decodeL (a :: t) = (a.toNat, 1) := by rw [nK, decodeN, if_pos h]
  rw [hd, if_neg (by simp; omega)]
  rfl
 ·obtain ⟨a, b, t, rfl⟩ : ∃ a b t, l = a :: b :: t := by match l, hk with | a :: b :: t, _ => exact ⟨a, b, t, rfl⟩
  obtain ⟨h2, h3, h5⟩ := ok2.1 h
  have hd : decodeL (a :: b :: t) = (a.toNat % 32 * 64 + b.toNat % 64, 2) := by
   rw [nK, decodeN, if_neg (by omega), if_pos ⟨h2, by simp, by simpa using h3⟩]
   simp only [List.getD_cons_zero]
   rw [if_pos h5]
  rw [hd, if_neg (by simp)]
  simp only [List.take_succ_cons, List.take_zero, qZ]
  congr 2; omega
 ·obtain ⟨a, b, c, t, rfl⟩ : ∃ a b c t, l = a :: b :: c :: t := by match l, hk with | a :: b :: c :: t, _ => exact ⟨a, b, c, t, rfl⟩
  obtain ⟨h2, h3, h5, h6, h7⟩ := ok3.1 h
  have hd : decodeL (a :: b :: c :: t) = (a.toNat % 16 * 4096 + b.toNat % 64 * 64 + c.toNat % 64, 3) := by
   rw [nK, decodeN, if_neg (by omega), if_neg (by omega), if_pos ⟨h2, ⟨by simp, by simpa using h3⟩, by simp, by simpa using h5⟩]
   simp only [List.getD_cons_zero, List.getD_cons_succ]
   rw [if_pos ⟨h6, by omega⟩]
  rw [hd, if_neg (by simp)]
  simp only [List.take_succ_cons, List.take_zero, qZ]
  congr 2; omega
 obtain ⟨a, b, c, d, t, rfl⟩ : ∃ a b c d t, l = a :: b :: c :: d :: t := by match l, hk with | a :: b :: c :: d :: t, _ => exact ⟨a, b, c, d, t, rfl⟩
 obtain ⟨h2, h3, h5, h6, h7, h8⟩ := ok4.1 h
 have hd : decodeL (a :: b :: c :: d :: t) = (a.toNat % 8 * 262144 + b.toNat % 64 * 4096 + c.toNat % 64 * 64 + d.toNat % 64, 4) := by
  rw [nK, decodeN, if_neg (by omega), if_neg (by omega), if_neg (by omega), if_pos ⟨h2, ⟨by simp, by simpa using h3⟩, ⟨by simp, by simpa using h5⟩, by simp, by simpa using h6⟩]
  simp only [List.getD_cons_zero, List.getD_cons_succ]
  rw [if_pos ⟨h7, by omega⟩]
 rw [hd, if_neg (by simp)]
 simp only [List.take_succ_cons, List.take_zero, qZ]
 congr 2; omega
theorem Aj {l : List UInt8} (h : ∀ k, 1 ≤ k → k ≤ 4 → k ≤ l.length → ¬ okL l k) : d9 l = none := by
  unfold d9
  match l, h with
  | [], _ => rw [if_pos (.inl rfl)]
  | a :: t, h =>
    rw [nK]
    rcases decodeN_shape (t.length + 1) a.toNat (t.getD 0 0).toNat (t.getD 1 0).toNat (t.getD 2 0).toNat with ⟨c, e⟩ | ⟨c1, c2, c3, cv, e⟩ | ⟨c1, c2, c3, c4, cv, cs, e⟩ | ⟨c1, c2, c3, c4, c5, cv, cw, e⟩ | e
    · exact absurd (ok1.2 c) (h 1 (by omega) (by omega) (by simp))
    · obtain ⟨b, u, rfl⟩ : ∃ b u, t = b :: u := by cases t with | nil => simp at c2 | cons b u => exact ⟨b, u, rfl⟩
      exact absurd (ok2.2 ⟨c1, c3, cv⟩) (h 2 (by omega) (by omega) (by simp))
    · obtain ⟨b, c, u, rfl⟩ : ∃ b c u, t = b :: c :: u := by
        cases t with
        | nil => simp at c2
        | cons b u => cases u with
          | nil => simp at c2
          | cons c u => exact ⟨b, c, u, rfl⟩
      exact absurd (ok3.2 ⟨c1, c3, c4, cv, cs⟩) (h 3 (by omega) (by omega) (by simp))
    · obtain ⟨b, c, d, u, rfl⟩ : ∃ b c d u, t = b :: c :: d :: u := by
        cases t with
        | nil => simp at c2
        | cons b u => cases u with
          | nil => simp at c2
          | cons c u => cases u with
            | nil => simp at c2
            | cons d u => exact ⟨b, c, d, u, rfl⟩
      exact absurd (ok4.2 ⟨c1, c3, c4, c5, cv, cw⟩) (h 4 (by omega) (by omega) (by simp))
    rw [e, if_pos (.inr ⟨rfl, rfl⟩)]
theorem pU {l : List UInt8} {r n : Nat} (h : d9 l = some (r, n)) : decodeL l = (r, n) ∧ 1 ≤ n ∧ n ≤ l.length ∧ encodeRune (r : Int) = l.take n := by
 unfold d9 at h
 split at h
 ·cases h
 rename_i hn
 injection h with h
 have fM : l ≠ [] := fun e => hn (.inl e)
 have hv : ¬ ((decodeL l).1 = 65533 ∧ (decodeL l).2 = 1) := fun e => hn (.inr e)
 have h1 := encode_decode l fM hv
 have h2 := decodeL_le l fM
 have h3 := decodeL_width l
 rw [h] at h1 h2 h3
 exact ⟨h, h3, h2, h1⟩
theorem yF {l : List UInt8} (fM : l ≠ []) : validD l = match d9 l with | none => false | some (_, n) => validD (l.drop n) := by
 rw [validD_step l fM]
 unfold d9
 by_cases h : (decodeL l).1 = 65533 ∧ (decodeL l).2 = 1
 ·rw [if_pos h, if_pos (.inr h)]
 rw [if_neg h, if_neg (fun e => e.elim fM h)]
end Go.Proofs.YtolaedhdjcnijaaGreatDoor
