/-
  Arrays: slices of them, arrays of slices, equality of bytes; results that live in a cell; addresses at an offset. Nothing of a given program stands here.
-/
import Derived.Test.YteflbohpabdjkaaMwConv
import Derived.Stop.BytesEq
namespace Go.Mw
open Go.RowKit
open Extern.Stop (cell)

section gives
variable {P : Program} {ρ : Operand → Value} {ty : TypeId} {w w' : World} {x y z u : Operand}
theorem Gives.sliceArrTo {t e : TypeId} {m : Nat} [ht : IsArray P t m e] {size bytes : Nat} [hc : Cells P e size bytes] {a : Addr} {h : Nat} {k : IntKind} (hx : ρ x = .pointer (some a)) (hy : ρ y = .int k h) (hle : h ≤ m) : Gives P ρ (.slice t x none (some y) none) ty w (.slice (some a) h m) w := fun _ _ _ _ => by
  obtain ⟨i, hi, hsb⟩ := Option.map_eq_some_iff.1 hc.size
  have e1 : (0 : Int) ≤ (h : Int) ∧ (h : Int) ≤ (m : Int) := by omega
  simp [execOp, hx, hy, Instr.sliceAt, run_underlying ht.und, Instr.sliceBounds, Instr.sliceBound, asIntOf, e1, Instr.sureAddr, sizeOf, typeInfo, hi, Addr.add_zero']
  omega
theorem Gives.sliceArrBoth {t e : TypeId} {m : Nat} [ht : IsArray P t m e] {size bytes : Nat} [hc : Cells P e size bytes] {a : Addr} {l h : Nat} {k j : IntKind} (hx : ρ x = .pointer (some a)) (hy : ρ y = .int k l) (hz : ρ z = .int j h) (hle : l ≤ h) (hle2 : h ≤ m) : Gives P ρ (.slice t x (some y) (some z) none) ty w (.slice (some (if m = l then a else a.add (l * size))) (h - l) (m - l)) w := fun _ _ _ _ => by
  obtain ⟨i, hi, hsb⟩ := Option.map_eq_some_iff.1 hc.size
  simp only [Prod.mk.injEq] at hsb
  have e1 : (0 : Int) ≤ (l : Int) ∧ (l : Int) ≤ (h : Int) := by omega
  have e2 : (0 : Int) ≤ (h : Int) ∧ (h : Int) ≤ (m : Int) := by omega
  simp [execOp, hx, hy, hz, Instr.sliceAt, run_underlying ht.und, Instr.sliceBounds, Instr.sliceBound, asIntOf, e1, e2, Instr.sureAddr, sizeOf, typeInfo, hi, hsb.1, hle, hle2]
/-- x[:h:c]. -/
theorem Gives.slice3 {t e : TypeId} [ht : IsSlice P t e] {size bytes : Nat} [hc : Cells P e size bytes] {A : Option Addr} {m c h d : Nat} {k j : IntKind} (hx : ρ x = .slice A m c) (hy : ρ y = .int k h) (hz : ρ z = .int j d) (hle : h ≤ d) (hle2 : d ≤ c) : Gives P ρ (.slice t x none (some y) (some z)) ty w (.slice A h d) w := fun _ _ _ _ => by
  obtain ⟨i, hi, hsb⟩ := Option.map_eq_some_iff.1 hc.size
  have e1 : (0 : Int) ≤ (h : Int) ∧ (h : Int) ≤ (d : Int) := by omega
  have e0 : (0 : Int) ≤ (d : Int) ∧ (d : Int) ≤ (c : Int) := by omega
  have e2 : A.map (fun x : Addr => x.add 0) = A := by cases A <;> simp [Addr.add_zero']
  simp [execOp, hx, hy, hz, Instr.sliceAt, run_underlying ht.und, Instr.slice, Instr.sliceBounds, Instr.sliceBound, asIntOf, e0, e1, sizeOf, typeInfo, hi, e2, hle, hle2]
/-- An array's address out of a slice. -/
theorem Gives.arrayAt {t e : TypeId} {m : Nat} [ht : IsArray P t m e] {A : Option Addr} {n c : Nat} (hx : ρ x = .slice A n c) (hle : m ≤ n) : Gives P ρ (.sliceToArrayPointer t x) ty w (.pointer A) w := fun _ _ _ _ => by
  have : ¬ n < m := by omega
  simp [execOp, hx, Instr.arrayAt, run_underlying ht.und, this]
/-- An element's address, at an offset. -/
theorem Gives.idxO {t e : TypeId} [ht : IsSlice P t e] {bytes : Nat} [hc : Cells P e 1 bytes] {b o m c i : Nat} {k : IntKind} (hx : ρ x = .slice (some ⟨b, o, none⟩) m c) (hy : ρ y = .int k i) (hlt : i < m) : Gives P ρ (.indexAddr t x y) ty w (.pointer (some ⟨b, o + i, none⟩)) w := by
  have := Gives.idx (P := P) (ρ := ρ) (ty := ty) (w := w) (t := t) (e := e) (size := 1) (bytes := bytes) hx hy hlt
  rwa [Nat.mul_one, Addr.add_lit] at this
/-- Types whose values may be told apart by == without a question. -/
class EqOk (P : Program) (t : TypeId) : Prop where
  ok : P.eqGuardType P.depth t = false
theorem run_eqGuard_agg {op : BinOp} {t : TypeId} [h : EqOk P t] {xs ys : Array Value} (x y : Operand) : (eqGuard op t x y (.agg xs) (.agg ys)).run P w = .ok () w := by
  unfold eqGuard
  cases op <;> simp [h.ok, run_program]
theorem Gives.eqlBytes {t e : TypeId} {m : Nat} {U : TypeId} [hg : EqOk P t] [ht : IsArray P t m e] [he : IsInt P e .u8] [hs : OneCell P e] {a b : List UInt8} (ha : a.length = m) (hb : b.length = m) (hx : ρ x = .agg (a.map cell).toArray) (hy : ρ y = .agg (b.map cell).toArray) : Gives P ρ (.binOp .eql t x y U) ty w (.bool (a == b)) w :=
  .bin hx hy (fun x y => run_eqGuard_agg x y) (run_eql_bytes w t e m ht.und he.und hs.size a b ha hb)
theorem Gives.neqBytes {t e : TypeId} {m : Nat} {U : TypeId} [hg : EqOk P t] [ht : IsArray P t m e] [he : IsInt P e .u8] [hs : OneCell P e] {a b : List UInt8} (ha : a.length = m) (hb : b.length = m) (hx : ρ x = .agg (a.map cell).toArray) (hy : ρ y = .agg (b.map cell).toArray) : Gives P ρ (.binOp .neq t x y U) ty w (.bool (!(a == b))) w :=
  .bin hx hy (fun x y => run_eqGuard_agg x y) (by rw [run_neq_struct, run_equalIn_bytes w 9998 t e m ht.und he.und hs.size a b ha hb]; rfl)
end gives

/-- Cells laid over a row, one more. -/
theorem lay_set {cs us : List Value} {o : Nat} {v : Value} (h : o + us.length < cs.length) : (lay cs o us).set (o + us.length) v = lay cs o (us ++ [v]) := by
  unfold lay
  have h1 : (cs.take o ++ us).length = o + us.length := by simp; omega
  rw [List.set_append_right _ _ (by omega), h1, Nat.sub_self, List.drop_eq_getElem_cons h, List.set_cons_zero, List.length_append, List.length_singleton, ← Nat.add_assoc]
  simp
theorem lay_length {cs us : List Value} {o : Nat} (h : o + us.length ≤ cs.length) : (lay cs o us).length = cs.length := by unfold lay; simp; omega
theorem lay_nil {cs : List Value} {o : Nat} : lay cs o [] = cs := by unfold lay; simp

section cells
variable {P : Program} {w : World}
/-- Results, of which some live in cells. -/
def ResAll (P : Program) (σ : St) (w : World) : List ResultVar → List Value → Prop
  | [], vs => vs = []
  | .tmp t :: l, vs => ∃ us, vs = σ t :: us ∧ ResAll P σ w l us
  | .cell a t :: l, vs => ∃ v us ad, vs = v :: us ∧ σ a = .pointer (some ad) ∧ (loadVar t ad).run P w = .ok v w ∧ ResAll P σ w l us
theorem mapM_resultsC {σ : St} (g : ResultVar → Sem Value) (hg : ∀ t, g (.tmp t) = pure (σ t)) (hc : ∀ a t, g (.cell a t) = (do loadVar t (← asAddr (σ a)))) : ∀ (l : List ResultVar) (vs : List Value), ResAll P σ w l vs →
    (List.mapM g l).run P w = .ok vs w := by
  intro l
  induction l with
  | nil => intro vs h; have h : vs = [] := h; subst h; rfl
  | cons r l ih =>
    intro vs h
    cases r with
    | cell a t =>
      obtain ⟨v, us, ad, rfl, h1, h2, h3⟩ := h
      rw [List.mapM_cons, hc, h1]
      simp [asAddr, h2, ih us h3]
    | tmp t =>
      obtain ⟨us, rfl, h3⟩ := h
      rw [List.mapM_cons, hg]
      simp [ih us h3]
theorem run_resultsC {fn : Func} {tmps : Array Value} {σ : St} (hσ : ∀ i, tmps.getD i undef = σ i) {l : List ResultVar} (hl : fn.results = l.toArray) {vs : List Value} (h : ResAll P σ w l vs) :
    (results fn tmps).run P w = .ok (resPack vs) w := by
  unfold results
  rw [hl, List.mapM_toArray]
  have := mapM_resultsC (P := P) (w := w) (σ := σ) (fun
    | .tmp t => pure (tmps.getD t undef)
    | .cell a t => do loadVar t (← asAddr (tmps.getD a undef))) (fun t => by simp [hσ]) (fun a t => by simp [hσ]) l vs h
  rw [Sem.run_bind, Sem.run_map]
  refine (congrArg (fun r => (Result.andThen r _).andThen _) this).trans ?_
  simp only [Result.andThen_ok]
  match vs with
  | [] => simp [resPack]
  | [v] => simp [resPack]
  | u :: v :: us => simp [resPack]
def QfnC (P : Program) (l : List ResultVar) (R : Value → World → Prop) : Post := fun e σ w => match e with
  | .normal | .ret => σ.ds = [] ∧ ∃ vs, ResAll P σ w l vs ∧ R (resPack vs) w
  | _ => False
theorem QfnC_ret {l : List ResultVar} {R : Value → World → Prop} {σ : St} (h : ∃ vs, ResAll P σ w l vs ∧ R (resPack vs) w) (hd : σ.ds = [] := by exact rfl) : QfnC P l R .ret σ w := ⟨hd, h⟩
theorem QfnC_normal {l : List ResultVar} {R : Value → World → Prop} {σ : St} (h : ∃ vs, ResAll P σ w l vs ∧ R (resPack vs) w) (hd : σ.ds = [] := by exact rfl) : QfnC P l R .normal σ w := ⟨hd, h⟩
theorem retsC_of_FW {f : FuncId} {fn : Func} {c : Code} {args : List Value} {R : Value → World → Prop} {n : Nat} {l : List ResultVar}
    (hf : P.funcs[f]? = some fn) (hb : fn.body = some c) (hn : fn.ntmps = n) (hl : fn.results = l.toArray) (hargs : Nat.ble args.length n = true)
    (h : FW P none n c (QfnC P l R) (args0 0 args) w) : Rets P f args w R := by
  have hle : args.length ≤ n := Nat.le_of_ble_eq_true hargs
  refine (callsIn_wide (n := 0)).1 (callsIn_of_wp_marks (F := fen none) hf hb trivial (Go.wpIn_mono (h _ ⟨?_, (args0_ds args 0).symm, fun i => ?_⟩) ?_))
  · simp [hn]; omega
  · rw [args0_get]
    simp only [Nat.zero_le, if_true, Nat.sub_zero]
    simp only [Array.getD_eq_getD_getElem?, List.getElem?_toArray]
    rw [Array.getElem?_append]
    split
    · simp
    · rename_i hge
      simp at hge
      rw [List.getElem?_eq_none (by omega)]
      rw [Array.getElem?_replicate]
      split <;> rfl
  · rintro e a' w' ⟨s, hs, hq⟩
    cases e with
    | normal =>
      obtain ⟨h0, vs, h1, h2⟩ := hq
      show LeavesInM _ _ _ _ _ _ _ _ _
      rw [hs.defers, h0]
      exact ⟨_, run_resultsC hs.get hl h1, h2⟩
    | ret =>
      obtain ⟨h0, vs, h1, h2⟩ := hq
      show LeavesInM _ _ _ _ _ _ _ _ _
      rw [hs.defers, h0]
      exact ⟨_, run_resultsC hs.get hl h1, h2⟩
    | _ => exact hq.elim
section
variable {f : FuncId} {fn : Func} {c : Code} {R : Value → World → Prop} {n : Nat} {l : List ResultVar} (hf : P.funcs[f]? = some fn) (hb : fn.body = some c) (hn : fn.ntmps = n) (hl : fn.results = l.toArray)
include hf hb hn hl
theorem retsC1 {a0 : Value} (hk : Nat.ble 1 n = true) (h : FW P none n c (QfnC P l R) (upd und 0 a0) w) : Rets P f [a0] w R := retsC_of_FW hf hb hn hl hk h
theorem retsC2 {a0 a1 : Value} (hk : Nat.ble 2 n = true) (h : FW P none n c (QfnC P l R) (upd (upd und 1 a1) 0 a0) w) : Rets P f [a0, a1] w R := retsC_of_FW hf hb hn hl hk h
theorem retsC3 {a0 a1 a2 : Value} (hk : Nat.ble 3 n = true) (h : FW P none n c (QfnC P l R) (upd (upd (upd und 2 a2) 1 a1) 0 a0) w) : Rets P f [a0, a1, a2] w R := retsC_of_FW hf hb hn hl hk h
end
/-- Reads off owned blocks, for results in cells. -/
theorem loadVar_blk1 {b o T : Nat} [h1 : OneCell P T] {cs : List Value} {E : TypeId} {v : Value} (hb : w.heap[b]? = some (.cells cs.toArray E (0, 0))) (hv : cs[o]? = some v) : (loadVar T ⟨b, o, none⟩).run P w = .ok v w := by
  simp [loadVar, h1.agg, cell_blk hb, hv]
theorem loadVar_blkN {b o T k : Nat} [h1 : Agg P T k] {cs us : List Value} {E : TypeId} (hb : w.heap[b]? = some (.cells cs.toArray E (0, 0))) (hu : (cs.drop o).take k = us) (hk : us.length = k) : (loadVar T ⟨b, o, none⟩).run P w = .ok (.agg us.toArray) w := by
  simp [loadVar, h1.agg, h1.size, run_loadCells_blk hb hu hk]
end cells

section drawq
variable {P : Program} {r : Option Nat} {n : Nat} {ops : Array Oper} {Q : Post} {lv : List Bool} {pd : List (Nat × Bool)} {σ : St} {w w₀ : World} {S : Nat → Prop} {rs : List HP} {ty : TypeId} {pos : String} {after : Array Edge} {guard : Option (Nat × Bool)}
/-- A call that looks alone, in a region that draws. -/
theorem FGcallQ (hok : okOps n ops = true) (e : Nat) (pd' : List (Nat × Bool)) {d : Nat} {f : FuncId} {xs : List Operand} {ats : Array TypeId} {vals : List Value} {v : Value} [he : Enters P f] (H : Sep w₀ S rs w) (hc : Rets P f vals w fun v' w' => v' = v ∧ Kept noB w w')
    (ho : ops[e]? = some { dst := some d, op := .call { callee := .value (.func f), args := xs.toArray, argTypes := ats }, type := ty, pos := pos, after := after, guard := guard } := by exact rfl)
    (hw : Region.wanted { dst := some d, op := .call { callee := .value (.func f), args := xs.toArray, argTypes := ats }, type := ty, pos := pos, after := after, guard := guard } (yieldF ops σ) = true := by kernel_rfl) (hv : xs.map (evF σ) = vals := by exact rfl) (hck : effectOk ops lv (pd.map (·.1)) e = true := by kernel_rfl)
    (hpd : pd.filter (fun p => !((above ops e).contains p.1)) = pd' := by kernel_rfl) (h : ∀ w', Sep w₀ S rs w' → Kept noB w w' → Stab P ops (upd σ d v) w' pd' ∧ FG P r n ops Q (lv.set e true) pd' (upd σ d v) w') : FG P r n ops Q lv pd σ w :=
  FGcall hok e pd' ho hw hc hv hck hpd fun v' w' ⟨h1, h2⟩ => by subst h1; exact h w' (H.keep h2) h2
end drawq
/-- The middle of a row. -/
theorem RowAt.mid {w : World} {A : Option Addr} {n s : Nat} {xs : List Value} (hr : RowAt w A n s xs) {l h cap : Nat} (hl : l ≤ h) (hh : h ≤ n) (hc : n ≤ cap) : RowAt w (if cap = l then A else A.map (·.add (l * s))) (h - l) s ((xs.drop (l * s)).take ((h - l) * s)) :=
  (hr.cut (k := l) (cap := cap) (by omega) hc).take (by omega)

/-- A slice whose cells are the first of a block that is owned, whatever its room. -/
def preH (E : Nat) (v : Value) (n : Nat) (xs : List Value) : HP := exH fun x : Option (Nat × List Value) × Nat => match x with
  | (none, c) => pureH (v = .slice none n c ∧ n = 0 ∧ xs = [])
  | (some (g, rest), c) => star (pureH (v = .slice (some ⟨g, 0, none⟩) n c ∧ xs.length = n ∧ n ≤ c)) (blk g (xs ++ rest) E)
section pre
variable {w₀ w w' : World} {S : Nat → Prop} {rs : List HP} {put : HP → List HP}
theorem pre_row {E n c : Nat} {A : Option Addr} {xs : List Value} {F : Nat → Prop} (h : (preH E (.slice A n c) n xs).ok F w) : RowAt w A n 1 xs := by
  obtain ⟨⟨_ | ⟨g, rest⟩, c'⟩, hx⟩ := h
  · obtain ⟨⟨h1, h2, h3⟩, _⟩ := hx
    subst h2 h3
    exact RowAt.nil _ _ _
  · obtain ⟨F1, F2, hF, hd, ⟨⟨h1, h2, h3⟩, _⟩, hb⟩ := hx
    injection h1 with h1 _ _
    subst h1
    refine ⟨by omega, fun _ => ⟨_, rfl, fun j u hu => ?_⟩⟩
    rw [Addr.add_lit, Nat.zero_add, cell_blk hb.2, List.getElem?_append_left (List.getElem?_eq_some_iff.1 hu).1]
    exact hu
theorem Sep.preRow {E n c : Nat} {A : Option Addr} {xs : List Value} (h : Sep w₀ S rs w) (hat : At rs (preH E (.slice A n c) n xs) put) : RowAt w A n 1 xs := by
  obtain ⟨F, hp, _, _⟩ := h.focus hat
  exact pre_row hp
theorem Sep.preForm {E n : Nat} {v : Value} {xs : List Value} (h : Sep w₀ S rs w) (hat : At rs (preH E v n xs) put) : ∃ A c, v = .slice A n c ∧ xs.length = n := by
  obtain ⟨F, ⟨⟨_ | ⟨g, rest⟩, c'⟩, hx⟩, _, _⟩ := h.focus hat
  · obtain ⟨⟨h1, h2, h3⟩, _⟩ := hx
    exact ⟨none, c', h1, by rw [h3, h2]; rfl⟩
  · obtain ⟨F1, F2, hF, hd, ⟨⟨h1, h2, _⟩, _⟩, hb⟩ := hx
    exact ⟨_, c', h1, h2⟩
theorem Sep.preOpen {E n : Nat} {v : Value} {xs : List Value} (h : Sep w₀ S (preH E v n xs :: rs) w) (hn : 0 < n) : ∃ g c rest, v = .slice (some ⟨g, 0, none⟩) n c ∧ xs.length = n ∧ n ≤ c ∧ Sep w₀ S (blk g (xs ++ rest) E :: rs) w := by
  obtain ⟨⟨_ | ⟨g, rest⟩, c⟩, hx⟩ := h.ex0
  · obtain ⟨⟨_, h2, _⟩, _⟩ := hx.pure0
    omega
  · obtain ⟨⟨h1, h2, h3⟩, hs⟩ := hx.star0.pure0
    exact ⟨g, c, rest, h1, h2, h3, hs⟩
theorem Sep.preShut {E n c g : Nat} {xs rest : List Value} (h : Sep w₀ S (blk g (xs ++ rest) E :: rs) w) (hl : xs.length = n) (hc : n ≤ c) : Sep w₀ S (preH E (.slice (some ⟨g, 0, none⟩) n c) n xs :: rs) w :=
  Sep.pack0 (p := fun x : Option (Nat × List Value) × Nat => match x with
  | (none, c') => pureH (Value.slice (some ⟨g, 0, none⟩) n c = .slice none n c' ∧ n = 0 ∧ xs = [])
  | (some (g', rest'), c') => star (pureH (Value.slice (some ⟨g, 0, none⟩) n c = .slice (some ⟨g', 0, none⟩) n c' ∧ xs.length = n ∧ n ≤ c')) (blk g' (xs ++ rest') E)) (some (g, rest), c) (Sep.join0 (Sep.addPure ⟨rfl, hl, hc⟩ h))
theorem Sep.preNil {E c : Nat} (h : Sep w₀ S rs w) : Sep w₀ S (preH E (.slice none 0 c) 0 [] :: rs) w :=
  Sep.pack0 (p := fun x : Option (Nat × List Value) × Nat => match x with
  | (none, c') => pureH (Value.slice none 0 c = .slice none 0 c' ∧ 0 = 0 ∧ ([] : List Value) = [])
  | (some (g', rest'), c') => star (pureH (Value.slice none 0 c = .slice (some ⟨g', 0, none⟩) 0 c' ∧ ([] : List Value).length = 0 ∧ 0 ≤ c')) (blk g' ([] ++ rest') E)) (none, c) (Sep.addPure ⟨rfl, rfl, rfl⟩ h)
/-- A row that is owned, cut to its first elements. -/
theorem Sep.rowCut {E n c m d : Nat} {A : Option Addr} {xs : List Value} (h : Sep w₀ S (rowH E 1 (.slice A n c) n xs :: rs) w) (hm : m ≤ n) (hd : m ≤ d) : Sep w₀ S (preH E (.slice A m d) m (xs.take m) :: rs) w := by
  obtain ⟨A', c', e, h1, h2, h3⟩ := Sep.rowForm h At0
  injection e with e1 _ e2
  subst e1 e2
  rcases Nat.eq_zero_or_pos n with h0 | h0
  · subst h0
    have : m = 0 := by omega
    subst this
    have hx : xs = [] := List.eq_nil_of_length_eq_zero (by omega)
    subst hx
    rcases A with _ | a
    · exact (h.drop0).preNil
    · obtain ⟨F, hp, _, _⟩ := h.focus At0
      rcases hp.1.2 with ⟨hv, _⟩ | ⟨g, cap, cur, hv, _, hh, _⟩
      · cases hv
      · injection hv with hv _ _
        injection hv with hv
        subst hv
        refine Sep.preShut (g := g) (xs := []) (rest := cur.toList) (h.imp At0 fun F' hF' => ?_) rfl hd
        exact ⟨fun b => by rw [hF'.2 b]; simp [Value.ownBlock, eq_comm], by simpa using hh⟩
  · obtain ⟨g, cg, rest, hg, hcg, hlg, hle, hmx, h4⟩ := Sep.rowOpen h At0 h0
    injection hg with hg1 _ hg2
    subst hg1 hg2
    have e : xs ++ rest = xs.take m ++ (xs.drop m ++ rest) := by rw [← List.append_assoc, List.take_append_drop]
    rw [e] at h4
    exact Sep.preShut h4 (by rw [List.length_take]; omega) hd
end pre
end Go.Mw
