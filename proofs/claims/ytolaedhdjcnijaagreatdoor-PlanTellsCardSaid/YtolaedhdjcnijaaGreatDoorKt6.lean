/-
 The rules of the walk for a region that draws, with the pieces that are owned. Nothing of a given program stands here.
-/
import Derived.Test.YtolaedhdjcnijaaGreatDoorKt5
import Derived.Laws.OwnMore
import Derived.Stop.BytesEq
import Derived.Lib.MapLaws
import Derived.Lib.ValidLaws
set_option linter.unusedVariables false
set_option linter.unusedSimpArgs false
namespace Go.Mw
open Go.RowKit

section
variable {P : Program} {r : Option Nat} {n : Nat} {ops : Array Oper} {Q : Post} {lv : List Bool} {pd pd' : List (Nat × Bool)} {σ : St} {w w' w₀ : World} {S F : Nat → Prop} {rs : List HP} {p q : HP} {put : HP → List HP} {op : Op} {ty : TypeId} {pos : String} {after : Array Edge} {guard : Option (Nat × Bool)}
theorem FW_drawS {id : Nat} {l : List Oper} (hm : P.follows .mixedOrders = true) (H : Sep w₀ S rs w) (hok : okOps n l.toArray = true := by kernel_rfl) (h : okOps n l.toArray = true → ∀ w', Sep w₀ S rs w' → FG P r n l.toArray Q (List.replicate l.length false) [] σ w') : FW P r n (.region id l.toArray true) Q σ w :=
 FW_draw hm hok fun w' hk => h hok w' (H.keep hk)
theorem FG_splitP {t : Nat} {φ : Prop} [Decidable φ] (hb : σ.get t = .bool (decide φ)) (h1 : φ → FG P r n ops Q lv pd (upd σ t (.bool true)) w) (h0 : ¬ φ → FG P r n ops Q lv pd (upd σ t (.bool false)) w) : FG P r n ops Q lv pd σ w := by
 by_cases hp : φ
 ·have := h1 hp
  rw [show Value.bool true = σ t from by rw [hb, decide_eq_true hp], upd_self] at this; exact this
 have := h0 hp
 rw [show Value.bool false = σ t from by rw [hb, decide_eq_false hp], upd_self] at this; exact this
theorem FG_split {t : Nat} {b : Bool} (hb : σ.get t = .bool b) (h1 : b = true → FG P r n ops Q lv pd (upd σ t (.bool true)) w) (h0 : b = false → FG P r n ops Q lv pd (upd σ t (.bool false)) w) : FG P r n ops Q lv pd σ w := by
 cases b
 ·have := h0 rfl
  rw [show Value.bool false = σ t from hb.symm, upd_self] at this; exact this
 have := h1 rfl
 rw [show Value.bool true = σ t from hb.symm, upd_self] at this; exact this
theorem FGmove (hok : okOps n ops = true) (i : Nat) {d : Nat} {x : Operand} {v : Value} (ho : ops[i]? = some { dst := some d, op := .move x, type := ty, pos := pos, after := after, guard := guard } := by exact rfl)
    (hw : Region.wanted { dst := some d, op := .move x, type := ty, pos := pos, after := after, guard := guard } (yieldF ops σ) = true := by kernel_rfl) (hv : evF σ x = v := by simp only [evF, upd_same, upd_ne, ne_eq, Nat.reduceEqDiff, not_false_eq_true]; rfl) (hck : quietOk ops lv (pd.map (·.1)) i = true := by kernel_rfl)
    (h : FG P r n ops Q (lv.set i true) ((i, true) :: pd) (upd σ d v) w) : FG P r n ops Q lv pd σ w := FGp hok i ho hw (fun _ => Gives.move hv) hck h
theorem FGload (hok : okOps n ops = true) (i : Nat) {d b o : Nat} {x : Operand} {T : TypeId} [OneCell P T] {cs : List Value} {E : TypeId} {v : Value} (H : Sep w₀ S rs w) (ho : ops[i]? = some { dst := some d, op := .load T x, type := ty, pos := pos, after := after, guard := guard } := by exact rfl)
    (hw : Region.wanted { dst := some d, op := .load T x, type := ty, pos := pos, after := after, guard := guard } (yieldF ops σ) = true := by kernel_rfl) (hx : evF σ x = .pointer (some ⟨b, o, none⟩) := by exact rfl)
    (hat : At rs (blk b cs E) put := by first | exact At0 | exact At1 | exact At2 | exact At3 | exact At4 | exact At5 | exact At6 | exact At7 | exact At8 | exact At9) (hv : cs[o]? = some v := by exact rfl) (hck : quietOk ops lv (pd.map (·.1)) i = true := by kernel_rfl)
    (h : FG P r n ops Q (lv.set i true) ((i, false) :: pd) (upd σ d v) w) : FG P r n ops Q lv pd σ w := FGl hok i ho hw (Gives.load1 hx (H.obj hat) hv) hck h
theorem FGloadN (hok : okOps n ops = true) (i : Nat) {d b o k : Nat} {x : Operand} {T : TypeId} [Agg P T k] {cs us : List Value} {E : TypeId} (H : Sep w₀ S rs w) (ho : ops[i]? = some { dst := some d, op := .load T x, type := ty, pos := pos, after := after, guard := guard } := by exact rfl)
    (hw : Region.wanted { dst := some d, op := .load T x, type := ty, pos := pos, after := after, guard := guard } (yieldF ops σ) = true := by kernel_rfl) (hx : evF σ x = .pointer (some ⟨b, o, none⟩) := by exact rfl)
    (hat : At rs (blk b cs E) put := by first | exact At0 | exact At1 | exact At2 | exact At3 | exact At4 | exact At5 | exact At6 | exact At7 | exact At8 | exact At9) (hu : (cs.drop o).take k = us) (hk : us.length = k) (hck : quietOk ops lv (pd.map (·.1)) i = true := by kernel_rfl)
    (h : FG P r n ops Q (lv.set i true) ((i, false) :: pd) (upd σ d (.agg us.toArray)) w) : FG P r n ops Q lv pd σ w := FGl hok i ho hw (Gives.loadN hx (H.obj hat) hu hk) hck h
theorem Stab_load {i d b o : Nat} {x : Operand} {T : TypeId} [OneCell P T] {cs : List Value} {E : TypeId} {v : Value} {l : List (Nat × Bool)} (H : Sep w₀ S rs w) (ho : ops[i]? = some { dst := some d, op := .load T x, type := ty, pos := pos, after := after, guard := guard } := by exact rfl)
    (hw : Region.wanted { dst := some d, op := .load T x, type := ty, pos := pos, after := after, guard := guard } (yieldF ops σ) = true := by kernel_rfl) (hx : evF σ x = .pointer (some ⟨b, o, none⟩) := by exact rfl)
    (hat : At rs (blk b cs E) put := by first | exact At0 | exact At1 | exact At2 | exact At3 | exact At4 | exact At5 | exact At6 | exact At7 | exact At8 | exact At9) (hv : cs[o]? = some v := by exact rfl) (hd : σ d = v := by exact rfl) (h : Stab P ops σ w l) : Stab P ops σ w ((i, false) :: l) :=
  Stab_cons ho hw (Gives.load1 hx (H.obj hat) hv) hd h
theorem FGstore (hok : okOps n ops = true) (e : Nat) (pd' : List (Nat × Bool)) {b o : Nat} {x y : Operand} {T : TypeId} [OneCell P T] {cs cs' : List Value} {E : TypeId} {v : Value} (H : Sep w₀ S rs w) (ho : ops[e]? = some { dst := none, op := .store T x y, type := ty, pos := pos, after := after, guard := guard } := by exact rfl)
    (hw : Region.wanted { dst := none, op := .store T x y, type := ty, pos := pos, after := after, guard := guard } (yieldF ops σ) = true := by kernel_rfl) (hx : evF σ x = .pointer (some ⟨b, o, none⟩) := by exact rfl)
    (hy : evF σ y = v := by simp only [evF, upd_same, upd_ne, ne_eq, Nat.reduceEqDiff, not_false_eq_true]; rfl) (hv : v.oneCell' = true := by exact rfl)
    (hat : At rs (blk b cs E) put := by first | exact At0 | exact At1 | exact At2 | exact At3 | exact At4 | exact At5 | exact At6 | exact At7 | exact At8 | exact At9) (hlt : Nat.blt o cs.length = true := by exact rfl)
    (hs : cs.set o v = cs' := by first | (simp only [List.set_cons_zero, List.set_cons_succ]; rfl) | exact rfl) (hck : effectOk ops lv (pd.map (·.1)) e = true := by kernel_rfl) (hpd : pd.filter (fun p => !((above ops e).contains p.1)) = pd' := by kernel_rfl)
    (h : ∀ w', Sep w₀ S (put (blk b cs' E)) w' → Stab P ops σ w' pd' ∧ FG P r n ops Q (lv.set e true) pd' σ w') : FG P r n ops Q lv pd σ w :=
  FGact hok e pd' ho hw (acts_store cs' H hx hy hv hat hlt hs) hck hpd h
theorem FGbuildSlice (hok : okOps n ops = true) (i : Nat) (pd' : List (Nat × Bool)) {d : Nat} {t e : TypeId} {xs : List Operand} {parts : List (Nat × Operand)} {out : List Value} {size bytes : Nat} [hs : IsSlice P t e] [hc : Cells P e size bytes] {z : Value} [hz : Zero P e z] (H : Sep w₀ S rs w) (hE : Elems (evF σ) size xs out)
    (ho : ops[i]? = some { dst := some d, op := .buildSlice t xs.length parts.toArray, type := ty, pos := pos, after := after, guard := guard } := by exact rfl)
    (hw : Region.wanted { dst := some d, op := .buildSlice t xs.length parts.toArray, type := ty, pos := pos, after := after, guard := guard } (yieldF ops σ) = true := by kernel_rfl)
    (hp : parts = (xs.zipIdx 0).map fun p => (p.2, p.1) := by exact rfl) (hlen : Nat.ble (xs.length * size) 16777216 = true := by exact rfl)
    (hck : effectOk ops lv (pd.map (·.1)) i = true := by kernel_rfl) (hpd : pd.filter (fun p => !((above ops i).contains p.1)) = pd' := by kernel_rfl)
    (h : ∀ b w', Sep w₀ S (blk b out e :: rs) w' → Stab P ops (upd σ d (.slice (some ⟨b, 0, none⟩) xs.length xs.length)) w' pd' ∧ FG P r n ops Q (lv.set i true) pd' (upd σ d (.slice (some ⟨b, 0, none⟩) xs.length xs.length)) w') : FG P r n ops Q lv pd σ w :=
  FGval hok i pd' (C := fun v w' => ∃ b, v = .slice (some ⟨b, 0, none⟩) xs.length xs.length ∧ Sep w₀ S (blk b out e :: rs) w') ho hw ⟨_, _, Gives.buildSlice hE hp hlen, _, rfl, H.alloc _⟩ hck hpd fun v w' ⟨b, hv, hsep⟩ => by subst hv; exact h b w' hsep
theorem FGcallS (hok : okOps n ops = true) (e : Nat) (pd' : List (Nat × Bool)) {d : Nat} {f : FuncId} {xs : List Operand} {ats : Array TypeId} {vals : List Value} {v : Value} [he : Enters P f] (H : Sep w₀ S rs w) (hc : Rets P f vals w fun v' w' => v' = v ∧ w = w')
    (ho : ops[e]? = some { dst := some d, op := .call { callee := .value (.func f), args := xs.toArray, argTypes := ats }, type := ty, pos := pos, after := after, guard := guard } := by exact rfl)
    (hw : Region.wanted { dst := some d, op := .call { callee := .value (.func f), args := xs.toArray, argTypes := ats }, type := ty, pos := pos, after := after, guard := guard } (yieldF ops σ) = true := by kernel_rfl) (hv : xs.map (evF σ) = vals := by exact rfl) (hck : effectOk ops lv (pd.map (·.1)) e = true := by kernel_rfl)
    (hpd : pd.filter (fun p => !((above ops e).contains p.1)) = pd' := by kernel_rfl) (h : ∀ w', Sep w₀ S rs w' → Stab P ops (upd σ d v) w' pd' ∧ FG P r n ops Q (lv.set e true) pd' (upd σ d v) w') : FG P r n ops Q lv pd σ w :=
  FGcall hok e pd' ho hw hc hv hck hpd fun v' w' ⟨h1, h2⟩ => by subst h1; subst h2; exact h w H
theorem FGcallN (hok : okOps n ops = true) (e : Nat) (pd' : List (Nat × Bool)) {d : Nat} {f : FuncId} {xs : List Operand} {ats : Array TypeId} {vals : List Value} {α : Type} {val : α → Value} {φ : α → Prop} {q : α → HP} [he : Enters P f] (H : Sep w₀ S rs w)
    (hc : Rets P f vals w fun v w' => ∃ x, v = val x ∧ φ x ∧ Turn noB (q x) w w')
    (ho : ops[e]? = some { dst := some d, op := .call { callee := .value (.func f), args := xs.toArray, argTypes := ats }, type := ty, pos := pos, after := after, guard := guard } := by exact rfl)
    (hw : Region.wanted { dst := some d, op := .call { callee := .value (.func f), args := xs.toArray, argTypes := ats }, type := ty, pos := pos, after := after, guard := guard } (yieldF ops σ) = true := by kernel_rfl) (hv : xs.map (evF σ) = vals := by exact rfl) (hck : effectOk ops lv (pd.map (·.1)) e = true := by kernel_rfl)
    (hpd : pd.filter (fun p => !((above ops e).contains p.1)) = pd' := by kernel_rfl) (h : ∀ x w', φ x → Sep w₀ S (q x :: rs) w' → Kept noB w w' → Stab P ops (upd σ d (val x)) w' pd' ∧ FG P r n ops Q (lv.set e true) pd' (upd σ d (val x)) w') : FG P r n ops Q lv pd σ w := by
  refine FGcall hok e pd' ho hw hc hv hck hpd fun v' w' ⟨x, h1, hφ, hk, F', hq, hs⟩ => ?_
  subst h1
  exact h x w' hφ (H.new hk hq fun b hb => (hs b hb).resolve_left id) hk
end
end Go.Mw
namespace Go.Mw
open Go.RowKit

section
variable {P : Program} {r : Option Nat} {n : Nat} {ops : Array Oper} {Q : Post} {lv : List Bool} {pd pd' : List (Nat × Bool)} {rest : List Oper} {σ : St} {w w' w₀ : World} {S F : Nat → Prop} {rs : List HP} {put : HP → List HP} {op : Op} {ty : TypeId} {pos : String} {after : Array Edge} {guard : Option (Nat × Bool)}
theorem Gives.conv {ρ : Operand → Value} {x : Operand} {s t : TypeId} {k j : IntKind} [hs : IsInt P s j] [ht : IsInt P t k] {a : Int} (hx : ρ x = .int j a) : Gives P ρ (.convert s t x) ty w (.int k (k.wrap a)) w :=
 Gives.convI (by rw [hs.und]; rfl) ht.und hx
theorem Gives.loadC {ρ : Operand → Value} {a : Addr} {x : Operand} {T : TypeId} [h1 : OneCell P T] {v : Value} (hx : ρ x = .pointer (some a)) (hc : w.cell? a = some v) : Gives P ρ (.load T x) ty w v w := fun _ _ _ _ => by
 simp [execOp, hx, Instr.loadAt, Instr.sureAddr, loadVar, h1.agg, hc]
theorem Gives.loadCN {ρ : Operand → Value} {k : Nat} {a : Addr} {x : Operand} {T : TypeId} [h1 : Agg P T k] {us : List Value} (hx : ρ x = .pointer (some a)) (hc : ∀ j u, us[j]? = some u → w.cell? (a.add j) = some u) (hk : us.length = k) : Gives P ρ (.load T x) ty w (.agg us.toArray) w := fun _ _ _ _ => by
 have := run_loadCells_list (P := P) w a us hc
 rw [hk] at this
 simp [execOp, hx, Instr.loadAt, Instr.sureAddr, loadVar, h1.agg, h1.size, this]
end
end Go.Mw
namespace Go.Mw
open Go.RowKit

def allocOp : Op → Bool
 | .buildSlice .. => true
 | .makeSlice .. => true
 | _ => false
def alAt (ops : Array Oper) (i : Nat) : Bool := match ops[i]? with
 | some o => allocOp o.op
 | none => false
def lvTo (ops : Array Oper) (M : Nat) : List Bool := (List.range ops.size).map fun i => Nat.blt i M

section
variable (P : Program) (r : Option Nat) (n : Nat) (ops : Array Oper) (Q : Post) (M : Nat) (w₀ : World) (S : Nat → Prop) (rs : List HP) (β : Nat → Nat)
end

section
variable {P : Program} {r : Option Nat} {n : Nat} {ops : Array Oper} {Q : Post} {M : Nat} {w₀ w : World} {S : Nat → Prop} {rs ps : List HP} {β : Nat → Nat} {σ : St} {k i : Nat} {op : Op} {ty : TypeId} {pos : String} {after : Array Edge} {guard : Option (Nat × Bool)}
def stA (ops : Array Oper) (v : Nat → Value) (σ : St) : Nat → St
 | 0 => σ
 | j + 1 => updO (stA ops v σ j) (dstOf ops j) (v j)
def pcs (ops : Array Oper) (β : Nat → Nat) (ob : Nat → Obj) (L : Nat → Bool) : Nat → List HP
 | 0 => []
 | j + 1 => if (alAt ops j && L j) = true then obj (β j) (ob j) :: pcs ops β ob L j else pcs ops β ob L j
theorem pcs_congr {ob ob' : Nat → Obj} {L L' : Nat → Bool} : ∀ {j : Nat}, (∀ x, x < j → ob x = ob' x ∧ (alAt ops x && L x) = (alAt ops x && L' x)) → pcs ops β ob L j = pcs ops β ob' L' j
 | 0, _ => rfl
 | j + 1, h => by
  show (if _ then _ else _) = (if _ then _ else _)
  rw [pcs_congr fun x hx => h x (Nat.lt_succ_of_lt hx), (h j (Nat.lt_succ_self j)).1, (h j (Nat.lt_succ_self j)).2]
theorem stA_ds {v : Nat → Value} : ∀ {j : Nat}, (stA ops v σ j).ds = σ.ds
 | 0 => rfl
 | j + 1 => by show (updO (stA ops v σ j) _ _).ds = _; rw [updO_ds]; exact stA_ds
theorem stA_other {v : Nat → Value} {x : Nat} : ∀ {j : Nat}, (∀ i, i < j → dstOf ops i ≠ some x) → stA ops v σ j x = σ x
 | 0, _ => rfl
 | j + 1, h => by
  show updO (stA ops v σ j) _ _ x = _
  rw [updO_other (h j (Nat.lt_succ_self j))]; exact stA_other fun i hi => h i (Nat.lt_succ_of_lt hi)
theorem stA_at {v : Nat → Value} {d i : Nat} (hd : dstOf ops i = some d) : ∀ {j : Nat}, i < j → (∀ k, k < j → k ≠ i → dstOf ops k ≠ some d) → stA ops v σ j d = v i
 | 0, h, _ => absurd h (Nat.not_lt_zero _)
 | j + 1, h, hne => by
  show updO (stA ops v σ j) _ _ d = _
  by_cases hji : j = i
  ·subst hji; rw [hd]; exact upd_same _ _ _
  rw [updO_other (hne j (Nat.lt_succ_self j) hji)]
  exact stA_at hd (Nat.lt_of_le_of_ne (Nat.le_of_lt_succ h) fun e => hji e.symm) fun k hk => hne k (Nat.lt_succ_of_lt hk)

def StepA (P : Program) (ops : Array Oper) (w₀ : World) (S : Nat → Prop) (rs : List HP) (β : Nat → Nat) (i : Nat) (σ : St) (v : Value) (ob : Obj) : Prop :=
 ∃ o, ops[i]? = some o ∧ if allocOp o.op = true then ∀ w, Sep w₀ S rs w → w.heap.size = β i → (execOp (evF σ) o).run P w = .ok (.value v) (w.alloc ob) else ∀ w, Sep w₀ S rs w → (execOp (evF σ) o).run P w = .ok (.value v) w

def Fits (ops : Array Oper) (β : Nat → Nat) : List Nat → Nat → Prop
 | [], _ => True
 | i :: s, N => if alAt ops i = true then β i = N ∧ Fits ops β s (N + 1) else Fits ops β s N
structure CkA (ops : Array Oper) (M : Nat) : Prop where
 le : M ≤ ops.size
 ug : ∀ i, i < M → ∃ o d, ops[i]? = some o ∧ o.guard = none ∧ o.dst = some d
 pr : ∀ i, i < M → ∀ e ∈ preds ops i, e < i
 lk : ∀ i, i < M → ∀ k, k < M → ∀ d, dstOf ops k = some d → d ∈ looks ops i → k ∈ preds ops i
 ds : ∀ i, i < M → ∀ k, k < M → i ≠ k → ∀ d, dstOf ops k = some d → dstOf ops i ≠ some d
 ab : ∀ j, M ≤ j → j < ops.size → ∀ i, i < M → i ∈ above ops j
structure InvA (P : Program) (r : Option Nat) (n : Nat) (ops : Array Oper) (Q : Post) (M : Nat) (w₀ : World) (S : Nat → Prop) (rs : List HP) (σ : St) (lr : Array Bool) (a : Act) (w : World) : Prop where
 sz : lr.size = ops.size
 cl : ∀ i, lr.getD i false = true → ∀ e ∈ preds ops i, lr.getD e false = true
 hi : ∀ j, M ≤ j → j < ops.size → lr.getD j true = false
 fut : ∀ s : List Nat, s.Nodup → (∀ i, i ∈ s ↔ i < M ∧ lr.getD i true = false) → ∃ β, Fits ops β s w.heap.size ∧ ∃ v ob,
  (∀ j, j < M → StepA P ops w₀ S rs β j (stA ops v σ j) (v j) (ob j)) ∧ (∀ w', Sep w₀ S (pcs ops β ob (fun _ => true) M ++ rs) w' → FG P r n ops Q (lvTo ops M) [] (stA ops v σ M) w') ∧
  (∃ σr, Rep n σr a ∧ σr.ds = σ.ds ∧ (∀ i, i < M → lr.getD i true = true → ∀ d, dstOf ops i = some d → σr d = v i) ∧ ∀ x, (∀ i, i < M → lr.getD i true = true → dstOf ops i ≠ some x) → σr x = σ x) ∧
  Sep w₀ S (pcs ops β ob (fun i => lr.getD i true) M ++ rs) w

theorem lvTo_getD {i : Nat} (h : i < ops.size) : (lvTo ops M).getD i true = Nat.blt i M := by
 simp [lvTo, List.getD_eq_getElem?_getD, h]
theorem InvA.fin (hck : CkA ops M) {lr : Array Bool} {a : Act} {w : World} (h : InvA P r n ops Q M w₀ S rs σ lr a w) (hall : ∀ i, i < M → lr.getD i true = true) : wpAnyIn (fen r) 0 P .any ops (lift n Q) (left ops lr) lr a w := by
 obtain ⟨β, _, v, ob, _, hfin, ⟨σr, hrep, hds, ha, hb⟩, hsep⟩ := h.fut [] List.nodup_nil (fun i => ⟨(fun hi => by cases hi), fun hi => by have h2 := hi.2; rw [hall i hi.1] at h2; cases h2⟩)
 rw [pcs_congr (ob' := ob) (L' := fun _ => true) fun x hx => ⟨rfl, by rw [hall x hx]⟩] at hsep
 have hσ : σr = stA ops v σ M := by
  refine St.eq_of (fun x => ?_) (by rw [hds, stA_ds])
  by_cases hx : ∃ i, i < M ∧ dstOf ops i = some x
  ·obtain ⟨i, hi, hd⟩ := hx
   rw [ha i hi (hall i hi) x hd, stA_at hd hi fun k hk hki => hck.ds k hk i hi hki x hd]
  have hx' : ∀ i, i < M → dstOf ops i ≠ some x := fun i hi hd => hx ⟨i, hi, hd⟩
  rw [hb x fun i hi _ => hx' i hi, stA_other hx']
 subst hσ
 refine hfin w hsep [] lr a ⟨(fun _ hp => by cases hp), List.nodup_nil, List.Pairwise.nil, (fun _ hp => by cases hp), (fun _ hp => by cases hp), fun i hi => ?_, h.sz, by simp [lvTo], h.cl, ⟨_, hrep, rfl, fun _ _ => rfl⟩, (fun _ hp => by cases hp), (fun _ hp => by cases hp), (fun _ hp => by cases hp)⟩
 rw [lvTo_getD hi]
 rcases Nat.lt_or_ge i M with h1 | h1
 ·rw [hall i h1, show Nat.blt i M = true from by rw [Nat.blt_eq]; exact h1]; rfl
 rw [h.hi i h1 hi, show Nat.blt i M = false from by rw [← Bool.not_eq_true, Nat.blt_eq]; omega]; rfl
/-! The walk's rules, as scripts use them: j is the next one's number. -/
section
variable {op : Op} {ty : TypeId} {pos : String} {after : Array Edge} {guard : Option (Nat × Bool)} {k i : Nat} {β : Nat → Nat} {ps : List HP}
end
end
end Go.Mw
namespace Go.Mw
open Go.RowKit

section
variable {w w' w₀ : World} {S : Nat → Prop} {rs : List HP} {put : HP → List HP}
theorem Sep.rowOpen {E s n : Nat} {v : Value} {xs : List Value} (h : Sep w₀ S rs w) (hat : At rs (rowH E s v n xs) put) (hn : 0 < n) :
    ∃ g c rest, v = .slice (some ⟨g, 0, none⟩) n c ∧ (xs ++ rest).length = c * s ∧ xs.length = n * s ∧ n ≤ c ∧ c ≤ maxLen ∧ Sep w₀ S (put (blk g (xs ++ rest) E)) w := by
  obtain ⟨F, hp, hS, hput⟩ := h.focus hat
  obtain ⟨⟨hl, ho⟩, hF⟩ := hp
  rcases ho with ⟨_, h0⟩ | ⟨g, c, cur, hv, _, hh, hle, hmax, hsz, htk⟩
  · omega
  have e : cur = (xs ++ cur.toList.drop (n * s)).toArray := by
    rw [← htk, List.take_append_drop, Array.toArray_toList]
  refine ⟨g, c, cur.toList.drop (n * s), hv, ?_, hl, hle, hmax, ?_⟩
  · have := congrArg Array.size e
    rw [hsz] at this
    simpa using this.symm
  refine h.imp hat fun F hF => ⟨fun b => ?_, ?_⟩
  · rw [hF.2 b, hv]
    simp [Value.ownBlock, eq_comm]
  show w.heap[g]? = some (.cells (xs ++ cur.toList.drop (n * s)).toArray E (0, 0))
  rw [hh, ← e]
theorem Sep.rowShut {E s n c g : Nat} {xs rest : List Value} (h : Sep w₀ S rs w) (hat : At rs (blk g (xs ++ rest) E) put) (hc : (xs ++ rest).length = c * s) (hl : xs.length = n * s) (hle : n ≤ c) (hm : c ≤ maxLen) :
    Sep w₀ S (put (rowH E s (.slice (some ⟨g, 0, none⟩) n c) n xs)) w :=
  h.imp hat fun F hF => ⟨⟨hl, .inr ⟨g, c, (xs ++ rest).toArray, rfl, Nat.zero_le _, hF.2, hle, hm, by simpa using hc, by rw [← hl]; simp⟩⟩, fun x => by rw [hF.1 x]; simp [Value.ownBlock, eq_comm]⟩
theorem set_front {xs rest : List Value} {i : Nat} {v : Value} (h : i < xs.length) : (xs ++ rest).set i v = xs.set i v ++ rest := by
 rw [List.set_append_left _ _ h]
end
end Go.Mw
namespace Go.Mw
open Go.RowKit

section
variable {P : Program} {r : Option Nat} {n : Nat} {ops : Array Oper} {Q : Post} {lv : List Bool} {pd pd' : List (Nat × Bool)} {rest : List Oper} {σ : St} {w w' w₀ : World} {S F : Nat → Prop} {rs : List HP} {p q p0 : HP} {put : HP → List HP} {op : Op} {ty : TypeId} {pos : String} {after : Array Edge} {guard : Option (Nat × Bool)}
end
end Go.Mw
namespace Go.Mw
open Go.RowKit
open Extern.Stop (cell)

section gives
variable {P : Program} {ρ : Operand → Value} {ty : TypeId} {w w' : World} {x y z u : Operand}
class EqOk (P : Program) (t : TypeId) : Prop where
 ok : P.eqGuardType P.depth t = false
theorem run_eqGuard_agg {op : BinOp} {t : TypeId} [h : EqOk P t] {xs ys : Array Value} (x y : Operand) : (eqGuard op t x y (.agg xs) (.agg ys)).run P w = .ok () w := by
 unfold eqGuard
 cases op <;> simp [h.ok, run_program]
end gives

section cells
variable {P : Program} {w : World}
def ResAll (P : Program) (σ : St) (w : World) : List ResultVar → List Value → Prop
 | [], vs => vs = []
 | .tmp t :: l, vs => ∃ us, vs = σ t :: us ∧ ResAll P σ w l us
 | .cell a t :: l, vs => ∃ v us ad, vs = v :: us ∧ σ a = .pointer (some ad) ∧ (loadVar t ad).run P w = .ok v w ∧ ResAll P σ w l us
theorem mapM_resultsC {σ : St} (g : ResultVar → Sem Value) (hg : ∀ t, g (.tmp t) = pure (σ t)) (hc : ∀ a t, g (.cell a t) = (do loadVar t (← asAddr (σ a)))) : ∀ (l : List ResultVar) (vs : List Value), ResAll P σ w l vs →
    (List.mapM g l).run P w = .ok vs w := by
  intro l
  induction l with
  | nil => intro vs h; have h : vs = [] := h; subst h; rfl
  | cons r l ih =>
    intro vs h
    cases r with
    | cell a t =>
      obtain ⟨v, us, ad, rfl, h1, h2, h3⟩ := h
      rw [List.mapM_cons, hc, h1]
      simp [asAddr, h2, ih us h3]
    | tmp t =>
      obtain ⟨us, rfl, h3⟩ := h
      rw [List.mapM_cons, hg]
      simp [ih us h3]
theorem run_resultsC {fn : Func} {tmps : Array Value} {σ : St} (hσ : ∀ i, tmps.getD i undef = σ i) {l : List ResultVar} (hl : fn.results = l.toArray) {vs : List Value} (h : ResAll P σ w l vs) :
    (results fn tmps).run P w = .ok (resPack vs) w := by
  unfold results
  rw [hl, List.mapM_toArray]
  have := mapM_resultsC (P := P) (w := w) (σ := σ) (fun
    | .tmp t => pure (tmps.getD t undef)
    | .cell a t => do loadVar t (← asAddr (tmps.getD a undef))) (fun t => by simp [hσ]) (fun a t => by simp [hσ]) l vs h
  rw [Sem.run_bind, Sem.run_map]
  refine (congrArg (fun r => (Result.andThen r _).andThen _) this).trans ?_
  simp only [Result.andThen_ok]
  match vs with
  | [] => simp [resPack]
  | [v] => simp [resPack]
  | u :: v :: us => simp [resPack]
def QfnC (P : Program) (l : List ResultVar) (R : Value → World → Prop) : Post := fun e σ w => match e with
 | .normal | .ret => σ.ds = [] ∧ ∃ vs, ResAll P σ w l vs ∧ R (resPack vs) w
 | _ => False
theorem QfnC_ret {l : List ResultVar} {R : Value → World → Prop} {σ : St} (h : ∃ vs, ResAll P σ w l vs ∧ R (resPack vs) w) (hd : σ.ds = [] := by exact rfl) : QfnC P l R .ret σ w := ⟨hd, h⟩
theorem retsC_of_FW {f : FuncId} {fn : Func} {c : Code} {args : List Value} {R : Value → World → Prop} {n : Nat} {l : List ResultVar}
    (hf : P.funcs[f]? = some fn) (hb : fn.body = some c) (hn : fn.ntmps = n) (hl : fn.results = l.toArray) (hargs : Nat.ble args.length n = true)
    (h : FW P none n c (QfnC P l R) (args0 0 args) w) : Rets P f args w R := by
  have hle : args.length ≤ n := Nat.le_of_ble_eq_true hargs
  refine (callsIn_wide (n := 0)).1 (callsIn_of_wp_marks (F := fen none) hf hb trivial (Go.wpIn_mono (h _ ⟨?_, (args0_ds args 0).symm, fun i => ?_⟩) ?_))
  · simp [hn]; omega
  · rw [args0_get]
    simp only [Nat.zero_le, if_true, Nat.sub_zero]
    simp only [Array.getD_eq_getD_getElem?, List.getElem?_toArray]
    rw [Array.getElem?_append]
    split
    · simp
    rename_i hge
    simp at hge
    rw [List.getElem?_eq_none (by omega)]
    rw [Array.getElem?_replicate]
    split <;> rfl
  rintro e a' w' ⟨s, hs, hq⟩
  cases e with
  | normal =>
    obtain ⟨h0, vs, h1, h2⟩ := hq
    show LeavesInM _ _ _ _ _ _ _ _ _
    rw [hs.defers, h0]
    exact ⟨_, run_resultsC hs.get hl h1, h2⟩
  | ret =>
    obtain ⟨h0, vs, h1, h2⟩ := hq
    show LeavesInM _ _ _ _ _ _ _ _ _
    rw [hs.defers, h0]
    exact ⟨_, run_resultsC hs.get hl h1, h2⟩
  | _ => exact hq.elim
section
variable {f : FuncId} {fn : Func} {c : Code} {R : Value → World → Prop} {n : Nat} {l : List ResultVar} (hf : P.funcs[f]? = some fn) (hb : fn.body = some c) (hn : fn.ntmps = n) (hl : fn.results = l.toArray)
include hf hb hn hl
theorem retsC1 {a0 : Value} (hk : Nat.ble 1 n = true) (h : FW P none n c (QfnC P l R) (upd und 0 a0) w) : Rets P f [a0] w R := retsC_of_FW hf hb hn hl hk h
theorem retsC2 {a0 a1 : Value} (hk : Nat.ble 2 n = true) (h : FW P none n c (QfnC P l R) (upd (upd und 1 a1) 0 a0) w) : Rets P f [a0, a1] w R := retsC_of_FW hf hb hn hl hk h
theorem retsC3 {a0 a1 a2 : Value} (hk : Nat.ble 3 n = true) (h : FW P none n c (QfnC P l R) (upd (upd (upd und 2 a2) 1 a1) 0 a0) w) : Rets P f [a0, a1, a2] w R := retsC_of_FW hf hb hn hl hk h
end
theorem loadVar_blkN {b o T k : Nat} [h1 : Agg P T k] {cs us : List Value} {E : TypeId} (hb : w.heap[b]? = some (.cells cs.toArray E (0, 0))) (hu : (cs.drop o).take k = us) (hk : us.length = k) : (loadVar T ⟨b, o, none⟩).run P w = .ok (.agg us.toArray) w := by
 simp [loadVar, h1.agg, h1.size, run_loadCells_blk hb hu hk]
end cells

section drawq
variable {P : Program} {r : Option Nat} {n : Nat} {ops : Array Oper} {Q : Post} {lv : List Bool} {pd : List (Nat × Bool)} {σ : St} {w w₀ : World} {S : Nat → Prop} {rs : List HP} {ty : TypeId} {pos : String} {after : Array Edge} {guard : Option (Nat × Bool)}
theorem FGcallQ (hok : okOps n ops = true) (e : Nat) (pd' : List (Nat × Bool)) {d : Nat} {f : FuncId} {xs : List Operand} {ats : Array TypeId} {vals : List Value} {v : Value} [he : Enters P f] (H : Sep w₀ S rs w) (hc : Rets P f vals w fun v' w' => v' = v ∧ Kept noB w w')
    (ho : ops[e]? = some { dst := some d, op := .call { callee := .value (.func f), args := xs.toArray, argTypes := ats }, type := ty, pos := pos, after := after, guard := guard } := by exact rfl)
    (hw : Region.wanted { dst := some d, op := .call { callee := .value (.func f), args := xs.toArray, argTypes := ats }, type := ty, pos := pos, after := after, guard := guard } (yieldF ops σ) = true := by kernel_rfl) (hv : xs.map (evF σ) = vals := by exact rfl) (hck : effectOk ops lv (pd.map (·.1)) e = true := by kernel_rfl)
    (hpd : pd.filter (fun p => !((above ops e).contains p.1)) = pd' := by kernel_rfl) (h : ∀ w', Sep w₀ S rs w' → Kept noB w w' → Stab P ops (upd σ d v) w' pd' ∧ FG P r n ops Q (lv.set e true) pd' (upd σ d v) w') : FG P r n ops Q lv pd σ w :=
  FGcall hok e pd' ho hw hc hv hck hpd fun v' w' ⟨h1, h2⟩ => by subst h1; exact h w' (H.keep h2) h2
end drawq
def preH (E : Nat) (v : Value) (n : Nat) (xs : List Value) : HP := exH fun x : Option (Nat × List Value) × Nat => match x with
 | (none, c) => pureH (v = .slice none n c ∧ n = 0 ∧ xs = [])
 | (some (g, rest), c) => star (pureH (v = .slice (some ⟨g, 0, none⟩) n c ∧ xs.length = n ∧ n ≤ c)) (blk g (xs ++ rest) E)
section pre
variable {w₀ w w' : World} {S : Nat → Prop} {rs : List HP} {put : HP → List HP}
theorem pre_row {E n c : Nat} {A : Option Addr} {xs : List Value} {F : Nat → Prop} (h : (preH E (.slice A n c) n xs).ok F w) : RowAt w A n 1 xs := by
 obtain ⟨⟨_ | ⟨g, rest⟩, c'⟩, hx⟩ := h
 ·obtain ⟨⟨h1, h2, h3⟩, _⟩ := hx
  subst h2 h3
  exact RowAt.nil _ _ _
 obtain ⟨F1, F2, hF, hd, ⟨⟨h1, h2, h3⟩, _⟩, hb⟩ := hx
 injection h1 with h1 _ _
 subst h1
 refine ⟨by omega, fun _ => ⟨_, rfl, fun j u hu => ?_⟩⟩
 rw [Addr.add_lit, Nat.zero_add, cell_blk hb.2, List.getElem?_append_left (List.getElem?_eq_some_iff.1 hu).1]
 exact hu
theorem Sep.preRow {E n c : Nat} {A : Option Addr} {xs : List Value} (h : Sep w₀ S rs w) (hat : At rs (preH E (.slice A n c) n xs) put) : RowAt w A n 1 xs := by
 obtain ⟨F, hp, _, _⟩ := h.focus hat
 exact pre_row hp
end pre
end Go.Mw
namespace Go.Proofs.YtolaedhdjcnijaaGreatDoor
open Go Go.Lib

def nextL (l : List UInt8) : Option (Nat × Nat) := if l = [] ∨ ((decodeL l).1 = 65533 ∧ (decodeL l).2 = 1) then none else some (decodeL l)
def putL (r : Int) : Option (List UInt8) := if r < 0 ∨ 1114111 < r ∨ (55296 ≤ r ∧ r ≤ 57343) then none else some (encodeRune r)
def numL : List UInt8 → Nat
 | [a] => a.toNat
 | [a, b] => 64 * (a.toNat % 32) + b.toNat % 64
 | [a, b, c] => 64 * (64 * (a.toNat % 16) + b.toNat % 64) + c.toNat % 64
 | [a, b, c, d] => 64 * (64 * (64 * (a.toNat % 8) + b.toNat % 64) + c.toNat % 64) + d.toNat % 64
 | _ => 0
def okL (l : List UInt8) (k : Nat) : Prop := putL (numL (l.take k) : Nat) = some (l.take k)
instance (l : List UInt8) (k : Nat) : Decidable (okL l k) := by unfold okL; infer_instance

theorem u8_eq {n : Nat} {a : UInt8} : n.toUInt8 = a ↔ n % 256 = a.toNat := by
 rw [← UInt8.toNat_inj]
 simp
section
variable {a b c d : UInt8} {t : List UInt8}
theorem ok1 : okL (a :: t) 1 ↔ a.toNat < 128 := by
 have ha := a.toNat_lt
 unfold okL
 simp only [List.take_succ_cons, List.take_zero, numL]
 unfold putL
 rw [if_neg (by omega)]
 constructor
 ·intro h
  refine Classical.byContradiction fun hn => ?_
  rw [encodeRune, encodeRuneZ_two (by omega) (by omega)] at h
  simp at h
 intro h
 rw [encodeRune, encodeRuneZ_one (by omega) (by omega)]
 simp
theorem ok2 : okL (a :: b :: t) 2 ↔ a.toNat / 32 = 6 ∧ b.toNat / 64 = 2 ∧ 128 ≤ a.toNat % 32 * 64 + b.toNat % 64 := by
 have ha := a.toNat_lt
 have hb := b.toNat_lt
 unfold okL
 simp only [List.take_succ_cons, List.take_zero, numL]
 unfold putL
 rw [if_neg (by omega)]
 by_cases h0 : 64 * (a.toNat % 32) + b.toNat % 64 < 128
 ·rw [encodeRune, encodeRuneZ_one (by omega) (by omega)]
  simp
  omega
 rw [encodeRune, encodeRuneZ_two (by omega) (by omega)]
 simp only [List.map_cons, List.map_nil, Option.some.injEq, List.cons.injEq, and_true, u8_eq]
 omega
theorem ok3 : okL (a :: b :: c :: t) 3 ↔ a.toNat / 16 = 14 ∧ b.toNat / 64 = 2 ∧ c.toNat / 64 = 2 ∧ 2048 ≤ a.toNat % 16 * 4096 + b.toNat % 64 * 64 + c.toNat % 64 ∧
    (a.toNat % 16 * 4096 + b.toNat % 64 * 64 + c.toNat % 64 < 55296 ∨ 57344 ≤ a.toNat % 16 * 4096 + b.toNat % 64 * 64 + c.toNat % 64) := by
  have ha := a.toNat_lt
  have hb := b.toNat_lt
  have hc := c.toNat_lt
  unfold okL
  simp only [List.take_succ_cons, List.take_zero, numL]
  unfold putL
  by_cases hs : 55296 ≤ 64 * (64 * (a.toNat % 16) + b.toNat % 64) + c.toNat % 64 ∧ 64 * (64 * (a.toNat % 16) + b.toNat % 64) + c.toNat % 64 ≤ 57343
  · rw [if_pos (by omega)]
    simp
    omega
  rw [if_neg (by omega)]
  by_cases h0 : 64 * (64 * (a.toNat % 16) + b.toNat % 64) + c.toNat % 64 < 128
  · rw [encodeRune, encodeRuneZ_one (by omega) (by omega)]
    simp
    omega
  by_cases h1 : 64 * (64 * (a.toNat % 16) + b.toNat % 64) + c.toNat % 64 < 2048
  · rw [encodeRune, encodeRuneZ_two (by omega) (by omega)]
    simp
    omega
  rw [encodeRune, encodeRuneZ_three (by omega)]
  simp only [List.map_cons, List.map_nil, Option.some.injEq, List.cons.injEq, and_true, u8_eq]
  omega
theorem ok4 : okL (a :: b :: c :: d :: t) 4 ↔ a.toNat / 8 = 30 ∧ b.toNat / 64 = 2 ∧ c.toNat / 64 = 2 ∧ d.toNat / 64 = 2 ∧ 65536 ≤ a.toNat % 8 * 262144 + b.toNat % 64 * 4096 + c.toNat % 64 * 64 + d.toNat % 64 ∧
    a.toNat % 8 * 262144 + b.toNat % 64 * 4096 + c.toNat % 64 * 64 + d.toNat % 64 ≤ 1114111 := by
  have ha := a.toNat_lt
  have hb := b.toNat_lt
  have hc := c.toNat_lt
  have hd := d.toNat_lt
  unfold okL
  simp only [List.take_succ_cons, List.take_zero, numL]
  unfold putL
  obtain ⟨n, hn⟩ : ∃ n, n = 64 * (64 * (64 * (a.toNat % 8) + b.toNat % 64) + c.toNat % 64) + d.toNat % 64 := ⟨_, rfl⟩
  rw [← hn]
  by_cases hs : 1114111 < n ∨ (55296 ≤ n ∧ n ≤ 57343)
  · rw [if_pos (by omega)]
    simp
    omega
  rw [if_neg (by omega)]
  by_cases h0 : n < 128
  · rw [encodeRune, encodeRuneZ_one (by omega) (by omega)]
    simp
    omega
  by_cases h1 : n < 2048
  · rw [encodeRune, encodeRuneZ_two (by omega) (by omega)]
    simp
    omega
  by_cases h2 : n < 65536
  · rw [encodeRune, encodeRuneZ_three (by omega)]
    simp
    omega
  rw [encodeRune, encodeRuneZ_four (by omega) (by omega)]
  simp only [List.map_cons, List.map_nil, Option.some.injEq, List.cons.injEq, and_true, u8_eq]
  omega
end
theorem decodeL_cons (a : UInt8) (t : List UInt8) : decodeL (a :: t) = decodeN (t.length + 1) a.toNat (t.getD 0 0).toNat (t.getD 1 0).toNat (t.getD 2 0).toNat := by
 rw [decodeL_N]; rfl
theorem next_of_ok {l : List UInt8} {k : Nat} (h1 : 1 ≤ k) (h4 : k ≤ 4) (hk : k ≤ l.length) (h : okL l k) : nextL l = some (numL (l.take k), k) := by
 have hk' : k = 1 ∨ k = 2 ∨ k = 3 ∨ k = 4 := by omega
 unfold nextL
 rcases hk' with rfl | rfl | rfl | rfl
 ·obtain ⟨a, t, rfl⟩ : ∃ a t, l = a :: t := by cases l with | nil => simp at hk | cons a t => exact ⟨a, t, rfl⟩
  have h := ok1.1 h
  have hd : decodeL (a :: t) = (a.toNat, 1) := by rw [decodeL_cons, decodeN, if_pos h]
  rw [hd, if_neg (by simp; omega)]
  rfl
 ·obtain ⟨a, b, t, rfl⟩ : ∃ a b t, l = a :: b :: t := by match l, hk with | a :: b :: t, _ => exact ⟨a, b, t, rfl⟩
  obtain ⟨h2, h3, h5⟩ := ok2.1 h
  have hd : decodeL (a :: b :: t) = (a.toNat % 32 * 64 + b.toNat % 64, 2) := by
   rw [decodeL_cons, decodeN, if_neg (by omega), if_pos ⟨h2, by simp, by simpa using h3⟩]
   simp only [List.getD_cons_zero]
   rw [if_pos h5]
  rw [hd, if_neg (by simp)]
  simp only [List.take_succ_cons, List.take_zero, numL]
  congr 2; omega
 ·obtain ⟨a, b, c, t, rfl⟩ : ∃ a b c t, l = a :: b :: c :: t := by match l, hk with | a :: b :: c :: t, _ => exact ⟨a, b, c, t, rfl⟩
  obtain ⟨h2, h3, h5, h6, h7⟩ := ok3.1 h
  have hd : decodeL (a :: b :: c :: t) = (a.toNat % 16 * 4096 + b.toNat % 64 * 64 + c.toNat % 64, 3) := by
   rw [decodeL_cons, decodeN, if_neg (by omega), if_neg (by omega), if_pos ⟨h2, ⟨by simp, by simpa using h3⟩, by simp, by simpa using h5⟩]
   simp only [List.getD_cons_zero, List.getD_cons_succ]
   rw [if_pos ⟨h6, by omega⟩]
  rw [hd, if_neg (by simp)]
  simp only [List.take_succ_cons, List.take_zero, numL]
  congr 2; omega
 obtain ⟨a, b, c, d, t, rfl⟩ : ∃ a b c d t, l = a :: b :: c :: d :: t := by match l, hk with | a :: b :: c :: d :: t, _ => exact ⟨a, b, c, d, t, rfl⟩
 obtain ⟨h2, h3, h5, h6, h7, h8⟩ := ok4.1 h
 have hd : decodeL (a :: b :: c :: d :: t) = (a.toNat % 8 * 262144 + b.toNat % 64 * 4096 + c.toNat % 64 * 64 + d.toNat % 64, 4) := by
  rw [decodeL_cons, decodeN, if_neg (by omega), if_neg (by omega), if_neg (by omega), if_pos ⟨h2, ⟨by simp, by simpa using h3⟩, ⟨by simp, by simpa using h5⟩, by simp, by simpa using h6⟩]
  simp only [List.getD_cons_zero, List.getD_cons_succ]
  rw [if_pos ⟨h7, by omega⟩]
 rw [hd, if_neg (by simp)]
 simp only [List.take_succ_cons, List.take_zero, numL]
 congr 2; omega
theorem next_none {l : List UInt8} (h : ∀ k, 1 ≤ k → k ≤ 4 → k ≤ l.length → ¬ okL l k) : nextL l = none := by
  unfold nextL
  match l, h with
  | [], _ => rw [if_pos (.inl rfl)]
  | a :: t, h =>
    rw [decodeL_cons]
    rcases decodeN_shape (t.length + 1) a.toNat (t.getD 0 0).toNat (t.getD 1 0).toNat (t.getD 2 0).toNat with ⟨c, e⟩ | ⟨c1, c2, c3, cv, e⟩ | ⟨c1, c2, c3, c4, cv, cs, e⟩ | ⟨c1, c2, c3, c4, c5, cv, cw, e⟩ | e
    · exact absurd (ok1.2 c) (h 1 (by omega) (by omega) (by simp))
    · obtain ⟨b, u, rfl⟩ : ∃ b u, t = b :: u := by cases t with | nil => simp at c2 | cons b u => exact ⟨b, u, rfl⟩
      exact absurd (ok2.2 ⟨c1, c3, cv⟩) (h 2 (by omega) (by omega) (by simp))
    · obtain ⟨b, c, u, rfl⟩ : ∃ b c u, t = b :: c :: u := by
        cases t with
        | nil => simp at c2
        | cons b u => cases u with
          | nil => simp at c2
          | cons c u => exact ⟨b, c, u, rfl⟩
      exact absurd (ok3.2 ⟨c1, c3, c4, cv, cs⟩) (h 3 (by omega) (by omega) (by simp))
    · obtain ⟨b, c, d, u, rfl⟩ : ∃ b c d u, t = b :: c :: d :: u := by
        cases t with
        | nil => simp at c2
        | cons b u => cases u with
          | nil => simp at c2
          | cons c u => cases u with
            | nil => simp at c2
            | cons d u => exact ⟨b, c, d, u, rfl⟩
      exact absurd (ok4.2 ⟨c1, c3, c4, c5, cv, cw⟩) (h 4 (by omega) (by omega) (by simp))
    rw [e, if_pos (.inr ⟨rfl, rfl⟩)]
theorem next_some {l : List UInt8} {r n : Nat} (h : nextL l = some (r, n)) : decodeL l = (r, n) ∧ 1 ≤ n ∧ n ≤ l.length ∧ encodeRune (r : Int) = l.take n := by
 unfold nextL at h
 split at h
 ·cases h
 rename_i hn
 injection h with h
 have hne : l ≠ [] := fun e => hn (.inl e)
 have hv : ¬ ((decodeL l).1 = 65533 ∧ (decodeL l).2 = 1) := fun e => hn (.inr e)
 have h1 := encode_decode l hne hv
 have h2 := decodeL_le l hne
 have h3 := decodeL_width l
 rw [h] at h1 h2 h3
 exact ⟨h, h3, h2, h1⟩
theorem valid_step {l : List UInt8} (hne : l ≠ []) : validD l = match nextL l with | none => false | some (_, n) => validD (l.drop n) := by
 rw [validD_step l hne]
 unfold nextL
 by_cases h : (decodeL l).1 = 65533 ∧ (decodeL l).2 = 1
 ·rw [if_pos h, if_pos (.inr h)]
 rw [if_neg h, if_neg (fun e => e.elim hne h)]

def hexB (n : Nat) : UInt8 := if n < 10 then (48 + n).toUInt8 else (87 + n).toUInt8
def quoteB (c : UInt8) : List UInt8 :=
 if c = 34 then [92, 34] else if c = 92 then [92, 92] else if c = 8 then [92, 98] else if c = 12 then [92, 102] else if c = 10 then [92, 110] else if c = 13 then [92, 114] else if c = 9 then [92, 116]
 else if c < 32 then [92, 117, 48, 48, hexB (c.toNat / 16), hexB (c.toNat % 16)] else [c]
def quoteL (s : List UInt8) : List UInt8 := 34 :: (s.flatMap quoteB ++ [34])
def digitL (c : UInt8) : Option Nat := if 48 ≤ c.toNat ∧ c.toNat ≤ 57 then some (c.toNat - 48) else if 97 ≤ c.toNat ∧ c.toNat ≤ 102 then some (c.toNat - 87) else if 65 ≤ c.toNat ∧ c.toNat ≤ 70 then some (c.toNat - 55) else none
def halfL (s : List UInt8) (second : Bool) : Nat × Int :=
 match s[0]? with
 | none => (0, 3)
 | some c0 => match digitL c0 with
  | none => (0, 41)
  | some d0 => if second = true ∧ d0 ≠ 13 then (0, 41) else match s[1]? with
   | none => (0, 3)
   | some c1 => match digitL c1 with
    | none => (0, 41)
    | some d1 => if second ≠ decide (220 ≤ 16 * d0 + d1 ∧ 16 * d0 + d1 ≤ 223) then (0, 41) else match s[2]? with
     | none => (0, 3)
     | some c2 => match digitL c2 with
      | none => (0, 41)
      | some d2 => match s[3]? with
       | none => (0, 3)
       | some c3 => match digitL c3 with
        | none => (0, 41)
        | some d3 => (16 * (16 * (16 * d0 + d1) + d2) + d3, 0)
def shortL (c : UInt8) : Option UInt8 :=
 if c = 34 then some 34 else if c = 92 then some 92 else if c = 47 then some 47 else if c = 98 then some 8 else if c = 102 then some 12 else if c = 110 then some 10 else if c = 114 then some 13 else if c = 116 then some 9 else none
def escT (s : List UInt8) (n : Nat) : List UInt8 × Nat × Int :=
 match s[6]? with
 | none => ([], 0, 3)
 | some c6 => if c6 ≠ 92 then ([], 0, 41) else match s[7]? with
  | none => ([], 0, 3)
  | some c7 => if c7 ≠ 117 then ([], 0, 41) else
   let k := halfL (s.drop 8) true
   if k.2 ≠ 0 then ([], 0, k.2) else (encodeRune (65536 + 1024 * ((n : Int) - 55296) + k.1 - 56320), 12, 0)
def escL (s : List UInt8) : List UInt8 × Nat × Int :=
 match s[1]? with
 | none => ([], 0, 3)
 | some c => match shortL c with
  | some b => ([b], 2, 0)
  | none => if c ≠ 117 then ([], 0, 41) else
   let h := halfL (s.drop 2) false
   if h.2 ≠ 0 then ([], 0, h.2)
   else if h.1 < 55296 ∨ 56319 < h.1 then (encodeRune h.1, 6, 0)
   else escT s h.1
def beginsL : List UInt8 → Bool
  | [a] => decide (194 ≤ a.toNat ∧ a.toNat ≤ 244)
  | [a, b] => decide ((a.toNat = 224 ∧ 160 ≤ b.toNat ∧ b.toNat ≤ 191) ∨ ((225 ≤ a.toNat ∧ a.toNat ≤ 236 ∨ 238 ≤ a.toNat ∧ a.toNat ≤ 239) ∧ 128 ≤ b.toNat ∧ b.toNat ≤ 191) ∨ (a.toNat = 237 ∧ 128 ≤ b.toNat ∧ b.toNat ≤ 159) ∨
      (a.toNat = 240 ∧ 144 ≤ b.toNat ∧ b.toNat ≤ 191) ∨ (241 ≤ a.toNat ∧ a.toNat ≤ 243 ∧ 128 ≤ b.toNat ∧ b.toNat ≤ 191) ∨ (a.toNat = 244 ∧ 128 ≤ b.toNat ∧ b.toNat ≤ 143))
  | [a, b, c] => decide (((a.toNat = 240 ∧ 144 ≤ b.toNat ∧ b.toNat ≤ 191) ∨ (241 ≤ a.toNat ∧ a.toNat ≤ 243 ∧ 128 ≤ b.toNat ∧ b.toNat ≤ 191) ∨ (a.toNat = 244 ∧ 128 ≤ b.toNat ∧ b.toNat ≤ 143)) ∧ 128 ≤ c.toNat ∧ c.toNat ≤ 191)
  | _ => false
def unqR : Nat → List UInt8 → Nat → List UInt8 → List UInt8 × Nat × Int
 | 0, _, _, _ => ([], 0, 3)
 | f + 1, rest, i, out => match rest with
  | [] => ([], 0, 3)
  | c :: t => if c = 34 then (out, i + 1, 0) else if c < 32 then ([], 0, 41)
   else if c = 92 then (let e := escL (c :: t); if e.2.2 ≠ 0 then ([], 0, e.2.2) else unqR f ((c :: t).drop e.2.1) (i + e.2.1) (out ++ e.1))
   else match nextL (c :: t) with
    | some (_, n) => unqR f ((c :: t).drop n) (i + n) (out ++ (c :: t).take n)
    | none => ([], 0, if beginsL (c :: t) then 3 else 40)
def unqL (s : List UInt8) : List UInt8 × Nat × Int :=
 match s with
 | [] => ([], 0, 3)
 | c :: t => if c ≠ 34 then ([], 0, 41) else unqR (t.length + 1) t 1 []
theorem escL_cases (s : List UInt8) : (∃ e : Int, e ≠ 0 ∧ escL s = ([], 0, e)) ∨ ∃ b n, 1 ≤ n ∧ escL s = (b, n, 0) := by
 obtain ⟨x, hx⟩ : ∃ x, x = escL s := ⟨_, rfl⟩
 rw [← hx]
 unfold escL escT at hx
 dsimp only at hx
 repeat' split at hx
 all_goals first
  | exact .inl ⟨_, by decide, hx⟩
  | exact .inr ⟨_, _, by decide, hx⟩
  | exact .inl ⟨_, by assumption, hx⟩
theorem unqR_more : ∀ {f g : Nat} {rest : List UInt8} {i : Nat} {out : List UInt8}, rest.length < f → rest.length < g → unqR f rest i out = unqR g rest i out := by
 intro f
 induction f with
 | zero => intro g rest i out h; exact absurd h (Nat.not_lt_zero _)
 | succ f ih =>
  intro g rest i out hf hg
  cases g with
  | zero => exact absurd hg (Nat.not_lt_zero _)
  | succ g =>
   cases rest with
   | nil => rfl
   | cons c t =>
    unfold unqR
    have hdrop : ∀ k, 1 ≤ k → ((c :: t).drop k).length < f ∧ ((c :: t).drop k).length < g := fun k hk => by
     rw [List.length_drop]
     simp only [List.length_cons] at hf hg ⊢
     omega
    dsimp only
    split
    ·rfl
    split
    ·rfl
    split
    ·split
     ·rfl
     rename_i he
     have h1 : 1 ≤ (escL (c :: t)).2.1 := by
      rcases escL_cases (c :: t) with ⟨e, h0, hx⟩ | ⟨b, n, hn, hx⟩
      ·rw [hx] at he; exact absurd h0 he
      rw [hx]; exact hn
     obtain ⟨a, b⟩ := hdrop _ h1
     exact ih a b
    cases hn : nextL (c :: t) with
    | none => rfl
    | some x =>
     obtain ⟨r, n⟩ := x
     obtain ⟨_, h1, _, _⟩ := next_some hn
     obtain ⟨a, b⟩ := hdrop _ h1
     exact ih a b
end Go.Proofs.YtolaedhdjcnijaaGreatDoor
