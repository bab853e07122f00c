/-
 A calculus for walking loaded code with frames as functions from slots to values. Nothing of a given program stands here.
-/
import Derived.WalkKit
import Derived.Orders
import Derived.Still
import Derived.TacticsIn
import Derived.OrdersIn
import Derived.RangeFuncCalls
import Derived.RangeFuncLeaves
import Derived.RangeFuncRecord
import Derived.Laws.Rows
set_option linter.unusedVariables false
set_option linter.unusedSimpArgs false
namespace Go.Mw
open Go.RowKit

structure St where
 get : Nat → Value
 ds : List Deferred
instance : CoeFun St (fun _ => Nat → Value) := ⟨St.get⟩
theorem St.eq_of {σ τ : St} (h : ∀ x, σ x = τ x) (hd : σ.ds = τ.ds) : σ = τ := by
 cases σ; cases τ; simp only at hd; subst hd; congr 1; exact funext h
def upd (σ : St) (d : Nat) (v : Value) : St := { get := fun x => bif Nat.beq x d then v else σ x, ds := σ.ds }
theorem upd_same (σ : St) (d : Nat) (v : Value) : (upd σ d v).get d = v := by simp [upd]
theorem upd_ne (σ : St) (d : Nat) (v : Value) (x : Nat) (h : x ≠ d) : (upd σ d v).get x = σ.get x := by
 have : Nat.beq x d = false := by
  cases hb : Nat.beq x d
  ·rfl
  exact absurd (Nat.eq_of_beq_eq_true hb) h
 simp [upd, this]
theorem upd_ds (σ : St) (d : Nat) (v : Value) : (upd σ d v).ds = σ.ds := rfl
def updO (σ : St) : Option Nat → Value → St
 | some d, v => upd σ d v
 | none, _ => σ
theorem updO_ds (σ : St) (o : Option Nat) (v : Value) : (updO σ o v).ds = σ.ds := by cases o <;> rfl
def und : St := ⟨fun _ => undef, []⟩
def evF (σ : St) : Operand → Value
 | .tmp t => σ t
 | .const v => v
 | .global g => .pointer (some ⟨g, 0, none⟩)
 | .func f => .func (.func f) #[] #[]

structure Rep (n : Nat) (σ : St) (a : Act) : Prop where
 size : a.tmps.size = n
 defers : a.defers = σ.ds
 get : ∀ i, a.tmps.getD i undef = σ i

section
variable {n : Nat} {σ : St} {a : Act}
theorem Rep.eval (h : Rep n σ a) : a.eval = evF σ := by
 funext x
 cases x with
 | tmp t => exact h.get t
 | _ => rfl
theorem Rep.put (h : Rep n σ a) {d : Nat} (hd : d < n) (v : Value) : Rep n (upd σ d v) (a.put (some d) v) := by
 refine ⟨by simpa [Act.put] using h.size, h.defers, fun i => ?_⟩
 by_cases hi : i = d
 ·subst hi
  have : i < a.tmps.size := by rw [h.size]; exact hd
  simp [Act.put, upd_same, Array.getD_eq_getD_getElem?, this]
 rw [upd_ne _ _ _ _ hi, ← h.get i]
 simp [Act.put, Array.getD_eq_getD_getElem?, Array.getElem?_setIfInBounds_ne (Ne.symm hi)]
def okDst (n : Nat) : Option Nat → Bool
 | some d => Nat.blt d n
 | none => true
theorem Rep.putO (h : Rep n σ a) {d : Option Nat} (hd : okDst n d = true) (v : Value) : Rep n (updO σ d v) (a.put d v) := by
 cases d with
 | none => exact h
 | some d => exact h.put (Nat.le_of_ble_eq_true hd) v
end

def yieldF (ops : Array Oper) (σ : St) (j : Nat) : Option Bool :=
 match (ops[j]?).bind (·.dst) with
 | some d => (match σ d with | .bool b => some b | _ => none)
 | none => none
theorem Rep.yielded {n : Nat} {σ : St} {a : Act} (h : Rep n σ a) (ops : Array Oper) (hd : ∀ (j : Nat) (d : Nat), (ops[j]?).bind (fun o : Oper => o.dst) = some d → d < n) : Go.yielded ops a.tmps = yieldF ops σ := by
 funext j
 unfold Go.yielded yieldF
 cases hj : (ops[j]?).bind (·.dst) with
 | none => rfl
 | some d =>
  have hlt : d < a.tmps.size := by rw [h.size]; exact hd j d hj
  have hg := h.get d
  have : a.tmps[d]? = some (σ d) := by
   rw [Array.getElem?_eq_getElem hlt, ← hg]
   simp [Array.getD_eq_getD_getElem?, hlt]
  simp only [Option.bind_some, this]
  split <;> rename_i hq <;> first | (injection hq with hq; rw [hq]) | (split <;> first | rfl | (rename_i hq2; exact absurd (by rw [hq2]) (hq _)))
theorem Rep.yielded_at {n : Nat} {σ : St} {a : Act} (h : Rep n σ a) (ops : Array Oper) {j : Nat} {d : Nat} (hj : (ops[j]?).bind (fun o : Oper => o.dst) = some d) {b : Bool} (hb : σ d = .bool b) : Go.yielded ops a.tmps j = some b := by
 unfold Go.yielded
 have hg := h.get d
 rw [hb] at hg
 have : a.tmps[d]? = some (.bool b) := by
  cases hq : a.tmps[d]? with
  | none => simp [Array.getD_eq_getD_getElem?, hq, undef] at hg
  | some v => simp [Array.getD_eq_getD_getElem?, hq] at hg; rw [hg]
 simp only [hj, Option.bind_some, this]

abbrev Post := Exit → St → World → Prop
def lift (n : Nat) (Q : Post) : Exit → Act → World → Prop := fun e a w => ∃ σ, Rep n σ a ∧ Q e σ w

def fen (r : Option Nat) : Fence := { fn := fun _ => True, depth := none, alive := false, round := r }
theorem fen_calls {P : Program} {f : FuncId} {args : Array Value} {w : World} {R : Ending → World → Prop} (r : Option Nat) (h : Calls P f args w R) : CallsIn (fen r) 0 P f args w R := callsIn_wide.2 h
def FW (P : Program) (r : Option Nat) (n : Nat) (c : Code) (Q : Post) (σ : St) (w : World) : Prop := ∀ a, Rep n σ a → c.wpIn (fen r) 0 P (lift n Q) a w
def FL (P : Program) (r : Option Nat) (n : Nat) (ops : Array Oper) (Q : Post) (rest : List Oper) (σ : St) (w : World) : Prop := ∀ a, Rep n σ a → wpListIn (fen r) 0 P ops (lift n Q) rest a w

def Qseq (P : Program) (r : Option Nat) (n : Nat) (b : Code) (Q : Post) : Post := fun e σ w => match e with
 | .normal => FW P r n b Q σ w
 | e => Q e σ w
def Qblk (id : Nat) (Q : Post) : Post := fun e σ w => match e with
 | .exit id' => if id' = id then Q .normal σ w else Q (.exit id') σ w
 | e => Q e σ w

section
variable {P : Program} {r : Option Nat} {n : Nat} {Q : Post} {σ : St} {w : World}
theorem FW.mono {c : Code} {Q' : Post} (h : FW P r n c Q σ w) (hq : ∀ e σ w, Q e σ w → Q' e σ w) : FW P r n c Q' σ w :=
 fun a ha => Go.wpIn_mono (h a ha) fun _ _ _ ⟨s, hs, hQ⟩ => ⟨s, hs, hq _ _ _ hQ⟩
theorem Qseq_normal {b : Code} (h : FW P r n b Q σ w) : Qseq P r n b Q .normal σ w := h
theorem Qseq_ret {b : Code} (h : Q .ret σ w) : Qseq P r n b Q .ret σ w := h
theorem Qseq_exit {b : Code} {id : Nat} (h : Q (.exit id) σ w) : Qseq P r n b Q (.exit id) σ w := h
theorem Qblk_normal {id : Nat} (h : Q .normal σ w) : Qblk id Q .normal σ w := h
theorem Qblk_ret {id : Nat} (h : Q .ret σ w) : Qblk id Q .ret σ w := h
theorem Qblk_exit {id : Nat} (h : Q .normal σ w) : Qblk id Q (.exit id) σ w := by simp only [Qblk, if_true]; exact h
theorem Qblk_exit_ne {id id' : Nat} (hne : Nat.beq id' id = false) (h : Q (.exit id') σ w) : Qblk id Q (.exit id') σ w := by
 have : id' ≠ id := fun e => by subst e; simp at hne
 simp only [Qblk, if_neg this]; exact h

theorem FW_seq {x y : Code} (h : FW P r n x (Qseq P r n y Q) σ w) : FW P r n (.seq x y) Q σ w := fun a ha =>
 wpIn_seq (Go.wpIn_mono (h a ha) fun e _ _ ⟨s, hs, hQ⟩ => by
  cases e <;> first | exact hQ _ hs | exact ⟨s, hs, hQ⟩)
theorem FW_skip (h : Q .normal σ w) : FW P r n .skip Q σ w := fun _ ha => wpIn_skip ⟨σ, ha, h⟩
theorem FW_ret (h : Q .ret σ w) : FW P r n .ret Q σ w := fun _ ha => wpIn_ret ⟨σ, ha, h⟩
theorem FW_exit {id : Nat} (h : Q (.exit id) σ w) : FW P r n (.exit id) Q σ w := fun _ ha => wpIn_exit ⟨σ, ha, h⟩
theorem FW_block {id : Nat} {c : Code} (h : FW P r n c (Qblk id Q) σ w) : FW P r n (.block id c) Q σ w := fun a ha =>
 wpIn_block (Go.wpIn_mono (h a ha) fun e a' w' ⟨s, hs, hQ⟩ => by
  cases e with
  | exit id' =>
   by_cases hid : id' = id
   ·subst hid; simp only [Qblk, if_true] at hQ; simp only [Exit.inBlock, if_true]; exact ⟨s, hs, hQ⟩
   simp only [Qblk, if_neg hid] at hQ; simp only [Exit.inBlock, if_neg hid]; exact ⟨s, hs, hQ⟩
  | _ => exact ⟨s, hs, hQ⟩)
theorem FW_cond {c : Operand} {x y : Code} {t : Bool} (hc : evF σ c = .bool t) (ht : t = true → FW P r n x Q σ w) (hf : t = false → FW P r n y Q σ w) : FW P r n (.cond c x y) Q σ w := fun a ha =>
 wpIn_cond_split (by rw [ha.eval]; exact hc) (fun h => ht h a ha) (fun h => hf h a ha)
theorem FW_cond_true {c : Operand} {x y : Code} (hc : evF σ c = .bool true) (h : FW P r n x Q σ w) : FW P r n (.cond c x y) Q σ w := FW_cond hc (fun _ => h) (fun h => by cases h)
theorem FW_cond_false {c : Operand} {x y : Code} (hc : evF σ c = .bool false) (h : FW P r n y Q σ w) : FW P r n (.cond c x y) Q σ w := FW_cond hc (fun h => by cases h) (fun _ => h)
theorem FW_region {id : Nat} {l : List Oper} (h : FL P r n l.toArray Q l σ w) : FW P r n (.region id l.toArray false) Q σ w := fun a ha => wpIn_region_lit (h a ha)

def upds (σ : St) : List (Nat × Value) → St
 | [] => σ
 | (d, v) :: l => upd (upds σ l) d v
def holds (σ : St) : List (Nat × Value) → Prop
 | [] => True
 | (d, v) :: l => σ d = v ∧ holds σ l
theorem upd_self (σ : St) (d : Nat) : upd σ d (σ d) = σ := by
 refine St.eq_of (fun x => ?_) rfl
 by_cases h : x = d
 ·subst h; simp [upd_same]
 simp [upd_ne _ _ _ _ h]
theorem upds_of_holds {σ : St} : ∀ {l : List (Nat × Value)}, holds σ l → upds σ l = σ
 | [], _ => rfl
 | (d, v) :: l, ⟨h, hl⟩ => by
  show upd (upds σ l) d v = σ
  rw [upds_of_holds hl, ← h, upd_self]

def like (σ τ : St) : St := ⟨τ.get, σ.ds⟩
theorem und_ds : und.ds = [] := rfl
theorem like_self {σ τ : St} (h : τ.ds = σ.ds) : like σ τ = τ := St.eq_of (fun _ => rfl) h.symm
theorem FW_loop {X : Type} {c : Code} (l : X → List (Nat × Value)) (I : X → World → Prop) (m : X → World → Nat) (x₀ : X) (h₀ : holds σ (l x₀)) (hI : I x₀ w)
    (round : ∀ x τ w, I x w → FW P r n c (fun e σ' w' => match e with | .normal => σ'.ds = σ.ds ∧ ∃ x', holds σ' (l x') ∧ I x' w' ∧ m x' w' < m x w | e => Q e σ' w') (upds (like σ τ) (l x)) w) : FW P r n (.loop c) Q σ w := by
  intro a ha b kk cs hro hb hr
  have key : ∀ k a w, (∃ x σ', Rep n σ' a ∧ σ'.ds = σ.ds ∧ holds σ' (l x) ∧ I x w ∧ m x w = k) →
      ∃ e a' w', lift n Q e a' w' ∧ ArrivesIn (Machine.fenced P (fen r)) P (lone (b.atR a (.code c :: .inLoop c :: kk)) cs w) b kk cs e a' w' := by
    intro k
    induction k using Nat.strongRecOn with
    | _ k ih =>
      rintro a w ⟨x, σ', hrp, hds, hh, hi, hm⟩
      have hround := round x σ' w hi
      rw [like_self hds, upds_of_holds hh] at hround
      obtain ⟨e, a₁, w₁, ⟨s, hs, hq⟩, harr⟩ := hround a hrp b (.inLoop c :: kk) cs hro hb hr
      cases e with
      | normal =>
        obtain ⟨hds', x', hx', hi', hlt⟩ := hq
        obtain ⟨e₂, a₂, w₂, hq₂, harr₂⟩ := ih _ (by omega) a₁ w₁ ⟨x', s, hs, hds', hx', hi', rfl⟩
        exact ⟨e₂, a₂, w₂, hq₂, .of_steps (StepsIn.trans harr (.one (fenced_calm hb hr rfl) stepR_inLoop)) harr₂⟩
      | exit id => exact ⟨_, a₁, w₁, ⟨s, hs, hq⟩, .pass (x := .inLoop c) rfl (fun _ _ => .inl (by simp)) harr⟩
      | goto g => exact ⟨_, a₁, w₁, ⟨s, hs, hq⟩, .pass (x := .inLoop c) rfl (fun _ _ => .inl (by simp)) harr⟩
      | ret => exact ⟨_, a₁, w₁, ⟨s, hs, hq⟩, .pass (x := .inLoop c) rfl (fun _ _ => .inl (by simp)) harr⟩
      | panic chain => exact ⟨_, a₁, w₁, ⟨s, hs, hq⟩, .pass (x := .inLoop c) rfl (fun _ _ => .inl (by simp)) harr⟩
      | outgrown => exact ⟨_, a₁, w₁, ⟨s, hs, hq⟩, .pass (x := .inLoop c) rfl (fun _ _ => .inl (by simp)) harr⟩
  obtain ⟨e, a', w', hq, harr⟩ := key _ a w ⟨x₀, σ, ha, rfl, h₀, hI, rfl⟩
  exact ⟨e, a', w', hq, .of_steps (.one (fenced_calm hb hr rfl) stepR_loop) harr⟩
def Qround {X : Type} (ds : List Deferred) (l : X → List (Nat × Value)) (I : X → World → Prop) (m : X → World → Nat) (x : X) (w : World) (Q : Post) : Post :=
 fun e σ' w' => match e with | .normal => σ'.ds = ds ∧ ∃ x', holds σ' (l x') ∧ I x' w' ∧ m x' w' < m x w | e => Q e σ' w'
theorem FW_loop' {X : Type} {c : Code} (l : X → List (Nat × Value)) (I : X → World → Prop) (m : X → World → Nat) (x₀ : X) (h₀ : holds σ (l x₀)) (hI : I x₀ w)
    (round : ∀ x τ w, I x w → FW P r n c (Qround σ.ds l I m x w Q) (upds (like σ τ) (l x)) w) : FW P r n (.loop c) Q σ w := FW_loop l I m x₀ h₀ hI round
section
variable {X : Type} {ds : List Deferred} {l : X → List (Nat × Value)} {I : X → World → Prop} {m : X → World → Nat} {x : X} {w₀ : World}
theorem Qround_normal (x' : X) (h : holds σ (l x')) (hI : I x' w) (hm : m x' w < m x w₀) (hd : σ.ds = ds := by exact rfl) : Qround ds l I m x w₀ Q .normal σ w := ⟨hd, x', h, hI, hm⟩
theorem Qround_ret (h : Q .ret σ w) : Qround ds l I m x w₀ Q .ret σ w := h
theorem Qround_exit {id : Nat} (h : Q (.exit id) σ w) : Qround ds l I m x w₀ Q (.exit id) σ w := h
end
def Qcut {X : Type} (ds : List Deferred) (l : X → List (Nat × Value)) (I : X → World → Prop) (Q : Post) : Post :=
 fun e σ' w' => match e with | .normal => σ'.ds = ds ∧ ∃ x', holds σ' (l x') ∧ I x' w' | e => Q e σ' w'
theorem Qcut_normal {X : Type} {ds : List Deferred} {l : X → List (Nat × Value)} {I : X → World → Prop} (x' : X) (h : holds σ (l x')) (hI : I x' w) (hd : σ.ds = ds := by exact rfl) : Qcut ds l I Q .normal σ w := ⟨hd, x', h, hI⟩
theorem Qcut_ret {X : Type} {ds : List Deferred} {l : X → List (Nat × Value)} {I : X → World → Prop} (h : Q .ret σ w) : Qcut ds l I Q .ret σ w := h
theorem Qcut_exit {X : Type} {ds : List Deferred} {l : X → List (Nat × Value)} {I : X → World → Prop} {id : Nat} (h : Q (.exit id) σ w) : Qcut ds l I Q (.exit id) σ w := h
theorem FW_cut {X : Type} {x y : Code} (l : X → List (Nat × Value)) (I : X → World → Prop) (h : FW P r n x (Qcut σ.ds l I Q) σ w)
    (h' : ∀ z τ w, I z w → FW P r n y Q (upds (like σ τ) (l z)) w) : FW P r n (.seq x y) Q σ w := by
  refine FW_seq (h.mono fun e s w hq => ?_)
  cases e with
  | normal => obtain ⟨hd, z, hh, hI⟩ := hq; have := h' z s w hI; rw [like_self hd, upds_of_holds hh] at this; exact this
  | _ => exact hq
end

def resVal (σ : St) : List ResultVar → Option (List Value)
 | [] => some []
 | .tmp t :: l => (resVal σ l).map (σ t :: ·)
 | _ :: _ => none
def resPack : List Value → Value
 | [v] => v
 | vs => .tuple vs.toArray
theorem mapM_results {P : Program} {w : World} {σ : St} (g : ResultVar → Sem Value) (hg : ∀ t, g (.tmp t) = pure (σ t)) : ∀ (l : List ResultVar) (vs : List Value), resVal σ l = some vs →
    (List.mapM g l).run P w = .ok vs w := by
  intro l
  induction l with
  | nil => intro vs h; simp [resVal] at h; subst h; rfl
  | cons r l ih =>
    intro vs h
    cases r with
    | cell a t => simp [resVal] at h
    | tmp t =>
      simp only [resVal, Option.map_eq_some_iff] at h
      obtain ⟨us, hu, rfl⟩ := h
      rw [List.mapM_cons, hg]
      simp [ih us hu]
theorem run_results {P : Program} {w : World} {fn : Func} {tmps : Array Value} {σ : St} (hσ : ∀ i, tmps.getD i undef = σ i) {l : List ResultVar} (hl : fn.results = l.toArray) {vs : List Value} (h : resVal σ l = some vs) :
    (results fn tmps).run P w = .ok (resPack vs) w := by
  unfold results
  rw [hl, List.mapM_toArray]
  have := mapM_results (P := P) (w := w) (σ := σ) (fun
    | .tmp t => pure (tmps.getD t undef)
    | .cell a t => do loadVar t (← asAddr (tmps.getD a undef))) (fun t => by simp [hσ]) l vs h
  rw [Sem.run_bind, Sem.run_map]
  refine (congrArg (fun r => (Result.andThen r _).andThen _) this).trans ?_
  simp only [Result.andThen_ok]
  match vs with
  | [] => simp [resPack]
  | [v] => simp [resPack]
  | u :: v :: us => simp [resPack]

def Ret (R : Value → World → Prop) : Ending → World → Prop := fun e w => match e with
 | .returned v => R v w
 | _ => False
def Rets (P : Program) (f : FuncId) (args : List Value) (w : World) (R : Value → World → Prop) : Prop := Calls P f args.toArray w (Ret R)
theorem Rets.mono {P : Program} {f : FuncId} {args : List Value} {w : World} {R R' : Value → World → Prop} (h : Rets P f args w R) (hr : ∀ v w', R v w' → R' v w') : Rets P f args w R' :=
 Calls.mono h fun e w' he => by cases e <;> first | exact hr _ _ he | exact he

def Goes : List Deferred → World → (World → Prop) → Prop
 | [], w, R => R w
 | d :: ds, w, R => ∃ D, d.target = .collected D ∧ w.heap[D]? = some (.deferred (some [])) ∧ Goes ds { w with heap := w.heap.setIfInBounds D (.deferred none) } R
def Qfn (l : List ResultVar) (R : Value → World → Prop) : Post := fun e σ w => match e with
 | .normal | .ret => ∃ vs, resVal σ l = some vs ∧ Goes σ.ds w (R (resPack vs))
 | _ => False
theorem Qfn_ret {l : List ResultVar} {R : Value → World → Prop} {σ : St} {w : World} {vs : List Value} (h : resVal σ l = some vs := by simp only [resVal, Option.map_some, upd_same, upd_ne, ne_eq, Nat.reduceEqDiff, not_false_eq_true]; rfl) (hR : R (resPack vs) w) (hd : σ.ds = [] := by exact rfl) : Qfn l R .ret σ w := ⟨vs, h, by rw [hd]; exact hR⟩
theorem Qfn_normal {l : List ResultVar} {R : Value → World → Prop} {σ : St} {w : World} {vs : List Value} (h : resVal σ l = some vs := by simp only [resVal, Option.map_some, upd_same, upd_ne, ne_eq, Nat.reduceEqDiff, not_false_eq_true]; rfl) (hR : R (resPack vs) w) (hd : σ.ds = [] := by exact rfl) : Qfn l R .normal σ w := ⟨vs, h, by rw [hd]; exact hR⟩
theorem leaves_of_goes {P : Program} {fn : Func} {tmps : Array Value} {R : Ending → World → Prop} {v : Value} (hr : ∀ w, (results fn tmps).run P w = .ok v w) : ∀ (ds : List Deferred) (w : World), Goes ds w (fun w' => R (.returned v) w') → LeavesInM (fen none) 0 P fn tmps R ds .returning w
 | [], w, h => ⟨v, hr w, h⟩
 | d :: ds, w, ⟨D, ht, hh, hg⟩ => ⟨(fun e => by cases e), .inl ⟨D, _, ht, run_takeDeferred hh, leaves_of_goes hr ds _ hg⟩⟩

def args0 : Nat → List Value → St
 | _, [] => und
 | k, v :: l => upd (args0 (k + 1) l) k v
theorem args0_ds : ∀ (l : List Value) (k : Nat), (args0 k l).ds = []
 | [], _ => rfl
 | _ :: l, k => args0_ds l (k + 1)
theorem args0_get : ∀ (l : List Value) (k i : Nat), args0 k l i = if k ≤ i then l.toArray.getD (i - k) undef else undef
 | [], k, i => by simp [args0, und]
 | v :: l, k, i => by
  have ih := args0_get l (k + 1) i
  show upd (args0 (k + 1) l) k v i = _
  by_cases h : i = k
  ·subst h; simp [upd_same]
  rw [upd_ne _ _ _ _ h, ih]
  by_cases hk : k ≤ i
  ·rw [if_pos hk, if_pos (by omega)]
   have : i - k = (i - (k + 1)) + 1 := by omega
   rw [this]
   simp [Array.getD_eq_getD_getElem?]
  rw [if_neg hk, if_neg (by omega)]
theorem rets_of_FW {P : Program} {f : FuncId} {fn : Func} {c : Code} {args : List Value} {w : World} {R : Value → World → Prop} {n : Nat} {l : List ResultVar}
    (hf : P.funcs[f]? = some fn) (hb : fn.body = some c) (hn : fn.ntmps = n) (hl : fn.results = l.toArray) (hargs : Nat.ble args.length n = true)
    (h : FW P none n c (Qfn l R) (args0 0 args) w) : Rets P f args w R := by
  have hle : args.length ≤ n := Nat.le_of_ble_eq_true hargs
  refine (callsIn_wide (n := 0)).1 (callsIn_of_wp_marks (F := fen none) hf hb trivial (Go.wpIn_mono (h _ ⟨?_, (args0_ds args 0).symm, fun i => ?_⟩) ?_))
  · simp [hn]; omega
  · rw [args0_get]
    simp only [Nat.zero_le, if_true, Nat.sub_zero]
    simp only [Array.getD_eq_getD_getElem?, List.getElem?_toArray]
    rw [Array.getElem?_append]
    split
    · simp
    rename_i hge
    simp at hge
    rw [List.getElem?_eq_none (by omega)]
    rw [Array.getElem?_replicate]
    split <;> rfl
  rintro e a' w' ⟨s, hs, hq⟩
  cases e with
  | normal =>
    obtain ⟨vs, h1, h2⟩ := hq
    show LeavesInM _ _ _ _ _ _ _ _ _
    rw [hs.defers]
    exact leaves_of_goes (fun w => run_results hs.get hl h1) _ _ h2
  | ret =>
    obtain ⟨vs, h1, h2⟩ := hq
    show LeavesInM _ _ _ _ _ _ _ _ _
    rw [hs.defers]
    exact leaves_of_goes (fun w => run_results hs.get hl h1) _ _ h2
  | _ => exact hq.elim
section
variable {P : Program} {f : FuncId} {fn : Func} {c : Code} {w : World} {R : Value → World → Prop} {n : Nat} {l : List ResultVar} (hf : P.funcs[f]? = some fn) (hb : fn.body = some c) (hn : fn.ntmps = n) (hl : fn.results = l.toArray)
include hf hb hn hl
theorem rets0 (h : FW P none n c (Qfn l R) und w) : Rets P f [] w R := rets_of_FW hf hb hn hl rfl h
theorem rets1 {a0 : Value} (hk : Nat.ble 1 n = true) (h : FW P none n c (Qfn l R) (upd und 0 a0) w) : Rets P f [a0] w R := rets_of_FW hf hb hn hl hk h
theorem rets2 {a0 a1 : Value} (hk : Nat.ble 2 n = true) (h : FW P none n c (Qfn l R) (upd (upd und 1 a1) 0 a0) w) : Rets P f [a0, a1] w R := rets_of_FW hf hb hn hl hk h
theorem rets3 {a0 a1 a2 : Value} (hk : Nat.ble 3 n = true) (h : FW P none n c (Qfn l R) (upd (upd (upd und 2 a2) 1 a1) 0 a0) w) : Rets P f [a0, a1, a2] w R := rets_of_FW hf hb hn hl hk h
theorem rets4 {a0 a1 a2 a3 : Value} (hk : Nat.ble 4 n = true) (h : FW P none n c (Qfn l R) (upd (upd (upd (upd und 3 a3) 2 a2) 1 a1) 0 a0) w) : Rets P f [a0, a1, a2, a3] w R := rets_of_FW hf hb hn hl hk h
end
end Go.Mw
namespace Go.Mw
open Go.RowKit

structure Kept (S : Nat → Prop) (w w' : World) : Prop where
 os : w'.os = w.os
 tape : w'.tape = w.tape
 output : w'.output = w.output
 size : w.heap.size ≤ w'.heap.size
 block : ∀ k, k < w.heap.size → ¬ S k → w'.heap[k]? = w.heap[k]?
def noB : Nat → Prop := fun _ => False

section
variable {S T : Nat → Prop} {a b c w w' : World}
theorem Kept.refl (S : Nat → Prop) (w : World) : Kept S w w := ⟨rfl, rfl, rfl, Nat.le_refl _, fun _ _ _ => rfl⟩
theorem Kept.trans (h : Kept S a b) (k : Kept T b c) (hT : ∀ i, T i → S i ∨ a.heap.size ≤ i) : Kept S a c :=
 ⟨k.os.trans h.os, k.tape.trans h.tape, k.output.trans h.output, Nat.le_trans h.size k.size, fun i hi hS => by
  rw [k.block i (Nat.lt_of_lt_of_le hi h.size) (fun ht => by rcases hT i ht with h1 | h1; exact hS h1; omega), h.block i hi hS]⟩
theorem Kept.mono (h : Kept S w w') (hS : ∀ i, S i → T i) : Kept T w w' := ⟨h.os, h.tape, h.output, h.size, fun i hi hT => h.block i hi fun hs => hT (hS i hs)⟩
theorem Kept.trans0 (h : Kept S a b) (k : Kept noB b c) : Kept S a c := h.trans k fun _ hf => hf.elim
theorem Kept.below (h : Kept noB w w') : Below w.heap.size w w' := ⟨h.os, h.tape, h.output, h.size, fun k hk => h.block k hk id⟩
theorem Kept.of_below (h : Below w.heap.size w w') : Kept noB w w' := ⟨h.os, h.tape, h.output, h.size, fun k hk _ => h.block k hk⟩
theorem Kept.drewn (h : Kept S a w) (n : Nat) : Kept S a { w with drawn := n } := ⟨h.os, h.tape, h.output, h.size, h.block⟩
theorem Kept.alloc (w : World) (o : Obj) : Kept noB w (w.alloc o) := Kept.of_below ((Below.refl _ _).alloc (Nat.le_refl _) o)
theorem Kept.drew (w : World) : Kept noB w w.drew := ⟨rfl, rfl, rfl, Nat.le_refl _, fun _ _ _ => rfl⟩
theorem Kept.get (h : Kept S w w') {k : Nat} {o : Obj} (hk : w.heap[k]? = some o) (hS : ¬ S k) : w'.heap[k]? = some o := by
 have hlt : k < w.heap.size := by
  rcases Nat.lt_or_ge k w.heap.size with h1 | h1
  ·exact h1
  rw [Array.getElem?_eq_none h1] at hk; cases hk
 rw [h.block k hlt hS, hk]
end

structure HP where
 ok : (Nat → Prop) → World → Prop
 loc : ∀ {F : Nat → Prop} {w w' : World}, w.heap.size ≤ w'.heap.size → (∀ b, F b → w'.heap[b]? = w.heap[b]?) → ok F w → ok F w'
 low : ∀ {F : Nat → Prop} {w : World}, ok F w → ∀ b, F b → b < w.heap.size
theorem lt_of_get {w : World} {k : Nat} {o : Obj} (hk : w.heap[k]? = some o) : k < w.heap.size := by
 rcases Nat.lt_or_ge k w.heap.size with h1 | h1
 ·exact h1
 rw [Array.getElem?_eq_none h1] at hk; cases hk
def pureH (φ : Prop) : HP where
 ok F _ := φ ∧ ∀ b, ¬ F b
 loc _ _ h := h
 low h b hb := (h.2 b hb).elim
def emp : HP := pureH True
def obj (b : Nat) (o : Obj) : HP where
 ok F w := (∀ x, F x ↔ x = b) ∧ w.heap[b]? = some o
 loc _ h hok := ⟨hok.1, by rw [h b ((hok.1 b).2 rfl)]; exact hok.2⟩
 low h x hx := by have := (h.1 x).1 hx; subst this; exact lt_of_get h.2
def blk (b : Nat) (cs : List Value) (E : TypeId) : HP := obj b (.cells cs.toArray E (0, 0))
def star (p q : HP) : HP where
 ok F w := ∃ F1 F2, (∀ b, F b ↔ F1 b ∨ F2 b) ∧ (∀ b, F1 b → ¬ F2 b) ∧ p.ok F1 w ∧ q.ok F2 w
 loc hs h hok := by
  obtain ⟨F1, F2, hF, hd, h1, h2⟩ := hok
  exact ⟨F1, F2, hF, hd, p.loc hs (fun b hb => h b ((hF b).2 (.inl hb))) h1, q.loc hs (fun b hb => h b ((hF b).2 (.inr hb))) h2⟩
 low h b hb := by
  obtain ⟨F1, F2, hF, hd, h1, h2⟩ := h
  rcases (hF b).1 hb with h | h
  ·exact p.low h1 b h
  exact q.low h2 b h
def exH {α : Type} (p : α → HP) : HP where
 ok F w := ∃ x, (p x).ok F w
 loc hs h hok := by obtain ⟨x, hx⟩ := hok; exact ⟨x, (p x).loc hs h hx⟩
 low h b hb := by obtain ⟨x, hx⟩ := h; exact (p x).low hx b hb
def starL : List HP → HP
 | [] => emp
 | p :: l => star p (starL l)

def Sep (w₀ : World) (S : Nat → Prop) (rs : List HP) (w : World) : Prop :=
 Kept S w₀ w ∧ ∃ F, (starL rs).ok F w ∧ ∀ b, F b → S b ∨ w₀.heap.size ≤ b

def At (rs : List HP) (p : HP) (put : HP → List HP) : Prop := ∃ l1 l2, rs = l1 ++ p :: l2 ∧ ∀ q, put q = l1 ++ q :: l2
section
variable {a b c d e f g h i j k m p : HP} {l : List HP}
theorem At0 : At (p :: l) p (fun q => q :: l) := ⟨[], l, rfl, fun _ => rfl⟩
theorem At1 : At (a :: p :: l) p (fun q => a :: q :: l) := ⟨[a], l, rfl, fun _ => rfl⟩
theorem At2 : At (a :: b :: p :: l) p (fun q => a :: b :: q :: l) := ⟨[a, b], l, rfl, fun _ => rfl⟩
theorem At3 : At (a :: b :: c :: p :: l) p (fun q => a :: b :: c :: q :: l) := ⟨[a, b, c], l, rfl, fun _ => rfl⟩
theorem At4 : At (a :: b :: c :: d :: p :: l) p (fun q => a :: b :: c :: d :: q :: l) := ⟨[a, b, c, d], l, rfl, fun _ => rfl⟩
theorem At5 : At (a :: b :: c :: d :: e :: p :: l) p (fun q => a :: b :: c :: d :: e :: q :: l) := ⟨[a, b, c, d, e], l, rfl, fun _ => rfl⟩
theorem At6 : At (a :: b :: c :: d :: e :: f :: p :: l) p (fun q => a :: b :: c :: d :: e :: f :: q :: l) := ⟨[a, b, c, d, e, f], l, rfl, fun _ => rfl⟩
theorem At7 : At (a :: b :: c :: d :: e :: f :: g :: p :: l) p (fun q => a :: b :: c :: d :: e :: f :: g :: q :: l) := ⟨[a, b, c, d, e, f, g], l, rfl, fun _ => rfl⟩
theorem At8 : At (a :: b :: c :: d :: e :: f :: g :: h :: p :: l) p (fun q => a :: b :: c :: d :: e :: f :: g :: h :: q :: l) := ⟨[a, b, c, d, e, f, g, h], l, rfl, fun _ => rfl⟩
theorem At9 : At (a :: b :: c :: d :: e :: f :: g :: h :: i :: p :: l) p (fun q => a :: b :: c :: d :: e :: f :: g :: h :: i :: q :: l) := ⟨[a, b, c, d, e, f, g, h, i], l, rfl, fun _ => rfl⟩
end

theorem emp_ok {F : Nat → Prop} {w : World} (h : ∀ b, ¬ F b) : emp.ok F w := ⟨trivial, h⟩
theorem starL_split {l1 l2 : List HP} {p : HP} : ∀ {F : Nat → Prop} {w : World}, (starL (l1 ++ p :: l2)).ok F w →
    ∃ F1 F2, (∀ b, F b ↔ F1 b ∨ F2 b) ∧ (∀ b, F1 b → ¬ F2 b) ∧ p.ok F1 w ∧ (starL (l1 ++ l2)).ok F2 w := by
  induction l1 with
  | nil => intro F w h; exact h
  | cons q l ih =>
    rintro F w ⟨G1, G2, hF, hd, h1, h2⟩
    obtain ⟨F1, F2, hG, hd2, hp, hr⟩ := ih h2
    refine ⟨F1, fun b => G1 b ∨ F2 b, fun b => ?_, fun b hb => ?_, hp, G1, F2, fun b => Iff.rfl, fun b hb hb2 => hd b hb ((hG b).2 (.inr hb2)), h1, hr⟩
    · rw [hF, hG]; constructor
      · rintro (h | h | h)
        · exact .inr (.inl h)
        · exact .inl h
        exact .inr (.inr h)
      rintro (h | h | h)
      · exact .inr (.inl h)
      · exact .inl h
      exact .inr (.inr h)
    rintro (h | h)
    · exact hd b h ((hG b).2 (.inl hb))
    exact hd2 b hb h
theorem starL_join {l1 l2 : List HP} {p : HP} : ∀ {F F1 F2 : Nat → Prop} {w : World}, (∀ b, F b ↔ F1 b ∨ F2 b) → (∀ b, F1 b → ¬ F2 b) → p.ok F1 w → (starL (l1 ++ l2)).ok F2 w → (starL (l1 ++ p :: l2)).ok F w := by
 induction l1 with
 | nil => intro F F1 F2 w hF hd hp hr; exact ⟨F1, F2, hF, hd, hp, hr⟩
 | cons q l ih =>
  rintro F F1 F2 w hF hd hp ⟨G1, G2, hG, hd2, h1, h2⟩
  refine ⟨G1, fun b => F1 b ∨ G2 b, fun b => ?_, fun b hb => ?_, h1, ih (F1 := F1) (F2 := G2) (fun b => Iff.rfl) (fun b hb hb2 => hd b hb ((hG b).2 (.inr hb2))) hp h2⟩
  ·rw [hF, hG]; constructor
   ·rintro (h | h | h)
    ·exact .inr (.inl h)
    ·exact .inl h
    exact .inr (.inr h)
   rintro (h | h | h)
   ·exact .inr (.inl h)
   ·exact .inl h
   exact .inr (.inr h)
  rintro (h | h)
  ·exact hd b h ((hG b).2 (.inl hb))
  exact hd2 b hb h

section
variable {w₀ w w' : World} {S : Nat → Prop} {rs : List HP}
theorem Sep.kept (h : Sep w₀ S rs w) : Kept S w₀ w := h.1
theorem Sep.size (h : Sep w₀ S rs w) : w₀.heap.size ≤ w.heap.size := h.1.size
theorem Sep.keep (h : Sep w₀ S rs w) (hk : Kept noB w w') : Sep w₀ S rs w' := by
 obtain ⟨h1, F, hF, hS⟩ := h
 exact ⟨h1.trans0 hk, F, (starL rs).loc hk.size (fun b hb => hk.block b ((starL rs).low hF b hb) id) hF, hS⟩
theorem Sep.focus {p : HP} {put : HP → List HP} (h : Sep w₀ S rs w) (hat : At rs p put) :
    ∃ F, p.ok F w ∧ (∀ b, F b → S b ∨ w₀.heap.size ≤ b) ∧
      ∀ w' F' q, Kept F w w' → q.ok F' w' → (∀ b, F' b → F b ∨ w.heap.size ≤ b) → Sep w₀ S (put q) w' := by
  obtain ⟨l1, l2, rfl, hput⟩ := hat
  obtain ⟨h1, F, hF, hS⟩ := h
  obtain ⟨F1, F2, hF12, hd, hp, hr⟩ := starL_split hF
  refine ⟨F1, hp, fun b hb => hS b ((hF12 b).2 (.inl hb)), fun w' F' q hk hq hsub => ?_⟩
  rw [hput]
  have hlow := (starL (l1 ++ l2)).low hr
  refine ⟨h1.trans hk fun b hb => hS b ((hF12 b).2 (.inl hb)), fun b => F' b ∨ F2 b, ?_, ?_⟩
  · refine starL_join (F1 := F') (F2 := F2) (fun b => Iff.rfl) (fun b hb hb2 => ?_) hq ((starL (l1 ++ l2)).loc hk.size (fun b hb => hk.block b (hlow b hb) (fun h1 => hd b h1 hb)) hr)
    rcases hsub b hb with h | h
    · exact hd b h hb2
    have := hlow b hb2; omega
  rintro b (hb | hb)
  · rcases hsub b hb with h | h
    · exact hS b ((hF12 b).2 (.inl h))
    exact .inr (Nat.le_trans h1.size h)
  exact hS b ((hF12 b).2 (.inr hb))
theorem Sep.new {p : HP} {F' : Nat → Prop} (h : Sep w₀ S rs w) (hk : Kept noB w w') (hp : p.ok F' w') (hF' : ∀ b, F' b → w.heap.size ≤ b) : Sep w₀ S (p :: rs) w' := by
 have h0 := h
 obtain ⟨h1, F, hF, hS⟩ := h
 have hlow := (starL rs).low hF
 refine ⟨h1.trans0 hk, fun b => F' b ∨ F b, ⟨F', F, fun b => Iff.rfl, fun b hb hb2 => ?_, hp, (starL rs).loc hk.size (fun b hb => hk.block b (hlow b hb) id) hF⟩, ?_⟩
 ·have := hlow b hb2; have := hF' b hb; omega
 rintro b (hb | hb)
 ·exact .inr (Nat.le_trans h0.size (hF' b hb))
 exact hS b hb
theorem Sep.alloc (h : Sep w₀ S rs w) (o : Obj) : Sep w₀ S (obj w.heap.size o :: rs) (w.alloc o) :=
 h.new (F' := fun b => b = w.heap.size) (Kept.alloc w o) ⟨fun _ => Iff.rfl, heap_alloc_new w o⟩ fun b hb => by rw [hb]; exact Nat.le_refl _
theorem Sep.obj {b : Nat} {o : Obj} {put : HP → List HP} (h : Sep w₀ S rs w) (hat : At rs (obj b o) put) : w.heap[b]? = some o := by
 obtain ⟨F, hp, _, _⟩ := h.focus hat
 exact hp.2
theorem Sep.setObj {b : Nat} {o o' : Obj} {put : HP → List HP} (h : Sep w₀ S rs w) (hat : At rs (Mw.obj b o) put) (hk : Kept (fun x => x = b) w w') (ho : w'.heap[b]? = some o') : Sep w₀ S (put (Mw.obj b o')) w' := by
 obtain ⟨F, hp, hS, hput⟩ := h.focus hat
 exact hput w' F (Mw.obj b o') (hk.mono fun i hi => (hp.1 i).2 hi) ⟨hp.1, ho⟩ fun b hb => .inl hb
theorem Sep.drop0 {p : HP} (h : Sep w₀ S (p :: rs) w) : Sep w₀ S rs w := by
 obtain ⟨h1, F, ⟨F1, F2, hF, hd, hp, hr⟩, hS⟩ := h
 exact ⟨h1, F2, hr, fun b hb => hS b ((hF b).2 (.inr hb))⟩
theorem Sep.start (rs : List HP) {F : Nat → Prop} {w : World} (h : (starL rs).ok F w) : Sep w F rs w := ⟨Kept.refl _ _, F, h, fun _ hb => .inl hb⟩
theorem Sep.start0 (w : World) : Sep w noB [] w := ⟨Kept.refl _ _, fun _ => False, emp_ok (fun _ => id), fun _ hb => hb.elim⟩
theorem Sep.ex0 {α : Type} {p : α → HP} (h : Sep w₀ S (exH p :: rs) w) : ∃ x, Sep w₀ S (p x :: rs) w := by
 obtain ⟨h1, F, ⟨F1, F2, hF, hd, ⟨x, hp⟩, hr⟩, hS⟩ := h
 exact ⟨x, h1, F, ⟨F1, F2, hF, hd, hp, hr⟩, hS⟩
theorem Sep.star0 {p q : HP} (h : Sep w₀ S (star p q :: rs) w) : Sep w₀ S (p :: q :: rs) w := by
 obtain ⟨h1, F, ⟨F1, F2, hF, hd, ⟨G1, G2, hG, hd2, hp, hq⟩, hr⟩, hS⟩ := h
 refine ⟨h1, F, ⟨G1, fun b => G2 b ∨ F2 b, fun b => ?_, fun b hb => ?_, hp, G2, F2, fun _ => Iff.rfl, fun b hb hb2 => hd b ((hG b).2 (.inr hb)) hb2, hq, hr⟩, hS⟩
 ·rw [hF, hG, or_assoc]
 rintro (h | h)
 ·exact hd2 b hb h
 exact hd b ((hG b).2 (.inl hb)) h
theorem Sep.pure0 {φ : Prop} (h : Sep w₀ S (pureH φ :: rs) w) : φ ∧ Sep w₀ S rs w := by
 have h' := h.drop0
 obtain ⟨h1, F, ⟨F1, F2, hF, hd, hp, hr⟩, hS⟩ := h
 exact ⟨hp.1, h'⟩
theorem Sep.join0 {p q : HP} (h : Sep w₀ S (p :: q :: rs) w) : Sep w₀ S (star p q :: rs) w := by
 obtain ⟨h1, F, ⟨F1, F2, hF, hd, hp, G1, G2, hG, hd2, hq, hr⟩, hS⟩ := h
 refine ⟨h1, F, ⟨fun b => F1 b ∨ G1 b, G2, fun b => ?_, fun b hb => ?_, ⟨F1, G1, fun _ => Iff.rfl, fun b hb hb2 => hd b hb ((hG b).2 (.inl hb2)), hp, hq⟩, hr⟩, hS⟩
 ·rw [hF, hG, or_assoc]
 rcases hb with hb | hb
 ·exact fun h => hd b hb ((hG b).2 (.inr h))
 exact hd2 b hb
theorem Sep.pack0 {α : Type} {p : α → HP} (x : α) (h : Sep w₀ S (p x :: rs) w) : Sep w₀ S (exH p :: rs) w := by
 obtain ⟨h1, F, ⟨F1, F2, hF, hd, hp, hr⟩, hS⟩ := h
 exact ⟨h1, F, ⟨F1, F2, hF, hd, ⟨x, hp⟩, hr⟩, hS⟩
theorem Sep.addPure {φ : Prop} (hφ : φ) (h : Sep w₀ S rs w) : Sep w₀ S (pureH φ :: rs) w := by
 obtain ⟨h1, F, hr, hS⟩ := h
 exact ⟨h1, F, ⟨fun _ => False, F, fun b => by simp, fun _ hb => hb.elim, ⟨hφ, fun _ hb => hb⟩, hr⟩, hS⟩
theorem Sep.imp {p q : HP} {put : HP → List HP} (h : Sep w₀ S rs w) (hat : At rs p put) (hpq : ∀ F, p.ok F w → q.ok F w) : Sep w₀ S (put q) w := by
 obtain ⟨F, hp, hS, hput⟩ := h.focus hat
 exact hput w F q (Kept.refl _ _) (hpq F hp) fun b hb => .inl hb
theorem Sep.front {p : HP} {l1 l2 : List HP} (h : Sep w₀ S (l1 ++ p :: l2) w) : Sep w₀ S (p :: (l1 ++ l2)) w := by
 obtain ⟨h1, F, hF, hS⟩ := h
 obtain ⟨F1, F2, hF12, hd, hp, hr⟩ := starL_split hF
 exact ⟨h1, F, ⟨F1, F2, hF12, hd, hp, hr⟩, hS⟩
theorem Sep.front1 {a p : HP} {l : List HP} (h : Sep w₀ S (a :: p :: l) w) : Sep w₀ S (p :: a :: l) w := Sep.front (l1 := [a]) h
theorem Sep.front2 {a b p : HP} {l : List HP} (h : Sep w₀ S (a :: b :: p :: l) w) : Sep w₀ S (p :: a :: b :: l) w := Sep.front (l1 := [a, b]) h
theorem Sep.front3 {a b c p : HP} {l : List HP} (h : Sep w₀ S (a :: b :: c :: p :: l) w) : Sep w₀ S (p :: a :: b :: c :: l) w := Sep.front (l1 := [a, b, c]) h
theorem Sep.front4 {a b c d p : HP} {l : List HP} (h : Sep w₀ S (a :: b :: c :: d :: p :: l) w) : Sep w₀ S (p :: a :: b :: c :: d :: l) w := Sep.front (l1 := [a, b, c, d]) h
theorem Sep.front5 {a b c d e p : HP} {l : List HP} (h : Sep w₀ S (a :: b :: c :: d :: e :: p :: l) w) : Sep w₀ S (p :: a :: b :: c :: d :: e :: l) w := Sep.front (l1 := [a, b, c, d, e]) h
theorem Sep.front6 {a b c d e f p : HP} {l : List HP} (h : Sep w₀ S (a :: b :: c :: d :: e :: f :: p :: l) w) : Sep w₀ S (p :: a :: b :: c :: d :: e :: f :: l) w := Sep.front (l1 := [a, b, c, d, e, f]) h
end

theorem star_assoc {p q t : HP} {F : Nat → Prop} {w : World} : (star (star p q) t).ok F w ↔ (star p (star q t)).ok F w := by
 constructor
 ·rintro ⟨F1, F2, hF, hd, ⟨G1, G2, hG, hd2, hp, hq⟩, hr⟩
  refine ⟨G1, fun b => G2 b ∨ F2 b, fun b => ?_, fun b hb => ?_, hp, G2, F2, fun _ => Iff.rfl, fun b hb hb2 => hd b ((hG b).2 (.inr hb)) hb2, hq, hr⟩
  ·rw [hF, hG, or_assoc]
  rintro (h | h)
  ·exact hd2 b hb h
  exact hd b ((hG b).2 (.inl hb)) h
 rintro ⟨F1, F2, hF, hd, hp, G1, G2, hG, hd2, hq, hr⟩
 refine ⟨fun b => F1 b ∨ G1 b, G2, fun b => ?_, fun b hb => ?_, ⟨F1, G1, fun _ => Iff.rfl, fun b hb hb2 => hd b hb ((hG b).2 (.inl hb2)), hp, hq⟩, hr⟩
 ·rw [hF, hG, or_assoc]
 rcases hb with hb | hb
 ·exact fun h => hd b hb ((hG b).2 (.inr h))
 exact hd2 b hb
theorem starL_append {l rs : List HP} : ∀ {F : Nat → Prop} {w : World}, (star (starL l) (starL rs)).ok F w ↔ (starL (l ++ rs)).ok F w := by
 induction l with
 | nil =>
  intro F w
  constructor
  ·rintro ⟨F1, F2, hF, hd, ⟨_, h1⟩, h2⟩
   have : F = F2 := funext fun b => propext ((hF b).trans ⟨fun h => h.elim (fun h => (h1 b h).elim) id, .inr⟩)
   rw [this]; exact h2
  intro h
  exact ⟨fun _ => False, F, fun b => by simp, fun _ h => h.elim, ⟨trivial, fun _ h => h⟩, h⟩
 | cons p l ih =>
  intro F w
  show (star (star p (starL l)) (starL rs)).ok F w ↔ (star p (starL (l ++ rs))).ok F w
  rw [star_assoc]
  constructor
  ·rintro ⟨F1, F2, hF, hd, hp, hr⟩; exact ⟨F1, F2, hF, hd, hp, ih.1 hr⟩
  rintro ⟨F1, F2, hF, hd, hp, hr⟩; exact ⟨F1, F2, hF, hd, hp, ih.2 hr⟩
theorem Sep.parts {w₀ w : World} {S : Nat → Prop} {l rs : List HP} (h : Sep w₀ S (starL l :: rs) w) : Sep w₀ S (l ++ rs) w := by
 obtain ⟨h1, F, hF, hS⟩ := h
 exact ⟨h1, F, starL_append.1 hF, hS⟩
theorem Sep.bundle {w₀ w : World} {S : Nat → Prop} {l rs : List HP} (h : Sep w₀ S (l ++ rs) w) : Sep w₀ S (starL l :: rs) w := by
 obtain ⟨h1, F, hF, hS⟩ := h
 exact ⟨h1, F, starL_append.2 hF, hS⟩
end Go.Mw
