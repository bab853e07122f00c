/-
  A calculus for walking loaded code with frames as functions from slots to values. Nothing of a given program stands here.
-/
import Derived.WalkKit
import Derived.Orders
import Derived.Still
import Derived.TacticsIn
import Derived.OrdersIn
import Derived.RangeFuncCalls
import Derived.RangeFuncLeaves
import Derived.RangeFuncRecord
import Derived.Laws.Rows
import Derived.Laws.Append
import Derived.Laws.MakeOwn
import Derived.IntWalk
import Derived.Maps.AppendAt
import Derived.Laws.CopyRow
import Derived.Laws.IdiomStrings
import Derived.Laws.BytesArg
namespace Go.Mw
open Go.RowKit

/-- A frame: what each slot holds; the calls put off. -/
structure St where
  get : Nat → Value
  ds : List Deferred
instance : CoeFun St (fun _ => Nat → Value) := ⟨St.get⟩
theorem St.eq_of {σ τ : St} (h : ∀ x, σ x = τ x) (hd : σ.ds = τ.ds) : σ = τ := by
  cases σ; cases τ; simp only at hd; subst hd; congr 1; exact funext h
def upd (σ : St) (d : Nat) (v : Value) : St := { get := fun x => bif Nat.beq x d then v else σ x, ds := σ.ds }
theorem upd_same (σ : St) (d : Nat) (v : Value) : (upd σ d v).get d = v := by simp [upd]
theorem upd_ne (σ : St) (d : Nat) (v : Value) (x : Nat) (h : x ≠ d) : (upd σ d v).get x = σ.get x := by
  have : Nat.beq x d = false := by
    cases hb : Nat.beq x d
    · rfl
    · exact absurd (Nat.eq_of_beq_eq_true hb) h
  simp [upd, this]
theorem upd_ds (σ : St) (d : Nat) (v : Value) : (upd σ d v).ds = σ.ds := rfl
def updO (σ : St) : Option Nat → Value → St
  | some d, v => upd σ d v
  | none, _ => σ
theorem updO_ds (σ : St) (o : Option Nat) (v : Value) : (updO σ o v).ds = σ.ds := by cases o <;> rfl
def und : St := ⟨fun _ => undef, []⟩
/-- What an operand is worth. -/
def evF (σ : St) : Operand → Value
  | .tmp t => σ t
  | .const v => v
  | .global g => .pointer (some ⟨g, 0, none⟩)
  | .func f => .func (.func f) #[] #[]

structure Rep (n : Nat) (σ : St) (a : Act) : Prop where
  size : a.tmps.size = n
  defers : a.defers = σ.ds
  get : ∀ i, a.tmps.getD i undef = σ i

section
variable {n : Nat} {σ : St} {a : Act}
theorem Rep.eval (h : Rep n σ a) : a.eval = evF σ := by
  funext x
  cases x with
  | tmp t => exact h.get t
  | _ => rfl
theorem Rep.put (h : Rep n σ a) {d : Nat} (hd : d < n) (v : Value) : Rep n (upd σ d v) (a.put (some d) v) := by
  refine ⟨by simpa [Act.put] using h.size, h.defers, fun i => ?_⟩
  by_cases hi : i = d
  · subst hi
    have : i < a.tmps.size := by rw [h.size]; exact hd
    simp [Act.put, upd_same, Array.getD_eq_getD_getElem?, this]
  · rw [upd_ne _ _ _ _ hi, ← h.get i]
    simp [Act.put, Array.getD_eq_getD_getElem?, Array.getElem?_setIfInBounds_ne (Ne.symm hi)]
def okDst (n : Nat) : Option Nat → Bool
  | some d => Nat.blt d n
  | none => true
theorem Rep.putO (h : Rep n σ a) {d : Option Nat} (hd : okDst n d = true) (v : Value) : Rep n (updO σ d v) (a.put d v) := by
  cases d with
  | none => exact h
  | some d => exact h.put (Nat.le_of_ble_eq_true hd) v
end

/-- Is an operation carried out, by its guard, in a frame? -/
def yieldF (ops : Array Oper) (σ : St) (j : Nat) : Option Bool :=
  match (ops[j]?).bind (·.dst) with
  | some d => (match σ d with | .bool b => some b | _ => none)
  | none => none
theorem Rep.yielded {n : Nat} {σ : St} {a : Act} (h : Rep n σ a) (ops : Array Oper) (hd : ∀ (j : Nat) (d : Nat), (ops[j]?).bind (fun o : Oper => o.dst) = some d → d < n) : Go.yielded ops a.tmps = yieldF ops σ := by
  funext j
  unfold Go.yielded yieldF
  cases hj : (ops[j]?).bind (·.dst) with
  | none => rfl
  | some d =>
    have hlt : d < a.tmps.size := by rw [h.size]; exact hd j d hj
    have hg := h.get d
    have : a.tmps[d]? = some (σ d) := by
      rw [Array.getElem?_eq_getElem hlt, ← hg]
      simp [Array.getD_eq_getD_getElem?, hlt]
    simp only [Option.bind_some, this]
    split <;> rename_i hq <;> first | (injection hq with hq; rw [hq]) | (split <;> first | rfl | (rename_i hq2; exact absurd (by rw [hq2]) (hq _)))
theorem Rep.yielded_at {n : Nat} {σ : St} {a : Act} (h : Rep n σ a) (ops : Array Oper) {j : Nat} {d : Nat} (hj : (ops[j]?).bind (fun o : Oper => o.dst) = some d) {b : Bool} (hb : σ d = .bool b) : Go.yielded ops a.tmps j = some b := by
  unfold Go.yielded
  have hg := h.get d
  rw [hb] at hg
  have : a.tmps[d]? = some (.bool b) := by
    cases hq : a.tmps[d]? with
    | none => simp [Array.getD_eq_getD_getElem?, hq, undef] at hg
    | some v => simp [Array.getD_eq_getD_getElem?, hq] at hg; rw [hg]
  simp only [hj, Option.bind_some, this]

/-- What is asked behind a piece of code. -/
abbrev Post := Exit → St → World → Prop
def lift (n : Nat) (Q : Post) : Exit → Act → World → Prop := fun e a w => ∃ σ, Rep n σ a ∧ Q e σ w

/-- The fence that shuts out nothing; r: the loop over a function whose round this is, if it is one. -/
def fen (r : Option Nat) : Fence := { fn := fun _ => True, depth := none, alive := false, round := r }
theorem fen_room (r : Option Nat) (k : Nat) : (fen r).room k := fun _ h => by cases h
theorem fen_calls {P : Program} {f : FuncId} {args : Array Value} {w : World} {R : Ending → World → Prop} (r : Option Nat) (h : Calls P f args w R) : CallsIn (fen r) 0 P f args w R := callsIn_wide.2 h
/-- The code, begun in a frame and a world, ends as Q says. -/
def FW (P : Program) (r : Option Nat) (n : Nat) (c : Code) (Q : Post) (σ : St) (w : World) : Prop := ∀ a, Rep n σ a → c.wpIn (fen r) 0 P (lift n Q) a w
/-- The operations still to be carried out of a region. -/
def FL (P : Program) (r : Option Nat) (n : Nat) (ops : Array Oper) (Q : Post) (rest : List Oper) (σ : St) (w : World) : Prop := ∀ a, Rep n σ a → wpListIn (fen r) 0 P ops (lift n Q) rest a w

/-- Behind the first part of two. -/
def Qseq (P : Program) (r : Option Nat) (n : Nat) (b : Code) (Q : Post) : Post := fun e σ w => match e with
  | .normal => FW P r n b Q σ w
  | e => Q e σ w
def Qblk (id : Nat) (Q : Post) : Post := fun e σ w => match e with
  | .exit id' => if id' = id then Q .normal σ w else Q (.exit id') σ w
  | e => Q e σ w

section
variable {P : Program} {r : Option Nat} {n : Nat} {Q : Post} {σ : St} {w : World}
theorem FW.mono {c : Code} {Q' : Post} (h : FW P r n c Q σ w) (hq : ∀ e σ w, Q e σ w → Q' e σ w) : FW P r n c Q' σ w :=
  fun a ha => Go.wpIn_mono (h a ha) fun _ _ _ ⟨s, hs, hQ⟩ => ⟨s, hs, hq _ _ _ hQ⟩
theorem Qseq_normal {b : Code} (h : FW P r n b Q σ w) : Qseq P r n b Q .normal σ w := h
theorem Qseq_ret {b : Code} (h : Q .ret σ w) : Qseq P r n b Q .ret σ w := h
theorem Qseq_exit {b : Code} {id : Nat} (h : Q (.exit id) σ w) : Qseq P r n b Q (.exit id) σ w := h
theorem Qblk_normal {id : Nat} (h : Q .normal σ w) : Qblk id Q .normal σ w := h
theorem Qblk_ret {id : Nat} (h : Q .ret σ w) : Qblk id Q .ret σ w := h
theorem Qblk_exit {id : Nat} (h : Q .normal σ w) : Qblk id Q (.exit id) σ w := by simp only [Qblk, if_true]; exact h
theorem Qblk_exit_ne {id id' : Nat} (hne : Nat.beq id' id = false) (h : Q (.exit id') σ w) : Qblk id Q (.exit id') σ w := by
  have : id' ≠ id := fun e => by subst e; simp at hne
  simp only [Qblk, if_neg this]; exact h

theorem FW_seq {x y : Code} (h : FW P r n x (Qseq P r n y Q) σ w) : FW P r n (.seq x y) Q σ w := fun a ha =>
  wpIn_seq (Go.wpIn_mono (h a ha) fun e _ _ ⟨s, hs, hQ⟩ => by
    cases e <;> first | exact hQ _ hs | exact ⟨s, hs, hQ⟩)
theorem FW_skip (h : Q .normal σ w) : FW P r n .skip Q σ w := fun _ ha => wpIn_skip ⟨σ, ha, h⟩
theorem FW_label {l : Nat} (h : Q .normal σ w) : FW P r n (.label l) Q σ w := fun _ ha => wpIn_label ⟨σ, ha, h⟩
theorem FW_ret (h : Q .ret σ w) : FW P r n .ret Q σ w := fun _ ha => wpIn_ret ⟨σ, ha, h⟩
theorem FW_exit {id : Nat} (h : Q (.exit id) σ w) : FW P r n (.exit id) Q σ w := fun _ ha => wpIn_exit ⟨σ, ha, h⟩
theorem FW_block {id : Nat} {c : Code} (h : FW P r n c (Qblk id Q) σ w) : FW P r n (.block id c) Q σ w := fun a ha =>
  wpIn_block (Go.wpIn_mono (h a ha) fun e a' w' ⟨s, hs, hQ⟩ => by
    cases e with
    | exit id' =>
      by_cases hid : id' = id
      · subst hid; simp only [Qblk, if_true] at hQ; simp only [Exit.inBlock, if_true]; exact ⟨s, hs, hQ⟩
      · simp only [Qblk, if_neg hid] at hQ; simp only [Exit.inBlock, if_neg hid]; exact ⟨s, hs, hQ⟩
    | _ => exact ⟨s, hs, hQ⟩)
theorem FW_cond {c : Operand} {x y : Code} {t : Bool} (hc : evF σ c = .bool t) (ht : t = true → FW P r n x Q σ w) (hf : t = false → FW P r n y Q σ w) : FW P r n (.cond c x y) Q σ w := fun a ha =>
  wpIn_cond_split (by rw [ha.eval]; exact hc) (fun h => ht h a ha) (fun h => hf h a ha)
theorem FW_cond_true {c : Operand} {x y : Code} (hc : evF σ c = .bool true) (h : FW P r n x Q σ w) : FW P r n (.cond c x y) Q σ w := FW_cond hc (fun _ => h) (fun h => by cases h)
theorem FW_cond_false {c : Operand} {x y : Code} (hc : evF σ c = .bool false) (h : FW P r n y Q σ w) : FW P r n (.cond c x y) Q σ w := FW_cond hc (fun h => by cases h) (fun _ => h)
theorem FW_region {id : Nat} {l : List Oper} (h : FL P r n l.toArray Q l σ w) : FW P r n (.region id l.toArray false) Q σ w := fun a ha => wpIn_region_lit (h a ha)

/-- A list of slots and what they hold, laid into a frame. -/
def upds (σ : St) : List (Nat × Value) → St
  | [] => σ
  | (d, v) :: l => upd (upds σ l) d v
def holds (σ : St) : List (Nat × Value) → Prop
  | [] => True
  | (d, v) :: l => σ d = v ∧ holds σ l
theorem upd_self (σ : St) (d : Nat) : upd σ d (σ d) = σ := by
  refine St.eq_of (fun x => ?_) rfl
  by_cases h : x = d
  · subst h; simp [upd_same]
  · simp [upd_ne _ _ _ _ h]
theorem upds_of_holds {σ : St} : ∀ {l : List (Nat × Value)}, holds σ l → upds σ l = σ
  | [], _ => rfl
  | (d, v) :: l, ⟨h, hl⟩ => by
    show upd (upds σ l) d v = σ
    rw [upds_of_holds hl, ← h, upd_self]

/-- Any frame whose calls put off are those of another. -/
def like (σ τ : St) : St := ⟨τ.get, σ.ds⟩
theorem und_ds : und.ds = [] := rfl
theorem like_self {σ τ : St} (h : τ.ds = σ.ds) : like σ τ = τ := St.eq_of (fun _ => rfl) h.symm
/-- A loop: at its head the slots of l x hold what it says, in a world of which I x holds; each round lowers the measure or leaves. -/
theorem FW_loop {X : Type} {c : Code} (l : X → List (Nat × Value)) (I : X → World → Prop) (m : X → World → Nat) (x₀ : X) (h₀ : holds σ (l x₀)) (hI : I x₀ w)
    (round : ∀ x τ w, I x w → FW P r n c (fun e σ' w' => match e with | .normal => σ'.ds = σ.ds ∧ ∃ x', holds σ' (l x') ∧ I x' w' ∧ m x' w' < m x w | e => Q e σ' w') (upds (like σ τ) (l x)) w) : FW P r n (.loop c) Q σ w := by
  intro a ha b kk cs hro hb hr
  have key : ∀ k a w, (∃ x σ', Rep n σ' a ∧ σ'.ds = σ.ds ∧ holds σ' (l x) ∧ I x w ∧ m x w = k) →
      ∃ e a' w', lift n Q e a' w' ∧ ArrivesIn (Machine.fenced P (fen r)) P (lone (b.atR a (.code c :: .inLoop c :: kk)) cs w) b kk cs e a' w' := by
    intro k
    induction k using Nat.strongRecOn with
    | _ k ih =>
      rintro a w ⟨x, σ', hrp, hds, hh, hi, hm⟩
      have hround := round x σ' w hi
      rw [like_self hds, upds_of_holds hh] at hround
      obtain ⟨e, a₁, w₁, ⟨s, hs, hq⟩, harr⟩ := hround a hrp b (.inLoop c :: kk) cs hro hb hr
      cases e with
      | normal =>
        obtain ⟨hds', x', hx', hi', hlt⟩ := hq
        obtain ⟨e₂, a₂, w₂, hq₂, harr₂⟩ := ih _ (by omega) a₁ w₁ ⟨x', s, hs, hds', hx', hi', rfl⟩
        exact ⟨e₂, a₂, w₂, hq₂, .of_steps (StepsIn.trans harr (.one (fenced_calm hb hr rfl) stepR_inLoop)) harr₂⟩
      | exit id => exact ⟨_, a₁, w₁, ⟨s, hs, hq⟩, .pass (x := .inLoop c) rfl (fun _ _ => .inl (by simp)) harr⟩
      | goto g => exact ⟨_, a₁, w₁, ⟨s, hs, hq⟩, .pass (x := .inLoop c) rfl (fun _ _ => .inl (by simp)) harr⟩
      | ret => exact ⟨_, a₁, w₁, ⟨s, hs, hq⟩, .pass (x := .inLoop c) rfl (fun _ _ => .inl (by simp)) harr⟩
      | panic chain => exact ⟨_, a₁, w₁, ⟨s, hs, hq⟩, .pass (x := .inLoop c) rfl (fun _ _ => .inl (by simp)) harr⟩
      | outgrown => exact ⟨_, a₁, w₁, ⟨s, hs, hq⟩, .pass (x := .inLoop c) rfl (fun _ _ => .inl (by simp)) harr⟩
  obtain ⟨e, a', w', hq, harr⟩ := key _ a w ⟨x₀, σ, ha, rfl, h₀, hI, rfl⟩
  exact ⟨e, a', w', hq, .of_steps (.one (fenced_calm hb hr rfl) stepR_loop) harr⟩
/-- What a loop's round ends in. -/
def Qround {X : Type} (ds : List Deferred) (l : X → List (Nat × Value)) (I : X → World → Prop) (m : X → World → Nat) (x : X) (w : World) (Q : Post) : Post :=
  fun e σ' w' => match e with | .normal => σ'.ds = ds ∧ ∃ x', holds σ' (l x') ∧ I x' w' ∧ m x' w' < m x w | e => Q e σ' w'
theorem FW_loop' {X : Type} {c : Code} (l : X → List (Nat × Value)) (I : X → World → Prop) (m : X → World → Nat) (x₀ : X) (h₀ : holds σ (l x₀)) (hI : I x₀ w)
    (round : ∀ x τ w, I x w → FW P r n c (Qround σ.ds l I m x w Q) (upds (like σ τ) (l x)) w) : FW P r n (.loop c) Q σ w := FW_loop l I m x₀ h₀ hI round
section
variable {X : Type} {ds : List Deferred} {l : X → List (Nat × Value)} {I : X → World → Prop} {m : X → World → Nat} {x : X} {w₀ : World}
theorem Qround_normal (x' : X) (h : holds σ (l x')) (hI : I x' w) (hm : m x' w < m x w₀) (hd : σ.ds = ds := by exact rfl) : Qround ds l I m x w₀ Q .normal σ w := ⟨hd, x', h, hI, hm⟩
theorem Qround_ret (h : Q .ret σ w) : Qround ds l I m x w₀ Q .ret σ w := h
theorem Qround_exit {id : Nat} (h : Q (.exit id) σ w) : Qround ds l I m x w₀ Q (.exit id) σ w := h
end
/-- A cut: the ways through the first part meet again in what l x says. -/
def Qcut {X : Type} (ds : List Deferred) (l : X → List (Nat × Value)) (I : X → World → Prop) (Q : Post) : Post :=
  fun e σ' w' => match e with | .normal => σ'.ds = ds ∧ ∃ x', holds σ' (l x') ∧ I x' w' | e => Q e σ' w'
theorem Qcut_normal {X : Type} {ds : List Deferred} {l : X → List (Nat × Value)} {I : X → World → Prop} (x' : X) (h : holds σ (l x')) (hI : I x' w) (hd : σ.ds = ds := by exact rfl) : Qcut ds l I Q .normal σ w := ⟨hd, x', h, hI⟩
theorem Qcut_ret {X : Type} {ds : List Deferred} {l : X → List (Nat × Value)} {I : X → World → Prop} (h : Q .ret σ w) : Qcut ds l I Q .ret σ w := h
theorem Qcut_exit {X : Type} {ds : List Deferred} {l : X → List (Nat × Value)} {I : X → World → Prop} {id : Nat} (h : Q (.exit id) σ w) : Qcut ds l I Q (.exit id) σ w := h
theorem FW_cut {X : Type} {x y : Code} (l : X → List (Nat × Value)) (I : X → World → Prop) (h : FW P r n x (Qcut σ.ds l I Q) σ w)
    (h' : ∀ z τ w, I z w → FW P r n y Q (upds (like σ τ) (l z)) w) : FW P r n (.seq x y) Q σ w := by
  refine FW_seq (h.mono fun e s w hq => ?_)
  cases e with
  | normal => obtain ⟨hd, z, hh, hI⟩ := hq; have := h' z s w hI; rw [like_self hd, upds_of_holds hh] at this; exact this
  | _ => exact hq
end

/-- A function's results, off the frame. -/
def resVal (σ : St) : List ResultVar → Option (List Value)
  | [] => some []
  | .tmp t :: l => (resVal σ l).map (σ t :: ·)
  | _ :: _ => none
def resPack : List Value → Value
  | [v] => v
  | vs => .tuple vs.toArray
theorem mapM_results {P : Program} {w : World} {σ : St} (g : ResultVar → Sem Value) (hg : ∀ t, g (.tmp t) = pure (σ t)) : ∀ (l : List ResultVar) (vs : List Value), resVal σ l = some vs →
    (List.mapM g l).run P w = .ok vs w := by
  intro l
  induction l with
  | nil => intro vs h; simp [resVal] at h; subst h; rfl
  | cons r l ih =>
    intro vs h
    cases r with
    | cell a t => simp [resVal] at h
    | tmp t =>
      simp only [resVal, Option.map_eq_some_iff] at h
      obtain ⟨us, hu, rfl⟩ := h
      rw [List.mapM_cons, hg]
      simp [ih us hu]
theorem run_results {P : Program} {w : World} {fn : Func} {tmps : Array Value} {σ : St} (hσ : ∀ i, tmps.getD i undef = σ i) {l : List ResultVar} (hl : fn.results = l.toArray) {vs : List Value} (h : resVal σ l = some vs) :
    (results fn tmps).run P w = .ok (resPack vs) w := by
  unfold results
  rw [hl, List.mapM_toArray]
  have := mapM_results (P := P) (w := w) (σ := σ) (fun
    | .tmp t => pure (tmps.getD t undef)
    | .cell a t => do loadVar t (← asAddr (tmps.getD a undef))) (fun t => by simp [hσ]) l vs h
  rw [Sem.run_bind, Sem.run_map]
  refine (congrArg (fun r => (Result.andThen r _).andThen _) this).trans ?_
  simp only [Result.andThen_ok]
  match vs with
  | [] => simp [resPack]
  | [v] => simp [resPack]
  | u :: v :: us => simp [resPack]

/-- How a call may end: it returns, and this holds of what it returns and of the world. -/
def Ret (R : Value → World → Prop) : Ending → World → Prop := fun e w => match e with
  | .returned v => R v w
  | _ => False
/-- The call returns, and so. -/
def Rets (P : Program) (f : FuncId) (args : List Value) (w : World) (R : Value → World → Prop) : Prop := Calls P f args.toArray w (Ret R)
theorem Rets.mono {P : Program} {f : FuncId} {args : List Value} {w : World} {R R' : Value → World → Prop} (h : Rets P f args w R) (hr : ∀ v w', R v w' → R' v w') : Rets P f args w R' :=
  Calls.mono h fun e w' he => by cases e <;> first | exact hr _ _ he | exact he

/-- The marks of ranges over functions among the calls put off are taken up; then so. -/
def Goes : List Deferred → World → (World → Prop) → Prop
  | [], w, R => R w
  | d :: ds, w, R => ∃ D, d.target = .collected D ∧ w.heap[D]? = some (.deferred (some [])) ∧ Goes ds { w with heap := w.heap.setIfInBounds D (.deferred none) } R
def Qfn (l : List ResultVar) (R : Value → World → Prop) : Post := fun e σ w => match e with
  | .normal | .ret => ∃ vs, resVal σ l = some vs ∧ Goes σ.ds w (R (resPack vs))
  | _ => False
theorem Qfn_ret {l : List ResultVar} {R : Value → World → Prop} {σ : St} {w : World} {vs : List Value} (h : resVal σ l = some vs := by simp only [resVal, Option.map_some, upd_same, upd_ne, ne_eq, Nat.reduceEqDiff, not_false_eq_true]; rfl) (hR : R (resPack vs) w) (hd : σ.ds = [] := by exact rfl) : Qfn l R .ret σ w := ⟨vs, h, by rw [hd]; exact hR⟩
theorem Qfn_normal {l : List ResultVar} {R : Value → World → Prop} {σ : St} {w : World} {vs : List Value} (h : resVal σ l = some vs := by simp only [resVal, Option.map_some, upd_same, upd_ne, ne_eq, Nat.reduceEqDiff, not_false_eq_true]; rfl) (hR : R (resPack vs) w) (hd : σ.ds = [] := by exact rfl) : Qfn l R .normal σ w := ⟨vs, h, by rw [hd]; exact hR⟩
theorem leaves_of_goes {P : Program} {fn : Func} {tmps : Array Value} {R : Ending → World → Prop} {v : Value} (hr : ∀ w, (results fn tmps).run P w = .ok v w) : ∀ (ds : List Deferred) (w : World), Goes ds w (fun w' => R (.returned v) w') → LeavesInM (fen none) 0 P fn tmps R ds .returning w
  | [], w, h => ⟨v, hr w, h⟩
  | d :: ds, w, ⟨D, ht, hh, hg⟩ => ⟨(fun e => by cases e), .inl ⟨D, _, ht, run_takeDeferred hh, leaves_of_goes hr ds _ hg⟩⟩

def args0 : Nat → List Value → St
  | _, [] => und
  | k, v :: l => upd (args0 (k + 1) l) k v
theorem args0_ds : ∀ (l : List Value) (k : Nat), (args0 k l).ds = []
  | [], _ => rfl
  | _ :: l, k => args0_ds l (k + 1)
theorem args0_get : ∀ (l : List Value) (k i : Nat), args0 k l i = if k ≤ i then l.toArray.getD (i - k) undef else undef
  | [], k, i => by simp [args0, und]
  | v :: l, k, i => by
    have ih := args0_get l (k + 1) i
    show upd (args0 (k + 1) l) k v i = _
    by_cases h : i = k
    · subst h; simp [upd_same]
    · rw [upd_ne _ _ _ _ h, ih]
      by_cases hk : k ≤ i
      · rw [if_pos hk, if_pos (by omega)]
        have : i - k = (i - (k + 1)) + 1 := by omega
        rw [this]
        simp [Array.getD_eq_getD_getElem?]
      · rw [if_neg hk, if_neg (by omega)]
/-- A function's contract off its body's walk. -/
theorem rets_of_FW {P : Program} {f : FuncId} {fn : Func} {c : Code} {args : List Value} {w : World} {R : Value → World → Prop} {n : Nat} {l : List ResultVar}
    (hf : P.funcs[f]? = some fn) (hb : fn.body = some c) (hn : fn.ntmps = n) (hl : fn.results = l.toArray) (hargs : Nat.ble args.length n = true)
    (h : FW P none n c (Qfn l R) (args0 0 args) w) : Rets P f args w R := by
  have hle : args.length ≤ n := Nat.le_of_ble_eq_true hargs
  refine (callsIn_wide (n := 0)).1 (callsIn_of_wp_marks (F := fen none) hf hb trivial (Go.wpIn_mono (h _ ⟨?_, (args0_ds args 0).symm, fun i => ?_⟩) ?_))
  · simp [hn]; omega
  · rw [args0_get]
    simp only [Nat.zero_le, if_true, Nat.sub_zero]
    simp only [Array.getD_eq_getD_getElem?, List.getElem?_toArray]
    rw [Array.getElem?_append]
    split
    · simp
    · rename_i hge
      simp at hge
      rw [List.getElem?_eq_none (by omega)]
      rw [Array.getElem?_replicate]
      split <;> rfl
  · rintro e a' w' ⟨s, hs, hq⟩
    cases e with
    | normal =>
      obtain ⟨vs, h1, h2⟩ := hq
      show LeavesInM _ _ _ _ _ _ _ _ _
      rw [hs.defers]
      exact leaves_of_goes (fun w => run_results hs.get hl h1) _ _ h2
    | ret =>
      obtain ⟨vs, h1, h2⟩ := hq
      show LeavesInM _ _ _ _ _ _ _ _ _
      rw [hs.defers]
      exact leaves_of_goes (fun w => run_results hs.get hl h1) _ _ h2
    | _ => exact hq.elim
section
variable {P : Program} {f : FuncId} {fn : Func} {c : Code} {w : World} {R : Value → World → Prop} {n : Nat} {l : List ResultVar} (hf : P.funcs[f]? = some fn) (hb : fn.body = some c) (hn : fn.ntmps = n) (hl : fn.results = l.toArray)
include hf hb hn hl
theorem rets0 (h : FW P none n c (Qfn l R) und w) : Rets P f [] w R := rets_of_FW hf hb hn hl rfl h
theorem rets1 {a0 : Value} (hk : Nat.ble 1 n = true) (h : FW P none n c (Qfn l R) (upd und 0 a0) w) : Rets P f [a0] w R := rets_of_FW hf hb hn hl hk h
theorem rets2 {a0 a1 : Value} (hk : Nat.ble 2 n = true) (h : FW P none n c (Qfn l R) (upd (upd und 1 a1) 0 a0) w) : Rets P f [a0, a1] w R := rets_of_FW hf hb hn hl hk h
theorem rets3 {a0 a1 a2 : Value} (hk : Nat.ble 3 n = true) (h : FW P none n c (Qfn l R) (upd (upd (upd und 2 a2) 1 a1) 0 a0) w) : Rets P f [a0, a1, a2] w R := rets_of_FW hf hb hn hl hk h
theorem rets4 {a0 a1 a2 a3 : Value} (hk : Nat.ble 4 n = true) (h : FW P none n c (Qfn l R) (upd (upd (upd (upd und 3 a3) 2 a2) 1 a1) 0 a0) w) : Rets P f [a0, a1, a2, a3] w R := rets_of_FW hf hb hn hl hk h
theorem rets5 {a0 a1 a2 a3 a4 : Value} (hk : Nat.ble 5 n = true) (h : FW P none n c (Qfn l R) (upd (upd (upd (upd (upd und 4 a4) 3 a3) 2 a2) 1 a1) 0 a0) w) : Rets P f [a0, a1, a2, a3, a4] w R := rets_of_FW hf hb hn hl hk h
theorem rets6 {a0 a1 a2 a3 a4 a5 : Value} (hk : Nat.ble 6 n = true) (h : FW P none n c (Qfn l R) (upd (upd (upd (upd (upd (upd und 5 a5) 4 a4) 3 a3) 2 a2) 1 a1) 0 a0) w) : Rets P f [a0, a1, a2, a3, a4, a5] w R := rets_of_FW hf hb hn hl hk h
theorem rets7 {a0 a1 a2 a3 a4 a5 a6 : Value} (hk : Nat.ble 7 n = true) (h : FW P none n c (Qfn l R) (upd (upd (upd (upd (upd (upd (upd und 6 a6) 5 a5) 4 a4) 3 a3) 2 a2) 1 a1) 0 a0) w) : Rets P f [a0, a1, a2, a3, a4, a5, a6] w R := rets_of_FW hf hb hn hl hk h
theorem rets8 {a0 a1 a2 a3 a4 a5 a6 a7 : Value} (hk : Nat.ble 8 n = true) (h : FW P none n c (Qfn l R) (upd (upd (upd (upd (upd (upd (upd (upd und 7 a7) 6 a6) 5 a5) 4 a4) 3 a3) 2 a2) 1 a1) 0 a0) w) : Rets P f [a0, a1, a2, a3, a4, a5, a6, a7] w R := rets_of_FW hf hb hn hl hk h
theorem rets9 {a0 a1 a2 a3 a4 a5 a6 a7 a8 : Value} (hk : Nat.ble 9 n = true) (h : FW P none n c (Qfn l R) (upd (upd (upd (upd (upd (upd (upd (upd (upd und 8 a8) 7 a7) 6 a6) 5 a5) 4 a4) 3 a3) 2 a2) 1 a1) 0 a0) w) : Rets P f [a0, a1, a2, a3, a4, a5, a6, a7, a8] w R := rets_of_FW hf hb hn hl hk h
end
end Go.Mw
/-
  Assertions on pieces of the heap, and what a step keeps. Nothing of a given program stands here.
-/
namespace Go.Mw
open Go.RowKit

/-- But for the blocks of S, what was there is there as it was. -/
structure Kept (S : Nat → Prop) (w w' : World) : Prop where
  os : w'.os = w.os
  tape : w'.tape = w.tape
  output : w'.output = w.output
  size : w.heap.size ≤ w'.heap.size
  block : ∀ k, k < w.heap.size → ¬ S k → w'.heap[k]? = w.heap[k]?
def noB : Nat → Prop := fun _ => False

section
variable {S T : Nat → Prop} {a b c w w' : World}
theorem Kept.refl (S : Nat → Prop) (w : World) : Kept S w w := ⟨rfl, rfl, rfl, Nat.le_refl _, fun _ _ _ => rfl⟩
theorem Kept.trans (h : Kept S a b) (k : Kept T b c) (hT : ∀ i, T i → S i ∨ a.heap.size ≤ i) : Kept S a c :=
  ⟨k.os.trans h.os, k.tape.trans h.tape, k.output.trans h.output, Nat.le_trans h.size k.size, fun i hi hS => by
    rw [k.block i (Nat.lt_of_lt_of_le hi h.size) (fun ht => by rcases hT i ht with h1 | h1; exact hS h1; omega), h.block i hi hS]⟩
theorem Kept.mono (h : Kept S w w') (hS : ∀ i, S i → T i) : Kept T w w' := ⟨h.os, h.tape, h.output, h.size, fun i hi hT => h.block i hi fun hs => hT (hS i hs)⟩
theorem Kept.trans0 (h : Kept S a b) (k : Kept noB b c) : Kept S a c := h.trans k fun _ hf => hf.elim
theorem Kept.below (h : Kept noB w w') : Below w.heap.size w w' := ⟨h.os, h.tape, h.output, h.size, fun k hk => h.block k hk id⟩
theorem Kept.of_below (h : Below w.heap.size w w') : Kept noB w w' := ⟨h.os, h.tape, h.output, h.size, fun k hk _ => h.block k hk⟩
theorem Kept.drewn (h : Kept S a w) (n : Nat) : Kept S a { w with drawn := n } := ⟨h.os, h.tape, h.output, h.size, h.block⟩
theorem Kept.alloc (w : World) (o : Obj) : Kept noB w (w.alloc o) := Kept.of_below ((Below.refl _ _).alloc (Nat.le_refl _) o)
theorem Kept.drew (w : World) : Kept noB w w.drew := ⟨rfl, rfl, rfl, Nat.le_refl _, fun _ _ _ => rfl⟩
theorem Kept.get (h : Kept S w w') {k : Nat} {o : Obj} (hk : w.heap[k]? = some o) (hS : ¬ S k) : w'.heap[k]? = some o := by
  have hlt : k < w.heap.size := by
    rcases Nat.lt_or_ge k w.heap.size with h1 | h1
    · exact h1
    · rw [Array.getElem?_eq_none h1] at hk; cases hk
  rw [h.block k hlt hS, hk]
end

/-- An assertion on a piece of the heap: the blocks that it owns, and the world. -/
structure HP where
  ok : (Nat → Prop) → World → Prop
  loc : ∀ {F : Nat → Prop} {w w' : World}, w.heap.size ≤ w'.heap.size → (∀ b, F b → w'.heap[b]? = w.heap[b]?) → ok F w → ok F w'
  low : ∀ {F : Nat → Prop} {w : World}, ok F w → ∀ b, F b → b < w.heap.size
theorem lt_of_get {w : World} {k : Nat} {o : Obj} (hk : w.heap[k]? = some o) : k < w.heap.size := by
  rcases Nat.lt_or_ge k w.heap.size with h1 | h1
  · exact h1
  · rw [Array.getElem?_eq_none h1] at hk; cases hk
/-- Nothing, and a fact. -/
def pureH (φ : Prop) : HP where
  ok F _ := φ ∧ ∀ b, ¬ F b
  loc _ _ h := h
  low h b hb := (h.2 b hb).elim
def emp : HP := pureH True
/-- One block, known whole. -/
def obj (b : Nat) (o : Obj) : HP where
  ok F w := (∀ x, F x ↔ x = b) ∧ w.heap[b]? = some o
  loc _ h hok := ⟨hok.1, by rw [h b ((hok.1 b).2 rfl)]; exact hok.2⟩
  low h x hx := by have := (h.1 x).1 hx; subst this; exact lt_of_get h.2
/-- One block of cells. -/
def blk (b : Nat) (cs : List Value) (E : TypeId) : HP := obj b (.cells cs.toArray E (0, 0))
def star (p q : HP) : HP where
  ok F w := ∃ F1 F2, (∀ b, F b ↔ F1 b ∨ F2 b) ∧ (∀ b, F1 b → ¬ F2 b) ∧ p.ok F1 w ∧ q.ok F2 w
  loc hs h hok := by
    obtain ⟨F1, F2, hF, hd, h1, h2⟩ := hok
    exact ⟨F1, F2, hF, hd, p.loc hs (fun b hb => h b ((hF b).2 (.inl hb))) h1, q.loc hs (fun b hb => h b ((hF b).2 (.inr hb))) h2⟩
  low h b hb := by
    obtain ⟨F1, F2, hF, hd, h1, h2⟩ := h
    rcases (hF b).1 hb with h | h
    · exact p.low h1 b h
    · exact q.low h2 b h
def exH {α : Type} (p : α → HP) : HP where
  ok F w := ∃ x, (p x).ok F w
  loc hs h hok := by obtain ⟨x, hx⟩ := hok; exact ⟨x, (p x).loc hs h hx⟩
  low h b hb := by obtain ⟨x, hx⟩ := h; exact (p x).low hx b hb
def starL : List HP → HP
  | [] => emp
  | p :: l => star p (starL l)

/-- Since w₀ only the blocks of S have turned (and what is new); of these, and of what is new, the pieces rs are owned. -/
def Sep (w₀ : World) (S : Nat → Prop) (rs : List HP) (w : World) : Prop :=
  Kept S w₀ w ∧ ∃ F, (starL rs).ok F w ∧ ∀ b, F b → S b ∨ w₀.heap.size ≤ b

/-- The piece p stands in the list; 'put' puts another in its place. -/
def At (rs : List HP) (p : HP) (put : HP → List HP) : Prop := ∃ l1 l2, rs = l1 ++ p :: l2 ∧ ∀ q, put q = l1 ++ q :: l2
section
variable {a b c d e f g h i j k m p : HP} {l : List HP}
theorem At0 : At (p :: l) p (fun q => q :: l) := ⟨[], l, rfl, fun _ => rfl⟩
theorem At1 : At (a :: p :: l) p (fun q => a :: q :: l) := ⟨[a], l, rfl, fun _ => rfl⟩
theorem At2 : At (a :: b :: p :: l) p (fun q => a :: b :: q :: l) := ⟨[a, b], l, rfl, fun _ => rfl⟩
theorem At3 : At (a :: b :: c :: p :: l) p (fun q => a :: b :: c :: q :: l) := ⟨[a, b, c], l, rfl, fun _ => rfl⟩
theorem At4 : At (a :: b :: c :: d :: p :: l) p (fun q => a :: b :: c :: d :: q :: l) := ⟨[a, b, c, d], l, rfl, fun _ => rfl⟩
theorem At5 : At (a :: b :: c :: d :: e :: p :: l) p (fun q => a :: b :: c :: d :: e :: q :: l) := ⟨[a, b, c, d, e], l, rfl, fun _ => rfl⟩
theorem At6 : At (a :: b :: c :: d :: e :: f :: p :: l) p (fun q => a :: b :: c :: d :: e :: f :: q :: l) := ⟨[a, b, c, d, e, f], l, rfl, fun _ => rfl⟩
theorem At7 : At (a :: b :: c :: d :: e :: f :: g :: p :: l) p (fun q => a :: b :: c :: d :: e :: f :: g :: q :: l) := ⟨[a, b, c, d, e, f, g], l, rfl, fun _ => rfl⟩
theorem At8 : At (a :: b :: c :: d :: e :: f :: g :: h :: p :: l) p (fun q => a :: b :: c :: d :: e :: f :: g :: h :: q :: l) := ⟨[a, b, c, d, e, f, g, h], l, rfl, fun _ => rfl⟩
theorem At9 : At (a :: b :: c :: d :: e :: f :: g :: h :: i :: p :: l) p (fun q => a :: b :: c :: d :: e :: f :: g :: h :: i :: q :: l) := ⟨[a, b, c, d, e, f, g, h, i], l, rfl, fun _ => rfl⟩
end

theorem emp_ok {F : Nat → Prop} {w : World} (h : ∀ b, ¬ F b) : emp.ok F w := ⟨trivial, h⟩
/-- The list's own sum, taken apart at a place. -/
theorem starL_split {l1 l2 : List HP} {p : HP} : ∀ {F : Nat → Prop} {w : World}, (starL (l1 ++ p :: l2)).ok F w →
    ∃ F1 F2, (∀ b, F b ↔ F1 b ∨ F2 b) ∧ (∀ b, F1 b → ¬ F2 b) ∧ p.ok F1 w ∧ (starL (l1 ++ l2)).ok F2 w := by
  induction l1 with
  | nil => intro F w h; exact h
  | cons q l ih =>
    rintro F w ⟨G1, G2, hF, hd, h1, h2⟩
    obtain ⟨F1, F2, hG, hd2, hp, hr⟩ := ih h2
    refine ⟨F1, fun b => G1 b ∨ F2 b, fun b => ?_, fun b hb => ?_, hp, G1, F2, fun b => Iff.rfl, fun b hb hb2 => hd b hb ((hG b).2 (.inr hb2)), h1, hr⟩
    · rw [hF, hG]; constructor
      · rintro (h | h | h)
        · exact .inr (.inl h)
        · exact .inl h
        · exact .inr (.inr h)
      · rintro (h | h | h)
        · exact .inr (.inl h)
        · exact .inl h
        · exact .inr (.inr h)
    · rintro (h | h)
      · exact hd b h ((hG b).2 (.inl hb))
      · exact hd2 b hb h
theorem starL_join {l1 l2 : List HP} {p : HP} : ∀ {F F1 F2 : Nat → Prop} {w : World}, (∀ b, F b ↔ F1 b ∨ F2 b) → (∀ b, F1 b → ¬ F2 b) → p.ok F1 w → (starL (l1 ++ l2)).ok F2 w → (starL (l1 ++ p :: l2)).ok F w := by
  induction l1 with
  | nil => intro F F1 F2 w hF hd hp hr; exact ⟨F1, F2, hF, hd, hp, hr⟩
  | cons q l ih =>
    rintro F F1 F2 w hF hd hp ⟨G1, G2, hG, hd2, h1, h2⟩
    refine ⟨G1, fun b => F1 b ∨ G2 b, fun b => ?_, fun b hb => ?_, h1, ih (F1 := F1) (F2 := G2) (fun b => Iff.rfl) (fun b hb hb2 => hd b hb ((hG b).2 (.inr hb2))) hp h2⟩
    · rw [hF, hG]; constructor
      · rintro (h | h | h)
        · exact .inr (.inl h)
        · exact .inl h
        · exact .inr (.inr h)
      · rintro (h | h | h)
        · exact .inr (.inl h)
        · exact .inl h
        · exact .inr (.inr h)
    · rintro (h | h)
      · exact hd b h ((hG b).2 (.inl hb))
      · exact hd2 b hb h

section
variable {w₀ w w' : World} {S : Nat → Prop} {rs : List HP}
theorem Sep.kept (h : Sep w₀ S rs w) : Kept S w₀ w := h.1
theorem Sep.size (h : Sep w₀ S rs w) : w₀.heap.size ≤ w.heap.size := h.1.size
/-- Nothing that was there has turned. -/
theorem Sep.keep (h : Sep w₀ S rs w) (hk : Kept noB w w') : Sep w₀ S rs w' := by
  obtain ⟨h1, F, hF, hS⟩ := h
  exact ⟨h1.trans0 hk, F, (starL rs).loc hk.size (fun b hb => hk.block b ((starL rs).low hF b hb) id) hF, hS⟩
/-- A piece that is owned: look at it, turn it. -/
theorem Sep.focus {p : HP} {put : HP → List HP} (h : Sep w₀ S rs w) (hat : At rs p put) :
    ∃ F, p.ok F w ∧ (∀ b, F b → S b ∨ w₀.heap.size ≤ b) ∧
      ∀ w' F' q, Kept F w w' → q.ok F' w' → (∀ b, F' b → F b ∨ w.heap.size ≤ b) → Sep w₀ S (put q) w' := by
  obtain ⟨l1, l2, rfl, hput⟩ := hat
  obtain ⟨h1, F, hF, hS⟩ := h
  obtain ⟨F1, F2, hF12, hd, hp, hr⟩ := starL_split hF
  refine ⟨F1, hp, fun b hb => hS b ((hF12 b).2 (.inl hb)), fun w' F' q hk hq hsub => ?_⟩
  rw [hput]
  have hlow := (starL (l1 ++ l2)).low hr
  refine ⟨h1.trans hk fun b hb => hS b ((hF12 b).2 (.inl hb)), fun b => F' b ∨ F2 b, ?_, ?_⟩
  · refine starL_join (F1 := F') (F2 := F2) (fun b => Iff.rfl) (fun b hb hb2 => ?_) hq ((starL (l1 ++ l2)).loc hk.size (fun b hb => hk.block b (hlow b hb) (fun h1 => hd b h1 hb)) hr)
    rcases hsub b hb with h | h
    · exact hd b h hb2
    · have := hlow b hb2; omega
  · rintro b (hb | hb)
    · rcases hsub b hb with h | h
      · exact hS b ((hF12 b).2 (.inl h))
      · exact .inr (Nat.le_trans h1.size h)
    · exact hS b ((hF12 b).2 (.inr hb))
/-- A new piece. -/
theorem Sep.new {p : HP} {F' : Nat → Prop} (h : Sep w₀ S rs w) (hk : Kept noB w w') (hp : p.ok F' w') (hF' : ∀ b, F' b → w.heap.size ≤ b) : Sep w₀ S (p :: rs) w' := by
  have h0 := h
  obtain ⟨h1, F, hF, hS⟩ := h
  have hlow := (starL rs).low hF
  refine ⟨h1.trans0 hk, fun b => F' b ∨ F b, ⟨F', F, fun b => Iff.rfl, fun b hb hb2 => ?_, hp, (starL rs).loc hk.size (fun b hb => hk.block b (hlow b hb) id) hF⟩, ?_⟩
  · have := hlow b hb2; have := hF' b hb; omega
  · rintro b (hb | hb)
    · exact .inr (Nat.le_trans h0.size (hF' b hb))
    · exact hS b hb
theorem Sep.alloc (h : Sep w₀ S rs w) (o : Obj) : Sep w₀ S (obj w.heap.size o :: rs) (w.alloc o) :=
  h.new (F' := fun b => b = w.heap.size) (Kept.alloc w o) ⟨fun _ => Iff.rfl, heap_alloc_new w o⟩ fun b hb => by rw [hb]; exact Nat.le_refl _
/-- Its blocks, of a block that is owned. -/
theorem Sep.obj {b : Nat} {o : Obj} {put : HP → List HP} (h : Sep w₀ S rs w) (hat : At rs (obj b o) put) : w.heap[b]? = some o := by
  obtain ⟨F, hp, _, _⟩ := h.focus hat
  exact hp.2
/-- Turn one block. -/
theorem Sep.setObj {b : Nat} {o o' : Obj} {put : HP → List HP} (h : Sep w₀ S rs w) (hat : At rs (Mw.obj b o) put) (hk : Kept (fun x => x = b) w w') (ho : w'.heap[b]? = some o') : Sep w₀ S (put (Mw.obj b o')) w' := by
  obtain ⟨F, hp, hS, hput⟩ := h.focus hat
  exact hput w' F (Mw.obj b o') (hk.mono fun i hi => (hp.1 i).2 hi) ⟨hp.1, ho⟩ fun b hb => .inl hb
/-- Let a piece go. -/
theorem Sep.drop0 {p : HP} (h : Sep w₀ S (p :: rs) w) : Sep w₀ S rs w := by
  obtain ⟨h1, F, ⟨F1, F2, hF, hd, hp, hr⟩, hS⟩ := h
  exact ⟨h1, F2, hr, fun b hb => hS b ((hF b).2 (.inr hb))⟩
theorem Sep.start (rs : List HP) {F : Nat → Prop} {w : World} (h : (starL rs).ok F w) : Sep w F rs w := ⟨Kept.refl _ _, F, h, fun _ hb => .inl hb⟩
theorem Sep.start0 (w : World) : Sep w noB [] w := ⟨Kept.refl _ _, fun _ => False, emp_ok (fun _ => id), fun _ hb => hb.elim⟩
/-- Existentials and pure facts come out. -/
theorem Sep.ex0 {α : Type} {p : α → HP} (h : Sep w₀ S (exH p :: rs) w) : ∃ x, Sep w₀ S (p x :: rs) w := by
  obtain ⟨h1, F, ⟨F1, F2, hF, hd, ⟨x, hp⟩, hr⟩, hS⟩ := h
  exact ⟨x, h1, F, ⟨F1, F2, hF, hd, hp, hr⟩, hS⟩
theorem Sep.star0 {p q : HP} (h : Sep w₀ S (star p q :: rs) w) : Sep w₀ S (p :: q :: rs) w := by
  obtain ⟨h1, F, ⟨F1, F2, hF, hd, ⟨G1, G2, hG, hd2, hp, hq⟩, hr⟩, hS⟩ := h
  refine ⟨h1, F, ⟨G1, fun b => G2 b ∨ F2 b, fun b => ?_, fun b hb => ?_, hp, G2, F2, fun _ => Iff.rfl, fun b hb hb2 => hd b ((hG b).2 (.inr hb)) hb2, hq, hr⟩, hS⟩
  · rw [hF, hG, or_assoc]
  · rintro (h | h)
    · exact hd2 b hb h
    · exact hd b ((hG b).2 (.inl hb)) h
theorem Sep.pure0 {φ : Prop} (h : Sep w₀ S (pureH φ :: rs) w) : φ ∧ Sep w₀ S rs w := by
  have h' := h.drop0
  obtain ⟨h1, F, ⟨F1, F2, hF, hd, hp, hr⟩, hS⟩ := h
  exact ⟨hp.1, h'⟩
theorem Sep.join0 {p q : HP} (h : Sep w₀ S (p :: q :: rs) w) : Sep w₀ S (star p q :: rs) w := by
  obtain ⟨h1, F, ⟨F1, F2, hF, hd, hp, G1, G2, hG, hd2, hq, hr⟩, hS⟩ := h
  refine ⟨h1, F, ⟨fun b => F1 b ∨ G1 b, G2, fun b => ?_, fun b hb => ?_, ⟨F1, G1, fun _ => Iff.rfl, fun b hb hb2 => hd b hb ((hG b).2 (.inl hb2)), hp, hq⟩, hr⟩, hS⟩
  · rw [hF, hG, or_assoc]
  · rcases hb with hb | hb
    · exact fun h => hd b hb ((hG b).2 (.inr h))
    · exact hd2 b hb
theorem Sep.pack0 {α : Type} {p : α → HP} (x : α) (h : Sep w₀ S (p x :: rs) w) : Sep w₀ S (exH p :: rs) w := by
  obtain ⟨h1, F, ⟨F1, F2, hF, hd, hp, hr⟩, hS⟩ := h
  exact ⟨h1, F, ⟨F1, F2, hF, hd, ⟨x, hp⟩, hr⟩, hS⟩
theorem Sep.addPure {φ : Prop} (hφ : φ) (h : Sep w₀ S rs w) : Sep w₀ S (pureH φ :: rs) w := by
  obtain ⟨h1, F, hr, hS⟩ := h
  exact ⟨h1, F, ⟨fun _ => False, F, fun b => by simp, fun _ hb => hb.elim, ⟨hφ, fun _ hb => hb⟩, hr⟩, hS⟩
/-- One piece says what another does. -/
theorem Sep.imp {p q : HP} {put : HP → List HP} (h : Sep w₀ S rs w) (hat : At rs p put) (hpq : ∀ F, p.ok F w → q.ok F w) : Sep w₀ S (put q) w := by
  obtain ⟨F, hp, hS, hput⟩ := h.focus hat
  exact hput w F q (Kept.refl _ _) (hpq F hp) fun b hb => .inl hb
/-- A piece to the front. -/
theorem Sep.front {p : HP} {l1 l2 : List HP} (h : Sep w₀ S (l1 ++ p :: l2) w) : Sep w₀ S (p :: (l1 ++ l2)) w := by
  obtain ⟨h1, F, hF, hS⟩ := h
  obtain ⟨F1, F2, hF12, hd, hp, hr⟩ := starL_split hF
  exact ⟨h1, F, ⟨F1, F2, hF12, hd, hp, hr⟩, hS⟩
theorem Sep.front1 {a p : HP} {l : List HP} (h : Sep w₀ S (a :: p :: l) w) : Sep w₀ S (p :: a :: l) w := Sep.front (l1 := [a]) h
theorem Sep.front2 {a b p : HP} {l : List HP} (h : Sep w₀ S (a :: b :: p :: l) w) : Sep w₀ S (p :: a :: b :: l) w := Sep.front (l1 := [a, b]) h
theorem Sep.front3 {a b c p : HP} {l : List HP} (h : Sep w₀ S (a :: b :: c :: p :: l) w) : Sep w₀ S (p :: a :: b :: c :: l) w := Sep.front (l1 := [a, b, c]) h
theorem Sep.front4 {a b c d p : HP} {l : List HP} (h : Sep w₀ S (a :: b :: c :: d :: p :: l) w) : Sep w₀ S (p :: a :: b :: c :: d :: l) w := Sep.front (l1 := [a, b, c, d]) h
theorem Sep.front5 {a b c d e p : HP} {l : List HP} (h : Sep w₀ S (a :: b :: c :: d :: e :: p :: l) w) : Sep w₀ S (p :: a :: b :: c :: d :: e :: l) w := Sep.front (l1 := [a, b, c, d, e]) h
theorem Sep.front6 {a b c d e f p : HP} {l : List HP} (h : Sep w₀ S (a :: b :: c :: d :: e :: f :: p :: l) w) : Sep w₀ S (p :: a :: b :: c :: d :: e :: f :: l) w := Sep.front (l1 := [a, b, c, d, e, f]) h
end

theorem star_assoc {p q t : HP} {F : Nat → Prop} {w : World} : (star (star p q) t).ok F w ↔ (star p (star q t)).ok F w := by
  constructor
  · rintro ⟨F1, F2, hF, hd, ⟨G1, G2, hG, hd2, hp, hq⟩, hr⟩
    refine ⟨G1, fun b => G2 b ∨ F2 b, fun b => ?_, fun b hb => ?_, hp, G2, F2, fun _ => Iff.rfl, fun b hb hb2 => hd b ((hG b).2 (.inr hb)) hb2, hq, hr⟩
    · rw [hF, hG, or_assoc]
    · rintro (h | h)
      · exact hd2 b hb h
      · exact hd b ((hG b).2 (.inl hb)) h
  · rintro ⟨F1, F2, hF, hd, hp, G1, G2, hG, hd2, hq, hr⟩
    refine ⟨fun b => F1 b ∨ G1 b, G2, fun b => ?_, fun b hb => ?_, ⟨F1, G1, fun _ => Iff.rfl, fun b hb hb2 => hd b hb ((hG b).2 (.inl hb2)), hp, hq⟩, hr⟩
    · rw [hF, hG, or_assoc]
    · rcases hb with hb | hb
      · exact fun h => hd b hb ((hG b).2 (.inr h))
      · exact hd2 b hb
theorem starL_append {l rs : List HP} : ∀ {F : Nat → Prop} {w : World}, (star (starL l) (starL rs)).ok F w ↔ (starL (l ++ rs)).ok F w := by
  induction l with
  | nil =>
    intro F w
    constructor
    · rintro ⟨F1, F2, hF, hd, ⟨_, h1⟩, h2⟩
      have : F = F2 := funext fun b => propext ((hF b).trans ⟨fun h => h.elim (fun h => (h1 b h).elim) id, .inr⟩)
      rw [this]; exact h2
    · intro h
      exact ⟨fun _ => False, F, fun b => by simp, fun _ h => h.elim, ⟨trivial, fun _ h => h⟩, h⟩
  | cons p l ih =>
    intro F w
    show (star (star p (starL l)) (starL rs)).ok F w ↔ (star p (starL (l ++ rs))).ok F w
    rw [star_assoc]
    constructor
    · rintro ⟨F1, F2, hF, hd, hp, hr⟩; exact ⟨F1, F2, hF, hd, hp, ih.1 hr⟩
    · rintro ⟨F1, F2, hF, hd, hp, hr⟩; exact ⟨F1, F2, hF, hd, hp, ih.2 hr⟩
/-- A bundle is its parts. -/
theorem Sep.parts {w₀ w : World} {S : Nat → Prop} {l rs : List HP} (h : Sep w₀ S (starL l :: rs) w) : Sep w₀ S (l ++ rs) w := by
  obtain ⟨h1, F, hF, hS⟩ := h
  exact ⟨h1, F, starL_append.1 hF, hS⟩
theorem Sep.bundle {w₀ w : World} {S : Nat → Prop} {l rs : List HP} (h : Sep w₀ S (l ++ rs) w) : Sep w₀ S (starL l :: rs) w := by
  obtain ⟨h1, F, hF, hS⟩ := h
  exact ⟨h1, F, starL_append.2 hF, hS⟩
/-- A contract's post-condition: of the pieces with blocks F these have become. -/
def Turns (F : Nat → Prop) (outs : List HP) (w w' : World) : Prop := Kept F w w' ∧ ∃ F', (starL outs).ok F' w' ∧ ∀ b, F' b → F b ∨ w.heap.size ≤ b
theorem Sep.turns {w₀ w : World} {S : Nat → Prop} {rs : List HP} (h : Sep w₀ S rs w) : Turns S rs w₀ w := h
end Go.Mw
/-
  The rules of the walk: an operation each. Nothing of a given program stands here: what a program's tables say comes in as instances.
-/
namespace Go.Mw
open Go.RowKit

/-- An operation gives a value, and leaves this world. -/
def Gives (P : Program) (ρ : Operand → Value) (op : Op) (ty : TypeId) (w : World) (v : Value) (w' : World) : Prop :=
  ∀ dst pos after guard, (execOp ρ { dst := dst, op := op, type := ty, pos := pos, after := after, guard := guard }).run P w = .ok (.value v) w'
/-- An operation that gives no value. -/
def Acts (P : Program) (ρ : Operand → Value) (op : Op) (ty : TypeId) (w w' : World) : Prop :=
  ∀ dst pos after guard, (execOp ρ { dst := dst, op := op, type := ty, pos := pos, after := after, guard := guard }).run P w = .ok .skip w'

section rules
variable {P : Program} {r : Option Nat} {n : Nat} {ops : Array Oper} {Q : Post} {rest : List Oper} {σ : St} {w w' : World} {op : Op} {ty : TypeId} {pos : String} {after : Array Edge}
theorem FL_nil (h : Q .normal σ w) : FL P r n ops Q [] σ w := fun _ ha => wpListIn_nil ⟨σ, ha, h⟩
theorem semAt_val {ρ : Operand → Value} {o : Oper} {v : Value} (h : (execOp ρ o).run P w = .ok (.value v) w') : (o.semAt r ρ).run P w = .ok (.value v) w' := by
  by_cases hd : ∃ c, o.op = .defer c
  · obtain ⟨c, hd⟩ := hd
    exfalso
    unfold execOp at h
    rw [hd] at h
    simp only [Sem.run_bind] at h
    cases hr : (resolve ρ c o.type).run P w <;> rw [hr] at h <;> simp [Result.andThen] at h
  · rw [Oper.semAt_eq r ρ o fun c hc => hd ⟨c, hc⟩]; exact h
theorem semAt_skip {ρ : Operand → Value} {o : Oper} (h : (execOp ρ o).run P w = .ok .skip w') : (o.semAt r ρ).run P w = .ok .skip w' := by
  by_cases hd : ∃ c, o.op = .defer c
  · obtain ⟨c, hd⟩ := hd
    exfalso
    unfold execOp at h
    rw [hd] at h
    simp only [Sem.run_bind] at h
    cases hr : (resolve ρ c o.type).run P w <;> rw [hr] at h <;> simp [Result.andThen] at h
  · rw [Oper.semAt_eq r ρ o fun c hc => hd ⟨c, hc⟩]; exact h
theorem FL_val {d : Nat} {v : Value} (hg : Gives P (evF σ) op ty w v w') (hd : Nat.blt d n = true) (h : FL P r n ops Q rest (upd σ d v) w') :
    FL P r n ops Q ({ dst := some d, op := op, type := ty, pos := pos, after := after, guard := none } :: rest) σ w := fun a ha =>
  wpListIn_plain rfl fun K hK => by
    refine ⟨fun _ _ => trivial, ?_⟩
    rw [ha.eval, semAt_val (hg _ _ _ _)]
    exact hK _ _ (h _ (ha.put (Nat.le_of_ble_eq_true hd) v))
theorem FL_act {v : Option Nat} (hg : Acts P (evF σ) op ty w w') (hd : v = none) (h : FL P r n ops Q rest σ w') :
    FL P r n ops Q ({ dst := v, op := op, type := ty, pos := pos, after := after, guard := none } :: rest) σ w := fun a ha =>
  wpListIn_plain rfl fun K hK => by
    refine ⟨fun _ _ => trivial, ?_⟩
    rw [ha.eval, semAt_skip (hg _ _ _ _)]
    subst hd
    exact hK _ _ (h _ ha)
/-- A guarded operation whose guard says yes: as an unguarded one. -/
theorem FL_on {dst : Option Nat} {j : Nat} {b : Bool} {t : Nat} (hj : (ops[j]?).bind (fun o : Oper => o.dst) = some t) (hb : σ t = .bool b)
    (h : FL P r n ops Q ({ dst := dst, op := op, type := ty, pos := pos, after := after, guard := none } :: rest) σ w) :
    FL P r n ops Q ({ dst := dst, op := op, type := ty, pos := pos, after := after, guard := some (j, b) } :: rest) σ w := fun a ha => by
  have h1 := h a ha
  have hw : Region.wanted { dst := dst, op := op, type := ty, pos := pos, after := after, guard := some (j, b) } (yielded ops a.tmps) = true := by
    simp [Region.wanted, ha.yielded_at ops hj hb]
  unfold wpListIn at h1 ⊢
  rw [if_pos hw]
  rw [if_pos (by simp [Region.wanted])] at h1
  exact h1
theorem FL_off {dst : Option Nat} {j : Nat} {b : Bool} {t : Nat} (hj : (ops[j]?).bind (fun o : Oper => o.dst) = some t) (hb : σ t = .bool (!b)) (hd : okDst n dst = true)
    (h : FL P r n ops Q rest (updO σ dst undef) w) :
    FL P r n ops Q ({ dst := dst, op := op, type := ty, pos := pos, after := after, guard := some (j, b) } :: rest) σ w := fun a ha => by
  have h1 := h _ (ha.putO hd undef)
  have hw : Region.wanted { dst := dst, op := op, type := ty, pos := pos, after := after, guard := some (j, b) } (yielded ops a.tmps) = false := by
    simp [Region.wanted, ha.yielded_at ops hj hb]
  unfold wpListIn
  rw [if_neg (by simp [hw])]
  exact ⟨fun _ _ => trivial, h1⟩
/-- Part on what a slot says. -/
theorem FL_split {t : Nat} {b : Bool} {l : List Oper} (hb : σ t = .bool b) (h1 : b = true → FL P r n ops Q l (upd σ t (.bool true)) w) (h0 : b = false → FL P r n ops Q l (upd σ t (.bool false)) w) : FL P r n ops Q l σ w := by
  cases b
  · have := h0 rfl; rw [← hb, upd_self] at this; exact this
  · have := h1 rfl; rw [← hb, upd_self] at this; exact this
/-- A slot reads so. -/
theorem FL_at {t : Nat} {v : Value} {l : List Oper} (hv : σ t = v) (h : FL P r n ops Q l (upd σ t v) w) : FL P r n ops Q l σ w := by rw [← hv, upd_self] at h; exact h
/-- A call of a function by its name. -/
class Enters (P : Program) (f : FuncId) : Prop where
  run : ∀ args w, (callFunc f args).run P w = .ok (.enter f args) w
theorem FL_call {d : Nat} {f : FuncId} {xs : List Operand} {ats : Array TypeId} {vals : List Value} {R : Value → World → Prop} [he : Enters P f] (hc : Rets P f vals w R) (hv : xs.map (evF σ) = vals) (hd : Nat.blt d n = true)
    (h : ∀ v w', R v w' → FL P r n ops Q rest (upd σ d v) w') :
    FL P r n ops Q ({ dst := some d, op := .call { callee := .value (.func f), args := xs.toArray, argTypes := ats }, type := ty, pos := pos, after := after, guard := none } :: rest) σ w := fun a ha =>
  wpListIn_plain rfl fun K hK => by
    refine ⟨fun _ _ => trivial, ?_⟩
    rw [Oper.semAt_eq _ _ _ (fun _ h => by cases h), execOp_call_go, he.run]
    have e : (#[] ++ xs.toArray.map a.eval ++ #[] : Array Value) = vals.toArray := by rw [ha.eval]; simp [hv]
    rw [e, Oper.uponIn_enter]
    refine ⟨(fun h => by cases h), fen_calls r (Calls.mono hc fun e w'' hr => ?_)⟩
    cases e with
    | returned v => exact hK _ _ (h v w'' hr _ (ha.put (Nat.le_of_ble_eq_true hd) v))
    | _ => exact hr.elim
/-- A call whose result is dropped into no slot. -/
theorem FL_call0 {f : FuncId} {xs : List Operand} {ats : Array TypeId} {vals : List Value} {R : Value → World → Prop} [he : Enters P f] (hc : Rets P f vals w R) (hv : xs.map (evF σ) = vals)
    (h : ∀ v w', R v w' → FL P r n ops Q rest σ w') :
    FL P r n ops Q ({ dst := none, op := .call { callee := .value (.func f), args := xs.toArray, argTypes := ats }, type := ty, pos := pos, after := after, guard := none } :: rest) σ w := fun a ha =>
  wpListIn_plain rfl fun K hK => by
    refine ⟨fun _ _ => trivial, ?_⟩
    rw [Oper.semAt_eq _ _ _ (fun _ h => by cases h), execOp_call_go, he.run]
    have e : (#[] ++ xs.toArray.map a.eval ++ #[] : Array Value) = vals.toArray := by rw [ha.eval]; simp [hv]
    rw [e, Oper.uponIn_enter]
    refine ⟨(fun h => by cases h), fen_calls r (Calls.mono hc fun e w'' hr => ?_)⟩
    cases e with
    | returned v => exact hK _ _ (h v w'' hr _ ha)
    | _ => exact hr.elim
theorem FW_condP {c : Operand} {x y : Code} {p : Prop} [Decidable p] (hc : evF σ c = .bool (decide p)) (ht : p → FW P r n x Q σ w) (hf : ¬ p → FW P r n y Q σ w) : FW P r n (.cond c x y) Q σ w :=
  FW_cond hc (fun h => ht (of_decide_eq_true h)) (fun h => hf (of_decide_eq_false h))
end rules

section gives
variable {P : Program} {ρ : Operand → Value} {ty : TypeId} {w w' : World} {x y z : Operand}
theorem Gives.move {v : Value} (h : ρ x = v) : Gives P ρ (.move x) ty w v w := fun _ _ _ _ => by subst h; rfl
theorem Gives.assign {v : Value} (h : ρ x = v) : Gives P ρ (.assign x) ty w v w := fun _ _ _ _ => by subst h; rfl
theorem Gives.pick {b : Bool} {u v : Value} (hc : ρ z = .bool b) (hx : ρ x = u) (hy : ρ y = v) : Gives P ρ (.pick z x y) ty w (if b then u else v) w := fun _ _ _ _ => by
  simp only [execOp, hc, hx, hy]; cases b <;> rfl
theorem Gives.pickT {v : Value} (hc : ρ z = .bool true) (hx : ρ x = v) : Gives P ρ (.pick z x y) ty w v w := fun _ _ _ _ => by subst hx; simp only [execOp, hc]; rfl
theorem Gives.pickF {v : Value} (hc : ρ z = .bool false) (hy : ρ y = v) : Gives P ρ (.pick z x y) ty w v w := fun _ _ _ _ => by subst hy; simp only [execOp, hc]; rfl
/-- A binary operation that is plain reckoning. -/
theorem Gives.bin {op : BinOp} {T U : TypeId} {a b v : Value} (hx : ρ x = a) (hy : ρ y = b) (hg : ∀ x y, (eqGuard op T x y a b).run P w = .ok () w) (hr : (binOp op T a b).run P w = .ok v w) : Gives P ρ (.binOp op T x y U) ty w v w := fun _ _ _ _ => by
  simp only [execOp, hx, hy, Sem.run_bind, hg, hr, Result.andThen_ok, Sem.run_pure]
section ints
variable {T U : TypeId} {k : IntKind} {a b : Int}
theorem Gives.add (hx : ρ x = .int k a) (hy : ρ y = .int k b) : Gives P ρ (.binOp .add T x y U) ty w (.int k (k.wrap (a + b))) w := .bin hx hy (fun _ _ => rfl) (by rw [binOp_add]; rfl)
theorem Gives.sub (hx : ρ x = .int k a) (hy : ρ y = .int k b) : Gives P ρ (.binOp .sub T x y U) ty w (.int k (k.wrap (a - b))) w := .bin hx hy (fun _ _ => rfl) (by rw [binOp_sub]; rfl)
theorem Gives.mul (hx : ρ x = .int k a) (hy : ρ y = .int k b) : Gives P ρ (.binOp .mul T x y U) ty w (.int k (k.wrap (a * b))) w := .bin hx hy (fun _ _ => rfl) (by rw [binOp_mul]; rfl)
/-- The same where it fits. -/
theorem Gives.addI {c : Int} (hx : ρ x = .int .i64 a) (hy : ρ y = .int .i64 b) (he : a + b = c) (h : -9223372036854775808 ≤ c ∧ c ≤ 9223372036854775807) : Gives P ρ (.binOp .add T x y U) ty w (.int .i64 c) w := by
  have := Gives.add (P := P) (ty := ty) (w := w) (T := T) (U := U) hx hy
  rw [he, IntWalk.i64_in _ h] at this; exact this
theorem Gives.subI {c : Int} (hx : ρ x = .int .i64 a) (hy : ρ y = .int .i64 b) (he : a - b = c) (h : -9223372036854775808 ≤ c ∧ c ≤ 9223372036854775807) : Gives P ρ (.binOp .sub T x y U) ty w (.int .i64 c) w := by
  have := Gives.sub (P := P) (ty := ty) (w := w) (T := T) (U := U) hx hy
  rw [he, IntWalk.i64_in _ h] at this; exact this
theorem Gives.mulI {c : Int} (hx : ρ x = .int .i64 a) (hy : ρ y = .int .i64 b) (he : a * b = c) (h : -9223372036854775808 ≤ c ∧ c ≤ 9223372036854775807) : Gives P ρ (.binOp .mul T x y U) ty w (.int .i64 c) w := by
  have := Gives.mul (P := P) (ty := ty) (w := w) (T := T) (U := U) hx hy
  rw [he, IntWalk.i64_in _ h] at this; exact this
theorem Gives.quo (hx : ρ x = .int k a) (hy : ρ y = .int k b) (h0 : b ≠ 0) : Gives P ρ (.binOp .quo T x y U) ty w (.int k (k.wrap (a.tdiv b))) w := .bin hx hy (fun _ _ => rfl) (by rw [binOp_quo, Op.intDiv, if_neg h0]; rfl)
theorem Gives.rem (hx : ρ x = .int k a) (hy : ρ y = .int k b) (h0 : b ≠ 0) : Gives P ρ (.binOp .rem T x y U) ty w (.int k (a.tmod b)) w := .bin hx hy (fun _ _ => rfl) (by rw [binOp_rem, Op.intDiv, if_neg h0]; rfl)
theorem Gives.eql (hx : ρ x = .int k a) (hy : ρ y = .int k b) : Gives P ρ (.binOp .eql T x y U) ty w (.bool (decide (a = b))) w := .bin hx hy (fun _ _ => by rw [eqGuard_at_int]; rfl) (by rw [binOp_eql]; rfl)
theorem Gives.neq (hx : ρ x = .int k a) (hy : ρ y = .int k b) : Gives P ρ (.binOp .neq T x y U) ty w (.bool (decide (a ≠ b))) w := .bin hx hy (fun _ _ => by rw [eqGuard_at_int]; rfl) (by rw [binOp_neq, show (a != b) = decide (a ≠ b) from by rw [decide_not]; rfl]; rfl)
theorem Gives.lss (hx : ρ x = .int k a) (hy : ρ y = .int k b) : Gives P ρ (.binOp .lss T x y U) ty w (.bool (decide (a < b))) w := .bin hx hy (fun _ _ => rfl) (by rw [binOp_lss]; rfl)
theorem Gives.leq (hx : ρ x = .int k a) (hy : ρ y = .int k b) : Gives P ρ (.binOp .leq T x y U) ty w (.bool (decide (a ≤ b))) w := .bin hx hy (fun _ _ => rfl) (by rw [binOp_leq]; rfl)
theorem Gives.gtr (hx : ρ x = .int k a) (hy : ρ y = .int k b) : Gives P ρ (.binOp .gtr T x y U) ty w (.bool (decide (b < a))) w := .bin hx hy (fun _ _ => rfl) (by rw [binOp_gtr]; rfl)
theorem Gives.geq (hx : ρ x = .int k a) (hy : ρ y = .int k b) : Gives P ρ (.binOp .geq T x y U) ty w (.bool (decide (b ≤ a))) w := .bin hx hy (fun _ _ => rfl) (by rw [binOp_geq]; rfl)
theorem Gives.shl {yk : IntKind} (hx : ρ x = .int k a) (hy : ρ y = .int yk b) (h0 : 0 ≤ b) : Gives P ρ (.binOp .shl T x y U) ty w (.int k (k.wrap (a * 2 ^ (min b.toNat k.bits)))) w := .bin hx hy (fun _ _ => rfl) (by rw [binOp_shl, Op.shift, if_neg (by omega)]; rfl)
theorem Gives.shr {yk : IntKind} (hx : ρ x = .int k a) (hy : ρ y = .int yk b) (h0 : 0 ≤ b) : Gives P ρ (.binOp .shr T x y U) ty w (.int k (a.fdiv (2 ^ (min b.toNat k.bits)))) w := .bin hx hy (fun _ _ => rfl) (by rw [binOp_shr, Op.shift, if_neg (by omega)]; rfl)
theorem Gives.and (hx : ρ x = .int k a) (hy : ρ y = .int k b) : Gives P ρ (.binOp .and T x y U) ty w (.int k (bits .and k a b)) w := .bin hx hy (fun _ _ => rfl) (by rw [binOp_and]; rfl)
theorem Gives.or (hx : ρ x = .int k a) (hy : ρ y = .int k b) : Gives P ρ (.binOp .or T x y U) ty w (.int k (bits .or k a b)) w := .bin hx hy (fun _ _ => rfl) (by rw [binOp_or]; rfl)
theorem Gives.xor (hx : ρ x = .int k a) (hy : ρ y = .int k b) : Gives P ρ (.binOp .xor T x y U) ty w (.int k (bits .xor k a b)) w := .bin hx hy (fun _ _ => rfl) (by rw [binOp_xor]; rfl)
end ints
class IsBool (P : Program) (t : TypeId) : Prop where
  und : P.underlying t = some .bool
theorem Gives.eqlB {T U : TypeId} [h : IsBool P T] {a b : Bool} (hx : ρ x = .bool a) (hy : ρ y = .bool b) : Gives P ρ (.binOp .eql T x y U) ty w (.bool (a == b)) w := .bin hx hy (fun _ _ => by rw [eqGuard_at_bool]; rfl) (run_eql_bool _ _ _ _ h.und)
theorem Gives.neqB {T U : TypeId} [h : IsBool P T] {a b : Bool} (hx : ρ x = .bool a) (hy : ρ y = .bool b) : Gives P ρ (.binOp .neq T x y U) ty w (.bool (!(a == b))) w := .bin hx hy (fun _ _ => by rw [eqGuard_at_bool]; rfl) (run_neq_bool _ _ _ _ h.und)
theorem Gives.eqlS {T U : TypeId} {a b : ByteArray} (hx : ρ x = .string a) (hy : ρ y = .string b) : Gives P ρ (.binOp .eql T x y U) ty w (.bool (a.toList == b.toList)) w := .bin hx hy (fun _ _ => by rw [eqGuard_at_string]; rfl) rfl
theorem Gives.neqS {T U : TypeId} {a b : ByteArray} (hx : ρ x = .string a) (hy : ρ y = .string b) : Gives P ρ (.binOp .neq T x y U) ty w (.bool (!(a.toList == b.toList))) w := .bin hx hy (fun _ _ => by rw [eqGuard_at_string]; rfl) rfl
theorem Gives.not {b : Bool} {T : TypeId} (hx : ρ x = .bool b) : Gives P ρ (.unOp .not T x) ty w (.bool (!b)) w := fun _ _ _ _ => by simp only [execOp, hx]; rfl
theorem Gives.notP {p : Prop} [Decidable p] {T : TypeId} (hx : ρ x = .bool (decide p)) : Gives P ρ (.unOp .not T x) ty w (.bool (decide (¬ p))) w := by
  have := Gives.not (P := P) (ty := ty) (w := w) (T := T) hx
  rw [show (!decide p) = decide (¬ p) from by simp] at this; exact this
theorem Gives.neg {k : IntKind} {a : Int} {T : TypeId} (hx : ρ x = .int k a) : Gives P ρ (.unOp .neg T x) ty w (.int k (k.wrap (0 - a))) w := fun _ _ _ _ => by simp only [execOp, hx]; rfl
theorem Gives.nilCheck {a : Addr} (hx : ρ x = .pointer (some a)) : Gives P ρ (.nilCheck x) ty w (.pointer (some a)) w := fun _ _ _ _ => by simp only [execOp, hx]; rfl
theorem Gives.convI {s t : TypeId} {k j : IntKind} {a : Int} (hs : (P.underlying s).isSome = true) (ht : P.underlying t = some (.int k)) (hx : ρ x = .int j a) : Gives P ρ (.convert s t x) ty w (.int k (k.wrap a)) w := fun _ _ _ _ => by
  obtain ⟨d, hd⟩ := Option.isSome_iff_exists.1 hs
  simp [execOp, hx, convert, run_underlying hd, run_underlying ht, Conv.intToInt]
/-- Pointers against nil. -/
class IsPtr (P : Program) (t : TypeId) : Prop where
  und : ∃ e, P.underlying t = some (.pointer e)
theorem run_equalIn_ptr_nil (d : Nat) {T e : TypeId} (he : P.underlying T = some (.pointer e)) (a : Option Addr) : (Op.equalIn (d + 1) T (.pointer a) (.pointer none)).run P w = .ok a.isNone w := by
  cases a <;> simp [Op.equalIn, run_underlying he]
theorem run_equal_ptr_nil {T : TypeId} [h : IsPtr P T] (a : Option Addr) : (Op.equal T (.pointer a) (.pointer none)).run P w = .ok a.isNone w := by
  obtain ⟨e, he⟩ := h.und
  exact run_equalIn_ptr_nil 9999 he a
theorem Gives.eqlNil {T U : TypeId} [IsPtr P T] {a : Option Addr} (hx : ρ x = .pointer a) (hy : ρ y = .pointer none) : Gives P ρ (.binOp .eql T x y U) ty w (.bool a.isNone) w :=
  .bin hx hy (fun _ _ => by rw [eqGuard_at_pointer]; rfl) (by simp [binOp, run_equal_ptr_nil])
theorem Gives.neqNil {T U : TypeId} [IsPtr P T] {a : Option Addr} (hx : ρ x = .pointer a) (hy : ρ y = .pointer none) : Gives P ρ (.binOp .neq T x y U) ty w (.bool (!a.isNone)) w :=
  .bin hx hy (fun _ _ => by rw [eqGuard_at_pointer]; rfl) (by simp [binOp, run_equal_ptr_nil])
/-- Where a struct's field lies. -/
class FieldAt (P : Program) (s f : Nat) (k : outParam Nat) : Prop where
  run : ∀ a w, (Instr.fieldAt s (.pointer (some a)) f).run P w = .ok (.pointer (some (a.add k))) w
theorem Gives.field0 {s f k b : Nat} [h : FieldAt P s f k] (hx : ρ x = .pointer (some ⟨b, 0, none⟩)) : Gives P ρ (.fieldAddr s x f) ty w (.pointer (some ⟨b, k, none⟩)) w := fun _ _ _ _ => by
  simp only [execOp, hx, Sem.run_bind, h.run, Result.andThen_ok, Sem.run_pure, Addr.add_lit, Nat.zero_add]
theorem Gives.field {s f k b o : Nat} [h : FieldAt P s f k] (hx : ρ x = .pointer (some ⟨b, o, none⟩)) : Gives P ρ (.fieldAddr s x f) ty w (.pointer (some ⟨b, o + k, none⟩)) w := fun _ _ _ _ => by
  simp only [execOp, hx, Sem.run_bind, h.run, Result.andThen_ok, Sem.run_pure, Addr.add_lit]
/-- What a type's variables are made of: one cell, or so many. -/
class OneCell (P : Program) (t : TypeId) : Prop where
  agg : ∀ w, (isAgg t).run P w = .ok false w
  size : ∀ w, (sizeOf t).run P w = .ok 1 w
class Agg (P : Program) (t : TypeId) (k : outParam Nat) : Prop where
  agg : ∀ w, (isAgg t).run P w = .ok true w
  size : ∀ w, (sizeOf t).run P w = .ok k w
class Zero (P : Program) (t : TypeId) (z : outParam Value) : Prop where
  run : ∀ w, (zeroValue t).run P w = .ok z w
/-- What a type is. -/
class IsSlice (P : Program) (t : TypeId) (e : outParam TypeId) : Prop where
  und : P.underlying t = some (.slice e)
class IsArray (P : Program) (t : TypeId) (m : outParam Nat) (e : outParam TypeId) : Prop where
  und : P.underlying t = some (.array m e)
class IsMap (P : Program) (t : TypeId) (k e : outParam TypeId) : Prop where
  und : P.underlying t = some (.map k e)
class IsInt (P : Program) (t : TypeId) (k : outParam IntKind) : Prop where
  und : P.underlying t = some (.int k)
class IsStr (P : Program) (t : TypeId) : Prop where
  und : P.underlying t = some .string
/-- How many cells and bytes. -/
class Cells (P : Program) (t : TypeId) (k b : outParam Nat) : Prop where
  size : (P.info? t).map (fun i => (i.size, i.bytes)) = some (k, b)
theorem cell_blk {b : Nat} {cs : List Value} {E : TypeId} (h : w.heap[b]? = some (.cells cs.toArray E (0, 0))) (i : Nat) : w.cell? ⟨b, i, none⟩ = cs[i]? := by
  rw [cell_of_row w b i _ _ _ h]; simp
theorem Gives.load1 {T b o : Nat} [h1 : OneCell P T] {cs : List Value} {E : TypeId} {v : Value} (hx : ρ x = .pointer (some ⟨b, o, none⟩)) (hb : w.heap[b]? = some (.cells cs.toArray E (0, 0))) (hv : cs[o]? = some v) : Gives P ρ (.load T x) ty w v w := fun _ _ _ _ => by
  simp [execOp, hx, Instr.loadAt, Instr.sureAddr, loadVar, h1.agg, cell_blk hb, hv]
theorem run_loadCells_blk {b o k : Nat} {cs : List Value} {E : TypeId} (hb : w.heap[b]? = some (.cells cs.toArray E (0, 0))) {us : List Value} (hu : (cs.drop o).take k = us) (hk : us.length = k) :
    (loadCells ⟨b, o, none⟩ k).run P w = .ok us.toArray w := by
  have := run_loadCells_list (P := P) w ⟨b, o, none⟩ us (fun j v hj => by
    rw [Addr.add_lit, cell_blk hb]
    rw [← hu, List.getElem?_take] at hj
    split at hj
    · rw [List.getElem?_drop] at hj; exact hj
    · cases hj)
  rw [hk] at this; exact this
theorem Gives.loadN {T b o k : Nat} [h1 : Agg P T k] {cs : List Value} {E : TypeId} {us : List Value} (hx : ρ x = .pointer (some ⟨b, o, none⟩)) (hb : w.heap[b]? = some (.cells cs.toArray E (0, 0))) (hu : (cs.drop o).take k = us) (hk : us.length = k) : Gives P ρ (.load T x) ty w (.agg us.toArray) w := fun _ _ _ _ => by
  simp [execOp, hx, Instr.loadAt, Instr.sureAddr, loadVar, h1.agg, h1.size, run_loadCells_blk hb hu hk]
end gives
end Go.Mw
/-
  Rules of the walk for memory: variables, rows behind slices, append, make. Nothing of a given program stands here.
-/
namespace Go.Mw
open Go.RowKit

/-- A row that is read through a slice: of n elements, s cells each, these cells; where there is none, nothing is asked of the address. -/
structure RowAt (w : World) (A : Option Addr) (n s : Nat) (xs : List Value) : Prop where
  len : xs.length = n * s
  at_ : 0 < n → ∃ ad, A = some ad ∧ ∀ (j : Nat) u, xs[j]? = some u → w.cell? (ad.add j) = some u
theorem add_add (a : Addr) (i j : Nat) : (a.add i).add j = a.add (i + j) := by
  unfold Addr.add
  by_cases hi : i = 0 <;> by_cases hj : j = 0 <;> simp [hi, hj, Nat.add_assoc]
theorem add_block (a : Addr) (n : Nat) : (a.add n).block = a.block := by unfold Addr.add; split <;> rfl
theorem cell_lt {w : World} {a : Addr} {v : Value} (h : w.cell? a = some v) : a.block < w.heap.size := block_lt_of_cell h
theorem Kept.cell {S : Nat → Prop} {w w' : World} (h : Kept S w w') {a : Addr} {v : Value} (hc : w.cell? a = some v) (hS : ¬ S a.block) : w'.cell? a = some v :=
  (World.cell?_of_block (h.block _ (cell_lt hc) hS)).trans hc
section
variable {w w' : World} {A : Option Addr} {n s : Nat} {xs : List Value}
theorem RowAt.nil (w : World) (A : Option Addr) (s : Nat) : RowAt w A 0 s [] := ⟨by simp, fun h => absurd h (Nat.lt_irrefl 0)⟩
/-- A row that is read stands apart from these blocks. -/
def Off (A : Option Addr) (n : Nat) (F : Nat → Prop) : Prop := 0 < n → ∀ ad, A = some ad → ¬ F ad.block
theorem RowAt.keepS {S : Nat → Prop} (h : RowAt w A n s xs) (hk : Kept S w w') (hout : Off A n S) : RowAt w' A n s xs :=
  ⟨h.len, fun hn => by
    obtain ⟨ad, hA, hc⟩ := h.at_ hn
    exact ⟨ad, hA, fun j u hj => hk.cell (hc j u hj) (by rw [add_block]; exact hout hn ad hA)⟩⟩
theorem RowAt.keep (h : RowAt w A n s xs) (hk : Kept noB w w') : RowAt w' A n s xs := h.keepS hk fun _ _ _ => id
theorem Off.of {S F : Nat → Prop} (hO : Off A n S) (h : RowAt w A n s xs) (hF : ∀ b, F b → S b ∨ w.heap.size ≤ b) (hs : 0 < s) : Off A n F := fun hn ad hA hb => by
  obtain ⟨ad', h1, h2⟩ := h.at_ hn
  rw [hA] at h1
  injection h1 with h1
  subst h1
  have hl : 0 < xs.length := by rw [h.len]; exact Nat.mul_pos hn hs
  have hc := h2 0 xs[0] (by simp [hl])
  have hlt := cell_lt hc
  rw [add_block] at hlt
  rcases hF _ hb with h3 | h3
  · exact hO hn ad hA h3
  · omega
theorem RowAt.cut (h : RowAt w A n s xs) {k cap : Nat} (hk : k ≤ n) (hc : n ≤ cap) :
    RowAt w (if cap = k then A else A.map (·.add (k * s))) (n - k) s (xs.drop (k * s)) := by
  refine ⟨by rw [List.length_drop, h.len, Nat.sub_mul], fun hn => ?_⟩
  obtain ⟨ad, rfl, hcell⟩ := h.at_ (by omega)
  rw [if_neg (by omega)]
  exact ⟨ad.add (k * s), rfl, fun j u hu => by rw [add_add]; exact hcell _ u (by rw [← hu, List.getElem?_drop])⟩
theorem RowAt.take (h : RowAt w A n s xs) {k : Nat} (hk : k ≤ n) : RowAt w A k s (xs.take (k * s)) := by
  refine ⟨by rw [List.length_take, h.len]; exact Nat.min_eq_left (Nat.mul_le_mul_right s hk), fun hn => ?_⟩
  obtain ⟨ad, hA, hcell⟩ := h.at_ (by omega)
  refine ⟨ad, hA, fun j u hu => hcell j u ?_⟩
  rw [List.getElem?_take] at hu
  split at hu
  · exact hu
  · cases hu
end

/-- A slice that owns its row: its own block, never frozen. -/
def rowH (E s : Nat) (v : Value) (n : Nat) (xs : List Value) : HP where
  ok F w := w.ownsRow 0 E s v n xs ∧ ∀ b, F b ↔ v.ownBlock = some b
  loc _ h hok := by
    obtain ⟨⟨h1, h2⟩, hF⟩ := hok
    refine ⟨⟨h1, ?_⟩, hF⟩
    rcases h2 with h2 | ⟨g, cap, cur, hv, hg, hh, r⟩
    · exact .inl h2
    · refine .inr ⟨g, cap, cur, hv, hg, ?_, r⟩
      rw [h g ((hF g).2 (by rw [hv]; rfl))]; exact hh
  low hok b hb := (hok.1.lt b ((hok.2 b).1 hb)).2
theorem rowAt_of_own {w : World} {B E s n c : Nat} {A : Option Addr} {xs : List Value} (h : w.ownsRow B E s (.slice A n c) n xs) : RowAt w A n s xs := by
  refine ⟨h.1, fun hn => ?_⟩
  rcases h.2 with ⟨hv, h0⟩ | ⟨g, cap, cur, hv, _, hh, r⟩
  · omega
  · injection hv with hA
    subst hA
    exact ⟨_, rfl, h.cells (g := g) rfl⟩
section
variable {w₀ w w' : World} {S : Nat → Prop} {rs : List HP} {put : HP → List HP}
theorem Sep.rowAt {E s n c : Nat} {A : Option Addr} {xs : List Value} (h : Sep w₀ S rs w) (hat : At rs (rowH E s (.slice A n c) n xs) put) : RowAt w A n s xs := by
  obtain ⟨F, hp, _, _⟩ := h.focus hat
  exact rowAt_of_own hp.1
/-- The value of a row that is owned is a slice of its length. -/
theorem Sep.rowForm {E s n : Nat} {v : Value} {xs : List Value} (h : Sep w₀ S rs w) (hat : At rs (rowH E s v n xs) put) : ∃ A c, v = .slice A n c ∧ n ≤ c ∧ xs.length = n * s ∧ (A = none → n = 0 ∧ c = 0) := by
  obtain ⟨F, hp, _, _⟩ := h.focus hat
  rcases hp.1.2 with ⟨hv, h0⟩ | ⟨g, cap, cur, hv, _, hh, hle, r⟩
  · exact ⟨none, 0, by rw [hv, h0], by omega, hp.1.1, fun _ => ⟨h0, rfl⟩⟩
  · exact ⟨_, cap, hv, hle, hp.1.1, fun e => by cases e⟩
theorem rowH_off {E s n c : Nat} {A : Option Addr} {xs : List Value} {Fq F : Nat → Prop} {w : World} (h : (rowH E s (.slice A n c) n xs).ok Fq w) (hd : ∀ b, Fq b → ¬ F b) : Off A n F := fun _ ad hA hb => by
  subst hA
  exact hd ad.block ((h.2 ad.block).2 rfl) hb
/-- A nil slice owns nothing. -/
theorem Sep.nilRow (h : Sep w₀ S rs w) (E s : Nat) : Sep w₀ S (rowH E s (.slice none 0 0) 0 [] :: rs) w :=
  h.new (F' := fun _ => False) (Kept.refl _ _) ⟨World.ownsRow_nil _ _ _ _, fun b => by simp [Value.ownBlock]⟩ fun _ hb => hb.elim
/-- A block that is known whole is a row. -/
theorem Sep.asRow {b E s n : Nat} {cs : List Value} (h : Sep w₀ S rs w) (hat : At rs (blk b cs E) put) (hl : cs.length = n * s) (hm : n ≤ maxLen) : Sep w₀ S (put (rowH E s (.slice (some ⟨b, 0, none⟩) n n) n cs)) w :=
  h.imp hat fun F hF => ⟨⟨hl, .inr ⟨b, n, cs.toArray, rfl, Nat.zero_le _, hF.2, Nat.le_refl _, hm, by simpa using hl, by rw [← hl]; simp⟩⟩, fun x => by rw [hF.1 x]; simp [Value.ownBlock, eq_comm]⟩
/-- One step of the world that turns the row alone, and gives another. -/
theorem Sep.rowTurn {E s n n' : Nat} {v v' : Value} {xs xs' : List Value} (h : Sep w₀ S rs w) (hat : At rs (rowH E s v n xs) put) (hg : w.grownBy w' v.ownBlock) (hown : w'.ownsRow 0 E s v' n' xs') (hb : v'.ownBlock = v.ownBlock ∨ v'.ownBlock = some w.heap.size ∨ v'.ownBlock = none) : Sep w₀ S (put (rowH E s v' n' xs')) w' := by
  obtain ⟨F, hp, hS, hput⟩ := h.focus hat
  refine hput w' (fun b => v'.ownBlock = some b) _ ⟨hg.os, hg.tape, hg.output, hg.size, fun k hk hF => hg.block k hk fun e => hF ((hp.2 k).2 e.symm)⟩ ⟨hown, fun b => Iff.rfl⟩ fun b hb' => ?_
  rcases hb with e | e | e
  · exact .inl ((hp.2 b).2 (by rw [← e]; exact hb'))
  · rw [e] at hb'; injection hb' with hb'; exact .inr (by omega)
  · rw [e] at hb'; cases hb'
end

theorem run_append_nil {P : Program} {w : World} (base t ty e : Nat) (i : TypeInfo) (size : Nat) (ht : P.underlying t = some (.slice e)) (hi : P.info? e = some i)
    (v : Value) (n : Nat) (xs : List Value) (hown : w.ownsRow base e size v n xs) (A : Option Addr) (hA : A = none) (c : Nat) : (Builtin.append_ #[t, t] ty #[v, .slice A 0 c]).run P w = .ok v w := by
  subst hA
  rcases hown.2 with ⟨rfl, rfl⟩ | ⟨g, cap, cur, rfl, _, _, hnc, _⟩
  · simp [Builtin.append_, run_underlying ht, sizeOf, typeInfo, hi, Builtin.lenOf, Builtin.firstCells]
  · simp [Builtin.append_, run_underlying ht, sizeOf, typeInfo, hi, Builtin.lenOf, Builtin.firstCells, hnc, storeCells]
/-- append onto a row that is owned, from whatever source. -/
theorem run_append {P : Program} {w : World} (t ty e : Nat) [hs : IsSlice P t e] {size bytes : Nat} [hc : Cells P e size bytes] {z : Value} [hz : Zero P e z] (hsz : 0 < size) (hzs : z.cells.size = size)
    (v : Value) (n : Nat) (xs : List Value) (hown : w.ownsRow 0 e size v n xs) (A : Option Addr) (m c : Nat) (news : List Value) (hr : RowAt w A m size news) (h1 : ∀ u ∈ news, u.oneCell' = true)
    (h63 : n + m ≤ maxLen) (hbytes : (n + m) * bytes ≤ 140737488355328) :
    ∃ v' w', (Builtin.append_ #[t, t] ty #[v, .slice A m c]).run P w = .ok v' w' ∧ w'.ownsRow 0 e size v' (n + m) (xs ++ news) ∧ w.grownBy w' v.ownBlock ∧
      (v'.ownBlock = v.ownBlock ∨ v'.ownBlock = some w.heap.size) := by
  obtain ⟨i, hi, hsb⟩ := Option.map_eq_some_iff.1 hc.size
  simp only [Prod.mk.injEq] at hsb
  have hzero : i.zero = some z := by
    have := hz.run w
    simp [zeroValue, typeInfo, hi] at this
    cases hq : i.zero with
    | none => simp [hq] at this
    | some u => simp [hq] at this; rw [this]
  rcases A with _ | ad
  · have hm : m = 0 := by
      rcases Nat.eq_zero_or_pos m with h0 | h0
      · exact h0
      · obtain ⟨ad, h, _⟩ := hr.at_ h0; cases h
    subst hm
    have hn : news = [] := List.eq_nil_of_length_eq_zero (by simpa using hr.len)
    subst hn
    exact ⟨v, w, run_append_nil 0 t ty e i size hs.und hi v n xs hown none rfl c, by simpa using hown, World.grownBy.refl w _, .inl rfl⟩
  · have hcells : ∀ j u, news[j]? = some u → w.cell? (ad.add j) = some u := by
      intro j u hu
      rcases Nat.eq_zero_or_pos m with h0 | h0
      · subst h0
        have hn : news = [] := List.eq_nil_of_length_eq_zero (by simpa using hr.len)
        subst hn
        simp at hu
      · obtain ⟨ad', h, hcc⟩ := hr.at_ h0
        injection h with h
        subst h
        exact hcc j u hu
    obtain ⟨v', w', hrun, h2, h3, _, h5⟩ := run_append_own_at (P := P) w 0 t ty e i z size bytes hs.und hi hzero hsb.1 hsb.2 hzs hsz v n xs hown ad m c news hr.len hcells h1 h63 hbytes (Nat.zero_le _)
    exact ⟨v', w', hrun, h2, h3, h5⟩

section rules
variable {P : Program} {r : Option Nat} {n : Nat} {ops : Array Oper} {Q : Post} {rest : List Oper} {σ : St} {w w' w₀ : World} {S : Nat → Prop} {rs : List HP} {put : HP → List HP} {ty : TypeId} {pos : String} {after : Array Edge}
/-- A copy of a slot. -/
theorem FL_move {d : Nat} {x : Operand} {v : Value} (hv : evF σ x = v := by simp only [evF, upd_same, upd_ne, ne_eq, Nat.reduceEqDiff, not_false_eq_true]; rfl) (hd : Nat.blt d n = true := by exact rfl) (h : FL P r n ops Q rest (upd σ d v) w) :
    FL P r n ops Q ({ dst := some d, op := .move x, type := ty, pos := pos, after := after, guard := none } :: rest) σ w := FL_val (Gives.move hv) hd h
theorem FL_assign {d : Nat} {x : Operand} {v : Value} (hv : evF σ x = v := by simp only [evF, upd_same, upd_ne, ne_eq, Nat.reduceEqDiff, not_false_eq_true]; rfl) (hd : Nat.blt d n = true := by exact rfl) (h : FL P r n ops Q rest (upd σ d v) w) :
    FL P r n ops Q ({ dst := some d, op := .assign x, type := ty, pos := pos, after := after, guard := none } :: rest) σ w := FL_val (Gives.assign hv) hd h
theorem FL_pickT {d : Nat} {x y z : Operand} {v : Value} (hc : evF σ z = .bool true := by exact rfl) (hv : evF σ x = v := by simp only [evF, upd_same, upd_ne, ne_eq, Nat.reduceEqDiff, not_false_eq_true]; rfl) (hd : Nat.blt d n = true := by exact rfl) (h : FL P r n ops Q rest (upd σ d v) w) :
    FL P r n ops Q ({ dst := some d, op := .pick z x y, type := ty, pos := pos, after := after, guard := none } :: rest) σ w := FL_val (Gives.pickT hc hv) hd h
theorem FL_pickF {d : Nat} {x y z : Operand} {v : Value} (hc : evF σ z = .bool false := by exact rfl) (hv : evF σ y = v := by simp only [evF, upd_same, upd_ne, ne_eq, Nat.reduceEqDiff, not_false_eq_true]; rfl) (hd : Nat.blt d n = true := by exact rfl) (h : FL P r n ops Q rest (upd σ d v) w) :
    FL P r n ops Q ({ dst := some d, op := .pick z x y, type := ty, pos := pos, after := after, guard := none } :: rest) σ w := FL_val (Gives.pickF hc hv) hd h
/-- A cell of a block that is owned is read. -/
theorem FL_load {d b o : Nat} {x : Operand} {T : TypeId} [OneCell P T] {cs : List Value} {E : TypeId} {v : Value} (H : Sep w₀ S rs w) (hx : evF σ x = .pointer (some ⟨b, o, none⟩) := by exact rfl)
    (hat : At rs (blk b cs E) put := by first | exact At0 | exact At1 | exact At2 | exact At3 | exact At4 | exact At5 | exact At6 | exact At7 | exact At8 | exact At9) (hv : cs[o]? = some v := by exact rfl) (hd : Nat.blt d n = true := by exact rfl) (h : FL P r n ops Q rest (upd σ d v) w) :
    FL P r n ops Q ({ dst := some d, op := .load T x, type := ty, pos := pos, after := after, guard := none } :: rest) σ w := FL_val (Gives.load1 hx (H.obj hat) hv) hd h
/-- Several cells of a block that is owned are read as one value. -/
theorem FL_loadN {d b o k : Nat} {x : Operand} {T : TypeId} [Agg P T k] {cs : List Value} {E : TypeId} {us : List Value} (H : Sep w₀ S rs w) (hx : evF σ x = .pointer (some ⟨b, o, none⟩) := by exact rfl)
    (hat : At rs (blk b cs E) put := by first | exact At0 | exact At1 | exact At2 | exact At3 | exact At4 | exact At5 | exact At6 | exact At7 | exact At8 | exact At9) (hu : (cs.drop o).take k = us) (hk : us.length = k) (hd : Nat.blt d n = true := by exact rfl) (h : FL P r n ops Q rest (upd σ d (.agg us.toArray)) w) :
    FL P r n ops Q ({ dst := some d, op := .load T x, type := ty, pos := pos, after := after, guard := none } :: rest) σ w := FL_val (Gives.loadN hx (H.obj hat) hu hk) hd h
/-- A cell is read, by what is known of it. -/
theorem FL_loadC {d : Nat} {a : Addr} {x : Operand} {T : TypeId} [h1 : OneCell P T] {v : Value} (hc : w.cell? a = some v) (hx : evF σ x = .pointer (some a) := by exact rfl) (hd : Nat.blt d n = true := by exact rfl) (h : FL P r n ops Q rest (upd σ d v) w) :
    FL P r n ops Q ({ dst := some d, op := .load T x, type := ty, pos := pos, after := after, guard := none } :: rest) σ w :=
  FL_val (w' := w) (fun _ _ _ _ => by simp [execOp, hx, Instr.loadAt, Instr.sureAddr, loadVar, h1.agg, hc]) hd h
theorem FL_loadCN {d k : Nat} {a : Addr} {x : Operand} {T : TypeId} [h1 : Agg P T k] {us : List Value} (hc : ∀ j u, us[j]? = some u → w.cell? (a.add j) = some u) (hk : us.length = k) (hx : evF σ x = .pointer (some a) := by exact rfl) (hd : Nat.blt d n = true := by exact rfl) (h : FL P r n ops Q rest (upd σ d (.agg us.toArray)) w) :
    FL P r n ops Q ({ dst := some d, op := .load T x, type := ty, pos := pos, after := after, guard := none } :: rest) σ w :=
  FL_val (w' := w) (fun _ _ _ _ => by have := run_loadCells_list (P := P) w a us hc; rw [hk] at this; simp [execOp, hx, Instr.loadAt, Instr.sureAddr, loadVar, h1.agg, h1.size, this]) hd h
theorem stored_blk {b o : Nat} {cs : List Value} {E : TypeId} {v : Value} (hb : w.heap[b]? = some (.cells cs.toArray E (0, 0))) (_ho : o < cs.length) :
    Kept (fun x => x = b) w (w.setCell ⟨b, o, none⟩ v) ∧ (w.setCell ⟨b, o, none⟩ v).heap[b]? = some (.cells (cs.set o v).toArray E (0, 0)) := by
  refine ⟨⟨rfl, rfl, rfl, by simp [World.setCell], fun k hk hS => Below.heap_setCell w _ v k hS⟩, ?_⟩
  simp only [World.setCell, Array.getElem?_modify, if_true, hb, Option.map_some]
  simp
/-- A cell of a block that is owned is written. -/
theorem FL_store {b o : Nat} {x y : Operand} {T : TypeId} [h1 : OneCell P T] {cs cs' : List Value} {E : TypeId} {v : Value} (H : Sep w₀ S rs w) (hx : evF σ x = .pointer (some ⟨b, o, none⟩) := by exact rfl)
    (hy : evF σ y = v := by simp only [evF, upd_same, upd_ne, ne_eq, Nat.reduceEqDiff, not_false_eq_true]; rfl) (hv : v.oneCell' = true := by exact rfl)
    (hat : At rs (blk b cs E) put := by first | exact At0 | exact At1 | exact At2 | exact At3 | exact At4 | exact At5 | exact At6 | exact At7 | exact At8 | exact At9) (ho : Nat.blt o cs.length = true := by exact rfl)
    (hs : cs.set o v = cs' := by first | (simp only [List.set_cons_zero, List.set_cons_succ]; rfl) | exact rfl) (h : ∀ w', Sep w₀ S (put (blk b cs' E)) w' → FL P r n ops Q rest σ w') :
    FL P r n ops Q ({ dst := none, op := .store T x y, type := ty, pos := pos, after := after, guard := none } :: rest) σ w := by
  have hlt : o < cs.length := Nat.le_of_ble_eq_true ho
  have hb := H.obj hat
  obtain ⟨hk, ho'⟩ := stored_blk (v := v) hb hlt
  refine FL_act (w' := w.setCell ⟨b, o, none⟩ v) (fun _ _ _ _ => ?_) rfl (h _ (by subst hs; exact H.setObj hat hk ho'))
  have hst : (store (⟨b, o, none⟩ : Addr) v).run P w = .ok () (w.setCell ⟨b, o, none⟩ v) := by
    rw [run_store P w _ v _ hv, cell_blk hb, List.getElem?_eq_getElem hlt]
    simp [World.frozen?, hb]
  have hcs : v.cells = #[v] := by cases v <;> first | rfl | cases hv
  simp [execOp, hx, hy, Instr.storeAt, Instr.sureAddr, storeVar, h1.size, hcs, storeCells, hst, Addr.add_zero']
/-- Several cells are written, as one value. -/
theorem FL_storeN {b o k : Nat} {x y : Operand} {T : TypeId} [h1 : Agg P T k] {cs us cs' : List Value} {E : TypeId} (H : Sep w₀ S rs w) (hx : evF σ x = .pointer (some ⟨b, o, none⟩) := by exact rfl)
    (hy : evF σ y = .agg us.toArray := by exact rfl) (hk : us.length = k) (hv : ∀ u ∈ us, u.oneCell' = true)
    (hat : At rs (blk b cs E) put := by first | exact At0 | exact At1 | exact At2 | exact At3 | exact At4 | exact At5 | exact At6 | exact At7 | exact At8 | exact At9) (ho : o + us.length ≤ cs.length)
    (hs : cs.take o ++ us ++ cs.drop (o + us.length) = cs') (h : ∀ w', Sep w₀ S (put (blk b cs' E)) w' → FL P r n ops Q rest σ w') :
    FL P r n ops Q ({ dst := none, op := .store T x y, type := ty, pos := pos, after := after, guard := none } :: rest) σ w := by
  have hb := H.obj hat
  have hst := run_storeCells_at P b o E us 0 cs.toArray w hb (by simpa using ho) hv
  refine FL_act (w' := w.setRow b (cs.take o ++ us ++ cs.drop (o + us.length)).toArray) (fun _ _ _ _ => ?_) rfl (h _ (by
    subst hs
    refine H.setObj hat ⟨rfl, rfl, rfl, by simp, fun j hj hS => ?_⟩ ?_
    · simp only [World.setRow, Array.getElem?_modify]; rw [if_neg (fun e => hS e.symm)]
    · simp only [World.setRow, Array.getElem?_modify, if_true, hb, Option.map_some]))
  simp only [Nat.add_zero] at hst
  simp [execOp, hx, hy, Instr.storeAt, Instr.sureAddr, storeVar, h1.size, Value.cells, hk] 
  simp [hk] at hst
  rw [hst]
  simp
/-- A new variable, zero. -/
theorem FL_alloc {d : Nat} {T : TypeId} {z : Value} [hz : Zero P T z] {cs : List Value} (H : Sep w₀ S rs w) (hcs : z.cells = cs.toArray := by exact rfl) (hd : Nat.blt d n = true := by exact rfl)
    (h : ∀ b w', Sep w₀ S (blk b cs T :: rs) w' → Kept noB w w' → FL P r n ops Q rest (upd σ d (.pointer (some ⟨b, 0, none⟩))) w') :
    FL P r n ops Q ({ dst := some d, op := .alloc T, type := ty, pos := pos, after := after, guard := none } :: rest) σ w :=
  FL_val (w' := w.alloc (.cells cs.toArray T)) (v := .pointer (some ⟨w.heap.size, 0, none⟩)) (fun _ _ _ _ => by simp [execOp, Instr.alloc, hz.run, newVar, newRow, hcs]) hd (h _ _ (H.alloc _) (Kept.alloc _ _))
/-- A new variable with a value. -/
theorem FL_box {d : Nat} {T : TypeId} {x : Operand} {v : Value} {cs : List Value} (H : Sep w₀ S rs w) (hx : evF σ x = v := by simp only [evF, upd_same, upd_ne, ne_eq, Nat.reduceEqDiff, not_false_eq_true]; rfl) (hcs : v.cells = cs.toArray := by exact rfl) (hd : Nat.blt d n = true := by exact rfl)
    (h : ∀ b w', Sep w₀ S (blk b cs T :: rs) w' → Kept noB w w' → FL P r n ops Q rest (upd σ d (.pointer (some ⟨b, 0, none⟩))) w') :
    FL P r n ops Q ({ dst := some d, op := .box T x, type := ty, pos := pos, after := after, guard := none } :: rest) σ w :=
  FL_val (w' := w.alloc (.cells cs.toArray T)) (v := .pointer (some ⟨w.heap.size, 0, none⟩)) (fun _ _ _ _ => by simp [execOp, Instr.box, hx, newVar, newRow, hcs]) hd (h _ _ (H.alloc _) (Kept.alloc _ _))
/-- A new, empty map. -/
theorem FL_makeMap {d : Nat} {T : TypeId} (H : Sep w₀ S rs w) (hd : Nat.blt d n = true := by exact rfl)
    (h : ∀ b w', Sep w₀ S (obj b (.map #[] 0) :: rs) w' → Kept noB w w' → FL P r n ops Q rest (upd σ d (.map (some b))) w') :
    FL P r n ops Q ({ dst := some d, op := .makeMap T none, type := ty, pos := pos, after := after, guard := none } :: rest) σ w :=
  FL_val (w' := w.alloc (.map #[] 0)) (v := .map (some w.heap.size)) (fun _ _ _ _ => by simp [execOp, Instr.makeMap]) hd (h _ _ (H.alloc _) (Kept.alloc _ _))
/-- A call that looks alone. -/
theorem FL_callQ {d : Nat} {f : FuncId} {xs : List Operand} {ats : Array TypeId} {vals : List Value} {v : Value} [he : Enters P f] (H : Sep w₀ S rs w) (hc : Rets P f vals w fun v' w' => v' = v ∧ Kept noB w w') (hv : xs.map (evF σ) = vals := by exact rfl) (hd : Nat.blt d n = true := by exact rfl)
    (h : ∀ w', Sep w₀ S rs w' → Kept noB w w' → FL P r n ops Q rest (upd σ d v) w') :
    FL P r n ops Q ({ dst := some d, op := .call { callee := .value (.func f), args := xs.toArray, argTypes := ats }, type := ty, pos := pos, after := after, guard := none } :: rest) σ w :=
  FL_call hc hv hd fun v' w' ⟨e, hk⟩ => by subst e; exact h w' (H.keep hk) hk
/-- append onto a row that is owned. -/
theorem FL_append {d : Nat} {x y : Operand} {t e : TypeId} [hs : IsSlice P t e] {size bytes : Nat} [hc : Cells P e size bytes] {z : Value} [hz : Zero P e z] {v : Value} {k m c : Nat} {xs news : List Value} {A : Option Addr}
    (H : Sep w₀ S rs w) (hx : evF σ x = v) (hy : evF σ y = .slice A m c) (hat : At rs (rowH e size v k xs) put) (hr : RowAt w A m size news) (h1 : ∀ u ∈ news, u.oneCell' = true)
    (hsz : 0 < size := by decide) (hzs : z.cells.size = size := by exact rfl) (h63 : k + m ≤ maxLen) (hbytes : (k + m) * bytes ≤ 140737488355328) (hd : Nat.blt d n = true := by exact rfl)
    (h : ∀ v' w', Sep w₀ S (put (rowH e size v' (k + m) (xs ++ news))) w' → FL P r n ops Q rest (upd σ d v') w') :
    FL P r n ops Q ({ dst := some d, op := .call { callee := .builtin .append, args := #[x, y], argTypes := #[t, t] }, type := ty, pos := pos, after := after, guard := none } :: rest) σ w := by
  obtain ⟨F, hp, _, _⟩ := H.focus hat
  obtain ⟨v', w', hrun, hown, hg, hb⟩ := run_append (P := P) (ty := ty) t e hsz hzs v k xs hp.1 A m c news hr h1 h63 hbytes
  refine FL_val (v := v') (w' := w') (fun _ _ _ _ => ?_) hd (h v' w' (H.rowTurn hat hg hown (by rcases hb with e | e <;> simp [e])))
  simp only [execOp, resolve, invoke, builtin, Sem.run_bind, Sem.run_pure, Result.andThen_ok, List.map_toArray, List.map_cons, List.map_nil, hx, hy, hrun]
end rules

section gives
variable {P : Program} {ρ : Operand → Value} {ty : TypeId} {w w' : World} {x y z : Operand}
theorem Gives.lenSlice {t e : TypeId} [h : IsSlice P t e] {A : Option Addr} {m c : Nat} (hx : ρ x = .slice A m c) : Gives P ρ (.call { callee := .builtin .len, args := #[x], argTypes := #[t] }) ty w (.int .i64 m) w := fun _ _ _ _ => by
  simp [execOp, resolve, invoke, builtin, hx, Builtin.len_, run_underlying h.und, goInt]
theorem Gives.lenStr {t : TypeId} [h : IsStr P t] {s : ByteArray} (hx : ρ x = .string s) : Gives P ρ (.call { callee := .builtin .len, args := #[x], argTypes := #[t] }) ty w (.int .i64 s.size) w := fun _ _ _ _ => by
  simp [execOp, resolve, invoke, builtin, hx, Builtin.len_, run_underlying h.und, goInt]
theorem Gives.min {k : IntKind} {a b : Int} {ts : Array TypeId} (hx : ρ x = .int k a) (hy : ρ y = .int k b) : Gives P ρ (.call { callee := .builtin .min, args := #[x, y], argTypes := ts }) ty w (.int k (min a b)) w := fun _ _ _ _ => by
  have := run_min_int2 (P := P) w ts ty k k a b
  simp only [execOp, resolve, invoke, builtin, Sem.run_bind, Sem.run_pure, Result.andThen_ok, List.map_toArray, List.map_cons, List.map_nil, hx, hy, this]
  rw [Int.min_def]
  split <;> split <;> first | rfl | (congr 3; omega)
theorem Gives.max {k : IntKind} {a b : Int} {ts : Array TypeId} (hx : ρ x = .int k a) (hy : ρ y = .int k b) : Gives P ρ (.call { callee := .builtin .max, args := #[x, y], argTypes := ts }) ty w (.int k (max a b)) w := fun _ _ _ _ => by
  have := run_max_int2 (P := P) w ts ty k k a b
  simp only [execOp, resolve, invoke, builtin, Sem.run_bind, Sem.run_pure, Result.andThen_ok, List.map_toArray, List.map_cons, List.map_nil, hx, hy, this]
  rw [Int.max_def]
  split <;> split <;> first | rfl | (congr 3; omega)
/-- x[:h]. -/
theorem Gives.sliceTo {t e : TypeId} [ht : IsSlice P t e] {size bytes : Nat} [hc : Cells P e size bytes] {A : Option Addr} {m c h : Nat} {k : IntKind} (hx : ρ x = .slice A m c) (hy : ρ y = .int k h) (hle : h ≤ c) : Gives P ρ (.slice t x none (some y) none) ty w (.slice A h c) w := fun _ _ _ _ => by
  obtain ⟨i, hi, hsb⟩ := Option.map_eq_some_iff.1 hc.size
  have e1 : (0 : Int) ≤ (h : Int) ∧ (h : Int) ≤ (c : Int) := by omega
  have e2 : A.map (fun x : Addr => x.add 0) = A := by cases A <;> simp [Addr.add_zero']
  simp [execOp, hx, hy, Instr.sliceAt, run_underlying ht.und, Instr.slice, Instr.sliceBounds, Instr.sliceBound, asIntOf, e1, sizeOf, typeInfo, hi, e2]
  omega
/-- x[l:]. -/
theorem Gives.sliceFrom {t e : TypeId} [ht : IsSlice P t e] {size bytes : Nat} [hc : Cells P e size bytes] {A : Option Addr} {m c l : Nat} {k : IntKind} (hx : ρ x = .slice A m c) (hy : ρ y = .int k l) (hle : l ≤ m) : Gives P ρ (.slice t x (some y) none none) ty w (.slice (if c = l then A else A.map (·.add (l * size))) (m - l) (c - l)) w := fun _ _ _ _ => by
  obtain ⟨i, hi, hsb⟩ := Option.map_eq_some_iff.1 hc.size
  simp only [Prod.mk.injEq] at hsb
  have e1 : (0 : Int) ≤ (l : Int) ∧ (l : Int) ≤ (m : Int) := by omega
  simp [execOp, hx, hy, Instr.sliceAt, run_underlying ht.und, Instr.slice, Instr.sliceBounds, Instr.sliceBound, asIntOf, e1, sizeOf, typeInfo, hi, hsb.1]
  omega
/-- x[l:h]. -/
theorem Gives.sliceBoth {t e : TypeId} [ht : IsSlice P t e] {size bytes : Nat} [hc : Cells P e size bytes] {A : Option Addr} {m c l h : Nat} {k j : IntKind} (hx : ρ x = .slice A m c) (hy : ρ y = .int k l) (hz : ρ z = .int j h) (hle : l ≤ h) (hle2 : h ≤ c) : Gives P ρ (.slice t x (some y) (some z) none) ty w (.slice (if c = l then A else A.map (·.add (l * size))) (h - l) (c - l)) w := fun _ _ _ _ => by
  obtain ⟨i, hi, hsb⟩ := Option.map_eq_some_iff.1 hc.size
  simp only [Prod.mk.injEq] at hsb
  have e1 : (0 : Int) ≤ (l : Int) ∧ (l : Int) ≤ (h : Int) := by omega
  have e2 : (0 : Int) ≤ (h : Int) ∧ (h : Int) ≤ (c : Int) := by omega
  simp [execOp, hx, hy, hz, Instr.sliceAt, run_underlying ht.und, Instr.slice, Instr.sliceBounds, Instr.sliceBound, asIntOf, e1, e2, sizeOf, typeInfo, hi, hsb.1, hle, hle2]
/-- All of an array. -/
theorem Gives.sliceArr {t e m : TypeId} [ht : IsArray P t m e] {size bytes : Nat} [hc : Cells P e size bytes] {a : Addr} (hx : ρ x = .pointer (some a)) : Gives P ρ (.slice t x none none none) ty w (.slice (some a) m m) w := fun _ _ _ _ => by
  obtain ⟨i, hi, hsb⟩ := Option.map_eq_some_iff.1 hc.size
  simp [execOp, hx, Instr.sliceAt, run_underlying ht.und, Instr.sliceBounds, Instr.sureAddr, sizeOf, typeInfo, hi]
  intro _; simp [Addr.add_zero']
/-- An element's address. -/
theorem Gives.idx {t e : TypeId} [ht : IsSlice P t e] {size bytes : Nat} [hc : Cells P e size bytes] {ad : Addr} {m c i : Nat} {k : IntKind} (hx : ρ x = .slice (some ad) m c) (hy : ρ y = .int k i) (hlt : i < m) : Gives P ρ (.indexAddr t x y) ty w (.pointer (some (ad.add (i * size)))) w := fun _ _ _ _ => by
  obtain ⟨j, hj, hsb⟩ := Option.map_eq_some_iff.1 hc.size
  simp only [Prod.mk.injEq] at hsb
  have e1 : (0 : Int) ≤ (i : Int) ∧ (i : Int) < (m : Int) := by omega
  simp [execOp, hx, hy, Instr.indexAt, run_underlying ht.und, asIntOf, e1, sizeOf, typeInfo, hj, hsb.1, hlt]
theorem Gives.idxArr {t e m : TypeId} [ht : IsArray P t m e] {size bytes : Nat} [hc : Cells P e size bytes] {ad : Addr} {i : Nat} {k : IntKind} (hx : ρ x = .pointer (some ad)) (hy : ρ y = .int k i) (hlt : i < m) : Gives P ρ (.indexAddr t x y) ty w (.pointer (some (ad.add (i * size)))) w := fun _ _ _ _ => by
  obtain ⟨j, hj, hsb⟩ := Option.map_eq_some_iff.1 hc.size
  simp only [Prod.mk.injEq] at hsb
  have e1 : (0 : Int) ≤ (i : Int) ∧ (i : Int) < (m : Int) := by omega
  simp [execOp, hx, hy, Instr.indexAt, run_underlying ht.und, asIntOf, Instr.sureAddr, e1, sizeOf, typeInfo, hj, hsb.1, hlt]
end gives
end Go.Mw
