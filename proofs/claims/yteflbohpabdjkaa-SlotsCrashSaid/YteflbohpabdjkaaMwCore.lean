/-
  A calculus for walking loaded code with frames as functions from slots to values. Nothing of a given program stands here.
-/
import Derived.WalkKit
import Derived.Orders
import Derived.Still
import Derived.TacticsIn
import Derived.OrdersIn
import Derived.RangeFuncCalls
import Derived.RangeFuncLeaves
import Derived.RangeFuncRecord
namespace Go.Mw
open Go.RowKit

/-- A frame: what each slot holds; the calls put off. -/
structure St where
  get : Nat → Value
  ds : List Deferred
instance : CoeFun St (fun _ => Nat → Value) := ⟨St.get⟩
theorem St.eq_of {σ τ : St} (h : ∀ x, σ x = τ x) (hd : σ.ds = τ.ds) : σ = τ := by
  cases σ; cases τ; simp only at hd; subst hd; congr 1; exact funext h
def upd (σ : St) (d : Nat) (v : Value) : St := { get := fun x => bif Nat.beq x d then v else σ x, ds := σ.ds }
theorem upd_same (σ : St) (d : Nat) (v : Value) : (upd σ d v).get d = v := by simp [upd]
theorem upd_ne (σ : St) (d : Nat) (v : Value) (x : Nat) (h : x ≠ d) : (upd σ d v).get x = σ.get x := by
  have : Nat.beq x d = false := by
    cases hb : Nat.beq x d
    · rfl
    · exact absurd (Nat.eq_of_beq_eq_true hb) h
  simp [upd, this]
theorem upd_ds (σ : St) (d : Nat) (v : Value) : (upd σ d v).ds = σ.ds := rfl
def updO (σ : St) : Option Nat → Value → St
  | some d, v => upd σ d v
  | none, _ => σ
theorem updO_ds (σ : St) (o : Option Nat) (v : Value) : (updO σ o v).ds = σ.ds := by cases o <;> rfl
def und : St := ⟨fun _ => undef, []⟩
/-- What an operand is worth. -/
def evF (σ : St) : Operand → Value
  | .tmp t => σ t
  | .const v => v
  | .global g => .pointer (some ⟨g, 0, none⟩)
  | .func f => .func (.func f) #[] #[]

structure Rep (n : Nat) (σ : St) (a : Act) : Prop where
  size : a.tmps.size = n
  defers : a.defers = σ.ds
  get : ∀ i, a.tmps.getD i undef = σ i

section
variable {n : Nat} {σ : St} {a : Act}
theorem Rep.eval (h : Rep n σ a) : a.eval = evF σ := by
  funext x
  cases x with
  | tmp t => exact h.get t
  | _ => rfl
theorem Rep.put (h : Rep n σ a) {d : Nat} (hd : d < n) (v : Value) : Rep n (upd σ d v) (a.put (some d) v) := by
  refine ⟨by simpa [Act.put] using h.size, h.defers, fun i => ?_⟩
  by_cases hi : i = d
  · subst hi
    have : i < a.tmps.size := by rw [h.size]; exact hd
    simp [Act.put, upd_same, Array.getD_eq_getD_getElem?, this]
  · rw [upd_ne _ _ _ _ hi, ← h.get i]
    simp [Act.put, Array.getD_eq_getD_getElem?, Array.getElem?_setIfInBounds_ne (Ne.symm hi)]
def okDst (n : Nat) : Option Nat → Bool
  | some d => Nat.blt d n
  | none => true
theorem Rep.putO (h : Rep n σ a) {d : Option Nat} (hd : okDst n d = true) (v : Value) : Rep n (updO σ d v) (a.put d v) := by
  cases d with
  | none => exact h
  | some d => exact h.put (Nat.le_of_ble_eq_true hd) v
end

/-- Is an operation carried out, by its guard, in a frame? -/
def yieldF (ops : Array Oper) (σ : St) (j : Nat) : Option Bool :=
  match (ops[j]?).bind (·.dst) with
  | some d => (match σ d with | .bool b => some b | _ => none)
  | none => none
theorem Rep.yielded {n : Nat} {σ : St} {a : Act} (h : Rep n σ a) (ops : Array Oper) (hd : ∀ (j : Nat) (d : Nat), (ops[j]?).bind (fun o : Oper => o.dst) = some d → d < n) : Go.yielded ops a.tmps = yieldF ops σ := by
  funext j
  unfold Go.yielded yieldF
  cases hj : (ops[j]?).bind (·.dst) with
  | none => rfl
  | some d =>
    have hlt : d < a.tmps.size := by rw [h.size]; exact hd j d hj
    have hg := h.get d
    have : a.tmps[d]? = some (σ d) := by
      rw [Array.getElem?_eq_getElem hlt, ← hg]
      simp [Array.getD_eq_getD_getElem?, hlt]
    simp only [Option.bind_some, this]
    split <;> rename_i hq <;> first | (injection hq with hq; rw [hq]) | (split <;> first | rfl | (rename_i hq2; exact absurd (by rw [hq2]) (hq _)))
theorem Rep.yielded_at {n : Nat} {σ : St} {a : Act} (h : Rep n σ a) (ops : Array Oper) {j : Nat} {d : Nat} (hj : (ops[j]?).bind (fun o : Oper => o.dst) = some d) {b : Bool} (hb : σ d = .bool b) : Go.yielded ops a.tmps j = some b := by
  unfold Go.yielded
  have hg := h.get d
  rw [hb] at hg
  have : a.tmps[d]? = some (.bool b) := by
    cases hq : a.tmps[d]? with
    | none => simp [Array.getD_eq_getD_getElem?, hq, undef] at hg
    | some v => simp [Array.getD_eq_getD_getElem?, hq] at hg; rw [hg]
  simp only [hj, Option.bind_some, this]

/-- What is asked behind a piece of code. -/
abbrev Post := Exit → St → World → Prop
def lift (n : Nat) (Q : Post) : Exit → Act → World → Prop := fun e a w => ∃ σ, Rep n σ a ∧ Q e σ w

/-- The fence that shuts out nothing; r: the loop over a function whose round this is, if it is one. -/
def fen (r : Option Nat) : Fence := { fn := fun _ => True, depth := none, alive := false, round := r }
theorem fen_room (r : Option Nat) (k : Nat) : (fen r).room k := fun _ h => by cases h
theorem fen_calls {P : Program} {f : FuncId} {args : Array Value} {w : World} {R : Ending → World → Prop} (r : Option Nat) (h : Calls P f args w R) : CallsIn (fen r) 0 P f args w R := callsIn_wide.2 h
/-- The code, begun in a frame and a world, ends as Q says. -/
def FW (P : Program) (r : Option Nat) (n : Nat) (c : Code) (Q : Post) (σ : St) (w : World) : Prop := ∀ a, Rep n σ a → c.wpIn (fen r) 0 P (lift n Q) a w
/-- The operations still to be carried out of a region. -/
def FL (P : Program) (r : Option Nat) (n : Nat) (ops : Array Oper) (Q : Post) (rest : List Oper) (σ : St) (w : World) : Prop := ∀ a, Rep n σ a → wpListIn (fen r) 0 P ops (lift n Q) rest a w

/-- Behind the first part of two. -/
def Qseq (P : Program) (r : Option Nat) (n : Nat) (b : Code) (Q : Post) : Post := fun e σ w => match e with
  | .normal => FW P r n b Q σ w
  | e => Q e σ w
def Qblk (id : Nat) (Q : Post) : Post := fun e σ w => match e with
  | .exit id' => if id' = id then Q .normal σ w else Q (.exit id') σ w
  | e => Q e σ w

section
variable {P : Program} {r : Option Nat} {n : Nat} {Q : Post} {σ : St} {w : World}
theorem FW.mono {c : Code} {Q' : Post} (h : FW P r n c Q σ w) (hq : ∀ e σ w, Q e σ w → Q' e σ w) : FW P r n c Q' σ w :=
  fun a ha => Go.wpIn_mono (h a ha) fun _ _ _ ⟨s, hs, hQ⟩ => ⟨s, hs, hq _ _ _ hQ⟩
theorem Qseq_normal {b : Code} (h : FW P r n b Q σ w) : Qseq P r n b Q .normal σ w := h
theorem Qseq_ret {b : Code} (h : Q .ret σ w) : Qseq P r n b Q .ret σ w := h
theorem Qseq_exit {b : Code} {id : Nat} (h : Q (.exit id) σ w) : Qseq P r n b Q (.exit id) σ w := h
theorem Qblk_normal {id : Nat} (h : Q .normal σ w) : Qblk id Q .normal σ w := h
theorem Qblk_ret {id : Nat} (h : Q .ret σ w) : Qblk id Q .ret σ w := h
theorem Qblk_exit {id : Nat} (h : Q .normal σ w) : Qblk id Q (.exit id) σ w := by simp only [Qblk, if_true]; exact h
theorem Qblk_exit_ne {id id' : Nat} (hne : Nat.beq id' id = false) (h : Q (.exit id') σ w) : Qblk id Q (.exit id') σ w := by
  have : id' ≠ id := fun e => by subst e; simp at hne
  simp only [Qblk, if_neg this]; exact h

theorem FW_seq {x y : Code} (h : FW P r n x (Qseq P r n y Q) σ w) : FW P r n (.seq x y) Q σ w := fun a ha =>
  wpIn_seq (Go.wpIn_mono (h a ha) fun e _ _ ⟨s, hs, hQ⟩ => by
    cases e <;> first | exact hQ _ hs | exact ⟨s, hs, hQ⟩)
theorem FW_skip (h : Q .normal σ w) : FW P r n .skip Q σ w := fun _ ha => wpIn_skip ⟨σ, ha, h⟩
theorem FW_label {l : Nat} (h : Q .normal σ w) : FW P r n (.label l) Q σ w := fun _ ha => wpIn_label ⟨σ, ha, h⟩
theorem FW_ret (h : Q .ret σ w) : FW P r n .ret Q σ w := fun _ ha => wpIn_ret ⟨σ, ha, h⟩
theorem FW_exit {id : Nat} (h : Q (.exit id) σ w) : FW P r n (.exit id) Q σ w := fun _ ha => wpIn_exit ⟨σ, ha, h⟩
theorem FW_block {id : Nat} {c : Code} (h : FW P r n c (Qblk id Q) σ w) : FW P r n (.block id c) Q σ w := fun a ha =>
  wpIn_block (Go.wpIn_mono (h a ha) fun e a' w' ⟨s, hs, hQ⟩ => by
    cases e with
    | exit id' =>
      by_cases hid : id' = id
      · subst hid; simp only [Qblk, if_true] at hQ; simp only [Exit.inBlock, if_true]; exact ⟨s, hs, hQ⟩
      · simp only [Qblk, if_neg hid] at hQ; simp only [Exit.inBlock, if_neg hid]; exact ⟨s, hs, hQ⟩
    | _ => exact ⟨s, hs, hQ⟩)
theorem FW_cond {c : Operand} {x y : Code} {t : Bool} (hc : evF σ c = .bool t) (ht : t = true → FW P r n x Q σ w) (hf : t = false → FW P r n y Q σ w) : FW P r n (.cond c x y) Q σ w := fun a ha =>
  wpIn_cond_split (by rw [ha.eval]; exact hc) (fun h => ht h a ha) (fun h => hf h a ha)
theorem FW_cond_true {c : Operand} {x y : Code} (hc : evF σ c = .bool true) (h : FW P r n x Q σ w) : FW P r n (.cond c x y) Q σ w := FW_cond hc (fun _ => h) (fun h => by cases h)
theorem FW_cond_false {c : Operand} {x y : Code} (hc : evF σ c = .bool false) (h : FW P r n y Q σ w) : FW P r n (.cond c x y) Q σ w := FW_cond hc (fun h => by cases h) (fun _ => h)
theorem FW_region {id : Nat} {l : List Oper} (h : FL P r n l.toArray Q l σ w) : FW P r n (.region id l.toArray false) Q σ w := fun a ha => wpIn_region_lit (h a ha)

/-- A list of slots and what they hold, laid into a frame. -/
def upds (σ : St) : List (Nat × Value) → St
  | [] => σ
  | (d, v) :: l => upd (upds σ l) d v
def holds (σ : St) : List (Nat × Value) → Prop
  | [] => True
  | (d, v) :: l => σ d = v ∧ holds σ l
theorem upd_self (σ : St) (d : Nat) : upd σ d (σ d) = σ := by
  refine St.eq_of (fun x => ?_) rfl
  by_cases h : x = d
  · subst h; simp [upd_same]
  · simp [upd_ne _ _ _ _ h]
theorem upds_of_holds {σ : St} : ∀ {l : List (Nat × Value)}, holds σ l → upds σ l = σ
  | [], _ => rfl
  | (d, v) :: l, ⟨h, hl⟩ => by
    show upd (upds σ l) d v = σ
    rw [upds_of_holds hl, ← h, upd_self]

/-- Any frame whose calls put off are those of another. -/
def like (σ τ : St) : St := ⟨τ.get, σ.ds⟩
theorem und_ds : und.ds = [] := rfl
theorem like_self {σ τ : St} (h : τ.ds = σ.ds) : like σ τ = τ := St.eq_of (fun _ => rfl) h.symm
/-- A loop: at its head the slots of l x hold what it says, in a world of which I x holds; each round lowers the measure or leaves. -/
theorem FW_loop {X : Type} {c : Code} (l : X → List (Nat × Value)) (I : X → World → Prop) (m : X → World → Nat) (x₀ : X) (h₀ : holds σ (l x₀)) (hI : I x₀ w)
    (round : ∀ x τ w, I x w → FW P r n c (fun e σ' w' => match e with | .normal => σ'.ds = σ.ds ∧ ∃ x', holds σ' (l x') ∧ I x' w' ∧ m x' w' < m x w | e => Q e σ' w') (upds (like σ τ) (l x)) w) : FW P r n (.loop c) Q σ w := by
  intro a ha b kk cs hro hb hr
  have key : ∀ k a w, (∃ x σ', Rep n σ' a ∧ σ'.ds = σ.ds ∧ holds σ' (l x) ∧ I x w ∧ m x w = k) →
      ∃ e a' w', lift n Q e a' w' ∧ ArrivesIn (Machine.fenced P (fen r)) P (lone (b.atR a (.code c :: .inLoop c :: kk)) cs w) b kk cs e a' w' := by
    intro k
    induction k using Nat.strongRecOn with
    | _ k ih =>
      rintro a w ⟨x, σ', hrp, hds, hh, hi, hm⟩
      have hround := round x σ' w hi
      rw [like_self hds, upds_of_holds hh] at hround
      obtain ⟨e, a₁, w₁, ⟨s, hs, hq⟩, harr⟩ := hround a hrp b (.inLoop c :: kk) cs hro hb hr
      cases e with
      | normal =>
        obtain ⟨hds', x', hx', hi', hlt⟩ := hq
        obtain ⟨e₂, a₂, w₂, hq₂, harr₂⟩ := ih _ (by omega) a₁ w₁ ⟨x', s, hs, hds', hx', hi', rfl⟩
        exact ⟨e₂, a₂, w₂, hq₂, .of_steps (StepsIn.trans harr (.one (fenced_calm hb hr rfl) stepR_inLoop)) harr₂⟩
      | exit id => exact ⟨_, a₁, w₁, ⟨s, hs, hq⟩, .pass (x := .inLoop c) rfl (fun _ _ => .inl (by simp)) harr⟩
      | goto g => exact ⟨_, a₁, w₁, ⟨s, hs, hq⟩, .pass (x := .inLoop c) rfl (fun _ _ => .inl (by simp)) harr⟩
      | ret => exact ⟨_, a₁, w₁, ⟨s, hs, hq⟩, .pass (x := .inLoop c) rfl (fun _ _ => .inl (by simp)) harr⟩
      | panic chain => exact ⟨_, a₁, w₁, ⟨s, hs, hq⟩, .pass (x := .inLoop c) rfl (fun _ _ => .inl (by simp)) harr⟩
      | outgrown => exact ⟨_, a₁, w₁, ⟨s, hs, hq⟩, .pass (x := .inLoop c) rfl (fun _ _ => .inl (by simp)) harr⟩
  obtain ⟨e, a', w', hq, harr⟩ := key _ a w ⟨x₀, σ, ha, rfl, h₀, hI, rfl⟩
  exact ⟨e, a', w', hq, .of_steps (.one (fenced_calm hb hr rfl) stepR_loop) harr⟩
/-- What a loop's round ends in. -/
def Qround {X : Type} (ds : List Deferred) (l : X → List (Nat × Value)) (I : X → World → Prop) (m : X → World → Nat) (x : X) (w : World) (Q : Post) : Post :=
  fun e σ' w' => match e with | .normal => σ'.ds = ds ∧ ∃ x', holds σ' (l x') ∧ I x' w' ∧ m x' w' < m x w | e => Q e σ' w'
theorem FW_loop' {X : Type} {c : Code} (l : X → List (Nat × Value)) (I : X → World → Prop) (m : X → World → Nat) (x₀ : X) (h₀ : holds σ (l x₀)) (hI : I x₀ w)
    (round : ∀ x τ w, I x w → FW P r n c (Qround σ.ds l I m x w Q) (upds (like σ τ) (l x)) w) : FW P r n (.loop c) Q σ w := FW_loop l I m x₀ h₀ hI round
section
variable {X : Type} {ds : List Deferred} {l : X → List (Nat × Value)} {I : X → World → Prop} {m : X → World → Nat} {x : X} {w₀ : World}
theorem Qround_normal (x' : X) (h : holds σ (l x')) (hI : I x' w) (hm : m x' w < m x w₀) (hd : σ.ds = ds := by exact rfl) : Qround ds l I m x w₀ Q .normal σ w := ⟨hd, x', h, hI, hm⟩
theorem Qround_ret (h : Q .ret σ w) : Qround ds l I m x w₀ Q .ret σ w := h
theorem Qround_exit {id : Nat} (h : Q (.exit id) σ w) : Qround ds l I m x w₀ Q (.exit id) σ w := h
end
/-- A cut: the ways through the first part meet again in what l x says. -/
def Qcut {X : Type} (ds : List Deferred) (l : X → List (Nat × Value)) (I : X → World → Prop) (Q : Post) : Post :=
  fun e σ' w' => match e with | .normal => σ'.ds = ds ∧ ∃ x', holds σ' (l x') ∧ I x' w' | e => Q e σ' w'
theorem Qcut_normal {X : Type} {ds : List Deferred} {l : X → List (Nat × Value)} {I : X → World → Prop} (x' : X) (h : holds σ (l x')) (hI : I x' w) (hd : σ.ds = ds := by exact rfl) : Qcut ds l I Q .normal σ w := ⟨hd, x', h, hI⟩
theorem Qcut_ret {X : Type} {ds : List Deferred} {l : X → List (Nat × Value)} {I : X → World → Prop} (h : Q .ret σ w) : Qcut ds l I Q .ret σ w := h
theorem Qcut_exit {X : Type} {ds : List Deferred} {l : X → List (Nat × Value)} {I : X → World → Prop} {id : Nat} (h : Q (.exit id) σ w) : Qcut ds l I Q (.exit id) σ w := h
theorem FW_cut {X : Type} {x y : Code} (l : X → List (Nat × Value)) (I : X → World → Prop) (h : FW P r n x (Qcut σ.ds l I Q) σ w)
    (h' : ∀ z τ w, I z w → FW P r n y Q (upds (like σ τ) (l z)) w) : FW P r n (.seq x y) Q σ w := by
  refine FW_seq (h.mono fun e s w hq => ?_)
  cases e with
  | normal => obtain ⟨hd, z, hh, hI⟩ := hq; have := h' z s w hI; rw [like_self hd, upds_of_holds hh] at this; exact this
  | _ => exact hq
end

/-- A function's results, off the frame. -/
def resVal (σ : St) : List ResultVar → Option (List Value)
  | [] => some []
  | .tmp t :: l => (resVal σ l).map (σ t :: ·)
  | _ :: _ => none
def resPack : List Value → Value
  | [v] => v
  | vs => .tuple vs.toArray
theorem mapM_results {P : Program} {w : World} {σ : St} (g : ResultVar → Sem Value) (hg : ∀ t, g (.tmp t) = pure (σ t)) : ∀ (l : List ResultVar) (vs : List Value), resVal σ l = some vs →
    (List.mapM g l).run P w = .ok vs w := by
  intro l
  induction l with
  | nil => intro vs h; simp [resVal] at h; subst h; rfl
  | cons r l ih =>
    intro vs h
    cases r with
    | cell a t => simp [resVal] at h
    | tmp t =>
      simp only [resVal, Option.map_eq_some_iff] at h
      obtain ⟨us, hu, rfl⟩ := h
      rw [List.mapM_cons, hg]
      simp [ih us hu]
theorem run_results {P : Program} {w : World} {fn : Func} {tmps : Array Value} {σ : St} (hσ : ∀ i, tmps.getD i undef = σ i) {l : List ResultVar} (hl : fn.results = l.toArray) {vs : List Value} (h : resVal σ l = some vs) :
    (results fn tmps).run P w = .ok (resPack vs) w := by
  unfold results
  rw [hl, List.mapM_toArray]
  have := mapM_results (P := P) (w := w) (σ := σ) (fun
    | .tmp t => pure (tmps.getD t undef)
    | .cell a t => do loadVar t (← asAddr (tmps.getD a undef))) (fun t => by simp [hσ]) l vs h
  rw [Sem.run_bind, Sem.run_map]
  refine (congrArg (fun r => (Result.andThen r _).andThen _) this).trans ?_
  simp only [Result.andThen_ok]
  match vs with
  | [] => simp [resPack]
  | [v] => simp [resPack]
  | u :: v :: us => simp [resPack]

/-- How a call may end: it returns, and this holds of what it returns and of the world. -/
def Ret (R : Value → World → Prop) : Ending → World → Prop := fun e w => match e with
  | .returned v => R v w
  | _ => False
/-- The call returns, and so. -/
def Rets (P : Program) (f : FuncId) (args : List Value) (w : World) (R : Value → World → Prop) : Prop := Calls P f args.toArray w (Ret R)
theorem Rets.mono {P : Program} {f : FuncId} {args : List Value} {w : World} {R R' : Value → World → Prop} (h : Rets P f args w R) (hr : ∀ v w', R v w' → R' v w') : Rets P f args w R' :=
  Calls.mono h fun e w' he => by cases e <;> first | exact hr _ _ he | exact he

/-- The marks of ranges over functions among the calls put off are taken up; then so. -/
def Goes : List Deferred → World → (World → Prop) → Prop
  | [], w, R => R w
  | d :: ds, w, R => ∃ D, d.target = .collected D ∧ w.heap[D]? = some (.deferred (some [])) ∧ Goes ds { w with heap := w.heap.setIfInBounds D (.deferred none) } R
def Qfn (l : List ResultVar) (R : Value → World → Prop) : Post := fun e σ w => match e with
  | .normal | .ret => ∃ vs, resVal σ l = some vs ∧ Goes σ.ds w (R (resPack vs))
  | _ => False
theorem Qfn_ret {l : List ResultVar} {R : Value → World → Prop} {σ : St} {w : World} {vs : List Value} (h : resVal σ l = some vs := by simp only [resVal, Option.map_some, upd_same, upd_ne, ne_eq, Nat.reduceEqDiff, not_false_eq_true]; rfl) (hR : R (resPack vs) w) (hd : σ.ds = [] := by exact rfl) : Qfn l R .ret σ w := ⟨vs, h, by rw [hd]; exact hR⟩
theorem Qfn_normal {l : List ResultVar} {R : Value → World → Prop} {σ : St} {w : World} {vs : List Value} (h : resVal σ l = some vs := by simp only [resVal, Option.map_some, upd_same, upd_ne, ne_eq, Nat.reduceEqDiff, not_false_eq_true]; rfl) (hR : R (resPack vs) w) (hd : σ.ds = [] := by exact rfl) : Qfn l R .normal σ w := ⟨vs, h, by rw [hd]; exact hR⟩
theorem leaves_of_goes {P : Program} {fn : Func} {tmps : Array Value} {R : Ending → World → Prop} {v : Value} (hr : ∀ w, (results fn tmps).run P w = .ok v w) : ∀ (ds : List Deferred) (w : World), Goes ds w (fun w' => R (.returned v) w') → LeavesInM (fen none) 0 P fn tmps R ds .returning w
  | [], w, h => ⟨v, hr w, h⟩
  | d :: ds, w, ⟨D, ht, hh, hg⟩ => ⟨(fun e => by cases e), .inl ⟨D, _, ht, run_takeDeferred hh, leaves_of_goes hr ds _ hg⟩⟩

def args0 : Nat → List Value → St
  | _, [] => und
  | k, v :: l => upd (args0 (k + 1) l) k v
theorem args0_ds : ∀ (l : List Value) (k : Nat), (args0 k l).ds = []
  | [], _ => rfl
  | _ :: l, k => args0_ds l (k + 1)
theorem args0_get : ∀ (l : List Value) (k i : Nat), args0 k l i = if k ≤ i then l.toArray.getD (i - k) undef else undef
  | [], k, i => by simp [args0, und]
  | v :: l, k, i => by
    have ih := args0_get l (k + 1) i
    show upd (args0 (k + 1) l) k v i = _
    by_cases h : i = k
    · subst h; simp [upd_same]
    · rw [upd_ne _ _ _ _ h, ih]
      by_cases hk : k ≤ i
      · rw [if_pos hk, if_pos (by omega)]
        have : i - k = (i - (k + 1)) + 1 := by omega
        rw [this]
        simp [Array.getD_eq_getD_getElem?]
      · rw [if_neg hk, if_neg (by omega)]
/-- A function's contract off its body's walk. -/
theorem rets_of_FW {P : Program} {f : FuncId} {fn : Func} {c : Code} {args : List Value} {w : World} {R : Value → World → Prop} {n : Nat} {l : List ResultVar}
    (hf : P.funcs[f]? = some fn) (hb : fn.body = some c) (hn : fn.ntmps = n) (hl : fn.results = l.toArray) (hargs : Nat.ble args.length n = true)
    (h : FW P none n c (Qfn l R) (args0 0 args) w) : Rets P f args w R := by
  have hle : args.length ≤ n := Nat.le_of_ble_eq_true hargs
  refine (callsIn_wide (n := 0)).1 (callsIn_of_wp_marks (F := fen none) hf hb trivial (Go.wpIn_mono (h _ ⟨?_, (args0_ds args 0).symm, fun i => ?_⟩) ?_))
  · simp [hn]; omega
  · rw [args0_get]
    simp only [Nat.zero_le, if_true, Nat.sub_zero]
    simp only [Array.getD_eq_getD_getElem?, List.getElem?_toArray]
    rw [Array.getElem?_append]
    split
    · simp
    · rename_i hge
      simp at hge
      rw [List.getElem?_eq_none (by omega)]
      rw [Array.getElem?_replicate]
      split <;> rfl
  · rintro e a' w' ⟨s, hs, hq⟩
    cases e with
    | normal =>
      obtain ⟨vs, h1, h2⟩ := hq
      show LeavesInM _ _ _ _ _ _ _ _ _
      rw [hs.defers]
      exact leaves_of_goes (fun w => run_results hs.get hl h1) _ _ h2
    | ret =>
      obtain ⟨vs, h1, h2⟩ := hq
      show LeavesInM _ _ _ _ _ _ _ _ _
      rw [hs.defers]
      exact leaves_of_goes (fun w => run_results hs.get hl h1) _ _ h2
    | _ => exact hq.elim
section
variable {P : Program} {f : FuncId} {fn : Func} {c : Code} {w : World} {R : Value → World → Prop} {n : Nat} {l : List ResultVar} (hf : P.funcs[f]? = some fn) (hb : fn.body = some c) (hn : fn.ntmps = n) (hl : fn.results = l.toArray)
include hf hb hn hl
theorem rets0 (h : FW P none n c (Qfn l R) und w) : Rets P f [] w R := rets_of_FW hf hb hn hl rfl h
theorem rets1 {a0 : Value} (hk : Nat.ble 1 n = true) (h : FW P none n c (Qfn l R) (upd und 0 a0) w) : Rets P f [a0] w R := rets_of_FW hf hb hn hl hk h
theorem rets2 {a0 a1 : Value} (hk : Nat.ble 2 n = true) (h : FW P none n c (Qfn l R) (upd (upd und 1 a1) 0 a0) w) : Rets P f [a0, a1] w R := rets_of_FW hf hb hn hl hk h
theorem rets3 {a0 a1 a2 : Value} (hk : Nat.ble 3 n = true) (h : FW P none n c (Qfn l R) (upd (upd (upd und 2 a2) 1 a1) 0 a0) w) : Rets P f [a0, a1, a2] w R := rets_of_FW hf hb hn hl hk h
theorem rets4 {a0 a1 a2 a3 : Value} (hk : Nat.ble 4 n = true) (h : FW P none n c (Qfn l R) (upd (upd (upd (upd und 3 a3) 2 a2) 1 a1) 0 a0) w) : Rets P f [a0, a1, a2, a3] w R := rets_of_FW hf hb hn hl hk h
theorem rets5 {a0 a1 a2 a3 a4 : Value} (hk : Nat.ble 5 n = true) (h : FW P none n c (Qfn l R) (upd (upd (upd (upd (upd und 4 a4) 3 a3) 2 a2) 1 a1) 0 a0) w) : Rets P f [a0, a1, a2, a3, a4] w R := rets_of_FW hf hb hn hl hk h
theorem rets6 {a0 a1 a2 a3 a4 a5 : Value} (hk : Nat.ble 6 n = true) (h : FW P none n c (Qfn l R) (upd (upd (upd (upd (upd (upd und 5 a5) 4 a4) 3 a3) 2 a2) 1 a1) 0 a0) w) : Rets P f [a0, a1, a2, a3, a4, a5] w R := rets_of_FW hf hb hn hl hk h
theorem rets7 {a0 a1 a2 a3 a4 a5 a6 : Value} (hk : Nat.ble 7 n = true) (h : FW P none n c (Qfn l R) (upd (upd (upd (upd (upd (upd (upd und 6 a6) 5 a5) 4 a4) 3 a3) 2 a2) 1 a1) 0 a0) w) : Rets P f [a0, a1, a2, a3, a4, a5, a6] w R := rets_of_FW hf hb hn hl hk h
theorem rets8 {a0 a1 a2 a3 a4 a5 a6 a7 : Value} (hk : Nat.ble 8 n = true) (h : FW P none n c (Qfn l R) (upd (upd (upd (upd (upd (upd (upd (upd und 7 a7) 6 a6) 5 a5) 4 a4) 3 a3) 2 a2) 1 a1) 0 a0) w) : Rets P f [a0, a1, a2, a3, a4, a5, a6, a7] w R := rets_of_FW hf hb hn hl hk h
theorem rets9 {a0 a1 a2 a3 a4 a5 a6 a7 a8 : Value} (hk : Nat.ble 9 n = true) (h : FW P none n c (Qfn l R) (upd (upd (upd (upd (upd (upd (upd (upd (upd und 8 a8) 7 a7) 6 a6) 5 a5) 4 a4) 3 a3) 2 a2) 1 a1) 0 a0) w) : Rets P f [a0, a1, a2, a3, a4, a5, a6, a7, a8] w R := rets_of_FW hf hb hn hl hk h
end
end Go.Mw
