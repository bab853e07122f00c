/-
 A calculus for walking loaded code with frames as functions from slots to values. Nothing of a given program stands here.
-/
import Derived.WalkKit
import Derived.Orders
import Derived.Still
import Derived.TacticsIn
import Derived.OrdersIn
import Derived.RangeFuncCalls
import Derived.RangeFuncLeaves
import Derived.RangeFuncRecord
import Derived.Laws.Rows
import Derived.Laws.Append
import Derived.Laws.MakeOwn
import Derived.IntWalk
import Derived.Maps.AppendAt
import Derived.Laws.CopyRow
import Derived.Laws.IdiomStrings
import Derived.Laws.BytesArg
import Derived.KernelRfl
set_option linter.unusedVariables false
set_option linter.unusedSimpArgs false
namespace Go.Mw
open Go.RowKit

structure St where
 get : Nat → Value
 ds : List Deferred
instance : CoeFun St (fun _ => Nat → Value) := ⟨St.get⟩
theorem St.Oj {σ τ : St} (h : ∀ x, σ x = τ x) (hd : σ.ds = τ.ds) : σ = τ := by
 cases σ; cases τ; simp only at hd; subst hd; congr 1; exact funext h
def upd (σ : St) (d : Nat) (v : Value) : St := { get := fun x => bif Nat.beq x d then v else σ x, ds := σ.ds }
theorem upd_same (σ : St) (d : Nat) (v : Value) : (upd σ d v).get d = v := by simp [upd]
theorem upd_ne (σ : St) (d : Nat) (v : Value) (x : Nat) (h : x ≠ d) : (upd σ d v).get x = σ.get x := by
 have : Nat.beq x d = false := by
  cases hb : Nat.beq x d
  ·rfl
  exact absurd (Nat.eq_of_beq_eq_true hb) h
 simp [upd, this]
theorem bC (σ : St) (d : Nat) (v : Value) : (upd σ d v).ds = σ.ds := rfl
def nu (σ : St) : Option Nat → Value → St
 | some d, v => upd σ d v
 | none, _ => σ
theorem yX (σ : St) (o : Option Nat) (v : Value) : (nu σ o v).ds = σ.ds := by cases o <;> rfl
def und : St := ⟨fun _ => undef, []⟩
def evF (σ : St) : Operand → Value
 | .tmp t => σ t
 | .const v => v
 | .global g => .pointer (some ⟨g, 0, none⟩)
 | .func f => .func (.func f) #[] #[]

structure Rep (n : Nat) (σ : St) (a : Act) : Prop where
 size : a.tmps.size = n
 defers : a.defers = σ.ds
 get : ∀ i, a.tmps.getD i undef = σ i

section
variable {n : Nat} {σ : St} {a : Act}
theorem Rep.eval (h : Rep n σ a) : a.eval = evF σ := by
 funext x
 cases x with
 | tmp t => exact h.get t
 | _ => rfl
theorem Rep.put (h : Rep n σ a) {d : Nat} (hd : d < n) (v : Value) : Rep n (upd σ d v) (a.put (some d) v) := by
 refine ⟨by simpa [Act.put] using h.size, h.defers, fun i => ?_⟩
 by_cases hi : i = d
 ·subst hi
  have : i < a.tmps.size := by rw [h.size]; exact hd
  simp [Act.put, upd_same, Array.getD_eq_getD_getElem?, this]
 rw [upd_ne _ _ _ _ hi, ← h.get i]
 simp [Act.put, Array.getD_eq_getD_getElem?, Array.getElem?_setIfInBounds_ne (Ne.symm hi)]
def Ct (n : Nat) : Option Nat → Bool
 | some d => Nat.blt d n
 | none => true
theorem Rep.Ep (h : Rep n σ a) {d : Option Nat} (hd : Ct n d = true) (v : Value) : Rep n (nu σ d v) (a.put d v) := by
 cases d with
 | none => exact h
 | some d => exact h.put (Nat.le_of_ble_eq_true hd) v
end

def dR (ops : Array Oper) (σ : St) (j : Nat) : Option Bool :=
 match (ops[j]?).bind (·.dst) with
 | some d => (match σ d with | .bool b => some b | _ => none)
 | none => none
theorem Rep.yielded {n : Nat} {σ : St} {a : Act} (h : Rep n σ a) (ops : Array Oper) (hd : ∀ (j : Nat) (d : Nat), (ops[j]?).bind (fun o : Oper => o.dst) = some d → d < n) : Go.yielded ops a.tmps = dR ops σ := by
 funext j
 unfold Go.yielded dR
 cases hj : (ops[j]?).bind (·.dst) with
 | none => rfl
 | some d =>
  have bU : d < a.tmps.size := by rw [h.size]; exact hd j d hj
  have hg := h.get d
  have : a.tmps[d]? = some (σ d) := by
   rw [Array.getElem?_eq_getElem bU, ← hg]
   simp [Array.getD_eq_getD_getElem?, bU]
  simp only [Option.bind_some, this]
  split <;> rename_i hq <;> first | (injection hq with hq; rw [hq]) | (split <;> first | rfl | (rename_i uo; exact absurd (by rw [uo]) (hq _)))
theorem Rep.Cu {n : Nat} {σ : St} {a : Act} (h : Rep n σ a) (ops : Array Oper) {j : Nat} {d : Nat} (hj : (ops[j]?).bind (fun o : Oper => o.dst) = some d) {b : Bool} (hb : σ d = .bool b) : Go.yielded ops a.tmps j = some b := by
 unfold Go.yielded
 have hg := h.get d
 rw [hb] at hg
 have : a.tmps[d]? = some (.bool b) := by
  cases hq : a.tmps[d]? with
  | none => simp [Array.getD_eq_getD_getElem?, hq, undef] at hg
  | some v => simp [Array.getD_eq_getD_getElem?, hq] at hg; rw [hg]
 simp only [hj, Option.bind_some, this]

abbrev Post := Exit → St → World → Prop
def lift (n : Nat) (Q : Post) : Exit → Act → World → Prop := fun e a w => ∃ σ, Rep n σ a ∧ Q e σ w

def fen (r : Option Nat) : Fence := { fn := fun _ => True, depth := none, alive := false, round := r }
theorem rH {P : Program} {f : FuncId} {args : Array Value} {w : World} {R : Ending → World → Prop} (r : Option Nat) (h : Calls P f args w R) : CallsIn (fen r) 0 P f args w R := callsIn_wide.2 h
def FW (P : Program) (r : Option Nat) (n : Nat) (c : Code) (Q : Post) (σ : St) (w : World) : Prop := ∀ a, Rep n σ a → c.wpIn (fen r) 0 P (lift n Q) a w
def FL (P : Program) (r : Option Nat) (n : Nat) (ops : Array Oper) (Q : Post) (rest : List Oper) (σ : St) (w : World) : Prop := ∀ a, Rep n σ a → wpListIn (fen r) 0 P ops (lift n Q) rest a w

def Cv (P : Program) (r : Option Nat) (n : Nat) (b : Code) (Q : Post) : Post := fun e σ w => match e with
 | .normal => FW P r n b Q σ w
 | e => Q e σ w
def Er (id : Nat) (Q : Post) : Post := fun e σ w => match e with
 | .exit id' => if id' = id then Q .normal σ w else Q (.exit id') σ w
 | e => Q e σ w

section
variable {P : Program} {r : Option Nat} {n : Nat} {Q : Post} {σ : St} {w : World}
theorem FW.mono {c : Code} {Q' : Post} (h : FW P r n c Q σ w) (hq : ∀ e σ w, Q e σ w → Q' e σ w) : FW P r n c Q' σ w :=
 fun a ha => Go.wpIn_mono (h a ha) fun _ _ _ ⟨s, hs, hQ⟩ => ⟨s, hs, hq _ _ _ hQ⟩
theorem aj {b : Code} (h : FW P r n b Q σ w) : Cv P r n b Q .normal σ w := h
theorem aL {b : Code} (h : Q .ret σ w) : Cv P r n b Q .ret σ w := h
theorem aT {b : Code} {id : Nat} (h : Q (.exit id) σ w) : Cv P r n b Q (.exit id) σ w := h
theorem aA {id : Nat} (h : Q .normal σ w) : Er id Q .normal σ w := h
theorem aH {id : Nat} (h : Q .ret σ w) : Er id Q .ret σ w := h
theorem aV {id : Nat} (h : Q .normal σ w) : Er id Q (.exit id) σ w := by simp only [Er, if_true]; exact h
theorem gX {id id' : Nat} (fM : Nat.beq id' id = false) (h : Q (.exit id') σ w) : Er id Q (.exit id') σ w := by
 have : id' ≠ id := fun e => by subst e; simp at fM
 simp only [Er, if_neg this]; exact h

theorem au {x y : Code} (h : FW P r n x (Cv P r n y Q) σ w) : FW P r n (.seq x y) Q σ w := fun a ha =>
 wpIn_seq (Go.wpIn_mono (h a ha) fun e _ _ ⟨s, hs, hQ⟩ => by
  cases e <;> first | exact hQ _ hs | exact ⟨s, hs, hQ⟩)
theorem aY (h : Q .normal σ w) : FW P r n .skip Q σ w := fun _ ha => wpIn_skip ⟨σ, ha, h⟩
theorem aM (h : Q .ret σ w) : FW P r n .ret Q σ w := fun _ ha => wpIn_ret ⟨σ, ha, h⟩
theorem bq {id : Nat} (h : Q (.exit id) σ w) : FW P r n (.exit id) Q σ w := fun _ ha => wpIn_exit ⟨σ, ha, h⟩
theorem aF {id : Nat} {c : Code} (h : FW P r n c (Er id Q) σ w) : FW P r n (.block id c) Q σ w := fun a ha =>
 wpIn_block (Go.wpIn_mono (h a ha) fun e a' w' ⟨s, hs, hQ⟩ => by
  cases e with
  | exit id' =>
   by_cases hid : id' = id
   ·subst hid; simp only [Er, if_true] at hQ; simp only [Exit.inBlock, if_true]; exact ⟨s, hs, hQ⟩
   simp only [Er, if_neg hid] at hQ; simp only [Exit.inBlock, if_neg hid]; exact ⟨s, hs, hQ⟩
  | _ => exact ⟨s, hs, hQ⟩)
theorem Cc {c : Operand} {x y : Code} {t : Bool} (hc : evF σ c = .bool t) (ht : t = true → FW P r n x Q σ w) (hf : t = false → FW P r n y Q σ w) : FW P r n (.cond c x y) Q σ w := fun a ha =>
 wpIn_cond_split (by rw [ha.eval]; exact hc) (fun h => ht h a ha) (fun h => hf h a ha)
theorem aQ {c : Operand} {x y : Code} (hc : evF σ c = .bool true) (h : FW P r n x Q σ w) : FW P r n (.cond c x y) Q σ w := Cc hc (fun _ => h) (fun h => by cases h)
theorem bg {c : Operand} {x y : Code} (hc : evF σ c = .bool false) (h : FW P r n y Q σ w) : FW P r n (.cond c x y) Q σ w := Cc hc (fun h => by cases h) (fun _ => h)
theorem aB {id : Nat} {l : List Oper} (h : FL P r n l.toArray Q l σ w) : FW P r n (.region id l.toArray false) Q σ w := fun a ha => wpIn_region_lit (h a ha)

def cZ (σ : St) : List (Nat × Value) → St
 | [] => σ
 | (d, v) :: l => upd (cZ σ l) d v
def holds (σ : St) : List (Nat × Value) → Prop
 | [] => True
 | (d, v) :: l => σ d = v ∧ holds σ l
theorem pV (σ : St) (d : Nat) : upd σ d (σ d) = σ := by
 refine St.Oj (fun x => ?_) rfl
 by_cases h : x = d
 ·subst h; simp [upd_same]
 simp [upd_ne _ _ _ _ h]
theorem qW {σ : St} : ∀ {l : List (Nat × Value)}, holds σ l → cZ σ l = σ
 | [], _ => rfl
 | (d, v) :: l, ⟨h, hl⟩ => by
  show upd (cZ σ l) d v = σ
  rw [qW hl, ← h, pV]

def like (σ τ : St) : St := ⟨τ.get, σ.ds⟩
theorem bZ : und.ds = [] := rfl
theorem ET {σ τ : St} (h : τ.ds = σ.ds) : like σ τ = τ := St.Oj (fun _ => rfl) h.symm
theorem UY {X : Type} {c : Code} (l : X → List (Nat × Value)) (I : X → World → Prop) (m : X → World → Nat) (x₀ : X) (h₀ : holds σ (l x₀)) (hI : I x₀ w)
    (round : ∀ x τ w, I x w → FW P r n c (fun e σ' w' => match e with | .normal => σ'.ds = σ.ds ∧ ∃ x', holds σ' (l x') ∧ I x' w' ∧ m x' w' < m x w | e => Q e σ' w') (cZ (like σ τ) (l x)) w) : FW P r n (.loop c) Q σ w := by
  intro a ha b kk cs hro hb hr
  have key : ∀ k a w, (∃ x σ', Rep n σ' a ∧ σ'.ds = σ.ds ∧ holds σ' (l x) ∧ I x w ∧ m x w = k) →
      ∃ e a' w', lift n Q e a' w' ∧ ArrivesIn (Machine.fenced P (fen r)) P (lone (b.atR a (.code c :: .inLoop c :: kk)) cs w) b kk cs e a' w' := by
    intro k
    induction k using Nat.strongRecOn with
    | _ k ih =>
      rintro a w ⟨x, σ', hrp, Q7, hh, hi, hm⟩
      have JG := round x σ' w hi
      rw [ET Q7, qW hh] at JG
      obtain ⟨e, a₁, w₁, ⟨s, hs, hq⟩, LQ⟩ := JG a hrp b (.inLoop c :: kk) cs hro hb hr
      cases e with
      | normal =>
        obtain ⟨aa8, x', mq, hi', bU⟩ := hq
        obtain ⟨e₂, a₂, w₂, hq₂, harr₂⟩ := ih _ (by omega) a₁ w₁ ⟨x', s, hs, aa8, mq, hi', rfl⟩
        exact ⟨e₂, a₂, w₂, hq₂, .of_steps (StepsIn.trans LQ (.one (fenced_calm hb hr rfl) stepR_inLoop)) harr₂⟩
      | exit id => exact ⟨_, a₁, w₁, ⟨s, hs, hq⟩, .pass (x := .inLoop c) rfl (fun _ _ => .inl (by simp)) LQ⟩
      | goto g => exact ⟨_, a₁, w₁, ⟨s, hs, hq⟩, .pass (x := .inLoop c) rfl (fun _ _ => .inl (by simp)) LQ⟩
      | ret => exact ⟨_, a₁, w₁, ⟨s, hs, hq⟩, .pass (x := .inLoop c) rfl (fun _ _ => .inl (by simp)) LQ⟩
      | panic chain => exact ⟨_, a₁, w₁, ⟨s, hs, hq⟩, .pass (x := .inLoop c) rfl (fun _ _ => .inl (by simp)) LQ⟩
      | outgrown => exact ⟨_, a₁, w₁, ⟨s, hs, hq⟩, .pass (x := .inLoop c) rfl (fun _ _ => .inl (by simp)) LQ⟩
  obtain ⟨e, a', w', hq, LQ⟩ := key _ a w ⟨x₀, σ, ha, rfl, h₀, hI, rfl⟩
  exact ⟨e, a', w', hq, .of_steps (.one (fenced_calm hb hr rfl) stepR_loop) LQ⟩
def GH {X : Type} (ds : List Deferred) (l : X → List (Nat × Value)) (I : X → World → Prop) (m : X → World → Nat) (x : X) (w : World) (Q : Post) : Post :=
 fun e σ' w' => match e with | .normal => σ'.ds = ds ∧ ∃ x', holds σ' (l x') ∧ I x' w' ∧ m x' w' < m x w | e => Q e σ' w'
theorem bA {X : Type} {c : Code} (l : X → List (Nat × Value)) (I : X → World → Prop) (m : X → World → Nat) (x₀ : X) (h₀ : holds σ (l x₀)) (hI : I x₀ w)
    (round : ∀ x τ w, I x w → FW P r n c (GH σ.ds l I m x w Q) (cZ (like σ τ) (l x)) w) : FW P r n (.loop c) Q σ w := UY l I m x₀ h₀ hI round
section
variable {X : Type} {ds : List Deferred} {l : X → List (Nat × Value)} {I : X → World → Prop} {m : X → World → Nat} {x : X} {w₀ : World}
theorem aC (x' : X) (h : holds σ (l x')) (hI : I x' w) (hm : m x' w < m x w₀) (hd : σ.ds = ds := by exact rfl) : GH ds l I m x w₀ Q .normal σ w := ⟨hd, x', h, hI, hm⟩
theorem aR (h : Q .ret σ w) : GH ds l I m x w₀ Q .ret σ w := h
theorem aO {id : Nat} (h : Q (.exit id) σ w) : GH ds l I m x w₀ Q (.exit id) σ w := h
end
def UZ {X : Type} (ds : List Deferred) (l : X → List (Nat × Value)) (I : X → World → Prop) (Q : Post) : Post :=
 fun e σ' w' => match e with | .normal => σ'.ds = ds ∧ ∃ x', holds σ' (l x') ∧ I x' w' | e => Q e σ' w'
theorem aS {X : Type} {ds : List Deferred} {l : X → List (Nat × Value)} {I : X → World → Prop} (x' : X) (h : holds σ (l x')) (hI : I x' w) (hd : σ.ds = ds := by exact rfl) : UZ ds l I Q .normal σ w := ⟨hd, x', h, hI⟩
theorem gH {X : Type} {ds : List Deferred} {l : X → List (Nat × Value)} {I : X → World → Prop} (h : Q .ret σ w) : UZ ds l I Q .ret σ w := h
theorem Pj {X : Type} {ds : List Deferred} {l : X → List (Nat × Value)} {I : X → World → Prop} {id : Nat} (h : Q (.exit id) σ w) : UZ ds l I Q (.exit id) σ w := h
theorem fO {X : Type} {x y : Code} (l : X → List (Nat × Value)) (I : X → World → Prop) (h : FW P r n x (UZ σ.ds l I Q) σ w)
    (h' : ∀ z τ w, I z w → FW P r n y Q (cZ (like σ τ) (l z)) w) : FW P r n (.seq x y) Q σ w := by
  refine au (h.mono fun e s w hq => ?_)
  cases e with
  | normal => obtain ⟨hd, z, hh, hI⟩ := hq; have := h' z s w hI; rw [ET hd, qW hh] at this; exact this
  | _ => exact hq
end

def pW (σ : St) : List ResultVar → Option (List Value)
 | [] => some []
 | .tmp t :: l => (pW σ l).map (σ t :: ·)
 | _ :: _ => none
def fB : List Value → Value
 | [v] => v
 | vs => .tuple vs.toArray
theorem GI {P : Program} {w : World} {σ : St} (g : ResultVar → Sem Value) (hg : ∀ t, g (.tmp t) = pure (σ t)) : ∀ (l : List ResultVar) (vs : List Value), pW σ l = some vs →
    (List.mapM g l).run P w = .ok vs w := by
  intro l
  induction l with
  | nil => intro vs h; simp [pW] at h; subst h; rfl
  | cons r l ih =>
    intro vs h
    cases r with
    | cell a t => simp [pW] at h
    | tmp t =>
      simp only [pW, Option.map_eq_some_iff] at h
      obtain ⟨us, hu, rfl⟩ := h
      rw [List.mapM_cons, hg]
      simp [ih us hu]
theorem AQ {P : Program} {w : World} {fn : Func} {tmps : Array Value} {σ : St} (hσ : ∀ i, tmps.getD i undef = σ i) {l : List ResultVar} (hl : fn.results = l.toArray) {vs : List Value} (h : pW σ l = some vs) :
    (results fn tmps).run P w = .ok (fB vs) w := by
  unfold results
  rw [hl, List.mapM_toArray]
  have := GI (P := P) (w := w) (σ := σ) (fun
    | .tmp t => pure (tmps.getD t undef)
    | .cell a t => do loadVar t (← asAddr (tmps.getD a undef))) (fun t => by simp [hσ]) l vs h
  rw [Sem.run_bind, Sem.run_map]
  refine (congrArg (fun r => (Result.andThen r _).andThen _) this).trans ?_
  simp only [Result.andThen_ok]
  match vs with
  | [] => simp [fB]
  | [v] => simp [fB]
  | u :: v :: us => simp [fB]

def Ret (R : Value → World → Prop) : Ending → World → Prop := fun e w => match e with
 | .returned v => R v w
 | _ => False
def bF (P : Program) (f : FuncId) (args : List Value) (w : World) (R : Value → World → Prop) : Prop := Calls P f args.toArray w (Ret R)
theorem bF.mono {P : Program} {f : FuncId} {args : List Value} {w : World} {R R' : Value → World → Prop} (h : bF P f args w R) (hr : ∀ v w', R v w' → R' v w') : bF P f args w R' :=
 Calls.mono h fun e w' he => by cases e <;> first | exact hr _ _ he | exact he

def Goes : List Deferred → World → (World → Prop) → Prop
 | [], w, R => R w
 | d :: ds, w, R => ∃ D, d.target = .collected D ∧ w.heap[D]? = some (.deferred (some [])) ∧ Goes ds { w with heap := w.heap.setIfInBounds D (.deferred none) } R
def Qfn (l : List ResultVar) (R : Value → World → Prop) : Post := fun e σ w => match e with
 | .normal | .ret => ∃ vs, pW σ l = some vs ∧ Goes σ.ds w (R (fB vs))
 | _ => False
theorem ak {l : List ResultVar} {R : Value → World → Prop} {σ : St} {w : World} {vs : List Value} (h : pW σ l = some vs := by simp only [pW, Option.map_some, upd_same, upd_ne, ne_eq, Nat.reduceEqDiff, not_false_eq_true]; rfl) (hR : R (fB vs) w) (hd : σ.ds = [] := by exact rfl) : Qfn l R .ret σ w := ⟨vs, h, by rw [hd]; exact hR⟩
theorem jC {l : List ResultVar} {R : Value → World → Prop} {σ : St} {w : World} {vs : List Value} (h : pW σ l = some vs := by simp only [pW, Option.map_some, upd_same, upd_ne, ne_eq, Nat.reduceEqDiff, not_false_eq_true]; rfl) (hR : R (fB vs) w) (hd : σ.ds = [] := by exact rfl) : Qfn l R .normal σ w := ⟨vs, h, by rw [hd]; exact hR⟩
theorem pX {P : Program} {fn : Func} {tmps : Array Value} {R : Ending → World → Prop} {v : Value} (hr : ∀ w, (results fn tmps).run P w = .ok v w) : ∀ (ds : List Deferred) (w : World), Goes ds w (fun w' => R (.returned v) w') → LeavesInM (fen none) 0 P fn tmps R ds .returning w
 | [], w, h => ⟨v, hr w, h⟩
 | d :: ds, w, ⟨D, ht, hh, hg⟩ => ⟨(fun e => by cases e), .inl ⟨D, _, ht, run_takeDeferred hh, pX hr ds _ hg⟩⟩

def AU : Nat → List Value → St
 | _, [] => und
 | k, v :: l => upd (AU (k + 1) l) k v
theorem Cw : ∀ (l : List Value) (k : Nat), (AU k l).ds = []
 | [], _ => rfl
 | _ :: l, k => Cw l (k + 1)
theorem vR : ∀ (l : List Value) (k i : Nat), AU k l i = if k ≤ i then l.toArray.getD (i - k) undef else undef
 | [], k, i => by simp [AU, und]
 | v :: l, k, i => by
  have ih := vR l (k + 1) i
  show upd (AU (k + 1) l) k v i = _
  by_cases h : i = k
  ·subst h; simp [upd_same]
  rw [upd_ne _ _ _ _ h, ih]
  by_cases hk : k ≤ i
  ·rw [if_pos hk, if_pos (by omega)]
   have : i - k = (i - (k + 1)) + 1 := by omega
   rw [this]
   simp [Array.getD_eq_getD_getElem?]
  rw [if_neg hk, if_neg (by omega)]
theorem pY {P : Program} {f : FuncId} {fn : Func} {c : Code} {args : List Value} {w : World} {R : Value → World → Prop} {n : Nat} {l : List ResultVar}
    (hf : P.funcs[f]? = some fn) (hb : fn.body = some c) (hn : fn.ntmps = n) (hl : fn.results = l.toArray) (Gv : Nat.ble args.length n = true)
    (h : FW P none n c (Qfn l R) (AU 0 args) w) : bF P f args w R := by
  have rG : args.length ≤ n := Nat.le_of_ble_eq_true Gv
  refine (callsIn_wide (n := 0)).1 (callsIn_of_wp_marks (F := fen none) hf hb trivial (Go.wpIn_mono (h _ ⟨?_, (Cw args 0).symm, fun i => ?_⟩) ?_))
  · simp [hn]; omega
  · rw [vR]
    simp only [Nat.zero_le, if_true, Nat.sub_zero]
    simp only [Array.getD_eq_getD_getElem?, List.getElem?_toArray]
    rw [Array.getElem?_append]
    split
    · simp
    rename_i LU
    simp at LU
    rw [List.getElem?_eq_none (by omega)]
    rw [Array.getElem?_replicate]
    split <;> rfl
  rintro e a' w' ⟨s, hs, hq⟩
  cases e with
  | normal =>
    obtain ⟨vs, h1, h2⟩ := hq
    show LeavesInM _ _ _ _ _ _ _ _ _
    rw [hs.defers]
    exact pX (fun w => AQ hs.get hl h1) _ _ h2
  | ret =>
    obtain ⟨vs, h1, h2⟩ := hq
    show LeavesInM _ _ _ _ _ _ _ _ _
    rw [hs.defers]
    exact pX (fun w => AQ hs.get hl h1) _ _ h2
  | _ => exact hq.elim
section
variable {P : Program} {f : FuncId} {fn : Func} {c : Code} {w : World} {R : Value → World → Prop} {n : Nat} {l : List ResultVar} (hf : P.funcs[f]? = some fn) (hb : fn.body = some c) (hn : fn.ntmps = n) (hl : fn.results = l.toArray)
include hf hb hn hl
theorem JW (h : FW P none n c (Qfn l R) und w) : bF P f [] w R := pY hf hb hn hl rfl h
theorem dP {a0 : Value} (hk : Nat.ble 1 n = true) (h : FW P none n c (Qfn l R) (upd und 0 a0) w) : bF P f [a0] w R := pY hf hb hn hl hk h
theorem eU {a0 a1 : Value} (hk : Nat.ble 2 n = true) (h : FW P none n c (Qfn l R) (upd (upd und 1 a1) 0 a0) w) : bF P f [a0, a1] w R := pY hf hb hn hl hk h
theorem EU {a0 a1 a2 : Value} (hk : Nat.ble 3 n = true) (h : FW P none n c (Qfn l R) (upd (upd (upd und 2 a2) 1 a1) 0 a0) w) : bF P f [a0, a1, a2] w R := pY hf hb hn hl hk h
theorem YX {a0 a1 a2 a3 : Value} (hk : Nat.ble 4 n = true) (h : FW P none n c (Qfn l R) (upd (upd (upd (upd und 3 a3) 2 a2) 1 a1) 0 a0) w) : bF P f [a0, a1, a2, a3] w R := pY hf hb hn hl hk h
end
end Go.Mw
namespace Go.Mw
open Go.RowKit

structure Kept (S : Nat → Prop) (w w' : World) : Prop where
 os : w'.os = w.os
 tape : w'.tape = w.tape
 output : w'.output = w.output
 size : w.heap.size ≤ w'.heap.size
 block : ∀ k, k < w.heap.size → ¬ S k → w'.heap[k]? = w.heap[k]?
def noB : Nat → Prop := fun _ => False

section
variable {S T : Nat → Prop} {a b c w w' : World}
theorem Kept.refl (S : Nat → Prop) (w : World) : Kept S w w := ⟨rfl, rfl, rfl, Nat.le_refl _, fun _ _ _ => rfl⟩
theorem Kept.trans (h : Kept S a b) (k : Kept T b c) (hT : ∀ i, T i → S i ∨ a.heap.size ≤ i) : Kept S a c :=
 ⟨k.os.trans h.os, k.tape.trans h.tape, k.output.trans h.output, Nat.le_trans h.size k.size, fun i hi hS => by
  rw [k.block i (Nat.lt_of_lt_of_le hi h.size) (fun ht => by rcases hT i ht with h1 | h1; exact hS h1; omega), h.block i hi hS]⟩
theorem Kept.mono (h : Kept S w w') (hS : ∀ i, S i → T i) : Kept T w w' := ⟨h.os, h.tape, h.output, h.size, fun i hi hT => h.block i hi fun hs => hT (hS i hs)⟩
theorem Kept.Mi (h : Kept S a b) (k : Kept noB b c) : Kept S a c := h.trans k fun _ hf => hf.elim
theorem Kept.below (h : Kept noB w w') : Below w.heap.size w w' := ⟨h.os, h.tape, h.output, h.size, fun k hk => h.block k hk id⟩
theorem Kept.of_below (h : Below w.heap.size w w') : Kept noB w w' := ⟨h.os, h.tape, h.output, h.size, fun k hk _ => h.block k hk⟩
theorem Kept.YZ (h : Kept S a w) (n : Nat) : Kept S a { w with drawn := n } := ⟨h.os, h.tape, h.output, h.size, h.block⟩
theorem Kept.alloc (w : World) (o : Obj) : Kept noB w (w.alloc o) := Kept.of_below ((Below.refl _ _).alloc (Nat.le_refl _) o)
theorem Kept.drew (w : World) : Kept noB w w.drew := ⟨rfl, rfl, rfl, Nat.le_refl _, fun _ _ _ => rfl⟩
theorem Kept.get (h : Kept S w w') {k : Nat} {o : Obj} (hk : w.heap[k]? = some o) (hS : ¬ S k) : w'.heap[k]? = some o := by
 have bU : k < w.heap.size := by
  rcases Nat.lt_or_ge k w.heap.size with h1 | h1
  ·exact h1
  rw [Array.getElem?_eq_none h1] at hk; cases hk
 rw [h.block k bU hS, hk]
end

structure HP where
 ok : (Nat → Prop) → World → Prop
 loc : ∀ {F : Nat → Prop} {w w' : World}, w.heap.size ≤ w'.heap.size → (∀ b, F b → w'.heap[b]? = w.heap[b]?) → ok F w → ok F w'
 low : ∀ {F : Nat → Prop} {w : World}, ok F w → ∀ b, F b → b < w.heap.size
theorem lX {w : World} {k : Nat} {o : Obj} (hk : w.heap[k]? = some o) : k < w.heap.size := by
 rcases Nat.lt_or_ge k w.heap.size with h1 | h1
 ·exact h1
 rw [Array.getElem?_eq_none h1] at hk; cases hk
def mH (φ : Prop) : HP where
 ok F _ := φ ∧ ∀ b, ¬ F b
 loc _ _ h := h
 low h b hb := (h.2 b hb).elim
def emp : HP := mH True
def obj (b : Nat) (o : Obj) : HP where
 ok F w := (∀ x, F x ↔ x = b) ∧ w.heap[b]? = some o
 loc _ h fK := ⟨fK.1, by rw [h b ((fK.1 b).2 rfl)]; exact fK.2⟩
 low h x hx := by have := (h.1 x).1 hx; subst this; exact lX h.2
def blk (b : Nat) (cs : List Value) (E : TypeId) : HP := obj b (.cells cs.toArray E (0, 0))
def star (p q : HP) : HP where
 ok F w := ∃ F1 F2, (∀ b, F b ↔ F1 b ∨ F2 b) ∧ (∀ b, F1 b → ¬ F2 b) ∧ p.ok F1 w ∧ q.ok F2 w
 loc hs h fK := by
  obtain ⟨F1, F2, hF, hd, h1, h2⟩ := fK
  exact ⟨F1, F2, hF, hd, p.loc hs (fun b hb => h b ((hF b).2 (.inl hb))) h1, q.loc hs (fun b hb => h b ((hF b).2 (.inr hb))) h2⟩
 low h b hb := by
  obtain ⟨F1, F2, hF, hd, h1, h2⟩ := h
  rcases (hF b).1 hb with h | h
  ·exact p.low h1 b h
  exact q.low h2 b h
def exH {α : Type} (p : α → HP) : HP where
 ok F w := ∃ x, (p x).ok F w
 loc hs h fK := by obtain ⟨x, hx⟩ := fK; exact ⟨x, (p x).loc hs h hx⟩
 low h b hb := by obtain ⟨x, hx⟩ := h; exact (p x).low hx b hb
def jc : List HP → HP
 | [] => emp
 | p :: l => star p (jc l)

def Sep (w₀ : World) (S : Nat → Prop) (rs : List HP) (w : World) : Prop :=
 Kept S w₀ w ∧ ∃ F, (jc rs).ok F w ∧ ∀ b, F b → S b ∨ w₀.heap.size ≤ b

def At (rs : List HP) (p : HP) (put : HP → List HP) : Prop := ∃ l1 l2, rs = l1 ++ p :: l2 ∧ ∀ q, put q = l1 ++ q :: l2
section
variable {a b c d e f g h i j k m p : HP} {l : List HP}
theorem At0 : At (p :: l) p (fun q => q :: l) := ⟨[], l, rfl, fun _ => rfl⟩
theorem At1 : At (a :: p :: l) p (fun q => a :: q :: l) := ⟨[a], l, rfl, fun _ => rfl⟩
theorem At2 : At (a :: b :: p :: l) p (fun q => a :: b :: q :: l) := ⟨[a, b], l, rfl, fun _ => rfl⟩
theorem At3 : At (a :: b :: c :: p :: l) p (fun q => a :: b :: c :: q :: l) := ⟨[a, b, c], l, rfl, fun _ => rfl⟩
theorem At4 : At (a :: b :: c :: d :: p :: l) p (fun q => a :: b :: c :: d :: q :: l) := ⟨[a, b, c, d], l, rfl, fun _ => rfl⟩
theorem At5 : At (a :: b :: c :: d :: e :: p :: l) p (fun q => a :: b :: c :: d :: e :: q :: l) := ⟨[a, b, c, d, e], l, rfl, fun _ => rfl⟩
theorem At6 : At (a :: b :: c :: d :: e :: f :: p :: l) p (fun q => a :: b :: c :: d :: e :: f :: q :: l) := ⟨[a, b, c, d, e, f], l, rfl, fun _ => rfl⟩
theorem At7 : At (a :: b :: c :: d :: e :: f :: g :: p :: l) p (fun q => a :: b :: c :: d :: e :: f :: g :: q :: l) := ⟨[a, b, c, d, e, f, g], l, rfl, fun _ => rfl⟩
theorem At8 : At (a :: b :: c :: d :: e :: f :: g :: h :: p :: l) p (fun q => a :: b :: c :: d :: e :: f :: g :: h :: q :: l) := ⟨[a, b, c, d, e, f, g, h], l, rfl, fun _ => rfl⟩
theorem At9 : At (a :: b :: c :: d :: e :: f :: g :: h :: i :: p :: l) p (fun q => a :: b :: c :: d :: e :: f :: g :: h :: i :: q :: l) := ⟨[a, b, c, d, e, f, g, h, i], l, rfl, fun _ => rfl⟩
end

theorem Mj {F : Nat → Prop} {w : World} (h : ∀ b, ¬ F b) : emp.ok F w := ⟨trivial, h⟩
theorem AV {l1 l2 : List HP} {p : HP} : ∀ {F : Nat → Prop} {w : World}, (jc (l1 ++ p :: l2)).ok F w →
    ∃ F1 F2, (∀ b, F b ↔ F1 b ∨ F2 b) ∧ (∀ b, F1 b → ¬ F2 b) ∧ p.ok F1 w ∧ (jc (l1 ++ l2)).ok F2 w := by
  induction l1 with
  | nil => intro F w h; exact h
  | cons q l ih =>
    rintro F w ⟨G1, G2, hF, hd, h1, h2⟩
    obtain ⟨F1, F2, hG, Cm, hp, hr⟩ := ih h2
    refine ⟨F1, fun b => G1 b ∨ F2 b, fun b => ?_, fun b hb => ?_, hp, G1, F2, fun b => Iff.rfl, fun b hb Cn => hd b hb ((hG b).2 (.inr Cn)), h1, hr⟩
    · rw [hF, hG]; constructor
      · rintro (h | h | h)
        · exact .inr (.inl h)
        · exact .inl h
        exact .inr (.inr h)
      rintro (h | h | h)
      · exact .inr (.inl h)
      · exact .inl h
      exact .inr (.inr h)
    rintro (h | h)
    · exact hd b h ((hG b).2 (.inl hb))
    exact Cm b hb h
theorem Mk {l1 l2 : List HP} {p : HP} : ∀ {F F1 F2 : Nat → Prop} {w : World}, (∀ b, F b ↔ F1 b ∨ F2 b) → (∀ b, F1 b → ¬ F2 b) → p.ok F1 w → (jc (l1 ++ l2)).ok F2 w → (jc (l1 ++ p :: l2)).ok F w := by
 induction l1 with
 | nil => intro F F1 F2 w hF hd hp hr; exact ⟨F1, F2, hF, hd, hp, hr⟩
 | cons q l ih =>
  rintro F F1 F2 w hF hd hp ⟨G1, G2, hG, Cm, h1, h2⟩
  refine ⟨G1, fun b => F1 b ∨ G2 b, fun b => ?_, fun b hb => ?_, h1, ih (F1 := F1) (F2 := G2) (fun b => Iff.rfl) (fun b hb Cn => hd b hb ((hG b).2 (.inr Cn))) hp h2⟩
  ·rw [hF, hG]; constructor
   ·rintro (h | h | h)
    ·exact .inr (.inl h)
    ·exact .inl h
    exact .inr (.inr h)
   rintro (h | h | h)
   ·exact .inr (.inl h)
   ·exact .inl h
   exact .inr (.inr h)
  rintro (h | h)
  ·exact hd b h ((hG b).2 (.inl hb))
  exact Cm b hb h

section
variable {w₀ w w' : World} {S : Nat → Prop} {rs : List HP}
theorem Sep.kept (h : Sep w₀ S rs w) : Kept S w₀ w := h.1
theorem Sep.size (h : Sep w₀ S rs w) : w₀.heap.size ≤ w.heap.size := h.1.size
theorem Sep.keep (h : Sep w₀ S rs w) (hk : Kept noB w w') : Sep w₀ S rs w' := by
 obtain ⟨h1, F, hF, hS⟩ := h
 exact ⟨h1.Mi hk, F, (jc rs).loc hk.size (fun b hb => hk.block b ((jc rs).low hF b hb) id) hF, hS⟩
theorem Sep.focus {p : HP} {put : HP → List HP} (h : Sep w₀ S rs w) (hat : At rs p put) :
    ∃ F, p.ok F w ∧ (∀ b, F b → S b ∨ w₀.heap.size ≤ b) ∧
      ∀ w' F' q, Kept F w w' → q.ok F' w' → (∀ b, F' b → F b ∨ w.heap.size ≤ b) → Sep w₀ S (put q) w' := by
  obtain ⟨l1, l2, rfl, zR⟩ := hat
  obtain ⟨h1, F, hF, hS⟩ := h
  obtain ⟨F1, F2, Q8, hd, hp, hr⟩ := AV hF
  refine ⟨F1, hp, fun b hb => hS b ((Q8 b).2 (.inl hb)), fun w' F' q hk hq gV => ?_⟩
  rw [zR]
  have uq := (jc (l1 ++ l2)).low hr
  refine ⟨h1.trans hk fun b hb => hS b ((Q8 b).2 (.inl hb)), fun b => F' b ∨ F2 b, ?_, ?_⟩
  · refine Mk (F1 := F') (F2 := F2) (fun b => Iff.rfl) (fun b hb Cn => ?_) hq ((jc (l1 ++ l2)).loc hk.size (fun b hb => hk.block b (uq b hb) (fun h1 => hd b h1 hb)) hr)
    rcases gV b hb with h | h
    · exact hd b h Cn
    have := uq b Cn; omega
  rintro b (hb | hb)
  · rcases gV b hb with h | h
    · exact hS b ((Q8 b).2 (.inl h))
    exact .inr (Nat.le_trans h1.size h)
  exact hS b ((Q8 b).2 (.inr hb))
theorem Sep.new {p : HP} {F' : Nat → Prop} (h : Sep w₀ S rs w) (hk : Kept noB w w') (hp : p.ok F' w') (hF' : ∀ b, F' b → w.heap.size ≤ b) : Sep w₀ S (p :: rs) w' := by
 have h0 := h
 obtain ⟨h1, F, hF, hS⟩ := h
 have uq := (jc rs).low hF
 refine ⟨h1.Mi hk, fun b => F' b ∨ F b, ⟨F', F, fun b => Iff.rfl, fun b hb Cn => ?_, hp, (jc rs).loc hk.size (fun b hb => hk.block b (uq b hb) id) hF⟩, ?_⟩
 ·have := uq b Cn; have := hF' b hb; omega
 rintro b (hb | hb)
 ·exact .inr (Nat.le_trans h0.size (hF' b hb))
 exact hS b hb
theorem Sep.alloc (h : Sep w₀ S rs w) (o : Obj) : Sep w₀ S (obj w.heap.size o :: rs) (w.alloc o) :=
 h.new (F' := fun b => b = w.heap.size) (Kept.alloc w o) ⟨fun _ => Iff.rfl, heap_alloc_new w o⟩ fun b hb => by rw [hb]; exact Nat.le_refl _
theorem Sep.obj {b : Nat} {o : Obj} {put : HP → List HP} (h : Sep w₀ S rs w) (hat : At rs (obj b o) put) : w.heap[b]? = some o := by
 obtain ⟨F, hp, _, _⟩ := h.focus hat
 exact hp.2
theorem Sep.setObj {b : Nat} {o o' : Obj} {put : HP → List HP} (h : Sep w₀ S rs w) (hat : At rs (Mw.obj b o) put) (hk : Kept (fun x => x = b) w w') (ho : w'.heap[b]? = some o') : Sep w₀ S (put (Mw.obj b o')) w' := by
 obtain ⟨F, hp, hS, zR⟩ := h.focus hat
 exact zR w' F (Mw.obj b o') (hk.mono fun i hi => (hp.1 i).2 hi) ⟨hp.1, ho⟩ fun b hb => .inl hb
theorem Sep.fI {p : HP} (h : Sep w₀ S (p :: rs) w) : Sep w₀ S rs w := by
 obtain ⟨h1, F, ⟨F1, F2, hF, hd, hp, hr⟩, hS⟩ := h
 exact ⟨h1, F2, hr, fun b hb => hS b ((hF b).2 (.inr hb))⟩
theorem Sep.start (rs : List HP) {F : Nat → Prop} {w : World} (h : (jc rs).ok F w) : Sep w F rs w := ⟨Kept.refl _ _, F, h, fun _ hb => .inl hb⟩
theorem Sep.bB (w : World) : Sep w noB [] w := ⟨Kept.refl _ _, fun _ => False, Mj (fun _ => id), fun _ hb => hb.elim⟩
theorem Sep.ex0 {α : Type} {p : α → HP} (h : Sep w₀ S (exH p :: rs) w) : ∃ x, Sep w₀ S (p x :: rs) w := by
 obtain ⟨h1, F, ⟨F1, F2, hF, hd, ⟨x, hp⟩, hr⟩, hS⟩ := h
 exact ⟨x, h1, F, ⟨F1, F2, hF, hd, hp, hr⟩, hS⟩
theorem Sep.ny {p q : HP} (h : Sep w₀ S (star p q :: rs) w) : Sep w₀ S (p :: q :: rs) w := by
 obtain ⟨h1, F, ⟨F1, F2, hF, hd, ⟨G1, G2, hG, Cm, hp, hq⟩, hr⟩, hS⟩ := h
 refine ⟨h1, F, ⟨G1, fun b => G2 b ∨ F2 b, fun b => ?_, fun b hb => ?_, hp, G2, F2, fun _ => Iff.rfl, fun b hb Cn => hd b ((hG b).2 (.inr hb)) Cn, hq, hr⟩, hS⟩
 ·rw [hF, hG, or_assoc]
 rintro (h | h)
 ·exact Cm b hb h
 exact hd b ((hG b).2 (.inl hb)) h
theorem Sep.Cx {φ : Prop} (h : Sep w₀ S (mH φ :: rs) w) : φ ∧ Sep w₀ S rs w := by
 have h' := h.fI
 obtain ⟨h1, F, ⟨F1, F2, hF, hd, hp, hr⟩, hS⟩ := h
 exact ⟨hp.1, h'⟩
theorem Sep.uJ {p q : HP} (h : Sep w₀ S (p :: q :: rs) w) : Sep w₀ S (star p q :: rs) w := by
 obtain ⟨h1, F, ⟨F1, F2, hF, hd, hp, G1, G2, hG, Cm, hq, hr⟩, hS⟩ := h
 refine ⟨h1, F, ⟨fun b => F1 b ∨ G1 b, G2, fun b => ?_, fun b hb => ?_, ⟨F1, G1, fun _ => Iff.rfl, fun b hb Cn => hd b hb ((hG b).2 (.inl Cn)), hp, hq⟩, hr⟩, hS⟩
 ·rw [hF, hG, or_assoc]
 rcases hb with hb | hb
 ·exact fun h => hd b hb ((hG b).2 (.inr h))
 exact Cm b hb
theorem Sep.AX {α : Type} {p : α → HP} (x : α) (h : Sep w₀ S (p x :: rs) w) : Sep w₀ S (exH p :: rs) w := by
 obtain ⟨h1, F, ⟨F1, F2, hF, hd, hp, hr⟩, hS⟩ := h
 exact ⟨h1, F, ⟨F1, F2, hF, hd, ⟨x, hp⟩, hr⟩, hS⟩
theorem Sep.nA {φ : Prop} (hφ : φ) (h : Sep w₀ S rs w) : Sep w₀ S (mH φ :: rs) w := by
 obtain ⟨h1, F, hr, hS⟩ := h
 exact ⟨h1, F, ⟨fun _ => False, F, fun b => by simp, fun _ hb => hb.elim, ⟨hφ, fun _ hb => hb⟩, hr⟩, hS⟩
theorem Sep.imp {p q : HP} {put : HP → List HP} (h : Sep w₀ S rs w) (hat : At rs p put) (hpq : ∀ F, p.ok F w → q.ok F w) : Sep w₀ S (put q) w := by
 obtain ⟨F, hp, hS, zR⟩ := h.focus hat
 exact zR w F q (Kept.refl _ _) (hpq F hp) fun b hb => .inl hb
theorem Sep.front {p : HP} {l1 l2 : List HP} (h : Sep w₀ S (l1 ++ p :: l2) w) : Sep w₀ S (p :: (l1 ++ l2)) w := by
 obtain ⟨h1, F, hF, hS⟩ := h
 obtain ⟨F1, F2, Q8, hd, hp, hr⟩ := AV hF
 exact ⟨h1, F, ⟨F1, F2, Q8, hd, hp, hr⟩, hS⟩
theorem Sep.dS {a p : HP} {l : List HP} (h : Sep w₀ S (a :: p :: l) w) : Sep w₀ S (p :: a :: l) w := Sep.front (l1 := [a]) h
theorem Sep.iK {a b p : HP} {l : List HP} (h : Sep w₀ S (a :: b :: p :: l) w) : Sep w₀ S (p :: a :: b :: l) w := Sep.front (l1 := [a, b]) h
theorem Sep.lD {a b c p : HP} {l : List HP} (h : Sep w₀ S (a :: b :: c :: p :: l) w) : Sep w₀ S (p :: a :: b :: c :: l) w := Sep.front (l1 := [a, b, c]) h
theorem Sep.qX {a b c d p : HP} {l : List HP} (h : Sep w₀ S (a :: b :: c :: d :: p :: l) w) : Sep w₀ S (p :: a :: b :: c :: d :: l) w := Sep.front (l1 := [a, b, c, d]) h
theorem Sep.fZ {a b c d e p : HP} {l : List HP} (h : Sep w₀ S (a :: b :: c :: d :: e :: p :: l) w) : Sep w₀ S (p :: a :: b :: c :: d :: e :: l) w := Sep.front (l1 := [a, b, c, d, e]) h
theorem Sep.sH {a b c d e f p : HP} {l : List HP} (h : Sep w₀ S (a :: b :: c :: d :: e :: f :: p :: l) w) : Sep w₀ S (p :: a :: b :: c :: d :: e :: f :: l) w := Sep.front (l1 := [a, b, c, d, e, f]) h
end

theorem Ml {p q t : HP} {F : Nat → Prop} {w : World} : (star (star p q) t).ok F w ↔ (star p (star q t)).ok F w := by
 constructor
 ·rintro ⟨F1, F2, hF, hd, ⟨G1, G2, hG, Cm, hp, hq⟩, hr⟩
  refine ⟨G1, fun b => G2 b ∨ F2 b, fun b => ?_, fun b hb => ?_, hp, G2, F2, fun _ => Iff.rfl, fun b hb Cn => hd b ((hG b).2 (.inr hb)) Cn, hq, hr⟩
  ·rw [hF, hG, or_assoc]
  rintro (h | h)
  ·exact Cm b hb h
  exact hd b ((hG b).2 (.inl hb)) h
 rintro ⟨F1, F2, hF, hd, hp, G1, G2, hG, Cm, hq, hr⟩
 refine ⟨fun b => F1 b ∨ G1 b, G2, fun b => ?_, fun b hb => ?_, ⟨F1, G1, fun _ => Iff.rfl, fun b hb Cn => hd b hb ((hG b).2 (.inl Cn)), hp, hq⟩, hr⟩
 ·rw [hF, hG, or_assoc]
 rcases hb with hb | hb
 ·exact fun h => hd b hb ((hG b).2 (.inr h))
 exact Cm b hb
theorem yY {l rs : List HP} : ∀ {F : Nat → Prop} {w : World}, (star (jc l) (jc rs)).ok F w ↔ (jc (l ++ rs)).ok F w := by
 induction l with
 | nil =>
  intro F w
  constructor
  ·rintro ⟨F1, F2, hF, hd, ⟨_, h1⟩, h2⟩
   have : F = F2 := funext fun b => propext ((hF b).trans ⟨fun h => h.elim (fun h => (h1 b h).elim) id, .inr⟩)
   rw [this]; exact h2
  intro h
  exact ⟨fun _ => False, F, fun b => by simp, fun _ h => h.elim, ⟨trivial, fun _ h => h⟩, h⟩
 | cons p l ih =>
  intro F w
  show (star (star p (jc l)) (jc rs)).ok F w ↔ (star p (jc (l ++ rs))).ok F w
  rw [Ml]
  constructor
  ·rintro ⟨F1, F2, hF, hd, hp, hr⟩; exact ⟨F1, F2, hF, hd, hp, ih.1 hr⟩
  rintro ⟨F1, F2, hF, hd, hp, hr⟩; exact ⟨F1, F2, hF, hd, hp, ih.2 hr⟩
theorem Sep.parts {w₀ w : World} {S : Nat → Prop} {l rs : List HP} (h : Sep w₀ S (jc l :: rs) w) : Sep w₀ S (l ++ rs) w := by
 obtain ⟨h1, F, hF, hS⟩ := h
 exact ⟨h1, F, yY.1 hF, hS⟩
theorem Sep.bundle {w₀ w : World} {S : Nat → Prop} {l rs : List HP} (h : Sep w₀ S (l ++ rs) w) : Sep w₀ S (jc l :: rs) w := by
 obtain ⟨h1, F, hF, hS⟩ := h
 exact ⟨h1, F, yY.2 hF, hS⟩
end Go.Mw
namespace Go.Mw
open Go.RowKit

def Gives (P : Program) (ρ : Operand → Value) (op : Op) (ty : TypeId) (w : World) (v : Value) (w' : World) : Prop :=
 ∀ dst pos after guard, (execOp ρ { dst := dst, op := op, type := ty, pos := pos, after := after, guard := guard }).run P w = .ok (.value v) w'
def JX (P : Program) (ρ : Operand → Value) (op : Op) (ty : TypeId) (w w' : World) : Prop :=
 ∀ dst pos after guard, (execOp ρ { dst := dst, op := op, type := ty, pos := pos, after := after, guard := guard }).run P w = .ok .skip w'

section rules
variable {P : Program} {r : Option Nat} {n : Nat} {ops : Array Oper} {Q : Post} {rest : List Oper} {σ : St} {w w' : World} {op : Op} {ty : TypeId} {pos : String} {after : Array Edge}
theorem aP (h : Q .normal σ w) : FL P r n ops Q [] σ w := fun _ ha => wpListIn_nil ⟨σ, ha, h⟩
theorem EW {ρ : Operand → Value} {o : Oper} {v : Value} (h : (execOp ρ o).run P w = .ok (.value v) w') : (o.semAt r ρ).run P w = .ok (.value v) w' := by
 by_cases hd : ∃ c, o.op = .defer c
 ·obtain ⟨c, hd⟩ := hd
  exfalso
  unfold execOp at h
  rw [hd] at h
  simp only [Sem.run_bind] at h
  cases hr : (resolve ρ c o.type).run P w <;> rw [hr] at h <;> simp [Result.andThen] at h
 rw [Oper.semAt_eq r ρ o fun c hc => hd ⟨c, hc⟩]; exact h
theorem Mq {ρ : Operand → Value} {o : Oper} (h : (execOp ρ o).run P w = .ok .skip w') : (o.semAt r ρ).run P w = .ok .skip w' := by
 by_cases hd : ∃ c, o.op = .defer c
 ·obtain ⟨c, hd⟩ := hd
  exfalso
  unfold execOp at h
  rw [hd] at h
  simp only [Sem.run_bind] at h
  cases hr : (resolve ρ c o.type).run P w <;> rw [hr] at h <;> simp [Result.andThen] at h
 rw [Oper.semAt_eq r ρ o fun c hc => hd ⟨c, hc⟩]; exact h
theorem eu {d : Nat} {v : Value} (hg : Gives P (evF σ) op ty w v w') (hd : Nat.blt d n = true) (h : FL P r n ops Q rest (upd σ d v) w') :
    FL P r n ops Q ({ dst := some d, op := op, type := ty, pos := pos, after := after, guard := none } :: rest) σ w := fun a ha =>
  wpListIn_plain rfl fun K hK => by
    refine ⟨fun _ _ => trivial, ?_⟩
    rw [ha.eval, EW (hg _ _ _ _)]
    exact hK _ _ (h _ (ha.put (Nat.le_of_ble_eq_true hd) v))
theorem zY {v : Option Nat} (hg : JX P (evF σ) op ty w w') (hd : v = none) (h : FL P r n ops Q rest σ w') :
    FL P r n ops Q ({ dst := v, op := op, type := ty, pos := pos, after := after, guard := none } :: rest) σ w := fun a ha =>
  wpListIn_plain rfl fun K hK => by
    refine ⟨fun _ _ => trivial, ?_⟩
    rw [ha.eval, Mq (hg _ _ _ _)]
    subst hd
    exact hK _ _ (h _ ha)
theorem Y0 {dst : Option Nat} {j : Nat} {b : Bool} {t : Nat} (hj : (ops[j]?).bind (fun o : Oper => o.dst) = some t) (hb : σ t = .bool b)
    (h : FL P r n ops Q ({ dst := dst, op := op, type := ty, pos := pos, after := after, guard := none } :: rest) σ w) :
    FL P r n ops Q ({ dst := dst, op := op, type := ty, pos := pos, after := after, guard := some (j, b) } :: rest) σ w := fun a ha => by
  have h1 := h a ha
  have hw : Region.wanted { dst := dst, op := op, type := ty, pos := pos, after := after, guard := some (j, b) } (yielded ops a.tmps) = true := by
    simp [Region.wanted, ha.Cu ops hj hb]
  unfold wpListIn at h1 ⊢
  rw [if_pos hw]
  rw [if_pos (by simp [Region.wanted])] at h1
  exact h1
theorem Xu {dst : Option Nat} {j : Nat} {b : Bool} {t : Nat} (hj : (ops[j]?).bind (fun o : Oper => o.dst) = some t) (hb : σ t = .bool (!b)) (hd : Ct n dst = true)
    (h : FL P r n ops Q rest (nu σ dst undef) w) :
    FL P r n ops Q ({ dst := dst, op := op, type := ty, pos := pos, after := after, guard := some (j, b) } :: rest) σ w := fun a ha => by
  have h1 := h _ (ha.Ep hd undef)
  have hw : Region.wanted { dst := dst, op := op, type := ty, pos := pos, after := after, guard := some (j, b) } (yielded ops a.tmps) = false := by
    simp [Region.wanted, ha.Cu ops hj hb]
  unfold wpListIn
  rw [if_neg (by simp [hw])]
  exact ⟨fun _ _ => trivial, h1⟩
theorem dh {t : Nat} {b : Bool} {l : List Oper} (hb : σ t = .bool b) (h1 : b = true → FL P r n ops Q l (upd σ t (.bool true)) w) (h0 : b = false → FL P r n ops Q l (upd σ t (.bool false)) w) : FL P r n ops Q l σ w := by
 cases b
 ·have := h0 rfl; rw [← hb, pV] at this; exact this
 have := h1 rfl; rw [← hb, pV] at this; exact this
class Enters (P : Program) (f : FuncId) : Prop where
 run : ∀ args w, (callFunc f args).run P w = .ok (.enter f args) w
theorem bH {d : Nat} {f : FuncId} {xs : List Operand} {ats : Array TypeId} {vals : List Value} {R : Value → World → Prop} [he : Enters P f] (hc : bF P f vals w R) (hv : xs.map (evF σ) = vals) (hd : Nat.blt d n = true)
    (h : ∀ v w', R v w' → FL P r n ops Q rest (upd σ d v) w') :
    FL P r n ops Q ({ dst := some d, op := .call { callee := .value (.func f), args := xs.toArray, argTypes := ats }, type := ty, pos := pos, after := after, guard := none } :: rest) σ w := fun a ha =>
  wpListIn_plain rfl fun K hK => by
    refine ⟨fun _ _ => trivial, ?_⟩
    rw [Oper.semAt_eq _ _ _ (fun _ h => by cases h), execOp_call_go, he.run]
    have e : (#[] ++ xs.toArray.map a.eval ++ #[] : Array Value) = vals.toArray := by rw [ha.eval]; simp [hv]
    rw [e, Oper.uponIn_enter]
    refine ⟨(fun h => by cases h), rH r (Calls.mono hc fun e w'' hr => ?_)⟩
    cases e with
    | returned v => exact hK _ _ (h v w'' hr _ (ha.put (Nat.le_of_ble_eq_true hd) v))
    | _ => exact hr.elim
theorem Ro {c : Operand} {x y : Code} {p : Prop} [Decidable p] (hc : evF σ c = .bool (decide p)) (ht : p → FW P r n x Q σ w) (hf : ¬ p → FW P r n y Q σ w) : FW P r n (.cond c x y) Q σ w :=
 Cc hc (fun h => ht (of_decide_eq_true h)) (fun h => hf (of_decide_eq_false h))
end rules

section gives
variable {P : Program} {ρ : Operand → Value} {ty : TypeId} {w w' : World} {x y z : Operand}
theorem Gives.move {v : Value} (h : ρ x = v) : Gives P ρ (.move x) ty w v w := fun _ _ _ _ => by subst h; rfl
theorem Gives.assign {v : Value} (h : ρ x = v) : Gives P ρ (.assign x) ty w v w := fun _ _ _ _ => by subst h; rfl
theorem Gives.pick {b : Bool} {u v : Value} (hc : ρ z = .bool b) (hx : ρ x = u) (hy : ρ y = v) : Gives P ρ (.pick z x y) ty w (if b then u else v) w := fun _ _ _ _ => by
 simp only [execOp, hc, hx, hy]; cases b <;> rfl
theorem Gives.nC {v : Value} (hc : ρ z = .bool true) (hx : ρ x = v) : Gives P ρ (.pick z x y) ty w v w := fun _ _ _ _ => by subst hx; simp only [execOp, hc]; rfl
theorem Gives.nP {v : Value} (hc : ρ z = .bool false) (hy : ρ y = v) : Gives P ρ (.pick z x y) ty w v w := fun _ _ _ _ => by subst hy; simp only [execOp, hc]; rfl
theorem Gives.bin {op : BinOp} {T U : TypeId} {a b v : Value} (hx : ρ x = a) (hy : ρ y = b) (hg : ∀ x y, (eqGuard op T x y a b).run P w = .ok () w) (hr : (binOp op T a b).run P w = .ok v w) : Gives P ρ (.binOp op T x y U) ty w v w := fun _ _ _ _ => by
 simp only [execOp, hx, hy, Sem.run_bind, hg, hr, Result.andThen_ok, Sem.run_pure]
section ints
variable {T U : TypeId} {k : IntKind} {a b : Int}
theorem Gives.add (hx : ρ x = .int k a) (hy : ρ y = .int k b) : Gives P ρ (.binOp .add T x y U) ty w (.int k (k.wrap (a + b))) w := .bin hx hy (fun _ _ => rfl) (by rw [binOp_add]; rfl)
theorem Gives.sub (hx : ρ x = .int k a) (hy : ρ y = .int k b) : Gives P ρ (.binOp .sub T x y U) ty w (.int k (k.wrap (a - b))) w := .bin hx hy (fun _ _ => rfl) (by rw [binOp_sub]; rfl)
theorem Gives.mul (hx : ρ x = .int k a) (hy : ρ y = .int k b) : Gives P ρ (.binOp .mul T x y U) ty w (.int k (k.wrap (a * b))) w := .bin hx hy (fun _ _ => rfl) (by rw [binOp_mul]; rfl)
theorem Gives.bM {c : Int} (hx : ρ x = .int .i64 a) (hy : ρ y = .int .i64 b) (he : a + b = c) (h : -9223372036854775808 ≤ c ∧ c ≤ 9223372036854775807) : Gives P ρ (.binOp .add T x y U) ty w (.int .i64 c) w := by
 have := Gives.add (P := P) (ty := ty) (w := w) (T := T) (U := U) hx hy
 rw [he, IntWalk.i64_in _ h] at this; exact this
theorem Gives.yh {c : Int} (hx : ρ x = .int .i64 a) (hy : ρ y = .int .i64 b) (he : a - b = c) (h : -9223372036854775808 ≤ c ∧ c ≤ 9223372036854775807) : Gives P ρ (.binOp .sub T x y U) ty w (.int .i64 c) w := by
 have := Gives.sub (P := P) (ty := ty) (w := w) (T := T) (U := U) hx hy
 rw [he, IntWalk.i64_in _ h] at this; exact this
theorem Gives.Rp {c : Int} (hx : ρ x = .int .i64 a) (hy : ρ y = .int .i64 b) (he : a * b = c) (h : -9223372036854775808 ≤ c ∧ c ≤ 9223372036854775807) : Gives P ρ (.binOp .mul T x y U) ty w (.int .i64 c) w := by
 have := Gives.mul (P := P) (ty := ty) (w := w) (T := T) (U := U) hx hy
 rw [he, IntWalk.i64_in _ h] at this; exact this
theorem Gives.quo (hx : ρ x = .int k a) (hy : ρ y = .int k b) (h0 : b ≠ 0) : Gives P ρ (.binOp .quo T x y U) ty w (.int k (k.wrap (a.tdiv b))) w := .bin hx hy (fun _ _ => rfl) (by rw [binOp_quo, Op.intDiv, if_neg h0]; rfl)
theorem Gives.rem (hx : ρ x = .int k a) (hy : ρ y = .int k b) (h0 : b ≠ 0) : Gives P ρ (.binOp .rem T x y U) ty w (.int k (a.tmod b)) w := .bin hx hy (fun _ _ => rfl) (by rw [binOp_rem, Op.intDiv, if_neg h0]; rfl)
theorem Gives.eql (hx : ρ x = .int k a) (hy : ρ y = .int k b) : Gives P ρ (.binOp .eql T x y U) ty w (.bool (decide (a = b))) w := .bin hx hy (fun _ _ => by rw [eqGuard_at_int]; rfl) (by rw [binOp_eql]; rfl)
theorem Gives.neq (hx : ρ x = .int k a) (hy : ρ y = .int k b) : Gives P ρ (.binOp .neq T x y U) ty w (.bool (decide (a ≠ b))) w := .bin hx hy (fun _ _ => by rw [eqGuard_at_int]; rfl) (by rw [binOp_neq, show (a != b) = decide (a ≠ b) from by rw [decide_not]; rfl]; rfl)
theorem Gives.lss (hx : ρ x = .int k a) (hy : ρ y = .int k b) : Gives P ρ (.binOp .lss T x y U) ty w (.bool (decide (a < b))) w := .bin hx hy (fun _ _ => rfl) (by rw [binOp_lss]; rfl)
theorem Gives.leq (hx : ρ x = .int k a) (hy : ρ y = .int k b) : Gives P ρ (.binOp .leq T x y U) ty w (.bool (decide (a ≤ b))) w := .bin hx hy (fun _ _ => rfl) (by rw [binOp_leq]; rfl)
theorem Gives.gtr (hx : ρ x = .int k a) (hy : ρ y = .int k b) : Gives P ρ (.binOp .gtr T x y U) ty w (.bool (decide (b < a))) w := .bin hx hy (fun _ _ => rfl) (by rw [binOp_gtr]; rfl)
theorem Gives.geq (hx : ρ x = .int k a) (hy : ρ y = .int k b) : Gives P ρ (.binOp .geq T x y U) ty w (.bool (decide (b ≤ a))) w := .bin hx hy (fun _ _ => rfl) (by rw [binOp_geq]; rfl)
theorem Gives.shl {yk : IntKind} (hx : ρ x = .int k a) (hy : ρ y = .int yk b) (h0 : 0 ≤ b) : Gives P ρ (.binOp .shl T x y U) ty w (.int k (k.wrap (a * 2 ^ (min b.toNat k.bits)))) w := .bin hx hy (fun _ _ => rfl) (by rw [binOp_shl, Op.shift, if_neg (by omega)]; rfl)
theorem Gives.shr {yk : IntKind} (hx : ρ x = .int k a) (hy : ρ y = .int yk b) (h0 : 0 ≤ b) : Gives P ρ (.binOp .shr T x y U) ty w (.int k (a.fdiv (2 ^ (min b.toNat k.bits)))) w := .bin hx hy (fun _ _ => rfl) (by rw [binOp_shr, Op.shift, if_neg (by omega)]; rfl)
theorem Gives.and (hx : ρ x = .int k a) (hy : ρ y = .int k b) : Gives P ρ (.binOp .and T x y U) ty w (.int k (bits .and k a b)) w := .bin hx hy (fun _ _ => rfl) (by rw [binOp_and]; rfl)
theorem Gives.or (hx : ρ x = .int k a) (hy : ρ y = .int k b) : Gives P ρ (.binOp .or T x y U) ty w (.int k (bits .or k a b)) w := .bin hx hy (fun _ _ => rfl) (by rw [binOp_or]; rfl)
end ints
class Rq (P : Program) (t : TypeId) : Prop where
 und : P.underlying t = some .bool
theorem Gives.GJ {T U : TypeId} [h : Rq P T] {a b : Bool} (hx : ρ x = .bool a) (hy : ρ y = .bool b) : Gives P ρ (.binOp .neq T x y U) ty w (.bool (!(a == b))) w := .bin hx hy (fun _ _ => by rw [eqGuard_at_bool]; rfl) (run_neq_bool _ _ _ _ h.und)
theorem Gives.aaZ {T U : TypeId} {a b : ByteArray} (hx : ρ x = .string a) (hy : ρ y = .string b) : Gives P ρ (.binOp .eql T x y U) ty w (.bool (a.toList == b.toList)) w := .bin hx hy (fun _ _ => by rw [eqGuard_at_string]; rfl) rfl
theorem Gives.aa0 {T U : TypeId} {a b : ByteArray} (hx : ρ x = .string a) (hy : ρ y = .string b) : Gives P ρ (.binOp .neq T x y U) ty w (.bool (!(a.toList == b.toList))) w := .bin hx hy (fun _ _ => by rw [eqGuard_at_string]; rfl) rfl
theorem Gives.not {b : Bool} {T : TypeId} (hx : ρ x = .bool b) : Gives P ρ (.unOp .not T x) ty w (.bool (!b)) w := fun _ _ _ _ => by simp only [execOp, hx]; rfl
theorem Gives.notP {p : Prop} [Decidable p] {T : TypeId} (hx : ρ x = .bool (decide p)) : Gives P ρ (.unOp .not T x) ty w (.bool (decide (¬ p))) w := by
 have := Gives.not (P := P) (ty := ty) (w := w) (T := T) hx
 rw [show (!decide p) = decide (¬ p) from by simp] at this; exact this
theorem Gives.neg {k : IntKind} {a : Int} {T : TypeId} (hx : ρ x = .int k a) : Gives P ρ (.unOp .neg T x) ty w (.int k (k.wrap (0 - a))) w := fun _ _ _ _ => by simp only [execOp, hx]; rfl
theorem Gives.nilCheck {a : Addr} (hx : ρ x = .pointer (some a)) : Gives P ρ (.nilCheck x) ty w (.pointer (some a)) w := fun _ _ _ _ => by simp only [execOp, hx]; rfl
theorem Gives.Y1 {s t : TypeId} {k j : IntKind} {a : Int} (hs : (P.underlying s).isSome = true) (ht : P.underlying t = some (.int k)) (hx : ρ x = .int j a) : Gives P ρ (.convert s t x) ty w (.int k (k.wrap a)) w := fun _ _ _ _ => by
 obtain ⟨d, hd⟩ := Option.isSome_iff_exists.1 hs
 simp [execOp, hx, convert, run_underlying hd, run_underlying ht, Conv.intToInt]
class uz (P : Program) (t : TypeId) : Prop where
 und : ∃ e, P.underlying t = some (.pointer e)
theorem xM (d : Nat) {T e : TypeId} (he : P.underlying T = some (.pointer e)) (a : Option Addr) : (Op.equalIn (d + 1) T (.pointer a) (.pointer none)).run P w = .ok a.isNone w := by
 cases a <;> simp [Op.equalIn, run_underlying he]
theorem yZ {T : TypeId} [h : uz P T] (a : Option Addr) : (Op.equal T (.pointer a) (.pointer none)).run P w = .ok a.isNone w := by
 obtain ⟨e, he⟩ := h.und
 exact xM 9999 he a
theorem Gives.Rt {T U : TypeId} [uz P T] {a : Option Addr} (hx : ρ x = .pointer a) (hy : ρ y = .pointer none) : Gives P ρ (.binOp .eql T x y U) ty w (.bool a.isNone) w :=
 .bin hx hy (fun _ _ => by rw [eqGuard_at_pointer]; rfl) (by simp [binOp, yZ])
class dZ (P : Program) (s f : Nat) (k : outParam Nat) : Prop where
 run : ∀ a w, (Instr.fieldAt s (.pointer (some a)) f).run P w = .ok (.pointer (some (a.add k))) w
theorem Gives.dx {s f k b : Nat} [h : dZ P s f k] (hx : ρ x = .pointer (some ⟨b, 0, none⟩)) : Gives P ρ (.fieldAddr s x f) ty w (.pointer (some ⟨b, k, none⟩)) w := fun _ _ _ _ => by
 simp only [execOp, hx, Sem.run_bind, h.run, Result.andThen_ok, Sem.run_pure, Addr.add_lit, Nat.zero_add]
theorem Gives.field {s f k b o : Nat} [h : dZ P s f k] (hx : ρ x = .pointer (some ⟨b, o, none⟩)) : Gives P ρ (.fieldAddr s x f) ty w (.pointer (some ⟨b, o + k, none⟩)) w := fun _ _ _ _ => by
 simp only [execOp, hx, Sem.run_bind, h.run, Result.andThen_ok, Sem.run_pure, Addr.add_lit]
class OneCell (P : Program) (t : TypeId) : Prop where
 agg : ∀ w, (isAgg t).run P w = .ok false w
 size : ∀ w, (sizeOf t).run P w = .ok 1 w
class Agg (P : Program) (t : TypeId) (k : outParam Nat) : Prop where
 agg : ∀ w, (isAgg t).run P w = .ok true w
 size : ∀ w, (sizeOf t).run P w = .ok k w
class Zero (P : Program) (t : TypeId) (z : outParam Value) : Prop where
 run : ∀ w, (zeroValue t).run P w = .ok z w
class dA (P : Program) (t : TypeId) (e : outParam TypeId) : Prop where
 und : P.underlying t = some (.slice e)
class lI (P : Program) (t : TypeId) (m : outParam Nat) (e : outParam TypeId) : Prop where
 und : P.underlying t = some (.array m e)
class IsMap (P : Program) (t : TypeId) (k e : outParam TypeId) : Prop where
 und : P.underlying t = some (.map k e)
class iH (P : Program) (t : TypeId) (k : outParam IntKind) : Prop where
 und : P.underlying t = some (.int k)
class lM (P : Program) (t : TypeId) : Prop where
 und : P.underlying t = some .string
class Cells (P : Program) (t : TypeId) (k b : outParam Nat) : Prop where
 size : (P.info? t).map (fun i => (i.size, i.bytes)) = some (k, b)
theorem og {b : Nat} {cs : List Value} {E : TypeId} (h : w.heap[b]? = some (.cells cs.toArray E (0, 0))) (i : Nat) : w.cell? ⟨b, i, none⟩ = cs[i]? := by
 rw [cell_of_row w b i _ _ _ h]; simp
theorem Gives.Ol {T b o : Nat} [h1 : OneCell P T] {cs : List Value} {E : TypeId} {v : Value} (hx : ρ x = .pointer (some ⟨b, o, none⟩)) (hb : w.heap[b]? = some (.cells cs.toArray E (0, 0))) (hv : cs[o]? = some v) : Gives P ρ (.load T x) ty w v w := fun _ _ _ _ => by
 simp [execOp, hx, Instr.loadAt, Instr.sureAddr, loadVar, h1.agg, og hb, hv]
theorem qD {b o k : Nat} {cs : List Value} {E : TypeId} (hb : w.heap[b]? = some (.cells cs.toArray E (0, 0))) {us : List Value} (hu : (cs.drop o).take k = us) (hk : us.length = k) :
    (loadCells ⟨b, o, none⟩ k).run P w = .ok us.toArray w := by
  have := run_loadCells_list (P := P) w ⟨b, o, none⟩ us (fun j v hj => by
    rw [Addr.add_lit, og hb]
    rw [← hu, List.getElem?_take] at hj
    split at hj
    · rw [List.getElem?_drop] at hj; exact hj
    cases hj)
  rw [hk] at this; exact this
theorem Gives.nQ {T b o k : Nat} [h1 : Agg P T k] {cs : List Value} {E : TypeId} {us : List Value} (hx : ρ x = .pointer (some ⟨b, o, none⟩)) (hb : w.heap[b]? = some (.cells cs.toArray E (0, 0))) (hu : (cs.drop o).take k = us) (hk : us.length = k) : Gives P ρ (.load T x) ty w (.agg us.toArray) w := fun _ _ _ _ => by
 simp [execOp, hx, Instr.loadAt, Instr.sureAddr, loadVar, h1.agg, h1.size, qD hb hu hk]
end gives
end Go.Mw
namespace Go.Mw
open Go.RowKit

structure iI (w : World) (A : Option Addr) (n s : Nat) (xs : List Value) : Prop where
 len : xs.length = n * s
 at_ : 0 < n → ∃ ad, A = some ad ∧ ∀ (j : Nat) u, xs[j]? = some u → w.cell? (ad.add j) = some u
theorem add_add (a : Addr) (i j : Nat) : (a.add i).add j = a.add (i + j) := by
 unfold Addr.add
 by_cases hi : i = 0 <;> by_cases hj : j = 0 <;> simp [hi, hj, Nat.add_assoc]
theorem add_block (a : Addr) (n : Nat) : (a.add n).block = a.block := by unfold Addr.add; split <;> rfl
theorem Om {w : World} {a : Addr} {v : Value} (h : w.cell? a = some v) : a.block < w.heap.size := block_lt_of_cell h
theorem Kept.cell {S : Nat → Prop} {w w' : World} (h : Kept S w w') {a : Addr} {v : Value} (hc : w.cell? a = some v) (hS : ¬ S a.block) : w'.cell? a = some v :=
 (World.cell?_of_block (h.block _ (Om hc) hS)).trans hc
section
variable {w w' : World} {A : Option Addr} {n s : Nat} {xs : List Value}
theorem iI.nil (w : World) (A : Option Addr) (s : Nat) : iI w A 0 s [] := ⟨by simp, fun h => absurd h (Nat.lt_irrefl 0)⟩
def Off (A : Option Addr) (n : Nat) (F : Nat → Prop) : Prop := 0 < n → ∀ ad, A = some ad → ¬ F ad.block
theorem iI.Y2 {S : Nat → Prop} (h : iI w A n s xs) (hk : Kept S w w') (Q9 : Off A n S) : iI w' A n s xs :=
 ⟨h.len, fun hn => by
  obtain ⟨ad, hA, hc⟩ := h.at_ hn
  exact ⟨ad, hA, fun j u hj => hk.cell (hc j u hj) (by rw [add_block]; exact Q9 hn ad hA)⟩⟩
theorem iI.keep (h : iI w A n s xs) (hk : Kept noB w w') : iI w' A n s xs := h.Y2 hk fun _ _ _ => id
theorem Off.of {S F : Nat → Prop} (hO : Off A n S) (h : iI w A n s xs) (hF : ∀ b, F b → S b ∨ w.heap.size ≤ b) (hs : 0 < s) : Off A n F := fun hn ad hA hb => by
 obtain ⟨ad', h1, h2⟩ := h.at_ hn
 rw [hA] at h1
 injection h1 with h1
 subst h1
 have hl : 0 < xs.length := by rw [h.len]; exact Nat.mul_pos hn hs
 have hc := h2 0 xs[0] (by simp [hl])
 have bU := Om hc
 rw [add_block] at bU
 rcases hF _ hb with h3 | h3
 ·exact hO hn ad hA h3
 omega
theorem iI.cut (h : iI w A n s xs) {k cap : Nat} (hk : k ≤ n) (hc : n ≤ cap) :
    iI w (if cap = k then A else A.map (·.add (k * s))) (n - k) s (xs.drop (k * s)) := by
  refine ⟨by rw [List.length_drop, h.len, Nat.sub_mul], fun hn => ?_⟩
  obtain ⟨ad, rfl, LV⟩ := h.at_ (by omega)
  rw [if_neg (by omega)]
  exact ⟨ad.add (k * s), rfl, fun j u hu => by rw [add_add]; exact LV _ u (by rw [← hu, List.getElem?_drop])⟩
theorem iI.take (h : iI w A n s xs) {k : Nat} (hk : k ≤ n) : iI w A k s (xs.take (k * s)) := by
 refine ⟨by rw [List.length_take, h.len]; exact Nat.min_eq_left (Nat.mul_le_mul_right s hk), fun hn => ?_⟩
 obtain ⟨ad, hA, LV⟩ := h.at_ (by omega)
 refine ⟨ad, hA, fun j u hu => LV j u ?_⟩
 rw [List.getElem?_take] at hu
 split at hu
 ·exact hu
 cases hu
end

def yj (E s : Nat) (v : Value) (n : Nat) (xs : List Value) : HP where
 ok F w := w.ownsRow 0 E s v n xs ∧ ∀ b, F b ↔ v.ownBlock = some b
 loc _ h fK := by
  obtain ⟨⟨h1, h2⟩, hF⟩ := fK
  refine ⟨⟨h1, ?_⟩, hF⟩
  rcases h2 with h2 | ⟨g, cap, cur, hv, hg, hh, r⟩
  ·exact .inl h2
  refine .inr ⟨g, cap, cur, hv, hg, ?_, r⟩
  rw [h g ((hF g).2 (by rw [hv]; rfl))]; exact hh
 low fK b hb := (fK.1.lt b ((fK.2 b).1 hb)).2
theorem y5 {w : World} {B E s n c : Nat} {A : Option Addr} {xs : List Value} (h : w.ownsRow B E s (.slice A n c) n xs) : iI w A n s xs := by
 refine ⟨h.1, fun hn => ?_⟩
 rcases h.2 with ⟨hv, h0⟩ | ⟨g, cap, cur, hv, _, hh, r⟩
 ·omega
 injection hv with hA
 subst hA
 exact ⟨_, rfl, h.cells (g := g) rfl⟩
section
variable {w₀ w w' : World} {S : Nat → Prop} {rs : List HP} {put : HP → List HP}
theorem Sep.rowAt {E s n c : Nat} {A : Option Addr} {xs : List Value} (h : Sep w₀ S rs w) (hat : At rs (yj E s (.slice A n c) n xs) put) : iI w A n s xs := by
 obtain ⟨F, hp, _, _⟩ := h.focus hat
 exact y5 hp.1
theorem Sep.qE {E s n : Nat} {v : Value} {xs : List Value} (h : Sep w₀ S rs w) (hat : At rs (yj E s v n xs) put) : ∃ A c, v = .slice A n c ∧ n ≤ c ∧ xs.length = n * s ∧ (A = none → n = 0 ∧ c = 0) := by
 obtain ⟨F, hp, _, _⟩ := h.focus hat
 rcases hp.1.2 with ⟨hv, h0⟩ | ⟨g, cap, cur, hv, _, hh, rG, r⟩
 ·exact ⟨none, 0, by rw [hv, h0], by omega, hp.1.1, fun _ => ⟨h0, rfl⟩⟩
 exact ⟨_, cap, hv, rG, hp.1.1, fun e => by cases e⟩
theorem Sep.Ru (h : Sep w₀ S rs w) (E s : Nat) : Sep w₀ S (yj E s (.slice none 0 0) 0 [] :: rs) w :=
 h.new (F' := fun _ => False) (Kept.refl _ _) ⟨World.ownsRow_nil _ _ _ _, fun b => by simp [Value.ownBlock]⟩ fun _ hb => hb.elim
theorem Sep.JY {b E s n : Nat} {cs : List Value} (h : Sep w₀ S rs w) (hat : At rs (blk b cs E) put) (hl : cs.length = n * s) (hm : n ≤ maxLen) : Sep w₀ S (put (yj E s (.slice (some ⟨b, 0, none⟩) n n) n cs)) w :=
 h.imp hat fun F hF => ⟨⟨hl, .inr ⟨b, n, cs.toArray, rfl, Nat.zero_le _, hF.2, Nat.le_refl _, hm, by simpa using hl, by rw [← hl]; simp⟩⟩, fun x => by rw [hF.1 x]; simp [Value.ownBlock, eq_comm]⟩
theorem Sep.y7 {E s n n' : Nat} {v v' : Value} {xs xs' : List Value} (h : Sep w₀ S rs w) (hat : At rs (yj E s v n xs) put) (hg : w.grownBy w' v.ownBlock) (l9 : w'.ownsRow 0 E s v' n' xs') (hb : v'.ownBlock = v.ownBlock ∨ v'.ownBlock = some w.heap.size ∨ v'.ownBlock = none) : Sep w₀ S (put (yj E s v' n' xs')) w' := by
 obtain ⟨F, hp, hS, zR⟩ := h.focus hat
 refine zR w' (fun b => v'.ownBlock = some b) _ ⟨hg.os, hg.tape, hg.output, hg.size, fun k hk hF => hg.block k hk fun e => hF ((hp.2 k).2 e.symm)⟩ ⟨l9, fun b => Iff.rfl⟩ fun b Rl => ?_
 rcases hb with e | e | e
 ·exact .inl ((hp.2 b).2 (by rw [← e]; exact Rl))
 ·rw [e] at Rl; injection Rl with Rl; exact .inr (by omega)
 rw [e] at Rl; cases Rl
end

theorem run_append_nil {P : Program} {w : World} (base t ty e : Nat) (i : TypeInfo) (size : Nat) (ht : P.underlying t = some (.slice e)) (hi : P.info? e = some i)
    (v : Value) (n : Nat) (xs : List Value) (l9 : w.ownsRow base e size v n xs) (A : Option Addr) (hA : A = none) (c : Nat) : (Builtin.append_ #[t, t] ty #[v, .slice A 0 c]).run P w = .ok v w := by
  subst hA
  rcases l9.2 with ⟨rfl, rfl⟩ | ⟨g, cap, cur, rfl, _, _, hnc, _⟩
  · simp [Builtin.append_, run_underlying ht, sizeOf, typeInfo, hi, Builtin.lenOf, Builtin.firstCells]
  simp [Builtin.append_, run_underlying ht, sizeOf, typeInfo, hi, Builtin.lenOf, Builtin.firstCells, hnc, storeCells]
theorem sI {P : Program} {w : World} (t ty e : Nat) [hs : dA P t e] {size bytes : Nat} [hc : Cells P e size bytes] {z : Value} [hz : Zero P e z] (hsz : 0 < size) (Co : z.cells.size = size)
    (v : Value) (n : Nat) (xs : List Value) (l9 : w.ownsRow 0 e size v n xs) (A : Option Addr) (m c : Nat) (news : List Value) (hr : iI w A m size news) (h1 : ∀ u ∈ news, u.oneCell' = true)
    (yT : n + m ≤ maxLen) (jk : (n + m) * bytes ≤ 140737488355328) :
    ∃ v' w', (Builtin.append_ #[t, t] ty #[v, .slice A m c]).run P w = .ok v' w' ∧ w'.ownsRow 0 e size v' (n + m) (xs ++ news) ∧ w.grownBy w' v.ownBlock ∧
      (v'.ownBlock = v.ownBlock ∨ v'.ownBlock = some w.heap.size) := by
  obtain ⟨i, hi, qB⟩ := Option.map_eq_some_iff.1 hc.size
  simp only [Prod.mk.injEq] at qB
  have vN : i.zero = some z := by
    have := hz.run w
    simp [zeroValue, typeInfo, hi] at this
    cases hq : i.zero with
    | none => simp [hq] at this
    | some u => simp [hq] at this; rw [this]
  rcases A with _ | ad
  · have hm : m = 0 := by
      rcases Nat.eq_zero_or_pos m with h0 | h0
      · exact h0
      obtain ⟨ad, h, _⟩ := hr.at_ h0; cases h
    subst hm
    have hn : news = [] := List.eq_nil_of_length_eq_zero (by simpa using hr.len)
    subst hn
    exact ⟨v, w, run_append_nil 0 t ty e i size hs.und hi v n xs l9 none rfl c, by simpa using l9, World.grownBy.refl w _, .inl rfl⟩
  have hcells : ∀ j u, news[j]? = some u → w.cell? (ad.add j) = some u := by
    intro j u hu
    rcases Nat.eq_zero_or_pos m with h0 | h0
    · subst h0
      have hn : news = [] := List.eq_nil_of_length_eq_zero (by simpa using hr.len)
      subst hn
      simp at hu
    obtain ⟨ad', h, Uq⟩ := hr.at_ h0
    injection h with h
    subst h
    exact Uq j u hu
  obtain ⟨v', w', iP, h2, h3, _, h5⟩ := run_append_own_at (P := P) w 0 t ty e i z size bytes hs.und hi vN qB.1 qB.2 Co hsz v n xs l9 ad m c news hr.len hcells h1 yT jk (Nat.zero_le _)
  exact ⟨v', w', iP, h2, h3, h5⟩

section rules
variable {P : Program} {r : Option Nat} {n : Nat} {ops : Array Oper} {Q : Post} {rest : List Oper} {σ : St} {w w' w₀ : World} {S : Nat → Prop} {rs : List HP} {put : HP → List HP} {ty : TypeId} {pos : String} {after : Array Edge}
theorem U0 {d : Nat} {x : Operand} {v : Value} (hv : evF σ x = v := by simp only [evF, upd_same, upd_ne, ne_eq, Nat.reduceEqDiff, not_false_eq_true]; rfl) (hd : Nat.blt d n = true := by exact rfl) (h : FL P r n ops Q rest (upd σ d v) w) :
    FL P r n ops Q ({ dst := some d, op := .move x, type := ty, pos := pos, after := after, guard := none } :: rest) σ w := eu (Gives.move hv) hd h
theorem Pk {d : Nat} {x : Operand} {v : Value} (hv : evF σ x = v := by simp only [evF, upd_same, upd_ne, ne_eq, Nat.reduceEqDiff, not_false_eq_true]; rfl) (hd : Nat.blt d n = true := by exact rfl) (h : FL P r n ops Q rest (upd σ d v) w) :
    FL P r n ops Q ({ dst := some d, op := .assign x, type := ty, pos := pos, after := after, guard := none } :: rest) σ w := eu (Gives.assign hv) hd h
theorem Rv {d : Nat} {x y z : Operand} {v : Value} (hc : evF σ z = .bool true := by exact rfl) (hv : evF σ x = v := by simp only [evF, upd_same, upd_ne, ne_eq, Nat.reduceEqDiff, not_false_eq_true]; rfl) (hd : Nat.blt d n = true := by exact rfl) (h : FL P r n ops Q rest (upd σ d v) w) :
    FL P r n ops Q ({ dst := some d, op := .pick z x y, type := ty, pos := pos, after := after, guard := none } :: rest) σ w := eu (Gives.nC hc hv) hd h
theorem Rw {d : Nat} {x y z : Operand} {v : Value} (hc : evF σ z = .bool false := by exact rfl) (hv : evF σ y = v := by simp only [evF, upd_same, upd_ne, ne_eq, Nat.reduceEqDiff, not_false_eq_true]; rfl) (hd : Nat.blt d n = true := by exact rfl) (h : FL P r n ops Q rest (upd σ d v) w) :
    FL P r n ops Q ({ dst := some d, op := .pick z x y, type := ty, pos := pos, after := after, guard := none } :: rest) σ w := eu (Gives.nP hc hv) hd h
theorem Oo {d b o : Nat} {x : Operand} {T : TypeId} [OneCell P T] {cs : List Value} {E : TypeId} {v : Value} (H : Sep w₀ S rs w) (hx : evF σ x = .pointer (some ⟨b, o, none⟩) := by exact rfl)
    (hat : At rs (blk b cs E) put := by first | exact At0 | exact At1 | exact At2 | exact At3 | exact At4 | exact At5 | exact At6 | exact At7 | exact At8 | exact At9) (hv : cs[o]? = some v := by exact rfl) (hd : Nat.blt d n = true := by exact rfl) (h : FL P r n ops Q rest (upd σ d v) w) :
    FL P r n ops Q ({ dst := some d, op := .load T x, type := ty, pos := pos, after := after, guard := none } :: rest) σ w := eu (Gives.Ol hx (H.obj hat) hv) hd h
theorem p8 {d b o k : Nat} {x : Operand} {T : TypeId} [Agg P T k] {cs : List Value} {E : TypeId} {us : List Value} (H : Sep w₀ S rs w) (hx : evF σ x = .pointer (some ⟨b, o, none⟩) := by exact rfl)
    (hat : At rs (blk b cs E) put := by first | exact At0 | exact At1 | exact At2 | exact At3 | exact At4 | exact At5 | exact At6 | exact At7 | exact At8 | exact At9) (hu : (cs.drop o).take k = us) (hk : us.length = k) (hd : Nat.blt d n = true := by exact rfl) (h : FL P r n ops Q rest (upd σ d (.agg us.toArray)) w) :
    FL P r n ops Q ({ dst := some d, op := .load T x, type := ty, pos := pos, after := after, guard := none } :: rest) σ w := eu (Gives.nQ hx (H.obj hat) hu hk) hd h
theorem Rx {d : Nat} {a : Addr} {x : Operand} {T : TypeId} [h1 : OneCell P T] {v : Value} (hc : w.cell? a = some v) (hx : evF σ x = .pointer (some a) := by exact rfl) (hd : Nat.blt d n = true := by exact rfl) (h : FL P r n ops Q rest (upd σ d v) w) :
    FL P r n ops Q ({ dst := some d, op := .load T x, type := ty, pos := pos, after := after, guard := none } :: rest) σ w :=
  eu (w' := w) (fun _ _ _ _ => by simp [execOp, hx, Instr.loadAt, Instr.sureAddr, loadVar, h1.agg, hc]) hd h
theorem Pm {d k : Nat} {a : Addr} {x : Operand} {T : TypeId} [h1 : Agg P T k] {us : List Value} (hc : ∀ j u, us[j]? = some u → w.cell? (a.add j) = some u) (hk : us.length = k) (hx : evF σ x = .pointer (some a) := by exact rfl) (hd : Nat.blt d n = true := by exact rfl) (h : FL P r n ops Q rest (upd σ d (.agg us.toArray)) w) :
    FL P r n ops Q ({ dst := some d, op := .load T x, type := ty, pos := pos, after := after, guard := none } :: rest) σ w :=
  eu (w' := w) (fun _ _ _ _ => by have := run_loadCells_list (P := P) w a us hc; rw [hk] at this; simp [execOp, hx, Instr.loadAt, Instr.sureAddr, loadVar, h1.agg, h1.size, this]) hd h
theorem yt {b o : Nat} {cs : List Value} {E : TypeId} {v : Value} (hb : w.heap[b]? = some (.cells cs.toArray E (0, 0))) (_ho : o < cs.length) :
    Kept (fun x => x = b) w (w.setCell ⟨b, o, none⟩ v) ∧ (w.setCell ⟨b, o, none⟩ v).heap[b]? = some (.cells (cs.set o v).toArray E (0, 0)) := by
  refine ⟨⟨rfl, rfl, rfl, by simp [World.setCell], fun k hk hS => Below.heap_setCell w _ v k hS⟩, ?_⟩
  simp only [World.setCell, Array.getElem?_modify, if_true, hb, Option.map_some]
  simp
theorem bW {b o : Nat} {x y : Operand} {T : TypeId} [h1 : OneCell P T] {cs cs' : List Value} {E : TypeId} {v : Value} (H : Sep w₀ S rs w) (hx : evF σ x = .pointer (some ⟨b, o, none⟩) := by exact rfl)
    (hy : evF σ y = v := by simp only [evF, upd_same, upd_ne, ne_eq, Nat.reduceEqDiff, not_false_eq_true]; rfl) (hv : v.oneCell' = true := by exact rfl)
    (hat : At rs (blk b cs E) put := by first | exact At0 | exact At1 | exact At2 | exact At3 | exact At4 | exact At5 | exact At6 | exact At7 | exact At8 | exact At9) (ho : Nat.blt o cs.length = true := by exact rfl)
    (hs : cs.set o v = cs' := by first | (simp only [List.set_cons_zero, List.set_cons_succ]; rfl) | exact rfl) (h : ∀ w', Sep w₀ S (put (blk b cs' E)) w' → FL P r n ops Q rest σ w') :
    FL P r n ops Q ({ dst := none, op := .store T x y, type := ty, pos := pos, after := after, guard := none } :: rest) σ w := by
  have bU : o < cs.length := Nat.le_of_ble_eq_true ho
  have hb := H.obj hat
  obtain ⟨hk, zU⟩ := yt (v := v) hb bU
  refine zY (w' := w.setCell ⟨b, o, none⟩ v) (fun _ _ _ _ => ?_) rfl (h _ (by subst hs; exact H.setObj hat hk zU))
  have dJ : (store (⟨b, o, none⟩ : Addr) v).run P w = .ok () (w.setCell ⟨b, o, none⟩ v) := by
    rw [run_store P w _ v _ hv, og hb, List.getElem?_eq_getElem bU]
    simp [World.frozen?, hb]
  have oK : v.cells = #[v] := by cases v <;> first | rfl | cases hv
  simp [execOp, hx, hy, Instr.storeAt, Instr.sureAddr, storeVar, h1.size, oK, storeCells, dJ, Addr.add_zero']
theorem EX {b o k : Nat} {x y : Operand} {T : TypeId} [h1 : Agg P T k] {cs us cs' : List Value} {E : TypeId} (H : Sep w₀ S rs w) (hx : evF σ x = .pointer (some ⟨b, o, none⟩) := by exact rfl)
    (hy : evF σ y = .agg us.toArray := by exact rfl) (hk : us.length = k) (hv : ∀ u ∈ us, u.oneCell' = true)
    (hat : At rs (blk b cs E) put := by first | exact At0 | exact At1 | exact At2 | exact At3 | exact At4 | exact At5 | exact At6 | exact At7 | exact At8 | exact At9) (ho : o + us.length ≤ cs.length)
    (hs : cs.take o ++ us ++ cs.drop (o + us.length) = cs') (h : ∀ w', Sep w₀ S (put (blk b cs' E)) w' → FL P r n ops Q rest σ w') :
    FL P r n ops Q ({ dst := none, op := .store T x y, type := ty, pos := pos, after := after, guard := none } :: rest) σ w := by
  have hb := H.obj hat
  have dJ := run_storeCells_at P b o E us 0 cs.toArray w hb (by simpa using ho) hv
  refine zY (w' := w.setRow b (cs.take o ++ us ++ cs.drop (o + us.length)).toArray) (fun _ _ _ _ => ?_) rfl (h _ (by
    subst hs
    refine H.setObj hat ⟨rfl, rfl, rfl, by simp, fun j hj hS => ?_⟩ ?_
    · simp only [World.setRow, Array.getElem?_modify]; rw [if_neg (fun e => hS e.symm)]
    simp only [World.setRow, Array.getElem?_modify, if_true, hb, Option.map_some]))
  simp only [Nat.add_zero] at dJ
  simp [execOp, hx, hy, Instr.storeAt, Instr.sureAddr, storeVar, h1.size, Value.cells, hk] 
  simp [hk] at dJ
  rw [dJ]
  simp
theorem bD {d : Nat} {T : TypeId} {z : Value} [hz : Zero P T z] {cs : List Value} (H : Sep w₀ S rs w) (oK : z.cells = cs.toArray := by exact rfl) (hd : Nat.blt d n = true := by exact rfl)
    (h : ∀ b w', Sep w₀ S (blk b cs T :: rs) w' → Kept noB w w' → FL P r n ops Q rest (upd σ d (.pointer (some ⟨b, 0, none⟩))) w') :
    FL P r n ops Q ({ dst := some d, op := .alloc T, type := ty, pos := pos, after := after, guard := none } :: rest) σ w :=
  eu (w' := w.alloc (.cells cs.toArray T)) (v := .pointer (some ⟨w.heap.size, 0, none⟩)) (fun _ _ _ _ => by simp [execOp, Instr.alloc, hz.run, newVar, newRow, oK]) hd (h _ _ (H.alloc _) (Kept.alloc _ _))
theorem dz {d : Nat} {T : TypeId} {x : Operand} {v : Value} {cs : List Value} (H : Sep w₀ S rs w) (hx : evF σ x = v := by simp only [evF, upd_same, upd_ne, ne_eq, Nat.reduceEqDiff, not_false_eq_true]; rfl) (oK : v.cells = cs.toArray := by exact rfl) (hd : Nat.blt d n = true := by exact rfl)
    (h : ∀ b w', Sep w₀ S (blk b cs T :: rs) w' → Kept noB w w' → FL P r n ops Q rest (upd σ d (.pointer (some ⟨b, 0, none⟩))) w') :
    FL P r n ops Q ({ dst := some d, op := .box T x, type := ty, pos := pos, after := after, guard := none } :: rest) σ w :=
  eu (w' := w.alloc (.cells cs.toArray T)) (v := .pointer (some ⟨w.heap.size, 0, none⟩)) (fun _ _ _ _ => by simp [execOp, Instr.box, hx, newVar, newRow, oK]) hd (h _ _ (H.alloc _) (Kept.alloc _ _))
theorem Cy {d : Nat} {T : TypeId} (H : Sep w₀ S rs w) (hd : Nat.blt d n = true := by exact rfl)
    (h : ∀ b w', Sep w₀ S (obj b (.map #[] 0) :: rs) w' → Kept noB w w' → FL P r n ops Q rest (upd σ d (.map (some b))) w') :
    FL P r n ops Q ({ dst := some d, op := .makeMap T none, type := ty, pos := pos, after := after, guard := none } :: rest) σ w :=
  eu (w' := w.alloc (.map #[] 0)) (v := .map (some w.heap.size)) (fun _ _ _ _ => by simp [execOp, Instr.makeMap]) hd (h _ _ (H.alloc _) (Kept.alloc _ _))
theorem aN {d : Nat} {f : FuncId} {xs : List Operand} {ats : Array TypeId} {vals : List Value} {v : Value} [he : Enters P f] (H : Sep w₀ S rs w) (hc : bF P f vals w fun v' w' => v' = v ∧ Kept noB w w') (hv : xs.map (evF σ) = vals := by exact rfl) (hd : Nat.blt d n = true := by exact rfl)
    (h : ∀ w', Sep w₀ S rs w' → Kept noB w w' → FL P r n ops Q rest (upd σ d v) w') :
    FL P r n ops Q ({ dst := some d, op := .call { callee := .value (.func f), args := xs.toArray, argTypes := ats }, type := ty, pos := pos, after := after, guard := none } :: rest) σ w :=
  bH hc hv hd fun v' w' ⟨e, hk⟩ => by subst e; exact h w' (H.keep hk) hk
end rules

section gives
variable {P : Program} {ρ : Operand → Value} {ty : TypeId} {w w' : World} {x y z : Operand}
theorem Gives.rJ {t e : TypeId} [h : dA P t e] {A : Option Addr} {m c : Nat} (hx : ρ x = .slice A m c) : Gives P ρ (.call { callee := .builtin .len, args := #[x], argTypes := #[t] }) ty w (.int .i64 m) w := fun _ _ _ _ => by
 simp [execOp, resolve, invoke, builtin, hx, Builtin.len_, run_underlying h.und, goInt]
theorem Gives.lenStr {t : TypeId} [h : lM P t] {s : ByteArray} (hx : ρ x = .string s) : Gives P ρ (.call { callee := .builtin .len, args := #[x], argTypes := #[t] }) ty w (.int .i64 s.size) w := fun _ _ _ _ => by
 simp [execOp, resolve, invoke, builtin, hx, Builtin.len_, run_underlying h.und, goInt]
theorem Gives.min {k : IntKind} {a b : Int} {ts : Array TypeId} (hx : ρ x = .int k a) (hy : ρ y = .int k b) : Gives P ρ (.call { callee := .builtin .min, args := #[x, y], argTypes := ts }) ty w (.int k (min a b)) w := fun _ _ _ _ => by
 have := run_min_int2 (P := P) w ts ty k k a b
 simp only [execOp, resolve, invoke, builtin, Sem.run_bind, Sem.run_pure, Result.andThen_ok, List.map_toArray, List.map_cons, List.map_nil, hx, hy, this]
 rw [Int.min_def]
 split <;> split <;> first | rfl | (congr 3; omega)
theorem Gives.max {k : IntKind} {a b : Int} {ts : Array TypeId} (hx : ρ x = .int k a) (hy : ρ y = .int k b) : Gives P ρ (.call { callee := .builtin .max, args := #[x, y], argTypes := ts }) ty w (.int k (max a b)) w := fun _ _ _ _ => by
 have := run_max_int2 (P := P) w ts ty k k a b
 simp only [execOp, resolve, invoke, builtin, Sem.run_bind, Sem.run_pure, Result.andThen_ok, List.map_toArray, List.map_cons, List.map_nil, hx, hy, this]
 rw [Int.max_def]
 split <;> split <;> first | rfl | (congr 3; omega)
theorem Gives.sliceTo {t e : TypeId} [ht : dA P t e] {size bytes : Nat} [hc : Cells P e size bytes] {A : Option Addr} {m c h : Nat} {k : IntKind} (hx : ρ x = .slice A m c) (hy : ρ y = .int k h) (rG : h ≤ c) : Gives P ρ (.slice t x none (some y) none) ty w (.slice A h c) w := fun _ _ _ _ => by
 obtain ⟨i, hi, qB⟩ := Option.map_eq_some_iff.1 hc.size
 have e1 : (0 : Int) ≤ (h : Int) ∧ (h : Int) ≤ (c : Int) := by omega
 have e2 : A.map (fun x : Addr => x.add 0) = A := by cases A <;> simp [Addr.add_zero']
 simp [execOp, hx, hy, Instr.sliceAt, run_underlying ht.und, Instr.slice, Instr.sliceBounds, Instr.sliceBound, asIntOf, e1, sizeOf, typeInfo, hi, e2]
 omega
theorem Gives.sliceFrom {t e : TypeId} [ht : dA P t e] {size bytes : Nat} [hc : Cells P e size bytes] {A : Option Addr} {m c l : Nat} {k : IntKind} (hx : ρ x = .slice A m c) (hy : ρ y = .int k l) (rG : l ≤ m) : Gives P ρ (.slice t x (some y) none none) ty w (.slice (if c = l then A else A.map (·.add (l * size))) (m - l) (c - l)) w := fun _ _ _ _ => by
 obtain ⟨i, hi, qB⟩ := Option.map_eq_some_iff.1 hc.size
 simp only [Prod.mk.injEq] at qB
 have e1 : (0 : Int) ≤ (l : Int) ∧ (l : Int) ≤ (m : Int) := by omega
 simp [execOp, hx, hy, Instr.sliceAt, run_underlying ht.und, Instr.slice, Instr.sliceBounds, Instr.sliceBound, asIntOf, e1, sizeOf, typeInfo, hi, qB.1]
 omega
theorem Gives.idx {t e : TypeId} [ht : dA P t e] {size bytes : Nat} [hc : Cells P e size bytes] {ad : Addr} {m c i : Nat} {k : IntKind} (hx : ρ x = .slice (some ad) m c) (hy : ρ y = .int k i) (bU : i < m) : Gives P ρ (.indexAddr t x y) ty w (.pointer (some (ad.add (i * size)))) w := fun _ _ _ _ => by
 obtain ⟨j, hj, qB⟩ := Option.map_eq_some_iff.1 hc.size
 simp only [Prod.mk.injEq] at qB
 have e1 : (0 : Int) ≤ (i : Int) ∧ (i : Int) < (m : Int) := by omega
 simp [execOp, hx, hy, Instr.indexAt, run_underlying ht.und, asIntOf, e1, sizeOf, typeInfo, hj, qB.1, bU]
theorem Gives.yu {t e m : TypeId} [ht : lI P t m e] {size bytes : Nat} [hc : Cells P e size bytes] {ad : Addr} {i : Nat} {k : IntKind} (hx : ρ x = .pointer (some ad)) (hy : ρ y = .int k i) (bU : i < m) : Gives P ρ (.indexAddr t x y) ty w (.pointer (some (ad.add (i * size)))) w := fun _ _ _ _ => by
 obtain ⟨j, hj, qB⟩ := Option.map_eq_some_iff.1 hc.size
 simp only [Prod.mk.injEq] at qB
 have e1 : (0 : Int) ≤ (i : Int) ∧ (i : Int) < (m : Int) := by omega
 simp [execOp, hx, hy, Instr.indexAt, run_underlying ht.und, asIntOf, Instr.sureAddr, e1, sizeOf, typeInfo, hj, qB.1, bU]
end gives
end Go.Mw
namespace Go.Mw
open Go.RowKit

section
variable (ops : Array Oper)
def j4 (i : Nat) : List Nat := match ops[i]? with
 | some o => o.after.toList.filterMap fun e => if Region.binds .any e then some e.on else none
 | none => []
def ig (i : Nat) : Option Nat := (ops[i]?).bind (fun o : Oper => o.dst)
def looks (i : Nat) : List Nat := match ops[i]? with
 | some o => o.looksAt ops
 | none => []
def Ce : Op → Bool
 | .select .. => false
 | _ => true
def mP (lv : List Bool) (ids : List Nat) (i : Nat) : Bool :=
 !(lv.getD i true) && (j4 ops i).all (fun e => lv.getD e false) && (match ig ops i with | some d => !(looks ops i).contains d | none => true) &&
 ids.all fun k => (match ig ops i with | some d => ig ops k != some d && !(looks ops k).contains d | none => true) &&
  (match ig ops k with | some d => !(looks ops i).contains d || (j4 ops i).contains k | none => true)
def p9 (lv : List Bool) : List Nat := (List.range ops.size).filter fun i => !(lv.getD i true) && (j4 ops i).all fun e => lv.getD e false
def iq (lv : List Bool) (ids : List Nat) (e : Nat) : Bool :=
 p9 ops lv == [e] &&
 ids.all fun k => (j4 ops e).contains k || ((match ig ops e with | some d => ig ops k != some d && !(looks ops k).contains d | none => true) &&
  (match ig ops k with | some d => !(looks ops e).contains d | none => true))
def zZ (S : List Nat) (k : Nat) : List Nat := if S.contains k then S ++ (j4 ops k).filter (fun j => !(S.contains j)) else S
def above (i : Nat) : List Nat := (List.range ops.size).reverse.foldl (zZ ops) (j4 ops i)
end

def uK (P : Program) (ops : Array Oper) (σ : St) (w : World) (o : Oper) (v : Value) : Prop :=
 (Region.wanted o (dR ops σ) = true ∧ (execOp (evF σ) o).run P w = .ok (.value v) w) ∨ (Region.wanted o (dR ops σ) = false ∧ v = undef)
def fC (n : Nat) (ops : Array Oper) : Bool := ops.all fun o => Ct n o.dst && Ce o.op

structure Real (P : Program) (n : Nat) (ops : Array Oper) (lv : List Bool) (pd : List (Nat × Bool)) (σ : St) (w : World) (sub : List (Nat × Bool)) (lr : Array Bool) (a : Act) : Prop where
 mem : ∀ p ∈ sub, p ∈ pd
 nd : (sub.map (·.1)).Nodup
 pw : sub.Pairwise fun x y => x.1 ∉ j4 ops y.1
 pr : ∀ p ∈ sub, ∀ e ∈ j4 ops p.1, lv.getD e false = true ∧ e ≠ p.1
 lvl : ∀ p ∈ sub, lv.getD p.1 false = true
 lrv : ∀ i, i < ops.size → lr.getD i true = (lv.getD i true && !((sub.map (·.1)).contains i))
 sz : lr.size = ops.size
 lsz : lv.length = ops.size
 cl : ∀ i, lr.getD i false = true → ∀ e ∈ j4 ops i, lr.getD e false = true
 rep : ∃ σr, Rep n σr a ∧ σr.ds = σ.ds ∧ ∀ x, (∀ p ∈ sub, ig ops p.1 ≠ some x) → σr x = σ x
 yl : ∀ p ∈ sub, ∃ o v, ops[p.1]? = some o ∧ (∀ d, o.dst = some d → σ d = v) ∧ ∀ w', (p.2 = true ∨ w' = w) → uK P ops σ w' o v
 own : ∀ p ∈ sub, ∀ d, ig ops p.1 = some d → d ∉ looks ops p.1
 apart : ∀ p ∈ sub, ∀ q ∈ sub, p.1 ≠ q.1 → ∀ d, ig ops p.1 = some d → ig ops q.1 ≠ some d ∧ (d ∈ looks ops q.1 → p.1 ∈ j4 ops q.1)

def left (ops : Array Oper) (lr : Array Bool) : Nat := ((List.range ops.size).filter fun i => !(lr.getD i true)).length

def FG (P : Program) (r : Option Nat) (n : Nat) (ops : Array Oper) (Q : Post) (lv : List Bool) (pd : List (Nat × Bool)) (σ : St) (w : World) : Prop :=
 ∀ sub lr a, Real P n ops lv pd σ w sub lr a → wpAnyIn (fen r) 0 P .any ops (lift n Q) (left ops lr) lr a w

section
variable {P : Program} {r : Option Nat} {n : Nat} {ops : Array Oper} {Q : Post} {lv : List Bool} {pd : List (Nat × Bool)} {σ : St} {w : World}

theorem EY {i e : Nat} {o : Oper} (ho : ops[i]? = some o) : e ∈ j4 ops i ↔ ∃ x ∈ o.after, Region.binds .any x = true ∧ x.on = e := by
 unfold j4
 simp only [ho, List.mem_filterMap]
 constructor
 ·rintro ⟨x, hx, h⟩
  split at h
  ·rename_i hb; injection h with h; exact ⟨x, by simpa using hx, hb, h⟩
  cases h
 rintro ⟨x, hx, hb, h⟩
 exact ⟨x, by simpa using hx, by rw [if_pos hb, h]⟩
theorem rM {lr : Array Bool} {j : Nat} : j ∈ Region.ready .any ops lr ↔ lr.getD j true = false ∧ j < ops.size ∧ ∀ e ∈ j4 ops j, lr.getD e false = true := by
 rw [mem_ready]
 constructor
 ·rintro ⟨h0, o, ho, h⟩
  refine ⟨h0, (Array.getElem?_eq_some_iff.1 ho).1, fun e he => ?_⟩
  obtain ⟨x, hx, hb, rfl⟩ := (EY ho).1 he
  exact h x hx hb
 rintro ⟨h0, bU, h⟩
 refine ⟨h0, ops[j], Array.getElem?_eq_getElem bU, fun e he hb => h _ ((EY (Array.getElem?_eq_getElem bU)).2 ⟨e, he, hb, rfl⟩)⟩
theorem sJ {j : Nat} : j ∈ p9 ops lv ↔ lv.getD j true = false ∧ j < ops.size ∧ ∀ e ∈ j4 ops j, lv.getD e false = true := by
 unfold p9
 simp only [List.mem_filter, List.mem_range, Bool.and_eq_true, Bool.not_eq_true', List.all_eq_true]
 constructor
 ·rintro ⟨h1, h2, h3⟩; exact ⟨h2, h1, h3⟩
 rintro ⟨h1, h2, h3⟩; exact ⟨h2, h1, h3⟩
theorem Ry {lr : Array Bool} {i : Nat} (hi : i < ops.size) (hs : lr.size = ops.size) (h : lr.getD i true = false) : left ops lr = left ops (lr.setIfInBounds i true) + 1 := by
 unfold left
 have key : ∀ m, m ≤ ops.size → ((List.range m).filter fun k => !(lr.getD k true)).length = ((List.range m).filter fun k => !((lr.setIfInBounds i true).getD k true)).length + (if i < m then 1 else 0) := by
  intro m
  induction m with
  | zero => intro _; simp
  | succ m ih =>
   intro hm
   rw [List.range_succ, List.filter_append, List.filter_append, List.length_append, List.length_append, ih (by omega)]
   by_cases YE : i = m
   ·subst YE
    have h2 : (lr.setIfInBounds i true).getD i true = true := by
     simp [Array.getD_eq_getD_getElem?, Array.getElem?_setIfInBounds]
     split <;> rfl
    simp only [List.filter_cons, List.filter_nil, h, h2]
    simp
   simp only [List.filter_cons, List.filter_nil]
   rw [show (lr.setIfInBounds i true).getD m true = lr.getD m true from getD_set_ne true YE]
   by_cases h1 : i < m
   ·have h2 : i < m + 1 := by omega
    simp only [h1, h2, if_true]; omega
   have h2 : ¬ i < m + 1 := by omega
   simp only [h1, h2, if_false]; omega
 rw [key ops.size (Nat.le_refl _), if_pos hi]
theorem Pn {lr : Array Bool} (h : left ops lr = 0) : ∀ i, i < ops.size → lr.getD i true = true := by
 intro i hi
 unfold left at h
 have h0 := List.eq_nil_of_length_eq_zero h
 rw [List.filter_eq_nil_iff] at h0
 have := h0 i (List.mem_range.2 hi)
 simpa using this
theorem j5 {lr : Array Bool} (hs : lr.size = ops.size) {i : Nat} (hi : i < ops.size) (b : Bool) : lr.getD i b = lr.getD i true := by
 simp [Array.getD_eq_getD_getElem?, hs, hi]
theorem qF (hs : lv.length = ops.size) {i : Nat} (hi : i < ops.size) (b : Bool) : lv.getD i b = lv.getD i true := by
 simp [List.getD_eq_getElem?_getD, hs, hi]

theorem Real.Xv {sub lr a} (h : Real P n ops lv pd σ w sub lr a) {i : Nat} (hi : lr.getD i false = true) : lv.getD i false = true := by
 have bU : i < ops.size := by
  rcases Nat.lt_or_ge i lr.size with h1 | h1
  ·rw [← h.sz]; exact h1
  simp [Array.getD_eq_getD_getElem?, Array.getElem?_eq_none h1] at hi
 have := h.lrv i bU
 rw [j5 h.sz bU] at hi
 rw [qF h.lsz bU]
 rw [hi] at this
 revert this
 cases lv.getD i true <;> simp
theorem Real.vS {sub lr a} (h : Real P n ops lv pd σ w sub lr a) {p : Nat × Bool} (hp : p ∈ sub) : lr.getD p.1 false = false := by
 obtain ⟨o, _, ho, _⟩ := h.yl p hp
 have bU := (Array.getElem?_eq_some_iff.1 ho).1
 rw [j5 h.sz bU, h.lrv _ bU]
 have : (sub.map (·.1)).contains p.1 = true := List.contains_iff_mem.2 (List.mem_map.2 ⟨p, hp, rfl⟩)
 rw [this]; simp

theorem pz {σ σ' : St} {o : Oper} {i : Nat} (ho : ops[i]? = some o) (h : ∀ x ∈ looks ops i, σ x = σ' x) : Region.wanted o (dR ops σ) = Region.wanted o (dR ops σ') := by
 unfold Region.wanted
 cases hg : o.guard with
 | none => rfl
 | some gw =>
  obtain ⟨g, want⟩ := gw
  have : dR ops σ g = dR ops σ' g := by
   unfold dR
   cases hd : (ops[g]?).bind (fun o : Oper => o.dst) with
   | none => rfl
   | some d =>
    have : d ∈ looks ops i := by
     unfold looks
     simp only [ho, Oper.looksAt, hg, List.mem_append]
     right
     have YF : (ops[g]?).bind (·.dst) = some d := hd
     simp [YF]
    simp only [h d this]
  simp only [this]
theorem sK {σ σ' : St} {o : Oper} {i : Nat} (ho : ops[i]? = some o) (O6 : Ce o.op = true) (h : ∀ x ∈ looks ops i, σ x = σ' x) : execOp (evF σ) o = execOp (evF σ') o := by
 refine execOp_congr o (fun cs b hs => by rw [hs] at O6; cases O6) fun x hx => ?_
 cases x with
 | tmp t =>
  refine h t ?_
  unfold looks
  simp only [ho, Oper.looksAt, List.mem_append, List.mem_filterMap]
  exact .inl ⟨.tmp t, by simpa using hx, rfl⟩
 | _ => rfl
theorem oh (fK : fC n ops = true) {i : Nat} {o : Oper} (ho : ops[i]? = some o) : Ct n o.dst = true ∧ Ce o.op = true := by
 unfold fC at fK
 rw [Array.all_eq_true_iff_forall_mem] at fK
 have := fK o (Array.mem_of_getElem? ho)
 simpa using this
theorem z8 (fK : fC n ops = true) (j d : Nat) (h : (ops[j]?).bind (fun o : Oper => o.dst) = some d) : d < n := by
 cases ho : ops[j]? with
 | none => simp [ho] at h
 | some o =>
  simp [ho] at h
  have := (oh fK ho).1
  rw [h] at this
  exact Nat.le_of_ble_eq_true this

theorem Real.pop {sub lr a} (fK : fC n ops = true) (h : Real P n ops lv pd σ w sub lr a) {p : Nat × Bool} (hp : p ∈ sub) (iV : ∀ e ∈ j4 ops p.1, lr.getD e false = true)
    {K : Act → World → Prop} {Q' : Exit → Act → World → Prop}
    (hK : ∀ a', Real P n ops lv pd σ w (sub.filter (fun q => q.1 != p.1)) (lr.setIfInBounds p.1 true) a' → K a' w) : wpOpIn (fen r) 0 P ops Q' p.1 K a w := by
  obtain ⟨o, v, ho, hv, hy0⟩ := h.yl p hp
  have hy := hy0 w (.inr rfl)
  have bU := (Array.getElem?_eq_some_iff.1 ho).1
  obtain ⟨Ur, Ob⟩ := oh fK ho
  obtain ⟨σr, hr, Q7, hσ⟩ := h.rep
  have BJ : ∀ x ∈ looks ops p.1, σr x = σ x := fun x hx => hσ x fun q hq hd => by
    by_cases Xa : q.1 = p.1
    · exact h.own p hp x (by rw [← Xa]; exact hd) hx
    have := (h.apart q hq p hp Xa x hd).2 hx
    have h1 := iV _ this
    rw [h.vS hq] at h1
    cases h1
  have Ra : ig ops p.1 = o.dst := by unfold ig; simp [ho]
  have Xb : ∀ a', Rep n (nu σr o.dst v) a' → Real P n ops lv pd σ w (sub.filter (fun q => q.1 != p.1)) (lr.setIfInBounds p.1 true) a' := by
    intro a' Wn
    have qC : ∀ q, q ∈ sub.filter (fun q => q.1 != p.1) → q ∈ sub ∧ q.1 ≠ p.1 := fun q hq => by simpa using hq
    refine ⟨fun q hq => h.mem q (qC q hq).1, ?_, h.pw.filter _, fun q hq => h.pr q (qC q hq).1, fun q hq => h.lvl q (qC q hq).1, fun i hi => ?_, by simpa using h.sz, h.lsz, fun i hi e he => ?_, ⟨_, Wn, by simpa [yX] using Q7, fun x hx => ?_⟩,
      fun q hq => h.yl q (qC q hq).1, fun q hq => h.own q (qC q hq).1, fun q hq r hr => h.apart q (qC q hq).1 r (qC r hr).1⟩
    · exact List.Nodup.sublist (List.Sublist.map _ List.filter_sublist) h.nd
    · by_cases YG : p.1 = i
      · subst YG
        have h1 : (lr.setIfInBounds p.1 true).getD p.1 true = true := by
          simp [Array.getD_eq_getD_getElem?, Array.getElem?_setIfInBounds]
          split <;> rfl
        have h2 : lv.getD p.1 true = true := by
          have := h.lvl p hp
          rw [qF h.lsz bU] at this; exact this
        rw [h1, h2]
        simp
      rw [getD_set_ne true YG, h.lrv i hi]
      congr 2
      rw [Bool.eq_iff_iff]
      simp only [List.contains_iff_mem, List.mem_map, List.mem_filter]
      constructor
      · rintro ⟨q, hq, rfl⟩; exact ⟨q, ⟨hq, by simpa using fun e => YG e.symm⟩, rfl⟩
      rintro ⟨q, ⟨hq, _⟩, rfl⟩; exact ⟨q, hq, rfl⟩
    · by_cases YG : p.1 = i
      · subst YG; exact getD_set_true (iV e he)
      rw [getD_set_ne false YG] at hi; exact getD_set_true (h.cl i hi e he)
    cases hd : o.dst with
    | none =>
      refine hσ x fun q hq Wo => ?_
      by_cases Xa : q.1 = p.1
      · rw [Xa, Ra, hd] at Wo; cases Wo
      exact hx q (by simp [hq, Xa]) Wo
    | some d =>
      by_cases hxd : x = d
      · subst hxd
        show upd σr x v x = σ x
        rw [upd_same, hv x hd]
      show upd σr d v x = σ x
      rw [upd_ne _ _ _ _ hxd]
      refine hσ x fun q hq Wo => ?_
      by_cases Xa : q.1 = p.1
      · rw [Xa, Ra, hd] at Wo; injection Wo with Wo; exact hxd Wo.symm
      exact hx q (by simp [hq, Xa]) Wo
  unfold wpOpIn
  simp only [ho]
  have hw : Region.wanted o (yielded ops a.tmps) = Region.wanted o (dR ops σ) := by
    rw [hr.yielded ops (z8 fK)]; exact pz ho BJ
  rw [hw]
  rcases hy with ⟨h1, h2⟩ | ⟨h1, h2⟩
  · rw [if_pos h1]
    refine ⟨fun _ _ => trivial, ?_⟩
    rw [hr.eval, EW (by rw [sK ho Ob BJ]; exact h2)]
    exact hK _ (Xb _ (hr.Ep Ur _))
  rw [if_neg (by simp [h1])]
  rw [← h2]
  exact ⟨fun _ _ => trivial, hK _ (Xb _ (hr.Ep Ur _))⟩

theorem Real.Mr {sub lr a} (h : Real P n ops lv pd σ w sub lr a) (fM : sub ≠ []) : Region.ready .any ops lr ≠ [] := by
 have hl : sub.getLast fM ∈ sub := List.getLast_mem fM
 have X5 := h.vS hl
 obtain ⟨o, _, ho, _⟩ := h.yl _ hl
 have bU := (Array.getElem?_eq_some_iff.1 ho).1
 have : (sub.getLast fM).1 ∈ Region.ready .any ops lr := by
  rw [rM]
  refine ⟨by rw [← j5 h.sz bU false]; exact X5, bU, fun e he => ?_⟩
  have h1 := h.pr _ hl e he
  have Oc : e < ops.size := by
   rcases Nat.lt_or_ge e ops.size with h2 | h2
   ·exact h2
   have := h1.1; rw [List.getD_eq_getElem?_getD, List.getElem?_eq_none (by rw [h.lsz]; exact h2)] at this; cases this
  rw [j5 h.sz Oc, h.lrv e Oc, ← qF h.lsz Oc false, h1.1]
  simp only [Bool.true_and, Bool.not_eq_true']
  cases hc : (sub.map (·.1)).contains e
  ·rfl
  exfalso
  simp only [List.contains_iff_mem, List.mem_map] at hc
  obtain ⟨q, hq, rfl⟩ := hc
  -- q is pending, and one that the last comes behind: it stands ahead of the last in the list, which is later in thought
  have gV : sub = sub.dropLast ++ [sub.getLast fM] := (List.dropLast_concat_getLast fM).symm
  have hpw := h.pw
  rw [gV, List.pairwise_append] at hpw
  rw [gV, List.mem_append, List.mem_singleton] at hq
  rcases hq with hq | hq
  ·exact hpw.2.2 q hq _ (List.mem_singleton.2 rfl) he
  rw [hq] at h1; exact h1.2 rfl
 intro h0
 rw [h0] at this
 cases this

theorem GK (fK : fC n ops = true) (hQ : p9 ops lv = [] → Q .normal σ w)
    (hE : ∀ e ∈ p9 ops lv, ∀ sub lr a, Real P n ops lv pd σ w sub lr a → (∀ k ∈ j4 ops e, lr.getD k false = true) → wpOpIn (fen r) 0 P ops (lift n Q) e (wpAnyIn (fen r) 0 P .any ops (lift n Q) (left ops (lr.setIfInBounds e true)) (lr.setIfInBounds e true)) a w) :
    FG P r n ops Q lv pd σ w := by
  have key : ∀ m sub lr a, sub.length = m → Real P n ops lv pd σ w sub lr a → wpAnyIn (fen r) 0 P .any ops (lift n Q) (left ops lr) lr a w := by
    intro m
    induction m using Nat.strongRecOn with
    | _ m ih =>
      intro sub lr a hm h
      have LW : Region.ready .any ops lr = [] → lift n Q .normal a w := fun h0 => by
        have hs : sub = [] := Classical.byContradiction fun fM => h.Mr fM h0
        obtain ⟨σr, hr, Q7, hσ⟩ := h.rep
        have : σr = σ := St.Oj (fun x => hσ x fun p hp => by rw [hs] at hp; cases hp) Q7
        subst this
        refine ⟨_, hr, hQ ?_⟩
        rw [List.eq_nil_iff_forall_not_mem]
        intro j hj
        rw [sJ] at hj
        have : j ∈ Region.ready .any ops lr := by
          rw [rM]
          refine ⟨by rw [h.lrv j hj.2.1, hs]; simpa using hj.1, hj.2.1, fun e he => ?_⟩
          have h1 := hj.2.2 e he
          have Oc : e < ops.size := by
            rcases Nat.lt_or_ge e ops.size with h2 | h2
            · exact h2
            rw [List.getD_eq_getElem?_getD, List.getElem?_eq_none (by rw [h.lsz]; exact h2)] at h1; cases h1
          rw [j5 h.sz Oc, h.lrv e Oc, hs, ← qF h.lsz Oc false, h1]
          simp
        rw [h0] at this; cases this
      have nO : ∀ i ∈ Region.ready .any ops lr, wpOpIn (fen r) 0 P ops (lift n Q) i (wpAnyIn (fen r) 0 P .any ops (lift n Q) (left ops (lr.setIfInBounds i true)) (lr.setIfInBounds i true)) a w := fun i hi => by
        obtain ⟨h0, bU, iV⟩ := rM.1 hi
        by_cases hs : i ∈ sub.map (·.1)
        · obtain ⟨p, hp, rfl⟩ := List.mem_map.1 hs
          refine h.pop fK hp iV fun a' Wn => ih _ ?_ _ _ a' rfl Wn
          rw [← hm]
          exact List.length_filter_lt_length_iff_exists.2 ⟨p, hp, by simp⟩
        refine hE i ?_ sub lr a h iV
        rw [sJ]
        refine ⟨?_, bU, fun e he => h.Xv (iV e he)⟩
        have h1 := h.lrv i bU
        rw [h0] at h1
        have hc : (sub.map (·.1)).contains i = false := by
          cases hc : (sub.map (·.1)).contains i
          · rfl
          exact absurd (List.contains_iff_mem.1 hc) hs
        rw [hc] at h1
        simpa using h1.symm
      cases hl : left ops lr with
      | zero =>
        have h0 : Region.ready .any ops lr = [] := by
          rw [List.eq_nil_iff_forall_not_mem]
          intro j hj
          obtain ⟨h1, h2, _⟩ := rM.1 hj
          rw [Pn hl j h2] at h1; cases h1
        exact ⟨h0, LW h0⟩
      | succ k =>
        refine ⟨LW, fun i hi => ?_⟩
        obtain ⟨h0, bU, iV⟩ := rM.1 hi
        have := nO i hi
        have e := Ry bU h.sz h0
        rw [hl] at e
        have ek : k = left ops (lr.setIfInBounds i true) := by omega
        rw [ek]; exact this
  exact fun sub lr a h => key _ sub lr a rfl h

theorem nT {i j : Nat} (h : lv.getD j false = true) : (lv.set i true).getD j false = true := by
 by_cases hij : i = j
 ·subst hij
  have : i < lv.length := by
   rcases Nat.lt_or_ge i lv.length with h1 | h1
   ·exact h1
   rw [List.getD_eq_getElem?_getD, List.getElem?_eq_none h1] at h; cases h
  simp [List.getD_eq_getElem?_getD, this]
 simp only [List.getD_eq_getElem?_getD, List.getElem?_set_ne hij] at h ⊢; exact h
theorem sM {i j : Nat} (h : i ≠ j) (b : Bool) : (lv.set i true).getD j b = lv.getD j b := by
 simp only [List.getD_eq_getElem?_getD, List.getElem?_set_ne h]
theorem qb {i : Nat} (b : Bool) (h : i < lv.length) : (lv.set i true).getD i b = true := by
 simp [List.getD_eq_getElem?_getD, h]
theorem uL {i : Nat} (h : lv.getD i true = false) : lv.getD i false = false := by
 rw [List.getD_eq_getElem?_getD] at h ⊢
 cases hq : lv[i]? with
 | none => rfl
 | some b => rw [hq] at h; simpa using h
theorem uK.congr {σ σ' : St} {o : Oper} {v : Value} {i : Nat} (ho : ops[i]? = some o) (O6 : Ce o.op = true) (h : ∀ x ∈ looks ops i, σ x = σ' x) (hy : uK P ops σ w o v) : uK P ops σ' w o v := by
 unfold uK at *
 rw [← pz ho h, ← sK ho O6 h]
 exact hy
theorem gI {σ : St} {o : Option Nat} {v : Value} {x : Nat} (h : o ≠ some x) : nu σ o v x = σ x := by
 cases o with
 | none => rfl
 | some d => exact upd_ne _ _ _ _ fun e => h (by rw [e])
theorem rO {i : Nat} {o : Oper} (ho : ops[i]? = some o) : ig ops i = o.dst := by unfold ig; simp [ho]

theorem bR (fK : fC n ops = true) (hr : (p9 ops lv).isEmpty = true) (h : Q .normal σ w) : FG P r n ops Q lv pd σ w :=
 GK fK (fun _ => h) fun e he => by rw [List.isEmpty_iff.1 hr] at he; cases he

theorem Cz (fK : fC n ops = true) {i : Nat} {o : Oper} {v : Value} (f : Bool) (ho : ops[i]? = some o) (jl : mP ops lv (pd.map (·.1)) i = true) (hy : ∀ w', (f = true ∨ w' = w) → uK P ops σ w' o v)
    (h : FG P r n ops Q (lv.set i true) ((i, f) :: pd) (nu σ o.dst v) w) : FG P r n ops Q lv pd σ w := by
  intro sub lr a hr
  have bU := (Array.getElem?_eq_some_iff.1 ho).1
  have Ra := rO ho
  obtain ⟨Ur, Ob⟩ := oh fK ho
  unfold mP at jl
  simp only [Bool.and_eq_true, Bool.not_eq_true', List.all_eq_true] at jl
  obtain ⟨⟨⟨h0, iV⟩, l9⟩, Us⟩ := jl
  have h0' := uL h0
  have hown' : ∀ d, o.dst = some d → d ∉ looks ops i := fun d hd => by
    rw [Ra, hd] at l9
    simpa using l9
  have hid : ∀ p ∈ sub, p.1 ≠ i := fun p hp e => by
    have := hr.lvl p hp
    rw [e, h0'] at this; cases this
  have sF : ∀ p ∈ sub, (∀ d, o.dst = some d → ig ops p.1 ≠ some d ∧ d ∉ looks ops p.1) ∧ ∀ d, ig ops p.1 = some d → d ∈ looks ops i → p.1 ∈ j4 ops i := fun p hp => by
    have := Us p.1 (List.mem_map.2 ⟨p, hr.mem p hp, rfl⟩)
    rw [Ra] at this
    refine ⟨fun d hd => ?_, fun d hd hx => ?_⟩
    · have h1 := this.1
      rw [hd] at h1
      simpa using h1
    have h1 := this.2
    rw [hd] at h1
    simp at h1
    rcases h1 with h1 | h1
    · exact absurd hx h1
    exact h1
  refine h ((i, f) :: sub) lr a ⟨?_, ?_, ?_, ?_, ?_, ?_, hr.sz, by simpa using hr.lsz, hr.cl, ?_, ?_, ?_, ?_⟩
  · rintro p hp
    rcases List.mem_cons.1 hp with rfl | hp
    · exact List.mem_cons_self
    exact List.mem_cons_of_mem _ (hr.mem p hp)
  · rw [List.map_cons, List.nodup_cons]
    exact ⟨fun hm => by obtain ⟨p, hp, e⟩ := List.mem_map.1 hm; exact hid p hp e, hr.nd⟩
  · rw [List.pairwise_cons]
    refine ⟨fun p hp hm => ?_, hr.pw⟩
    have := (hr.pr p hp _ hm).1
    rw [h0'] at this; cases this
  · rintro p hp e he
    rcases List.mem_cons.1 hp with rfl | hp
    · exact ⟨nT (iV e he), fun e2 => by have := iV e he; rw [e2, h0'] at this; cases this⟩
    exact ⟨nT (hr.pr p hp e he).1, (hr.pr p hp e he).2⟩
  · rintro p hp
    rcases List.mem_cons.1 hp with rfl | hp
    · exact qb _ (by rw [hr.lsz]; exact bU)
    exact nT (hr.lvl p hp)
  · intro k hk
    rw [hr.lrv k hk]
    by_cases BZ : i = k
    · subst BZ
      rw [h0]
      simp
    rw [sM BZ]
    congr 2
    have : (k == i) = false := by simpa using fun e : k = i => BZ e.symm
    rw [List.map_cons, List.contains_cons, this, Bool.false_or]
  · obtain ⟨σr, yR, Q7, hσ⟩ := hr.rep
    refine ⟨σr, yR, by simpa [yX] using Q7, fun x hx => ?_⟩
    rw [gI (fun e => hx (i, f) List.mem_cons_self (by rw [Ra, e]))]
    exact hσ x fun p hp => hx p (List.mem_cons_of_mem _ hp)
  · rintro p hp
    rcases List.mem_cons.1 hp with rfl | hp
    · exact ⟨o, v, ho, fun d hd => by rw [hd]; exact upd_same _ _ _, fun w' ZV => (hy w' ZV).congr ho Ob fun x hx => (gI fun e => hown' x e hx).symm⟩
    obtain ⟨o', v', zU, Wp, xQ⟩ := hr.yl p hp
    refine ⟨o', v', zU, fun d hd => ?_, fun w' ZV => ?_⟩
    · rw [gI (fun e => ((sF p hp).1 d e).1 (by rw [rO zU, hd]))]; exact Wp d hd
    exact (xQ w' ZV).congr zU (oh fK zU).2 fun x hx => (gI fun e => ((sF p hp).1 x e).2 hx).symm
  · rintro p hp d hd
    rcases List.mem_cons.1 hp with rfl | hp
    · exact hown' d (by rw [← Ra]; exact hd)
    exact hr.own p hp d hd
  rintro p hp q hq fM d hd
  rcases List.mem_cons.1 hp with rfl | hp
  · rcases List.mem_cons.1 hq with rfl | hq
    · exact absurd rfl fM
    have := (sF q hq).1 d (by rw [← Ra]; exact hd)
    exact ⟨this.1, fun hx => absurd hx this.2⟩
  rcases List.mem_cons.1 hq with rfl | hq
  · refine ⟨fun e => ?_, fun hx => (sF p hp).2 d hd hx⟩
    exact ((sF p hp).1 d (by rw [← Ra]; exact e)).1 hd
  exact hr.apart p hp q hq fM d hd

def CB (P : Program) (σ : St) (w : World) (o : Oper) (K : St → World → Prop) : Prop :=
 match (execOp (evF σ) o).run P w with
 | .ok (.value v) w' => K (nu σ o.dst v) w'
 | .ok .skip w' => K (nu σ o.dst undef) w'
 | .ok (.enter f args) w' => Calls P f args w' (Ret fun v w'' => K (nu σ o.dst v) w'')
 | _ => False

theorem y8 {sub lr a} (hr : Real P n ops lv pd σ w sub lr a) {e : Nat} (he : ∀ k ∈ j4 ops e, lr.getD k false = true) : ∀ k ∈ above ops e, lr.getD k false = true := by
 have key : ∀ (l : List Nat) (S : List Nat), (∀ k ∈ S, lr.getD k false = true) → ∀ k ∈ l.foldl (zZ ops) S, lr.getD k false = true := by
  intro l
  induction l with
  | nil => intro S hS; exact hS
  | cons m l ih =>
   intro S hS
   refine ih _ fun k hk => ?_
   unfold zZ at hk
   split at hk
   ·rename_i hm
    rcases List.mem_append.1 hk with h1 | h1
    ·exact hS k h1
    exact hr.cl m (hS m (List.contains_iff_mem.1 hm)) k (List.mem_filter.1 h1).1
   exact hS k hk
 exact key _ _ he

def jX (P : Program) (ops : Array Oper) (σ : St) (w : World) : List (Nat × Bool) → Prop
 | [] => True
 | (i, false) :: l => (∃ o v, ops[i]? = some o ∧ (∀ d, o.dst = some d → σ d = v) ∧ uK P ops σ w o v) ∧ jX P ops σ w l
 | (_, true) :: l => jX P ops σ w l
theorem jX.get {σ : St} {w : World} : ∀ {l : List (Nat × Bool)}, jX P ops σ w l → ∀ p ∈ l, p.2 = false → ∃ o v, ops[p.1]? = some o ∧ (∀ d, o.dst = some d → σ d = v) ∧ uK P ops σ w o v
 | [], _, p, hp, _ => by cases hp
 | (i, false) :: l, h, p, hp, hf => by
  rcases List.mem_cons.1 hp with rfl | hp
  ·exact h.1
  exact jX.get h.2 p hp hf
 | (i, true) :: l, h, p, hp, hf => by
  rcases List.mem_cons.1 hp with rfl | hp
  ·cases hf
  exact jX.get (l := l) h p hp hf

theorem vT (fK : fC n ops = true) {e : Nat} {o : Oper} (ho : ops[e]? = some o) (jl : iq ops lv (pd.map (·.1)) e = true) (hw : Region.wanted o (dR ops σ) = true) (pd' : List (Nat × Bool)) (qA : pd.filter (fun p => !((above ops e).contains p.1)) = pd')
    (h : CB P σ w o fun σ' w' => jX P ops σ' w' pd' ∧ FG P r n ops Q (lv.set e true) pd' σ' w') : FG P r n ops Q lv pd σ w := by
  unfold iq at jl
  simp only [Bool.and_eq_true, beq_iff_eq, List.all_eq_true] at jl
  obtain ⟨YH, Us⟩ := jl
  refine GK fK (fun h0 => by rw [h0] at YH; cases YH) fun e' Ut sub lr a hr iV => ?_
  rw [YH, List.mem_singleton] at Ut
  subst Ut
  have bU := (Array.getElem?_eq_some_iff.1 ho).1
  have Ra := rO ho
  obtain ⟨Ur, Ob⟩ := oh fK ho
  have hrd := sJ.1 (show e' ∈ p9 ops lv by rw [YH]; exact List.mem_singleton.2 rfl)
  have h0' := uL hrd.1
  obtain ⟨σr, yR, Q7, hσ⟩ := hr.rep
  have X6 : ∀ p ∈ sub, p.1 ∉ j4 ops e' := fun p hp hm => by have := iV _ hm; rw [hr.vS hp] at this; cases this
  have sF : ∀ p ∈ sub, (∀ d, o.dst = some d → ig ops p.1 ≠ some d ∧ d ∉ looks ops p.1) ∧ ∀ d, ig ops p.1 = some d → d ∉ looks ops e' := fun p hp => by
    have := Us p.1 (List.mem_map.2 ⟨p, hr.mem p hp, rfl⟩)
    rw [Bool.or_eq_true] at this
    rcases this with h1 | h1
    · exact absurd (List.contains_iff_mem.1 h1) (X6 p hp)
    rw [Bool.and_eq_true, Ra] at h1
    refine ⟨fun d hd => ?_, fun d hd => ?_⟩
    · have h2 := h1.1
      rw [hd] at h2
      simpa using h2
    have h2 := h1.2
    rw [hd] at h2
    simpa using h2
  have BJ : ∀ x ∈ looks ops e', σr x = σ x := fun x hx => hσ x fun p hp hd => (sF p hp).2 x hd hx
  have Eb : ∀ (v : Value) (w' : World) (a' : Act), Rep n (nu σr o.dst v) a' → jX P ops (nu σ o.dst v) w' pd' → Real P n ops (lv.set e' true) pd' (nu σ o.dst v) w' sub (lr.setIfInBounds e' true) a' := by
    intro v w' a' Wn dJ
    have qC : ∀ p ∈ sub, p ∈ pd' := fun p hp => by
      rw [← qA, List.mem_filter]
      refine ⟨hr.mem p hp, ?_⟩
      cases hc : (above ops e').contains p.1
      · rfl
      have := y8 hr iV p.1 (List.contains_iff_mem.1 hc)
      rw [hr.vS hp] at this; cases this
    refine ⟨qC, hr.nd, hr.pw, fun p hp k hk => ⟨nT (hr.pr p hp k hk).1, (hr.pr p hp k hk).2⟩, fun p hp => nT (hr.lvl p hp), fun k hk => ?_, by simpa using hr.sz, by simpa using hr.lsz, fun k hk j hj => ?_, ⟨_, Wn, by simpa [yX] using Q7, fun x hx => ?_⟩,
      fun p hp => ?_, hr.own, hr.apart⟩
    · by_cases xR : e' = k
      · subst xR
        have h1 : (lr.setIfInBounds e' true).getD e' true = true := by
          simp [Array.getD_eq_getD_getElem?, Array.getElem?_setIfInBounds]
          split <;> rfl
        rw [h1, qb _ (by rw [hr.lsz]; exact bU)]
        cases hc : (sub.map (·.1)).contains e'
        · rfl
        obtain ⟨p, hp, e1⟩ := List.mem_map.1 (List.contains_iff_mem.1 hc)
        have := hr.lvl p hp
        rw [e1, h0'] at this; cases this
      rw [getD_set_ne true xR, sM xR, hr.lrv k hk]
    · by_cases xR : e' = k
      · subst xR; exact getD_set_true (iV j hj)
      rw [getD_set_ne false xR] at hk; exact getD_set_true (hr.cl k hk j hj)
    · by_cases hd : o.dst = some x
      · rw [hd]; show upd σr x v x = upd σ x v x; rw [upd_same, upd_same]
      rw [gI hd, gI hd]; exact hσ x hx
    cases hf : p.2 with
    | false =>
      obtain ⟨o', v', zU, Wp, xQ⟩ := dJ.get p (qC p hp) hf
      refine ⟨o', v', zU, Wp, fun w'' hw'' => ?_⟩
      rcases hw'' with hw'' | hw''
      · cases hw''
      rw [hw'']; exact xQ
    | true =>
      obtain ⟨o', v', zU, Wp, xQ⟩ := hr.yl p hp
      refine ⟨o', v', zU, fun d hd => ?_, fun w'' _ => (xQ w'' (.inl hf)).congr zU (oh fK zU).2 fun x hx => (gI fun e1 => ((sF p hp).1 x e1).2 hx).symm⟩
      rw [gI (fun e1 => ((sF p hp).1 d e1).1 (by rw [rO zU, hd]))]; exact Wp d hd
  unfold wpOpIn
  simp only [ho]
  have hww : Region.wanted o (yielded ops a.tmps) = true := by
    rw [yR.yielded ops (z8 fK), pz ho BJ]; exact hw
  rw [if_pos hww]
  refine ⟨fun _ _ => trivial, ?_⟩
  unfold CB at h
  have X7 : (o.semAt (fen r).round a.eval) = execOp (evF σ) o := by
    rw [Oper.semAt_eq _ _ _ fun c hc => ?_, yR.eval, sK ho Ob BJ]
    have fM : ∀ x w', (execOp (evF σ) o).run P w = .ok x w' → ∃ d, x = .defer d := fun x w' hx => by
      unfold execOp at hx
      rw [hc] at hx
      simp only [Sem.run_bind] at hx
      cases hr : (resolve (evF σ) c o.type).run P w <;> rw [hr] at hx <;> simp [Result.andThen] at hx
      exact ⟨_, hx.1.symm⟩
    cases hx : (execOp (evF σ) o).run P w with
    | halt x w' => rw [hx] at h; exact h
    | ok x w' =>
      obtain ⟨d, rfl⟩ := fM x w' hx
      rw [hx] at h; exact h
  rw [X7]
  generalize (execOp (evF σ) o).run P w = res at h ⊢
  cases res with
  | halt x w' => exact h.elim
  | ok nx w' =>
    cases nx with
    | value v => exact h.2 _ _ _ (Eb v w' _ (yR.Ep Ur v) h.1)
    | skip => exact h.2 _ _ _ (Eb undef w' _ (yR.Ep Ur undef) h.1)
    | enter f args =>
      refine ⟨(fun h => by cases h), rH r (Calls.mono h fun en w'' Em => ?_)⟩
      cases en with
      | returned v => exact Em.2 _ _ _ (Eb v w'' _ (yR.Ep Ur v) Em.1)
      | _ => exact Em.elim
    | _ => exact h.elim

theorem U1 {id : Nat} {l : List Oper} (hm : P.follows .mixedOrders = true) (_hok : fC n l.toArray = true) (h : ∀ w', Kept noB w w' → FG P r n l.toArray Q (List.replicate l.length false) [] σ w') : FW P r n (.region id l.toArray true) Q σ w := by
  intro a ha
  refine wpIn_region_any hm ?_
  have h1 := h { w with drawn := w.drawn + 1 } ⟨rfl, rfl, rfl, Nat.le_refl _, fun _ _ _ => rfl⟩ [] (Array.replicate l.length false) a
    ⟨(fun _ hp => by cases hp), List.nodup_nil, List.Pairwise.nil, (fun _ hp => by cases hp), (fun _ hp => by cases hp), fun i hi => ?_, by simp, by simp, fun i hi => ?_, ⟨σ, ha, rfl, fun _ _ => rfl⟩, (fun _ hp => by cases hp), (fun _ hp => by cases hp), (fun _ hp => by cases hp)⟩
  · have : left l.toArray (Array.replicate l.length false) = l.toArray.size := by
      unfold left
      rw [List.filter_eq_self.2]
      · simp
      intro i hi
      simp at hi
      simp [Array.getD_eq_getD_getElem?, hi]
    rw [this] at h1
    simpa using h1
  · simp at hi
    simp [Array.getD_eq_getD_getElem?, List.getD_eq_getElem?_getD, hi]
  exfalso
  simp [Array.getD_eq_getD_getElem?, Array.getElem?_replicate] at hi
  split at hi <;> simp at hi
end
end Go.Mw
namespace Go.Mw
open Go.RowKit

section
variable {P : Program} {r : Option Nat} {n : Nat} {ops : Array Oper} {Q : Post} {lv : List Bool} {pd pd' : List (Nat × Bool)} {σ : St} {w : World} {op : Op} {ty : TypeId} {pos : String} {after : Array Edge} {guard : Option (Nat × Bool)}
theorem FGp (fK : fC n ops = true) (i : Nat) {d : Nat} {v : Value} (ho : ops[i]? = some { dst := some d, op := op, type := ty, pos := pos, after := after, guard := guard })
    (hw : Region.wanted { dst := some d, op := op, type := ty, pos := pos, after := after, guard := guard } (dR ops σ) = true) (hg : ∀ w, Gives P (evF σ) op ty w v w) (jl : mP ops lv (pd.map (·.1)) i = true)
    (h : FG P r n ops Q (lv.set i true) ((i, true) :: pd) (upd σ d v) w) : FG P r n ops Q lv pd σ w :=
  Cz fK true ho jl (fun w' _ => .inl ⟨hw, hg w' _ _ _ _⟩) h
theorem FGl (fK : fC n ops = true) (i : Nat) {d : Nat} {v : Value} (ho : ops[i]? = some { dst := some d, op := op, type := ty, pos := pos, after := after, guard := guard })
    (hw : Region.wanted { dst := some d, op := op, type := ty, pos := pos, after := after, guard := guard } (dR ops σ) = true) (hg : Gives P (evF σ) op ty w v w) (jl : mP ops lv (pd.map (·.1)) i = true)
    (h : FG P r n ops Q (lv.set i true) ((i, false) :: pd) (upd σ d v) w) : FG P r n ops Q lv pd σ w :=
  Cz fK false ho jl (fun w' ZV => by
    rcases ZV with h1 | rfl
    · cases h1
    exact .inl ⟨hw, hg _ _ _ _⟩) h
theorem dL (fK : fC n ops = true) (i : Nat) {d : Nat} (ho : ops[i]? = some { dst := some d, op := op, type := ty, pos := pos, after := after, guard := guard })
    (hw : Region.wanted { dst := some d, op := op, type := ty, pos := pos, after := after, guard := guard } (dR ops σ) = false) (jl : mP ops lv (pd.map (·.1)) i = true)
    (h : FG P r n ops Q (lv.set i true) ((i, true) :: pd) (upd σ d undef) w) : FG P r n ops Q lv pd σ w :=
  Cz fK true ho jl (fun _ _ => .inr ⟨hw, rfl⟩) h
theorem WR (fK : fC n ops = true) (e : Nat) (pd' : List (Nat × Bool)) {C : World → Prop} (ho : ops[e]? = some { dst := none, op := op, type := ty, pos := pos, after := after, guard := guard })
    (hw : Region.wanted { dst := none, op := op, type := ty, pos := pos, after := after, guard := guard } (dR ops σ) = true) (hg : ∃ w', JX P (evF σ) op ty w w' ∧ C w') (jl : iq ops lv (pd.map (·.1)) e = true)
    (qA : pd.filter (fun p => !((above ops e).contains p.1)) = pd') (h : ∀ w', C w' → jX P ops σ w' pd' ∧ FG P r n ops Q (lv.set e true) pd' σ w') : FG P r n ops Q lv pd σ w := by
  obtain ⟨w', hg, hC⟩ := hg
  refine vT fK ho jl hw pd' qA ?_
  unfold CB
  rw [hg]
  exact h w' hC
theorem xS (fK : fC n ops = true) (e : Nat) (pd' : List (Nat × Bool)) {d : Nat} {C : Value → World → Prop} (ho : ops[e]? = some { dst := some d, op := op, type := ty, pos := pos, after := after, guard := guard })
    (hw : Region.wanted { dst := some d, op := op, type := ty, pos := pos, after := after, guard := guard } (dR ops σ) = true) (hg : ∃ v w', Gives P (evF σ) op ty w v w' ∧ C v w') (jl : iq ops lv (pd.map (·.1)) e = true)
    (qA : pd.filter (fun p => !((above ops e).contains p.1)) = pd') (h : ∀ v w', C v w' → jX P ops (upd σ d v) w' pd' ∧ FG P r n ops Q (lv.set e true) pd' (upd σ d v) w') : FG P r n ops Q lv pd σ w := by
  obtain ⟨v, w', hg, hC⟩ := hg
  refine vT fK ho jl hw pd' qA ?_
  unfold CB
  rw [hg]
  exact h v w' hC
theorem sN (fK : fC n ops = true) (e : Nat) (pd' : List (Nat × Bool)) {dst : Option Nat} {f : FuncId} {xs : List Operand} {ats : Array TypeId} {vals : List Value} {R : Value → World → Prop} [he : Enters P f]
    (ho : ops[e]? = some { dst := dst, op := .call { callee := .value (.func f), args := xs.toArray, argTypes := ats }, type := ty, pos := pos, after := after, guard := guard })
    (hw : Region.wanted { dst := dst, op := .call { callee := .value (.func f), args := xs.toArray, argTypes := ats }, type := ty, pos := pos, after := after, guard := guard } (dR ops σ) = true) (hc : bF P f vals w R) (hv : xs.map (evF σ) = vals) (jl : iq ops lv (pd.map (·.1)) e = true)
    (qA : pd.filter (fun p => !((above ops e).contains p.1)) = pd') (h : ∀ v w', R v w' → jX P ops (nu σ dst v) w' pd' ∧ FG P r n ops Q (lv.set e true) pd' (nu σ dst v) w') : FG P r n ops Q lv pd σ w := by
  refine vT fK ho jl hw pd' qA ?_
  unfold CB
  have e1 : execOp (evF σ) { dst := dst, op := .call { callee := .value (.func f), args := xs.toArray, argTypes := ats }, type := ty, pos := pos, after := after, guard := guard } = callFunc f (#[] ++ xs.toArray.map (evF σ) ++ #[]) := rfl
  have e2 : (#[] ++ xs.toArray.map (evF σ) ++ #[] : Array Value) = vals.toArray := by simp [hv]
  rw [e1, he.run, e2]
  refine Calls.mono hc fun en w'' hr => ?_
  cases en with
  | returned v => exact h v w'' hr
  | _ => exact hr.elim
theorem aK : jX P ops σ w [] := trivial
theorem av {i : Nat} {l : List (Nat × Bool)} (h : jX P ops σ w l) : jX P ops σ w ((i, true) :: l) := h
theorem eZ {i : Nat} {d : Nat} {v : Value} {l : List (Nat × Bool)} (ho : ops[i]? = some { dst := some d, op := op, type := ty, pos := pos, after := after, guard := guard })
    (hw : Region.wanted { dst := some d, op := op, type := ty, pos := pos, after := after, guard := guard } (dR ops σ) = true) (hg : Gives P (evF σ) op ty w v w) (hv : σ d = v) (h : jX P ops σ w l) : jX P ops σ w ((i, false) :: l) :=
  ⟨⟨_, v, ho, fun d' YF => by injection YF with YF; rw [← YF]; exact hv, .inl ⟨hw, hg _ _ _ _⟩⟩, h⟩
end

section acts
variable {P : Program} {ρ : Operand → Value} {w w₀ : World} {S : Nat → Prop} {rs : List HP} {put : HP → List HP} {ty : TypeId} {x y : Operand}
theorem Ms {b o : Nat} {T : TypeId} [h1 : OneCell P T] {cs : List Value} {E : TypeId} {v : Value} (cs' : List Value) (H : Sep w₀ S rs w) (hx : ρ x = .pointer (some ⟨b, o, none⟩))
    (hy : ρ y = v) (hv : v.oneCell' = true) (hat : At rs (blk b cs E) put) (ho : Nat.blt o cs.length = true) (hs : cs.set o v = cs') :
    ∃ w', JX P ρ (.store T x y) ty w w' ∧ Sep w₀ S (put (blk b cs' E)) w' := by
  have bU : o < cs.length := Nat.le_of_ble_eq_true ho
  have hb := H.obj hat
  obtain ⟨hk, zU⟩ := yt (v := v) hb bU
  refine ⟨w.setCell ⟨b, o, none⟩ v, fun _ _ _ _ => ?_, by subst hs; exact H.setObj hat hk zU⟩
  have dJ : (store (⟨b, o, none⟩ : Addr) v).run P w = .ok () (w.setCell ⟨b, o, none⟩ v) := by
    rw [run_store P w _ v _ hv, og hb, List.getElem?_eq_getElem bU]
    simp [World.frozen?, hb]
  have oK : v.cells = #[v] := by cases v <;> first | rfl | cases hv
  simp [execOp, hx, hy, Instr.storeAt, Instr.sureAddr, storeVar, h1.size, oK, storeCells, dJ, Addr.add_zero']
theorem GL {t e : TypeId} [hs : dA P t e] {size bytes : Nat} [hc : Cells P e size bytes] {z : Value} [hz : Zero P e z] {v : Value} {k m c : Nat} {xs news : List Value} {A : Option Addr}
    (H : Sep w₀ S rs w) (hx : ρ x = v) (hy : ρ y = .slice A m c) (hat : At rs (yj e size v k xs) put) (hr : iI w A m size news) (h1 : ∀ u ∈ news, u.oneCell' = true)
    (hsz : 0 < size) (Co : z.cells.size = size) (yT : k + m ≤ maxLen) (jk : (k + m) * bytes ≤ 140737488355328) :
    ∃ v' w', Gives P ρ (.call { callee := .builtin .append, args := #[x, y], argTypes := #[t, t] }) ty w v' w' ∧ Sep w₀ S (put (yj e size v' (k + m) (xs ++ news))) w' := by
  obtain ⟨F, hp, _, _⟩ := H.focus hat
  obtain ⟨v', w', iP, l9, hg, hb⟩ := sI (P := P) (ty := ty) t e hsz Co v k xs hp.1 A m c news hr h1 yT jk
  refine ⟨v', w', fun _ _ _ _ => ?_, H.y7 hat hg l9 (by rcases hb with e | e <;> simp [e])⟩
  simp only [execOp, resolve, invoke, builtin, Sem.run_bind, Sem.run_pure, Result.andThen_ok, List.map_toArray, List.map_cons, List.map_nil, hx, hy, iP]
end acts
end Go.Mw
