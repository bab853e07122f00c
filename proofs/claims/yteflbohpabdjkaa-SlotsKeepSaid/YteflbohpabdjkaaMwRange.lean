/-
  Closures, and ranges over functions whose bodies never leave. Nothing of a given program stands here.
-/
import Derived.Test.YteflbohpabdjkaaMwMap
import Derived.RangeFuncIn
namespace Go.Mw
open Go.RowKit

section
variable {P : Program} {r : Option Nat} {n : Nat} {ops : Array Oper} {Q : Post} {rest : List Oper} {σ : St} {w w₀ : World} {S : Nat → Prop} {rs : List HP} {ty : TypeId} {pos : String} {after : Array Edge}
theorem Gives.makeFunc {ρ : Operand → Value} {fn : Fn} {fs cs : List Operand} {us vs : List Value} (hf : fs.map ρ = us) (hc : cs.map ρ = vs) : Gives P ρ (.makeFunc fn fs.toArray cs.toArray) ty w (.func fn us.toArray vs.toArray) w := fun _ _ _ _ => by
  simp [execOp, Instr.makeFunc, hf, hc]
/-- A call through a value that is a closure over a known function. -/
theorem FL_callV {d : Nat} {y : Operand} {f : FuncId} {fs cs : List Value} {xs : List Operand} {ats : Array TypeId} {vals : List Value} {R : Value → World → Prop} [he : Enters P f] (hy : evF σ y = .func (.func f) fs.toArray cs.toArray) (hc : Rets P f (fs ++ vals ++ cs) w R)
    (hv : xs.map (evF σ) = vals) (hd : Nat.blt d n = true) (h : ∀ v w', R v w' → FL P r n ops Q rest (upd σ d v) w') :
    FL P r n ops Q ({ dst := some d, op := .call { callee := .value y, args := xs.toArray, argTypes := ats }, type := ty, pos := pos, after := after, guard := none } :: rest) σ w := fun a ha =>
  wpListIn_plain rfl fun K hK => by
    refine ⟨fun _ _ => trivial, ?_⟩
    rw [Oper.semAt_eq _ _ _ (fun _ h => by cases h), ha.eval]
    have e : (execOp (evF σ) { dst := some d, op := .call { callee := .value y, args := xs.toArray, argTypes := ats }, type := ty, pos := pos, after := after, guard := none }).run P w = .ok (.enter f (fs ++ vals ++ cs).toArray) w := by
      simp [execOp, resolve, hy, Deferred.ofValue, invoke, hv]
      rw [← he.run (fs ++ (vals ++ cs)).toArray w]
    rw [e, Oper.uponIn_enter]
    refine ⟨(fun h => by cases h), fen_calls r (Calls.mono hc fun e w'' hr => ?_)⟩
    cases e with
    | returned v => exact hK _ _ (h v w'' hr _ (ha.put (Nat.le_of_ble_eq_true hd) v))
    | _ => exact hr.elim
theorem FL_callV0 {y : Operand} {f : FuncId} {fs cs : List Value} {xs : List Operand} {ats : Array TypeId} {vals : List Value} {R : Value → World → Prop} [he : Enters P f] (hy : evF σ y = .func (.func f) fs.toArray cs.toArray) (hc : Rets P f (fs ++ vals ++ cs) w R)
    (hv : xs.map (evF σ) = vals) (h : ∀ v w', R v w' → FL P r n ops Q rest σ w') :
    FL P r n ops Q ({ dst := none, op := .call { callee := .value y, args := xs.toArray, argTypes := ats }, type := ty, pos := pos, after := after, guard := none } :: rest) σ w := fun a ha =>
  wpListIn_plain rfl fun K hK => by
    refine ⟨fun _ _ => trivial, ?_⟩
    rw [Oper.semAt_eq _ _ _ (fun _ h => by cases h), ha.eval]
    have e : (execOp (evF σ) { dst := none, op := .call { callee := .value y, args := xs.toArray, argTypes := ats }, type := ty, pos := pos, after := after, guard := none }).run P w = .ok (.enter f (fs ++ vals ++ cs).toArray) w := by
      simp [execOp, resolve, hy, Deferred.ofValue, invoke, hv]
      rw [← he.run (fs ++ (vals ++ cs)).toArray w]
    rw [e, Oper.uponIn_enter]
    refine ⟨(fun h => by cases h), fen_calls r (Calls.mono hc fun e w'' hr => ?_)⟩
    cases e with
    | returned v => exact hK _ _ (h v w'' hr _ ha)
    | _ => exact hr.elim

/-- A call of yield goes on, and this holds behind it. -/
def YieldOk (P : Program) (l : Nat) (xs : List Value) (w : World) (R : World → Prop) : Prop :=
  ∃ fn tmps assign body, (Instr.yield l xs.toArray).run P w = .ok (.round l fn tmps assign body) w ∧ RoundIn (fen none) 0 P l fn tmps assign body w (Ret fun v w' => v = .bool true ∧ R w')
theorem FL_yield {d l : Nat} {y : Operand} {xs : List Operand} {ats : Array TypeId} {vals : List Value} {R : World → Prop} (hy : evF σ y = .func (.yield l) #[] #[]) (hc : YieldOk P l vals w R)
    (hv : xs.map (evF σ) = vals) (hd : Nat.blt d n = true) (h : ∀ w', R w' → FL P r n ops Q rest (upd σ d (.bool true)) w') :
    FL P r n ops Q ({ dst := some d, op := .call { callee := .value y, args := xs.toArray, argTypes := ats }, type := ty, pos := pos, after := after, guard := none } :: rest) σ w := fun a ha =>
  wpListIn_plain rfl fun K hK => by
    obtain ⟨fn, tmps, assign, body, hrun, hround⟩ := hc
    refine ⟨fun _ _ => trivial, ?_⟩
    rw [Oper.semAt_eq _ _ _ (fun _ h => by cases h), ha.eval]
    have e : (execOp (evF σ) { dst := some d, op := .call { callee := .value y, args := xs.toArray, argTypes := ats }, type := ty, pos := pos, after := after, guard := none }).run P w = .ok (.round l fn tmps assign body) w := by
      simp [execOp, resolve, hy, Deferred.ofValue, invoke, hv, hrun]
    rw [e, Oper.uponIn_round]
    refine ⟨(fun h => by cases h), RoundIn.mono (F := fen r) hround fun en w'' hr => ?_⟩
    cases en with
    | returned v => obtain ⟨rfl, hR⟩ := hr; exact hK _ _ (h w'' hR _ (ha.put (Nat.le_of_ble_eq_true hd) _))
    | _ => exact hr.elim

/-- A function's end behind one range. -/
theorem Qfn_normal1 {l : List ResultVar} {R : Value → World → Prop} {vs : List Value} {D : Nat} {put : HP → List HP} (H : Sep w₀ S rs w) (hat : At rs (Mw.obj D (.deferred (some []))) put) (hR : ∀ w', Sep w₀ S (put (Mw.obj D (.deferred none))) w' → R (resPack vs) w')
    (h : resVal σ l = some vs := by simp only [resVal, Option.map_some, upd_same, upd_ne, ne_eq, Nat.reduceEqDiff, not_false_eq_true]; rfl) (hd : σ.ds = [{ target := .collected D, args := #[] }] := by exact rfl) : Qfn l R .normal σ w := by
  refine ⟨vs, h, ?_⟩
  rw [hd]
  have hD := H.obj hat
  have hlt := lt_of_get hD
  exact ⟨D, rfl, hD, hR _ (H.setObj hat ⟨rfl, rfl, rfl, by simp, fun k _ hS => by simp only; rw [Array.getElem?_setIfInBounds_ne (fun e => hS e.symm)]⟩ (by simp [hlt]))⟩

/-- What a loop's record says while it waits. -/
def loopRec (st : LoopState) (fn : FuncId) (tmps : Array Value) (ps : Array Tmp) (assign body : Code) (D : Nat) : Obj := .loop { state := st, pending := none, fn := fn, tmps := tmps, params := ps, assign := assign, body := body, defers := D }

theorem Sep.put0 {o o' : Obj} {b : Nat} (h : Sep w₀ S (Mw.obj b o :: rs) w) : Sep w₀ S (Mw.obj b o' :: rs) (w.putObj b o') := by
  have hb := h.obj At0
  have hlt := lt_of_get hb
  exact h.setObj (At0 (p := Mw.obj b o) (l := rs)) ⟨rfl, rfl, rfl, by simp [World.putObj], fun k _ hS => World.putObj_heap_other hS⟩ (World.putObj_heap_same hlt)

/-- One round: the assignment to the loop's variable, and the body. -/
def Qassign (K : St → World → Prop) : Post := fun e σ w => match e with
  | .normal => K σ w
  | _ => False
theorem Qassign_normal {K : St → World → Prop} (h : K σ w) : Qassign K .normal σ w := h

/-- 'for x := range g { .. }' where nothing leaves the body: the pieces owned go, with what has come, as J says. -/
theorem FW_range {α : Type} {g : Operand} {p : Tmp} {assign body : Code} {gf : FuncId} {lb : List Value} [he : Enters P gf] (enc : α → Value) (xs : List α) (J : List α → List HP) (H : Sep w₀ S (J []) w)
    (hg : evF σ g = .func (.func gf) #[] lb.toArray) (hp : Nat.blt p n = true)
    (hbody : ∀ (l D : Nat) (ro rb : Obj) (pre : List α) (x : α) (W : World), pre ++ [x] <+: xs → Sep w₀ S (obj l ro :: obj D (.deferred (some [])) :: J pre) W →
      FW P (some l) n assign (Qassign fun τ W' => ∃ ex : List HP, Sep w₀ S (obj l ro :: obj D (.deferred (some [])) :: (ex ++ J pre)) W' ∧
        ∀ W'', Sep w₀ S (obj l rb :: obj D (.deferred (some [])) :: (ex ++ J pre)) W'' → FW P (some l) n body (Qassign fun _ W3 => Sep w₀ S (obj l rb :: obj D (.deferred (some [])) :: J (pre ++ [x])) W3) τ W'') (upd ⟨σ.get, []⟩ p (enc x)) W)
    (hiter : ∀ (l D : Nat) (ro : Obj) (W : World), Sep w₀ S (obj l ro :: obj D (.deferred (some [])) :: J []) W →
      (∀ (pre : List α) (x : α) (W : World), pre ++ [x] <+: xs → Sep w₀ S (obj l ro :: obj D (.deferred (some [])) :: J pre) W → YieldOk P l [enc x] W fun W' => Sep w₀ S (obj l ro :: obj D (.deferred (some [])) :: J (pre ++ [x])) W') →
      Rets P gf (.func (.yield l) #[] #[] :: lb) W fun _ W' => Sep w₀ S (obj l ro :: obj D (.deferred (some [])) :: J xs) W')
    (hdone : ∀ (D : Nat) (W : World), Sep w₀ S (obj D (.deferred (some [])) :: J xs) W → Q .normal ⟨σ.get, { target := .collected D, args := #[] } :: σ.ds⟩ W) :
    FW P none n (.rangeFunc g #[p] assign body) Q σ w := by
  intro a ha
  refine wpIn_rangeFunc fun fn hfn => ?_
  let rec_ : LoopState → Obj := fun st => loopRec st fn a.tmps #[p] assign body w.heap.size
  obtain ⟨W1, hW1⟩ : ∃ W1, (w.alloc (.deferred (some []))).alloc (rec_ .ready) = W1 := ⟨_, rfl⟩
  have H1 : Sep w₀ S (obj (w.heap.size + 1) (rec_ .ready) :: obj w.heap.size (.deferred (some [])) :: J []) W1 := by
    have h1 := (H.alloc (.deferred (some []))).alloc (rec_ .ready)
    rw [World.size_alloc] at h1
    rw [← hW1]; exact h1
  refine ⟨w.heap.size + 1, [{ target := .collected w.heap.size, args := #[] }], W1, { target := .fn (.func gf) lb.toArray, args := #[.func (.yield (w.heap.size + 1)) #[] #[]] }, W1, gf,
    #[.func (.yield (w.heap.size + 1)) #[] #[]] ++ lb.toArray, W1, ?_, ?_, fun _ _ => trivial, ?_, (fun h => by cases h), ?_⟩
  · rw [← hW1]; exact run_enterLoop_outer _ _ _ _ _
  · rw [ha.eval]
    have e1 : (rangeCall g (w.heap.size + 1)).callee = .value g := rfl
    simp only [resolve, hg, Deferred.ofValue]
    simp [evF]
  · simp [invoke, he.run]
  · have hret := hiter (w.heap.size + 1) w.heap.size (rec_ .ready) W1 H1 (fun pre x W hpre HW => ?_)
    · have e : (#[.func (.yield (w.heap.size + 1)) #[] #[]] ++ lb.toArray : Array Value) = (Value.func (.yield (w.heap.size + 1)) #[] #[] :: lb).toArray := by simp
      rw [e]
      refine fen_calls none (Calls.mono hret fun en W3 hr => ?_)
      cases en with
      | returned v =>
        have hl := Sep.obj hr At0
        refine ⟨none, _, run_endLoop hl (by simp), ?_⟩
        refine ⟨⟨σ.get, { target := .collected w.heap.size, args := #[] } :: σ.ds⟩, ⟨ha.size, ?_, ha.get⟩, hdone w.heap.size _ ?_⟩
        · show [_] ++ a.defers = _
          rw [ha.defers]; rfl
        · exact (Sep.put0 hr).drop0
      | _ => exact hr.elim
    · -- a round
      have hl := Sep.obj HW At0
      refine ⟨fn, _, assign, body, run_yield hl (by simp), ?_⟩
      refine roundIn_of_wpIn (F := fen none) trivial ?_
      have hb := hbody (w.heap.size + 1) w.heap.size (rec_ .ready) (rec_ .busy) pre x W hpre HW
      have ha' : Rep n (upd ⟨σ.get, []⟩ p (enc x)) { tmps := ((#[p].zip [enc x].toArray).foldl (fun tmps (t, a) => tmps.setIfInBounds t a) a.tmps), defers := [] } := by
        have h0 : Rep n ⟨σ.get, []⟩ { tmps := a.tmps, defers := [] } := ⟨ha.size, rfl, ha.get⟩
        have h1 := h0.put (Nat.le_of_ble_eq_true hp) (enc x)
        simpa [Act.put] using h1
      refine Go.wpIn_mono (hb _ ha') fun en a1 W1' ⟨τ, hτ, hq⟩ => ?_
      cases en with
      | normal =>
        obtain ⟨ex, HW1, hB⟩ := hq
        have hl1 := Sep.obj HW1 At0
        refine ⟨_, run_beginRound hl1 rfl, ?_⟩
        refine Go.wpIn_mono (hB _ (Sep.put0 HW1) a1 hτ) fun en a2 W2 ⟨τ2, hτ2, hq2⟩ => ?_
        cases en with
        | normal =>
          have hl2 := Sep.obj (show Sep w₀ S _ W2 from hq2) At0
          exact ⟨_, _, run_endRound none hl2, rfl, Sep.put0 hq2⟩
        | _ => exact hq2.elim
      | _ => exact hq.elim
end
end Go.Mw
