/-
  The rules of the walk for a region that draws. Nothing of a given program stands here.
-/
import Derived.Test.YteflbohpabdjkaaMwDraw
import Derived.KernelRfl
namespace Go.Mw
open Go.RowKit

section
variable {P : Program} {r : Option Nat} {n : Nat} {ops : Array Oper} {Q : Post} {lv : List Bool} {pd pd' : List (Nat × Bool)} {σ : St} {w : World} {op : Op} {ty : TypeId} {pos : String} {after : Array Edge} {guard : Option (Nat × Bool)}
/-- An operation that touches no memory. -/
theorem FGp (hok : okOps n ops = true) (i : Nat) {d : Nat} {v : Value} (ho : ops[i]? = some { dst := some d, op := op, type := ty, pos := pos, after := after, guard := guard })
    (hw : Region.wanted { dst := some d, op := op, type := ty, pos := pos, after := after, guard := guard } (yieldF ops σ) = true) (hg : ∀ w, Gives P (evF σ) op ty w v w) (hck : quietOk ops lv (pd.map (·.1)) i = true)
    (h : FG P r n ops Q (lv.set i true) ((i, true) :: pd) (upd σ d v) w) : FG P r n ops Q lv pd σ w :=
  FG_quiet hok true ho hck (fun w' _ => .inl ⟨hw, hg w' _ _ _ _⟩) h
/-- An operation that looks into memory. -/
theorem FGl (hok : okOps n ops = true) (i : Nat) {d : Nat} {v : Value} (ho : ops[i]? = some { dst := some d, op := op, type := ty, pos := pos, after := after, guard := guard })
    (hw : Region.wanted { dst := some d, op := op, type := ty, pos := pos, after := after, guard := guard } (yieldF ops σ) = true) (hg : Gives P (evF σ) op ty w v w) (hck : quietOk ops lv (pd.map (·.1)) i = true)
    (h : FG P r n ops Q (lv.set i true) ((i, false) :: pd) (upd σ d v) w) : FG P r n ops Q lv pd σ w :=
  FG_quiet hok false ho hck (fun w' hw' => by
    rcases hw' with h1 | rfl
    · cases h1
    · exact .inl ⟨hw, hg _ _ _ _⟩) h
/-- An operation whose guard says no. -/
theorem FGoff (hok : okOps n ops = true) (i : Nat) {d : Nat} (ho : ops[i]? = some { dst := some d, op := op, type := ty, pos := pos, after := after, guard := guard })
    (hw : Region.wanted { dst := some d, op := op, type := ty, pos := pos, after := after, guard := guard } (yieldF ops σ) = false) (hck : quietOk ops lv (pd.map (·.1)) i = true)
    (h : FG P r n ops Q (lv.set i true) ((i, true) :: pd) (upd σ d undef) w) : FG P r n ops Q lv pd σ w :=
  FG_quiet hok true ho hck (fun _ _ => .inr ⟨hw, rfl⟩) h
/-- An effect without a value. -/
theorem FGact (hok : okOps n ops = true) (e : Nat) (pd' : List (Nat × Bool)) {C : World → Prop} (ho : ops[e]? = some { dst := none, op := op, type := ty, pos := pos, after := after, guard := guard })
    (hw : Region.wanted { dst := none, op := op, type := ty, pos := pos, after := after, guard := guard } (yieldF ops σ) = true) (hg : ∃ w', Acts P (evF σ) op ty w w' ∧ C w') (hck : effectOk ops lv (pd.map (·.1)) e = true)
    (hpd : pd.filter (fun p => !((above ops e).contains p.1)) = pd') (h : ∀ w', C w' → Stab P ops σ w' pd' ∧ FG P r n ops Q (lv.set e true) pd' σ w') : FG P r n ops Q lv pd σ w := by
  obtain ⟨w', hg, hC⟩ := hg
  refine FG_effect hok ho hck hw pd' hpd ?_
  unfold EffK
  rw [hg]
  exact h w' hC
/-- An effect with a value. -/
theorem FGval (hok : okOps n ops = true) (e : Nat) (pd' : List (Nat × Bool)) {d : Nat} {C : Value → World → Prop} (ho : ops[e]? = some { dst := some d, op := op, type := ty, pos := pos, after := after, guard := guard })
    (hw : Region.wanted { dst := some d, op := op, type := ty, pos := pos, after := after, guard := guard } (yieldF ops σ) = true) (hg : ∃ v w', Gives P (evF σ) op ty w v w' ∧ C v w') (hck : effectOk ops lv (pd.map (·.1)) e = true)
    (hpd : pd.filter (fun p => !((above ops e).contains p.1)) = pd') (h : ∀ v w', C v w' → Stab P ops (upd σ d v) w' pd' ∧ FG P r n ops Q (lv.set e true) pd' (upd σ d v) w') : FG P r n ops Q lv pd σ w := by
  obtain ⟨v, w', hg, hC⟩ := hg
  refine FG_effect hok ho hck hw pd' hpd ?_
  unfold EffK
  rw [hg]
  exact h v w' hC
/-- A call. -/
theorem FGcall (hok : okOps n ops = true) (e : Nat) (pd' : List (Nat × Bool)) {dst : Option Nat} {f : FuncId} {xs : List Operand} {ats : Array TypeId} {vals : List Value} {R : Value → World → Prop} [he : Enters P f]
    (ho : ops[e]? = some { dst := dst, op := .call { callee := .value (.func f), args := xs.toArray, argTypes := ats }, type := ty, pos := pos, after := after, guard := guard })
    (hw : Region.wanted { dst := dst, op := .call { callee := .value (.func f), args := xs.toArray, argTypes := ats }, type := ty, pos := pos, after := after, guard := guard } (yieldF ops σ) = true) (hc : Rets P f vals w R) (hv : xs.map (evF σ) = vals) (hck : effectOk ops lv (pd.map (·.1)) e = true)
    (hpd : pd.filter (fun p => !((above ops e).contains p.1)) = pd') (h : ∀ v w', R v w' → Stab P ops (updO σ dst v) w' pd' ∧ FG P r n ops Q (lv.set e true) pd' (updO σ dst v) w') : FG P r n ops Q lv pd σ w := by
  refine FG_effect hok ho hck hw pd' hpd ?_
  unfold EffK
  have e1 : execOp (evF σ) { dst := dst, op := .call { callee := .value (.func f), args := xs.toArray, argTypes := ats }, type := ty, pos := pos, after := after, guard := guard } = callFunc f (#[] ++ xs.toArray.map (evF σ) ++ #[]) := rfl
  have e2 : (#[] ++ xs.toArray.map (evF σ) ++ #[] : Array Value) = vals.toArray := by simp [hv]
  rw [e1, he.run, e2]
  refine Calls.mono hc fun en w'' hr => ?_
  cases en with
  | returned v => exact h v w'' hr
  | _ => exact hr.elim
theorem Stab_nil : Stab P ops σ w [] := trivial
theorem Stab_pure {i : Nat} {l : List (Nat × Bool)} (h : Stab P ops σ w l) : Stab P ops σ w ((i, true) :: l) := h
theorem Stab_cons {i : Nat} {d : Nat} {v : Value} {l : List (Nat × Bool)} (ho : ops[i]? = some { dst := some d, op := op, type := ty, pos := pos, after := after, guard := guard })
    (hw : Region.wanted { dst := some d, op := op, type := ty, pos := pos, after := after, guard := guard } (yieldF ops σ) = true) (hg : Gives P (evF σ) op ty w v w) (hv : σ d = v) (h : Stab P ops σ w l) : Stab P ops σ w ((i, false) :: l) :=
  ⟨⟨_, v, ho, fun d' hd' => by injection hd' with hd'; rw [← hd']; exact hv, .inl ⟨hw, hg _ _ _ _⟩⟩, h⟩
end

section acts
variable {P : Program} {ρ : Operand → Value} {w w₀ : World} {S : Nat → Prop} {rs : List HP} {put : HP → List HP} {ty : TypeId} {x y : Operand}
theorem acts_store {b o : Nat} {T : TypeId} [h1 : OneCell P T] {cs : List Value} {E : TypeId} {v : Value} (cs' : List Value) (H : Sep w₀ S rs w) (hx : ρ x = .pointer (some ⟨b, o, none⟩))
    (hy : ρ y = v) (hv : v.oneCell' = true) (hat : At rs (blk b cs E) put) (ho : Nat.blt o cs.length = true) (hs : cs.set o v = cs') :
    ∃ w', Acts P ρ (.store T x y) ty w w' ∧ Sep w₀ S (put (blk b cs' E)) w' := by
  have hlt : o < cs.length := Nat.le_of_ble_eq_true ho
  have hb := H.obj hat
  obtain ⟨hk, ho'⟩ := stored_blk (v := v) hb hlt
  refine ⟨w.setCell ⟨b, o, none⟩ v, fun _ _ _ _ => ?_, by subst hs; exact H.setObj hat hk ho'⟩
  have hst : (store (⟨b, o, none⟩ : Addr) v).run P w = .ok () (w.setCell ⟨b, o, none⟩ v) := by
    rw [run_store P w _ v _ hv, cell_blk hb, List.getElem?_eq_getElem hlt]
    simp [World.frozen?, hb]
  have hcs : v.cells = #[v] := by cases v <;> first | rfl | cases hv
  simp [execOp, hx, hy, Instr.storeAt, Instr.sureAddr, storeVar, h1.size, hcs, storeCells, hst, Addr.add_zero']
theorem gives_append {t e : TypeId} [hs : IsSlice P t e] {size bytes : Nat} [hc : Cells P e size bytes] {z : Value} [hz : Zero P e z] {v : Value} {k m c : Nat} {xs news : List Value} {A : Option Addr}
    (H : Sep w₀ S rs w) (hx : ρ x = v) (hy : ρ y = .slice A m c) (hat : At rs (rowH e size v k xs) put) (hr : RowAt w A m size news) (h1 : ∀ u ∈ news, u.oneCell' = true)
    (hsz : 0 < size) (hzs : z.cells.size = size) (h63 : k + m ≤ maxLen) (hbytes : (k + m) * bytes ≤ 140737488355328) :
    ∃ v' w', Gives P ρ (.call { callee := .builtin .append, args := #[x, y], argTypes := #[t, t] }) ty w v' w' ∧ Sep w₀ S (put (rowH e size v' (k + m) (xs ++ news))) w' := by
  obtain ⟨F, hp, _, _⟩ := H.focus hat
  obtain ⟨v', w', hrun, hown, hg, hb⟩ := run_append (P := P) (ty := ty) t e hsz hzs v k xs hp.1 A m c news hr h1 h63 hbytes
  refine ⟨v', w', fun _ _ _ _ => ?_, H.rowTurn hat hg hown (by rcases hb with e | e <;> simp [e])⟩
  simp only [execOp, resolve, invoke, builtin, Sem.run_bind, Sem.run_pure, Result.andThen_ok, List.map_toArray, List.map_cons, List.map_nil, hx, hy, hrun]
end acts
end Go.Mw
