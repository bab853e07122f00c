/-
  The rules of the walk for a region that draws, with the pieces that are owned. Nothing of a given program stands here.
-/
import Derived.Test.YteflbohpabdjkaaMwCall
namespace Go.Mw
open Go.RowKit

section
variable {P : Program} {r : Option Nat} {n : Nat} {ops : Array Oper} {Q : Post} {lv : List Bool} {pd pd' : List (Nat × Bool)} {σ : St} {w w' w₀ : World} {S F : Nat → Prop} {rs : List HP} {p q : HP} {put : HP → List HP} {op : Op} {ty : TypeId} {pos : String} {after : Array Edge} {guard : Option (Nat × Bool)}
theorem FW_drawS {id : Nat} {l : List Oper} (hm : P.follows .mixedOrders = true) (H : Sep w₀ S rs w) (hok : okOps n l.toArray = true := by kernel_rfl) (h : okOps n l.toArray = true → ∀ w', Sep w₀ S rs w' → FG P r n l.toArray Q (List.replicate l.length false) [] σ w') : FW P r n (.region id l.toArray true) Q σ w :=
  FW_draw hm hok fun w' hk => h hok w' (H.keep hk)
theorem FG_splitP {t : Nat} {φ : Prop} [Decidable φ] (hb : σ.get t = .bool (decide φ)) (h1 : φ → FG P r n ops Q lv pd (upd σ t (.bool true)) w) (h0 : ¬ φ → FG P r n ops Q lv pd (upd σ t (.bool false)) w) : FG P r n ops Q lv pd σ w := by
  by_cases hp : φ
  · have := h1 hp
    rw [show Value.bool true = σ t from by rw [hb, decide_eq_true hp], upd_self] at this; exact this
  · have := h0 hp
    rw [show Value.bool false = σ t from by rw [hb, decide_eq_false hp], upd_self] at this; exact this
theorem FG_split {t : Nat} {b : Bool} (hb : σ.get t = .bool b) (h1 : b = true → FG P r n ops Q lv pd (upd σ t (.bool true)) w) (h0 : b = false → FG P r n ops Q lv pd (upd σ t (.bool false)) w) : FG P r n ops Q lv pd σ w := by
  cases b
  · have := h0 rfl
    rw [show Value.bool false = σ t from hb.symm, upd_self] at this; exact this
  · have := h1 rfl
    rw [show Value.bool true = σ t from hb.symm, upd_self] at this; exact this
theorem FGmove (hok : okOps n ops = true) (i : Nat) {d : Nat} {x : Operand} {v : Value} (ho : ops[i]? = some { dst := some d, op := .move x, type := ty, pos := pos, after := after, guard := guard } := by exact rfl)
    (hw : Region.wanted { dst := some d, op := .move x, type := ty, pos := pos, after := after, guard := guard } (yieldF ops σ) = true := by kernel_rfl) (hv : evF σ x = v := by simp only [evF, upd_same, upd_ne, ne_eq, Nat.reduceEqDiff, not_false_eq_true]; rfl) (hck : quietOk ops lv (pd.map (·.1)) i = true := by kernel_rfl)
    (h : FG P r n ops Q (lv.set i true) ((i, true) :: pd) (upd σ d v) w) : FG P r n ops Q lv pd σ w := FGp hok i ho hw (fun _ => Gives.move hv) hck h
theorem FGload (hok : okOps n ops = true) (i : Nat) {d b o : Nat} {x : Operand} {T : TypeId} [OneCell P T] {cs : List Value} {E : TypeId} {v : Value} (H : Sep w₀ S rs w) (ho : ops[i]? = some { dst := some d, op := .load T x, type := ty, pos := pos, after := after, guard := guard } := by exact rfl)
    (hw : Region.wanted { dst := some d, op := .load T x, type := ty, pos := pos, after := after, guard := guard } (yieldF ops σ) = true := by kernel_rfl) (hx : evF σ x = .pointer (some ⟨b, o, none⟩) := by exact rfl)
    (hat : At rs (blk b cs E) put := by first | exact At0 | exact At1 | exact At2 | exact At3 | exact At4 | exact At5 | exact At6 | exact At7 | exact At8 | exact At9) (hv : cs[o]? = some v := by exact rfl) (hck : quietOk ops lv (pd.map (·.1)) i = true := by kernel_rfl)
    (h : FG P r n ops Q (lv.set i true) ((i, false) :: pd) (upd σ d v) w) : FG P r n ops Q lv pd σ w := FGl hok i ho hw (Gives.load1 hx (H.obj hat) hv) hck h
theorem FGloadN (hok : okOps n ops = true) (i : Nat) {d b o k : Nat} {x : Operand} {T : TypeId} [Agg P T k] {cs us : List Value} {E : TypeId} (H : Sep w₀ S rs w) (ho : ops[i]? = some { dst := some d, op := .load T x, type := ty, pos := pos, after := after, guard := guard } := by exact rfl)
    (hw : Region.wanted { dst := some d, op := .load T x, type := ty, pos := pos, after := after, guard := guard } (yieldF ops σ) = true := by kernel_rfl) (hx : evF σ x = .pointer (some ⟨b, o, none⟩) := by exact rfl)
    (hat : At rs (blk b cs E) put := by first | exact At0 | exact At1 | exact At2 | exact At3 | exact At4 | exact At5 | exact At6 | exact At7 | exact At8 | exact At9) (hu : (cs.drop o).take k = us) (hk : us.length = k) (hck : quietOk ops lv (pd.map (·.1)) i = true := by kernel_rfl)
    (h : FG P r n ops Q (lv.set i true) ((i, false) :: pd) (upd σ d (.agg us.toArray)) w) : FG P r n ops Q lv pd σ w := FGl hok i ho hw (Gives.loadN hx (H.obj hat) hu hk) hck h
theorem Stab_load {i d b o : Nat} {x : Operand} {T : TypeId} [OneCell P T] {cs : List Value} {E : TypeId} {v : Value} {l : List (Nat × Bool)} (H : Sep w₀ S rs w) (ho : ops[i]? = some { dst := some d, op := .load T x, type := ty, pos := pos, after := after, guard := guard } := by exact rfl)
    (hw : Region.wanted { dst := some d, op := .load T x, type := ty, pos := pos, after := after, guard := guard } (yieldF ops σ) = true := by kernel_rfl) (hx : evF σ x = .pointer (some ⟨b, o, none⟩) := by exact rfl)
    (hat : At rs (blk b cs E) put := by first | exact At0 | exact At1 | exact At2 | exact At3 | exact At4 | exact At5 | exact At6 | exact At7 | exact At8 | exact At9) (hv : cs[o]? = some v := by exact rfl) (hd : σ d = v := by exact rfl) (h : Stab P ops σ w l) : Stab P ops σ w ((i, false) :: l) :=
  Stab_cons ho hw (Gives.load1 hx (H.obj hat) hv) hd h
theorem FGstore (hok : okOps n ops = true) (e : Nat) (pd' : List (Nat × Bool)) {b o : Nat} {x y : Operand} {T : TypeId} [OneCell P T] {cs cs' : List Value} {E : TypeId} {v : Value} (H : Sep w₀ S rs w) (ho : ops[e]? = some { dst := none, op := .store T x y, type := ty, pos := pos, after := after, guard := guard } := by exact rfl)
    (hw : Region.wanted { dst := none, op := .store T x y, type := ty, pos := pos, after := after, guard := guard } (yieldF ops σ) = true := by kernel_rfl) (hx : evF σ x = .pointer (some ⟨b, o, none⟩) := by exact rfl)
    (hy : evF σ y = v := by simp only [evF, upd_same, upd_ne, ne_eq, Nat.reduceEqDiff, not_false_eq_true]; rfl) (hv : v.oneCell' = true := by exact rfl)
    (hat : At rs (blk b cs E) put := by first | exact At0 | exact At1 | exact At2 | exact At3 | exact At4 | exact At5 | exact At6 | exact At7 | exact At8 | exact At9) (hlt : Nat.blt o cs.length = true := by exact rfl)
    (hs : cs.set o v = cs' := by first | (simp only [List.set_cons_zero, List.set_cons_succ]; rfl) | exact rfl) (hck : effectOk ops lv (pd.map (·.1)) e = true := by kernel_rfl) (hpd : pd.filter (fun p => !((above ops e).contains p.1)) = pd' := by kernel_rfl)
    (h : ∀ w', Sep w₀ S (put (blk b cs' E)) w' → Stab P ops σ w' pd' ∧ FG P r n ops Q (lv.set e true) pd' σ w') : FG P r n ops Q lv pd σ w :=
  FGact hok e pd' ho hw (acts_store cs' H hx hy hv hat hlt hs) hck hpd h
theorem FGmapUpdate (hok : okOps n ops = true) (e : Nat) (pd' : List (Nat × Bool)) {x y z : Operand} {T k el : TypeId} [IsMap P T k el] [IsInt P k .i64] {b : Nat} {f : Int → Option Value} {i : Int} {v : Value} (H : Sep w₀ S rs w)
    (ho : ops[e]? = some { dst := none, op := .mapUpdate T x y z, type := ty, pos := pos, after := after, guard := guard } := by exact rfl)
    (hw : Region.wanted { dst := none, op := .mapUpdate T x y z, type := ty, pos := pos, after := after, guard := guard } (yieldF ops σ) = true := by kernel_rfl) (hx : evF σ x = .map (some b) := by exact rfl) (hy : evF σ y = .int .i64 i := by exact rfl) (hz : evF σ z = v := by simp only [evF, upd_same, upd_ne, ne_eq, Nat.reduceEqDiff, not_false_eq_true]; rfl)
    (hat : At rs (mapI b f) put := by first | exact At0 | exact At1 | exact At2 | exact At3 | exact At4 | exact At5 | exact At6 | exact At7 | exact At8 | exact At9) (hck : effectOk ops lv (pd.map (·.1)) e = true := by kernel_rfl) (hpd : pd.filter (fun p => !((above ops e).contains p.1)) = pd' := by kernel_rfl)
    (h : ∀ w', Sep w₀ S (put (mapI b fun k => if k = i then some v else f k)) w' → Stab P ops σ w' pd' ∧ FG P r n ops Q (lv.set e true) pd' σ w') : FG P r n ops Q lv pd σ w :=
  FGact hok e pd' ho hw (acts_mapUpdate H hat hx hy hz) hck hpd h
theorem FGappend (hok : okOps n ops = true) (i : Nat) (pd' : List (Nat × Bool)) {d : Nat} {x y : Operand} {t e : TypeId} [hs : IsSlice P t e] {size bytes : Nat} [hc : Cells P e size bytes] {z : Value} [hz : Zero P e z] {v : Value} {k m c : Nat} {xs news : List Value} {A : Option Addr}
    (H : Sep w₀ S rs w) (hr : RowAt w A m size news) (h1 : ∀ u ∈ news, u.oneCell' = true) (h63 : k + m ≤ maxLen) (hbytes : (k + m) * bytes ≤ 140737488355328)
    (ho : ops[i]? = some { dst := some d, op := .call { callee := .builtin .append, args := #[x, y], argTypes := #[t, t] }, type := ty, pos := pos, after := after, guard := guard } := by exact rfl)
    (hw : Region.wanted { dst := some d, op := .call { callee := .builtin .append, args := #[x, y], argTypes := #[t, t] }, type := ty, pos := pos, after := after, guard := guard } (yieldF ops σ) = true := by kernel_rfl)
    (hx : evF σ x = v := by exact rfl) (hy : evF σ y = .slice A m c := by exact rfl) (hat : At rs (rowH e size v k xs) put := by first | exact At0 | exact At1 | exact At2 | exact At3 | exact At4 | exact At5 | exact At6 | exact At7 | exact At8 | exact At9)
    (hsz : 0 < size := by decide) (hzs : z.cells.size = size := by exact rfl) (hck : effectOk ops lv (pd.map (·.1)) i = true := by kernel_rfl) (hpd : pd.filter (fun p => !((above ops i).contains p.1)) = pd' := by kernel_rfl)
    (h : ∀ v' w', Sep w₀ S (put (rowH e size v' (k + m) (xs ++ news))) w' → Stab P ops (upd σ d v') w' pd' ∧ FG P r n ops Q (lv.set i true) pd' (upd σ d v') w') : FG P r n ops Q lv pd σ w :=
  FGval hok i pd' ho hw (gives_append H hx hy hat hr h1 hsz hzs h63 hbytes) hck hpd h
theorem FGbuildSlice (hok : okOps n ops = true) (i : Nat) (pd' : List (Nat × Bool)) {d : Nat} {t e : TypeId} {xs : List Operand} {parts : List (Nat × Operand)} {out : List Value} {size bytes : Nat} [hs : IsSlice P t e] [hc : Cells P e size bytes] {z : Value} [hz : Zero P e z] (H : Sep w₀ S rs w) (hE : Elems (evF σ) size xs out)
    (ho : ops[i]? = some { dst := some d, op := .buildSlice t xs.length parts.toArray, type := ty, pos := pos, after := after, guard := guard } := by exact rfl)
    (hw : Region.wanted { dst := some d, op := .buildSlice t xs.length parts.toArray, type := ty, pos := pos, after := after, guard := guard } (yieldF ops σ) = true := by kernel_rfl)
    (hp : parts = (xs.zipIdx 0).map fun p => (p.2, p.1) := by exact rfl) (hlen : Nat.ble (xs.length * size) 16777216 = true := by exact rfl)
    (hck : effectOk ops lv (pd.map (·.1)) i = true := by kernel_rfl) (hpd : pd.filter (fun p => !((above ops i).contains p.1)) = pd' := by kernel_rfl)
    (h : ∀ b w', Sep w₀ S (blk b out e :: rs) w' → Stab P ops (upd σ d (.slice (some ⟨b, 0, none⟩) xs.length xs.length)) w' pd' ∧ FG P r n ops Q (lv.set i true) pd' (upd σ d (.slice (some ⟨b, 0, none⟩) xs.length xs.length)) w') : FG P r n ops Q lv pd σ w :=
  FGval hok i pd' (C := fun v w' => ∃ b, v = .slice (some ⟨b, 0, none⟩) xs.length xs.length ∧ Sep w₀ S (blk b out e :: rs) w') ho hw ⟨_, _, Gives.buildSlice hE hp hlen, _, rfl, H.alloc _⟩ hck hpd fun v w' ⟨b, hv, hsep⟩ => by subst hv; exact h b w' hsep
/-- Calls. -/
theorem FGcallS (hok : okOps n ops = true) (e : Nat) (pd' : List (Nat × Bool)) {d : Nat} {f : FuncId} {xs : List Operand} {ats : Array TypeId} {vals : List Value} {v : Value} [he : Enters P f] (H : Sep w₀ S rs w) (hc : Rets P f vals w fun v' w' => v' = v ∧ w = w')
    (ho : ops[e]? = some { dst := some d, op := .call { callee := .value (.func f), args := xs.toArray, argTypes := ats }, type := ty, pos := pos, after := after, guard := guard } := by exact rfl)
    (hw : Region.wanted { dst := some d, op := .call { callee := .value (.func f), args := xs.toArray, argTypes := ats }, type := ty, pos := pos, after := after, guard := guard } (yieldF ops σ) = true := by kernel_rfl) (hv : xs.map (evF σ) = vals := by exact rfl) (hck : effectOk ops lv (pd.map (·.1)) e = true := by kernel_rfl)
    (hpd : pd.filter (fun p => !((above ops e).contains p.1)) = pd' := by kernel_rfl) (h : ∀ w', Sep w₀ S rs w' → Stab P ops (upd σ d v) w' pd' ∧ FG P r n ops Q (lv.set e true) pd' (upd σ d v) w') : FG P r n ops Q lv pd σ w :=
  FGcall hok e pd' ho hw hc hv hck hpd fun v' w' ⟨h1, h2⟩ => by subst h1; subst h2; exact h w H
theorem FGcall1 (hok : okOps n ops = true) (e : Nat) (pd' : List (Nat × Bool)) {d : Nat} {f : FuncId} {xs : List Operand} {ats : Array TypeId} {vals : List Value} {v : Value} [he : Enters P f] (H : Sep w₀ S rs w) (hat : At rs p put)
    (hc : ∀ F, p.ok F w → (∀ b, F b → S b ∨ w₀.heap.size ≤ b) → Rets P f vals w fun v' w' => v' = v ∧ Turn F q w w')
    (ho : ops[e]? = some { dst := some d, op := .call { callee := .value (.func f), args := xs.toArray, argTypes := ats }, type := ty, pos := pos, after := after, guard := guard } := by exact rfl)
    (hw : Region.wanted { dst := some d, op := .call { callee := .value (.func f), args := xs.toArray, argTypes := ats }, type := ty, pos := pos, after := after, guard := guard } (yieldF ops σ) = true := by kernel_rfl) (hv : xs.map (evF σ) = vals := by exact rfl) (hck : effectOk ops lv (pd.map (·.1)) e = true := by kernel_rfl)
    (hpd : pd.filter (fun p => !((above ops e).contains p.1)) = pd' := by kernel_rfl) (h : ∀ w', Sep w₀ S (put q) w' → Stab P ops (upd σ d v) w' pd' ∧ FG P r n ops Q (lv.set e true) pd' (upd σ d v) w') : FG P r n ops Q lv pd σ w := by
  obtain ⟨F, hp, hS, hput⟩ := H.focus hat
  refine FGcall hok e pd' ho hw (hc F hp hS) hv hck hpd fun v' w' ⟨h1, hk, F', hq, hs⟩ => ?_
  subst h1
  exact h w' (hput w' F' _ hk hq hs)
theorem FGcall1R (hok : okOps n ops = true) (e : Nat) (pd' : List (Nat × Bool)) {d : Nat} {f : FuncId} {xs : List Operand} {ats : Array TypeId} {vals us : List Value} {v : Value} {E s m c : Nat} {A : Option Addr} [he : Enters P f] (H : Sep w₀ S (rowH E s (.slice A m c) m us :: rs) w) (hat : At rs p put)
    (hc : ∀ F, p.ok F w → RowAt w A m s us → Off A m F → Rets P f vals w fun v' w' => v' = v ∧ Turn F q w w')
    (ho : ops[e]? = some { dst := some d, op := .call { callee := .value (.func f), args := xs.toArray, argTypes := ats }, type := ty, pos := pos, after := after, guard := guard } := by exact rfl)
    (hw : Region.wanted { dst := some d, op := .call { callee := .value (.func f), args := xs.toArray, argTypes := ats }, type := ty, pos := pos, after := after, guard := guard } (yieldF ops σ) = true := by kernel_rfl) (hv : xs.map (evF σ) = vals := by exact rfl) (hck : effectOk ops lv (pd.map (·.1)) e = true := by kernel_rfl)
    (hpd : pd.filter (fun p => !((above ops e).contains p.1)) = pd' := by kernel_rfl) (h : ∀ w', Sep w₀ S (rowH E s (.slice A m c) m us :: put q) w' → Stab P ops (upd σ d v) w' pd' ∧ FG P r n ops Q (lv.set e true) pd' (upd σ d v) w') : FG P r n ops Q lv pd σ w := by
  obtain ⟨F, Fq, hp, hq, hdj, hS, hput⟩ := H.focus1 hat
  refine FGcall hok e pd' ho hw (hc F hp (rowAt_of_own hq.1) (rowH_off hq hdj)) hv hck hpd fun v' w' ⟨h1, hk, F', hq', hs⟩ => ?_
  subst h1
  exact h w' (hput w' F' _ hk hq' hs)
theorem FGcallN (hok : okOps n ops = true) (e : Nat) (pd' : List (Nat × Bool)) {d : Nat} {f : FuncId} {xs : List Operand} {ats : Array TypeId} {vals : List Value} {α : Type} {val : α → Value} {φ : α → Prop} {q : α → HP} [he : Enters P f] (H : Sep w₀ S rs w)
    (hc : Rets P f vals w fun v w' => ∃ x, v = val x ∧ φ x ∧ Turn noB (q x) w w')
    (ho : ops[e]? = some { dst := some d, op := .call { callee := .value (.func f), args := xs.toArray, argTypes := ats }, type := ty, pos := pos, after := after, guard := guard } := by exact rfl)
    (hw : Region.wanted { dst := some d, op := .call { callee := .value (.func f), args := xs.toArray, argTypes := ats }, type := ty, pos := pos, after := after, guard := guard } (yieldF ops σ) = true := by kernel_rfl) (hv : xs.map (evF σ) = vals := by exact rfl) (hck : effectOk ops lv (pd.map (·.1)) e = true := by kernel_rfl)
    (hpd : pd.filter (fun p => !((above ops e).contains p.1)) = pd' := by kernel_rfl) (h : ∀ x w', φ x → Sep w₀ S (q x :: rs) w' → Kept noB w w' → Stab P ops (upd σ d (val x)) w' pd' ∧ FG P r n ops Q (lv.set e true) pd' (upd σ d (val x)) w') : FG P r n ops Q lv pd σ w := by
  refine FGcall hok e pd' ho hw hc hv hck hpd fun v' w' ⟨x, h1, hφ, hk, F', hq, hs⟩ => ?_
  subst h1
  exact h x w' hφ (H.new hk hq fun b hb => (hs b hb).resolve_left id) hk
end
end Go.Mw
