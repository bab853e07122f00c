/-
  Maps keyed by int, told by a function; maps.Clone. Nothing of a given program stands here.
-/
import Derived.Test.YteflbohpabdjkaaMwDraw2
import Derived.Laws.Externs
import Derived.MapKept
namespace Go.Mw
open Go.RowKit

def keyIs (k : Int) (e : MapEntry) : Bool := match e.key with
  | .int .i64 a => a == k
  | _ => false
def mget (es : List MapEntry) (k : Int) : Option Value := (es.find? (keyIs k)).map (·.val)
def intKeys (es : List MapEntry) : Prop := ∀ e ∈ es, ∃ a, e.key = .int .i64 a
/-- A map keyed by int: which element stands at which key. -/
def mapI (b : Nat) (f : Int → Option Value) : HP := exH fun x : Array MapEntry × Nat => star (obj b (.map x.1 x.2)) (pureH (intKeys x.1.toList ∧ ∀ k, mget x.1.toList k = f k))

section
variable {w₀ w w' : World} {S : Nat → Prop} {rs : List HP} {put : HP → List HP} {P : Program}
theorem mapI_ok {b : Nat} {f : Int → Option Value} {F : Nat → Prop} : (mapI b f).ok F w ↔ (∀ x, F x ↔ x = b) ∧ ∃ es clock, w.heap[b]? = some (.map es clock) ∧ intKeys es.toList ∧ ∀ k, mget es.toList k = f k := by
  constructor
  · rintro ⟨⟨es, c⟩, F1, F2, hF, hd, ⟨h1, h2⟩, ⟨⟨h3, h4⟩, h5⟩⟩
    refine ⟨fun x => ?_, es, c, h2, h3, h4⟩
    rw [hF, h1]
    exact ⟨fun h => h.elim id fun h => (h5 x h).elim, .inl⟩
  · rintro ⟨h1, es, c, h2, h3, h4⟩
    exact ⟨⟨es, c⟩, F, fun _ => False, fun x => by simp, fun _ _ h => h, ⟨h1, h2⟩, ⟨⟨h3, h4⟩, fun _ h => h⟩⟩
theorem Sep.mapAt {b : Nat} {f : Int → Option Value} (h : Sep w₀ S rs w) (hat : At rs (mapI b f) put) : ∃ es clock, w.heap[b]? = some (.map es clock) ∧ intKeys es.toList ∧ ∀ k, mget es.toList k = f k := by
  obtain ⟨F, hp, _, _⟩ := h.focus hat
  exact (mapI_ok.1 hp).2
theorem Sep.mapNew {b : Nat} (h : Sep w₀ S rs w) (hat : At rs (Mw.obj b (Obj.map #[] 0)) put) : Sep w₀ S (put (mapI b fun _ => none)) w :=
  h.imp hat fun F hF => mapI_ok.2 ⟨hF.1, #[], 0, hF.2, by simp [intKeys], fun k => rfl⟩

theorem findNow_int (k : Int) : ∀ (es : List MapEntry) (i : Nat), intKeys es → ∃ r, Instr.findNow (.int .i64) (.int .i64 k) es i = some r ∧ r.map (·.2) = mget es k ∧
    (∀ j v, r = some (j, v) → ∃ m, j = i + m ∧ ∃ e, es[m]? = some e ∧ keyIs k e = true ∧ es.find? (keyIs k) = some e ∧ ∀ m' e', m' < m → es[m']? = some e' → keyIs k e' = false) := by
  intro es
  induction es with
  | nil => intro i _; exact ⟨none, rfl, rfl, fun _ _ h => by cases h⟩
  | cons e es ih =>
    intro i hk
    obtain ⟨a, ha⟩ := hk e List.mem_cons_self
    obtain ⟨r, h1, h2, h3⟩ := ih (i + 1) fun x hx => hk x (List.mem_cons_of_mem _ hx)
    have hs : Instr.sameNow (.int .i64) (.int .i64 k) e.key = some (k == a) := by rw [ha]; simp [Instr.sameNow]
    have hki : keyIs k e = (a == k) := by unfold keyIs; rw [ha]
    by_cases hka : k = a
    · subst hka
      have hkt : keyIs k e = true := by rw [hki]; simp
      refine ⟨some (i, e.val), ?_, ?_, ?_⟩
      · unfold Instr.findNow; rw [hs]; simp
      · simp [mget, hkt]
      · rintro j v hjv
        injection hjv with hjv
        injection hjv with h4 h5
        exact ⟨0, by omega, e, rfl, hkt, by simp [hkt], fun m' _ hm => by omega⟩
    · have hkf : keyIs k e = false := by rw [hki]; simpa using fun h : a = k => hka h.symm
      refine ⟨r, ?_, ?_, ?_⟩
      · unfold Instr.findNow; rw [hs, h1]
        have : (k == a) = false := by simpa using hka
        rw [this]
      · rw [h2]; simp [mget, hkf]
      · rintro j v hjv
        obtain ⟨m, hm, e', he', hk', hf', hlt⟩ := h3 j v hjv
        refine ⟨m + 1, by omega, e', by simpa using he', hk', by simp [hkf, hf'], fun m' e'' hm' he'' => ?_⟩
        cases m' with
        | zero => simp at he''; rw [← he'']; exact hkf
        | succ m' => exact hlt m' e'' (by omega) (by simpa using he'')
theorem run_findKey_int {kt : TypeId} (hu : P.underlying kt = some (.int .i64)) (k : Int) (es : List MapEntry) (hk : intKeys es) :
    ∃ r, (Instr.findKey kt (.int .i64 k) es).run P w = .ok r w ∧ r.map (·.2) = mget es k ∧
    (∀ j v, r = some (j, v) → ∃ e, es[j]? = some e ∧ keyIs k e = true ∧ ∀ m' e', m' < j → es[m']? = some e' → keyIs k e' = false) := by
  obtain ⟨r, h1, h2, h3⟩ := findNow_int k es 0 hk
  refine ⟨r, by simp [Instr.findKey, run_underlying hu, h1], h2, fun j v hjv => ?_⟩
  obtain ⟨m, hm, e, he, hke, _, hlt⟩ := h3 j v hjv
  have : j = m := by omega
  subst this
  exact ⟨e, he, hke, hlt⟩
theorem run_checkKey_int {kt : TypeId} (hu : P.underlying kt = some (.int .i64)) (b : Bool) (k : Int) (d : Nat) : (Instr.checkKey b (d + 1) kt (.int .i64 k)).run P w = .ok () w := by
  simp [Instr.checkKey, run_underlying hu]
theorem run_getObj_map {b : Nat} {es : Array MapEntry} {c : Nat} (h : w.heap[b]? = some (.map es c)) : (getObj b).run P w = .ok (.map es c) w := by
  simp [getObj, Sem.run, h]
theorem gives_lookupB {ρ : Operand → Value} {ty : TypeId} {x y : Operand} {T k e : TypeId} [hm : IsMap P T k e] [hk : IsInt P k .i64] {z : Value} [hz : Zero P e z] {b : Nat} {f : Int → Option Value} {i : Int}
    {es : Array MapEntry} {c : Nat} (hb : w.heap[b]? = some (.map es c)) (hkeys : intKeys es.toList) (hf : ∀ k, mget es.toList k = f k) (hx : ρ x = .map (some b)) (hy : ρ y = .int .i64 i) : Gives P ρ (.lookup T x y false) ty w ((f i).getD z) w := by
  obtain ⟨r, h1, h2, _⟩ := run_findKey_int (P := P) (w := w) hk.und i es.toList hkeys
  intro _ _ _ _
  rw [← hf, ← h2]
  have hck := run_checkKey_int (P := P) (w := w) hk.und es.isEmpty i 9999
  simp only [execOp, hx, hy, Instr.lookup, Sem.run_bind, run_underlying hm.und, Result.andThen_ok, run_getObj_map hb, Sem.run_pure]
  rw [hck]
  simp only [Result.andThen_ok, h1]
  cases r with
  | none => simp [hz.run]
  | some jv => obtain ⟨j, v⟩ := jv; simp
theorem gives_lookup {ρ : Operand → Value} {ty : TypeId} {x y : Operand} {T k e : TypeId} [hm : IsMap P T k e] [hk : IsInt P k .i64] {z : Value} [hz : Zero P e z] {b : Nat} {f : Int → Option Value} {i : Int}
    (H : Sep w₀ S rs w) (hat : At rs (mapI b f) put) (hx : ρ x = .map (some b)) (hy : ρ y = .int .i64 i) : Gives P ρ (.lookup T x y false) ty w ((f i).getD z) w := by
  obtain ⟨es, c, hb, hkeys, hf⟩ := H.mapAt hat
  exact gives_lookupB hb hkeys hf hx hy
theorem mget_push {es : List MapEntry} {i : Int} {v : Value} {n : Nat} (k : Int) (hn : mget es i = none) : mget (es ++ [{ key := .int .i64 i, val := v, born := n }]) k = if k = i then some v else mget es k := by
  unfold mget at *
  rw [List.find?_append]
  by_cases hki : k = i
  · subst hki
    have h0 : es.find? (keyIs k) = none := by simpa using hn
    rw [if_pos rfl, h0]
    simp [keyIs]
  · rw [if_neg hki]
    have : ([{ key := .int .i64 i, val := v, born := n }] : List MapEntry).find? (keyIs k) = none := by
      have : keyIs k { key := .int .i64 i, val := v, born := n } = false := by simp [keyIs]; exact fun h => hki h.symm
      simp [this]
    rw [this]
    cases es.find? (keyIs k) <;> rfl
theorem find_modify (k i : Int) (v : Value) : ∀ (es : List MapEntry) (j : Nat) (e : MapEntry), es[j]? = some e → keyIs i e = true → (∀ m' e', m' < j → es[m']? = some e' → keyIs i e' = false) →
    mget (es.modify j fun e => { e with key := .int .i64 i, val := v }) k = if k = i then some v else mget es k := by
  intro es
  induction es with
  | nil => intro j e h; simp at h
  | cons x es ih =>
    intro j e hj hke hlt
    cases j with
    | zero =>
      simp at hj
      subst hj
      simp only [List.modify_zero_cons]
      unfold mget
      by_cases hki : k = i
      · subst hki
        rw [if_pos rfl]
        simp [keyIs]
      · rw [if_neg hki]
        have h1 : keyIs k { x with key := .int .i64 i, val := v } = false := by simp [keyIs]; exact fun h => hki h.symm
        have h2 : keyIs k x = false := by
          unfold keyIs at hke ⊢
          split at hke
          · rename_i a ha
            simp at hke
            simpa [hke] using fun h : i = k => hki h.symm
          · cases hke
        simp [h1, h2]
    | succ j =>
      simp only [List.modify_succ_cons]
      have hx : keyIs i x = false := hlt 0 x (by omega) rfl
      have ih' := ih j e (by simpa using hj) hke fun m' e' hm he => hlt (m' + 1) e' (by omega) (by simpa using he)
      unfold mget at ih' ⊢
      rw [List.find?_cons, List.find?_cons]
      cases hkx : keyIs k x with
      | true =>
        have : k ≠ i := fun e => by rw [e, hx] at hkx; cases hkx
        simp [this]
      | false => simpa using ih'
theorem acts_mapUpdate {ρ : Operand → Value} {ty : TypeId} {x y z : Operand} {T k e : TypeId} [hm : IsMap P T k e] [hk : IsInt P k .i64] {b : Nat} {f : Int → Option Value} {i : Int} {v : Value}
    (H : Sep w₀ S rs w) (hat : At rs (mapI b f) put) (hx : ρ x = .map (some b)) (hy : ρ y = .int .i64 i) (hz : ρ z = v) :
    ∃ w', Acts P ρ (.mapUpdate T x y z) ty w w' ∧ Sep w₀ S (put (mapI b fun k => if k = i then some v else f k)) w' := by
  obtain ⟨F, hp, _, hput⟩ := H.focus hat
  obtain ⟨hF, es, c, hb, hkeys, hf⟩ := mapI_ok.1 hp
  obtain ⟨r, h1, h2, h3⟩ := run_findKey_int (P := P) (w := w) hk.und i es.toList hkeys
  have hck := run_checkKey_int (P := P) (w := w) hk.und false i 9999
  have hblt := lt_of_get hb
  have hset : ∀ o : Obj, (setObj b o).run P w = .ok () { w with heap := w.heap.setIfInBounds b o } := fun o => by simp [Go.setObj, Sem.run, hb]
  have fin : ∀ (es' : Array MapEntry) (c' : Nat), intKeys es'.toList → (∀ k, mget es'.toList k = if k = i then some v else f k) →
      Sep w₀ S (put (mapI b fun k => if k = i then some v else f k)) { w with heap := w.heap.setIfInBounds b (.map es' c') } := fun es' c' hk' hf' =>
    hput _ F _ ⟨rfl, rfl, rfl, by simp, fun j hj hFj => by simp only [Array.getElem?_setIfInBounds]; rw [if_neg (fun e => hFj ((hF j).2 e.symm))]⟩
      (mapI_ok.2 ⟨hF, es', c', by simp [hblt], hk', hf'⟩) fun b hb => .inl hb
  cases r with
  | none =>
    refine ⟨{ w with heap := w.heap.setIfInBounds b (.map (es.push { key := .int .i64 i, val := v, born := c }) (c + 1)) }, fun _ _ _ _ => ?_, fin _ _ ?_ ?_⟩
    · simp only [execOp, hx, hy, hz, Instr.mapUpdate, Sem.run_bind, run_underlying hm.und, Result.andThen_ok, run_getObj_map hb]
      rw [hck]
      simp only [Result.andThen_ok, h1, hset, Sem.run_pure]
    · intro e he
      simp at he
      rcases he with he | he
      · exact hkeys e (by simpa using he)
      · exact ⟨i, by rw [he]⟩
    · intro k
      have h0 : mget es.toList i = none := by rw [← h2]; rfl
      simp only [Array.toList_push]
      rw [mget_push k h0, hf]
  | some jv =>
    obtain ⟨j, u⟩ := jv
    obtain ⟨e, he, hke, hlt⟩ := h3 j u rfl
    obtain ⟨a, ha⟩ := hkeys e (List.mem_of_getElem? he)
    have hai : a = i := by unfold keyIs at hke; rw [ha] at hke; simpa using hke
    have hkey : (((es[j]?).map (·.key)).getD (.int .i64 i)) = .int .i64 i := by
      have : es[j]? = some e := by simpa using he
      rw [this]; simp [ha, hai]
    have hstay : (Instr.keyThatStays (.int .i64 i) (.int .i64 i)).run P w = .ok (.int .i64 i) w := by simp [Instr.keyThatStays, Instr.sameBits]
    refine ⟨{ w with heap := w.heap.setIfInBounds b (.map (es.modify j fun e => { e with key := .int .i64 i, val := v }) c) }, fun _ _ _ _ => ?_, fin _ _ ?_ ?_⟩
    · simp only [execOp, hx, hy, hz, Instr.mapUpdate, Sem.run_bind, run_underlying hm.und, Result.andThen_ok, run_getObj_map hb]
      rw [hck]
      simp only [Result.andThen_ok, h1, hkey, hstay, hset, Sem.run_bind, Sem.run_pure]
    · intro e' he'
      simp only [Array.toList_modify] at he'
      obtain ⟨m, hm', rfl⟩ := List.mem_iff_getElem.1 he'
      rw [List.getElem_modify]
      split
      · exact ⟨i, rfl⟩
      · exact hkeys _ (List.getElem_mem _)
    · intro k
      simp only [Array.toList_modify]
      rw [find_modify k i v es.toList j e he hke hlt, hf]
end
end Go.Mw
