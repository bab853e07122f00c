/-
 Rows of data that are read.
-/
import Derived.Test.YtolaedhdjcnijaaGreatDoorKs8
import Derived.Test.YtolaedhdjcnijaaGreatDoorKs6
import Derived.ArgAppend
set_option linter.unusedVariables false
set_option linter.unusedSimpArgs false
namespace Go.Mw
open Go.RowKit
def adr (A : Option Addr) (o : Nat) : Value := .pointer (A.map (·.add o))
class EncK {α : Type} (enc : α → List Value) (k : outParam Nat) : Prop where
 len : ∀ x, (enc x).length = k
def Rd {α : Type} (w : World) (A : Option Addr) (enc : α → List Value) (k : Nat) (l : List α) : Prop := RowAt w A l.length k (l.flatMap enc)
section
variable {α : Type} {enc : α → List Value} {k : Nat} {l : List α} {A : Option Addr} {w w' w₀ : World}
theorem flat_get (hk : ∀ x, (enc x).length = k) : ∀ {l : List α} {i j : Nat} {c : α}, l[i]? = some c → j < k → (l.flatMap enc)[i * k + j]? = (enc c)[j]?
 | [], _, _, _, h, _ => by simp at h
 | a :: l, 0, j, c, h, hj => by
  simp only [List.getElem?_cons_zero, Option.some.injEq] at h
  subst h
  rw [List.flatMap_cons, Nat.zero_mul, Nat.zero_add, List.getElem?_append_left (by rw [hk]; exact hj)]
 | a :: l, i + 1, j, c, h, hj => by
  simp only [List.getElem?_cons_succ] at h
  rw [List.flatMap_cons, List.getElem?_append_right (by rw [hk, Nat.succ_mul]; omega), hk, Nat.succ_mul]
  rw [show i * k + k + j - k = i * k + j by omega]
  exact flat_get hk h hj
theorem flat_len (hk : ∀ x, (enc x).length = k) : ∀ l : List α, (l.flatMap enc).length = l.length * k
 | [] => by simp
 | a :: l => by rw [List.flatMap_cons, List.length_append, hk, flat_len hk l, List.length_cons, Nat.succ_mul]; omega
theorem Rd.keep (h : Rd w A enc k l) (hk : Kept noB w w') : Rd w' A enc k l := RowAt.keep h hk
theorem Rd.addr (h : Rd w A enc k l) (hn : 0 < l.length) : ∃ ad, A = some ad := by
 obtain ⟨ad, h1, _⟩ := h.at_ hn
 exact ⟨ad, h1⟩
theorem get_lt {i : Nat} {c : α} (h : l[i]? = some c) : i < l.length := (List.getElem?_eq_some_iff.1 h).1
theorem Rd.cell [hk : EncK enc k] {i f : Nat} {c : α} {v : Value} (h : Rd w A enc k l) (hg : l[i]? = some c) (hv : (enc c)[f]? = some v) : ∃ ad, A = some ad ∧ w.cell? (ad.add (i * k + f)) = some v := by
 have hl := get_lt hg
 obtain ⟨ad, h1, h2⟩ := h.at_ (by omega)
 refine ⟨ad, h1, h2 _ _ ?_⟩
 rw [flat_get hk.len hg (by rw [← hk.len c]; exact get_lt hv)]
 exact hv
end
section
variable {P : Program} {ρ : Operand → Value} {ty : TypeId} {w w₀ : World} {x y : Operand} {α : Type} {enc : α → List Value} {k : Nat} {l : List α} {A : Option Addr} {rs : List HP}
theorem Gives.idxR {t e : TypeId} [ht : IsSlice P t e] {bytes : Nat} [hc : Cells P e k bytes] {c i : Nat} {j : IntKind} (hx : ρ x = .slice A l.length c) (hy : ρ y = .int j i) (hr : Rd w₀ A enc k l) (hlt : i < l.length) : Gives P ρ (.indexAddr t x y) ty w (adr A (i * k)) w := by
 obtain ⟨ad, rfl⟩ := hr.addr (by omega)
 exact Gives.idx hx hy hlt
theorem Gives.fieldR {s f g o : Nat} [h : FieldAt P s f g] (hx : ρ x = adr A o) (hr : Rd w₀ A enc k l) (hlt : 0 < l.length) : Gives P ρ (.fieldAddr s x f) ty w (adr A (o + g)) w := by
 obtain ⟨ad, rfl⟩ := hr.addr hlt
 exact Gives.fieldA hx
theorem Gives.loadE [hk : EncK enc k] {i f : Nat} {c : α} {v : Value} {T : TypeId} [OneCell P T] (hx : ρ x = adr A (i * k + f)) (H : Sep w₀ noB rs w) (hr : Rd w₀ A enc k l) (hg : l[i]? = some c) (hv : (enc c)[f]? = some v) : Gives P ρ (.load T x) ty w v w := by
 obtain ⟨ad, rfl, h2⟩ := (hr.keep H.kept).cell hg hv
 exact Gives.loadC hx h2
theorem Gives.loadE1 [hk : EncK enc k] {i : Nat} {c : α} {v : Value} {T : TypeId} [OneCell P T] (hx : ρ x = adr A (i * k)) (H : Sep w₀ noB rs w) (hr : Rd w₀ A enc k l) (hg : l[i]? = some c) (hv : (enc c)[0]? = some v) : Gives P ρ (.load T x) ty w v w :=
 Gives.loadE (f := 0) hx H hr hg hv
theorem Gives.loadEN [hk : EncK enc k] {i f n : Nat} {c : α} {us : List Value} {T : TypeId} [Agg P T n] (hx : ρ x = adr A (i * k + f)) (H : Sep w₀ noB rs w) (hr : Rd w₀ A enc k l) (hg : l[i]? = some c) (hu : ((enc c).drop f).take n = us) (hn : us.length = n) : Gives P ρ (.load T x) ty w (.agg us.toArray) w := by
 obtain ⟨ad, h1⟩ := hr.addr (by have := get_lt hg; omega)
 subst h1
 refine Gives.loadCN (a := ad.add (i * k + f)) hx (fun j u hj => ?_) hn
 have hv : (enc c)[f + j]? = some u := by
  rw [← hu, List.getElem?_take] at hj
  split at hj
  ·rw [List.getElem?_drop] at hj; exact hj
  cases hj
 obtain ⟨ad', h1, h2⟩ := (hr.keep H.kept).cell hg hv
 injection h1 with h1
 subst h1
 rw [add_add, Nat.add_assoc]; exact h2
theorem Gives.loadE0 [hk : EncK enc k] {i : Nat} {c : α} {T : TypeId} [Agg P T k] (hx : ρ x = adr A (i * k)) (H : Sep w₀ noB rs w) (hr : Rd w₀ A enc k l) (hg : l[i]? = some c) : Gives P ρ (.load T x) ty w (.agg (enc c).toArray) w :=
 Gives.loadEN (f := 0) hx H hr hg (by rw [List.drop_zero, ← hk.len c, List.take_length]) (hk.len c)
end
section
variable {P : Program} {w w₀ : World} {S : Nat → Prop} {rs : List HP} {put : HP → List HP} {σ : St} {R : Value → World → Prop} {us : List Value} {a b k E : Nat} {T : TypeId}
theorem resC1 [Agg P T k] (H : Sep w₀ S rs w) (hx : σ a = .pointer (some ⟨b, 0, none⟩) := by exact rfl) (hat : At rs (blk b us E) put := by first | exact At0 | exact At1 | exact At2 | exact At3 | exact At4 | exact At5 | exact At6 | exact At7 | exact At8 | exact At9) (hk : us.length = k := by exact rfl) :
    ResAll P σ w [.cell a T] [.agg us.toArray] :=
  ⟨_, _, _, rfl, hx, loadVar_blkN (k := k) (H.obj hat) (us := us) (by rw [List.drop_zero, ← hk, List.take_length]) hk, rfl⟩
theorem resC2 [Agg P T k] {t : Nat} {v : Value} (H : Sep w₀ S rs w) (hx : σ a = .pointer (some ⟨b, 0, none⟩) := by exact rfl) (hat : At rs (blk b us E) put := by first | exact At0 | exact At1 | exact At2 | exact At3 | exact At4 | exact At5 | exact At6 | exact At7 | exact At8 | exact At9) (hk : us.length = k := by exact rfl) (hv : σ t = v := by exact rfl) :
    ResAll P σ w [.cell a T, .tmp t] [.agg us.toArray, v] :=
  ⟨_, _, _, rfl, hx, loadVar_blkN (k := k) (H.obj hat) (us := us) (by rw [List.drop_zero, ← hk, List.take_length]) hk, _, by subst hv; rfl, rfl⟩
end
end Go.Mw
namespace Go.Proofs.YtolaedhdjcnijaaGreatDoor
open Go Go.Mw
instance : EncK typeCells 2 := ⟨fun _ => rfl⟩
instance : EncK cellCells 3 := ⟨fun _ => rfl⟩
instance : EncK stepCells 3 := ⟨fun _ => rfl⟩
instance : EncK colCells 7 := ⟨fun _ => rfl⟩
def RowIn {α : Type} (w : World) (v : Value) (enc : α → List Value) (k : Nat) (l : List α) : Prop := ∃ A c, v = .slice A l.length c ∧ (l.length ≤ c ∧ c ≤ 9223372036854775807) ∧ Rd w A enc k l
theorem RowIn.keep {α : Type} {w w' : World} {v : Value} {enc : α → List Value} {k : Nat} {l : List α} (h : RowIn w v enc k l) (hk : Kept noB w w') : RowIn w' v enc k l := by
 obtain ⟨A, c, h1, h2, h3⟩ := h
 exact ⟨A, c, h1, h2, h3.keep hk⟩
end Go.Proofs.YtolaedhdjcnijaaGreatDoor
namespace Go.Proofs.YtolaedhdjcnijaaGreatDoor
open Go Go.Mw Go.Lib
set_option maxRecDepth 4000
theorem get_some {α : Type} {l : List α} {i : Nat} (h : i < l.length) : ∃ c, l[i]? = some c := ⟨l[i], List.getElem?_eq_getElem h⟩
attribute [local irreducible] checkC
section
variable {w : World}
end
section
variable {w : World}
end
theorem find_lt {cols : List ColM} {n : Int} {i : Nat} (h : findC cols n = some i) : i < cols.length := by
 unfold findC at h
 rw [List.findIdx?_eq_some_iff_getElem] at h
 exact h.1
section
variable {w : World}
end
attribute [local irreducible] mayT
section
variable {w : World}
end
section
variable {w : World}
end
end Go.Proofs.YtolaedhdjcnijaaGreatDoor
namespace Go.Mw
open Go.RowKit
section
variable {P : Program} {r : Option Nat} {n : Nat} {ops : Array Oper} {Q : Post} {lv : List Bool} {pd : List (Nat × Bool)} {σ : St} {w : World}
def effectIn (ops : Array Oper) (lv : List Bool) (ids : List Nat) (e : Nat) : Bool :=
 (readyL ops lv).contains e &&
 ids.all fun k => (preds ops e).contains k || ((match dstOf ops e with | some d => dstOf ops k != some d && !(looks ops k).contains d | none => true) &&
  (match dstOf ops k with | some d => !(looks ops e).contains d | none => true))
def EffStep (P : Program) (r : Option Nat) (n : Nat) (ops : Array Oper) (Q : Post) (lv : List Bool) (pd : List (Nat × Bool)) (σ : St) (w : World) (e : Nat) : Prop :=
 ∀ sub lr a, Real P n ops lv pd σ w sub lr a → (∀ k ∈ preds ops e, lr.getD k false = true) → wpOpIn (fen r) 0 P ops (lift n Q) e (wpAnyIn (fen r) 0 P .any ops (lift n Q) (left ops (lr.setIfInBounds e true)) (lr.setIfInBounds e true)) a w
theorem FG_two (hok : okOps n ops = true) {e1 e2 : Nat} (hre : (readyL ops lv == [e1, e2]) = true) (h1 : EffStep P r n ops Q lv pd σ w e1) (h2 : EffStep P r n ops Q lv pd σ w e2) : FG P r n ops Q lv pd σ w := by
 have hre' : readyL ops lv = [e1, e2] := by simpa using hre
 refine FG_core hok (fun h0 => by rw [h0] at hre'; cases hre') fun e he sub lr a hr hpre => ?_
 rw [hre'] at he
 rcases List.mem_cons.1 he with rfl | he
 ·exact h1 sub lr a hr hpre
 rw [List.mem_singleton] at he
 subst he
 exact h2 sub lr a hr hpre
theorem eff_step (hok : okOps n ops = true) {e' : Nat} {o : Oper} (ho : ops[e']? = some o) (hck : effectIn ops lv (pd.map (·.1)) e' = true) (hw : Region.wanted o (yieldF ops σ) = true) (pd' : List (Nat × Bool)) (hpd : pd.filter (fun p => !((above ops e').contains p.1)) = pd')
    (h : EffK P σ w o fun σ' w' => Stab P ops σ' w' pd' ∧ FG P r n ops Q (lv.set e' true) pd' σ' w') : EffStep P r n ops Q lv pd σ w e' := by
  unfold effectIn at hck
  simp only [Bool.and_eq_true, List.all_eq_true] at hck
  obtain ⟨hmr0, hids⟩ := hck
  have hmr : e' ∈ readyL ops lv := List.contains_iff_mem.1 hmr0
  intro sub lr a hr hpre
  have hlt := (Array.getElem?_eq_some_iff.1 ho).1
  have hdo := dstOf_eq ho
  obtain ⟨hod, hopl⟩ := okOps_at hok ho
  have hrd := readyL_iff.1 hmr
  have h0' := getDL_false hrd.1
  obtain ⟨σr, hrep, hds, hσ⟩ := hr.rep
  have hnp : ∀ p ∈ sub, p.1 ∉ preds ops e' := fun p hp hm => by have := hpre _ hm; rw [hr.sub_not hp] at this; cases this
  have hids' : ∀ p ∈ sub, (∀ d, o.dst = some d → dstOf ops p.1 ≠ some d ∧ d ∉ looks ops p.1) ∧ ∀ d, dstOf ops p.1 = some d → d ∉ looks ops e' := fun p hp => by
    have := hids p.1 (List.mem_map.2 ⟨p, hr.mem p hp, rfl⟩)
    rw [Bool.or_eq_true] at this
    rcases this with h1 | h1
    · exact absurd (List.contains_iff_mem.1 h1) (hnp p hp)
    rw [Bool.and_eq_true, hdo] at h1
    refine ⟨fun d hd => ?_, fun d hd => ?_⟩
    · have h2 := h1.1
      rw [hd] at h2
      simpa using h2
    have h2 := h1.2
    rw [hd] at h2
    simpa using h2
  have hlook : ∀ x ∈ looks ops e', σr x = σ x := fun x hx => hσ x fun p hp hd => (hids' p hp).2 x hd hx
  have hnext : ∀ (v : Value) (w' : World) (a' : Act), Rep n (updO σr o.dst v) a' → Stab P ops (updO σ o.dst v) w' pd' → Real P n ops (lv.set e' true) pd' (updO σ o.dst v) w' sub (lr.setIfInBounds e' true) a' := by
    intro v w' a' ha' hst
    have hmem : ∀ p ∈ sub, p ∈ pd' := fun p hp => by
      rw [← hpd, List.mem_filter]
      refine ⟨hr.mem p hp, ?_⟩
      cases hc : (above ops e').contains p.1
      · rfl
      have := above_listed hr hpre p.1 (List.contains_iff_mem.1 hc)
      rw [hr.sub_not hp] at this; cases this
    refine ⟨hmem, hr.nd, hr.pw, fun p hp k hk => ⟨getDL_set (hr.pr p hp k hk).1, (hr.pr p hp k hk).2⟩, fun p hp => getDL_set (hr.lvl p hp), fun k hk => ?_, by simpa using hr.sz, by simpa using hr.lsz, fun k hk j hj => ?_, ⟨_, ha', by simpa [updO_ds] using hds, fun x hx => ?_⟩,
      fun p hp => ?_, hr.own, hr.apart⟩
    · by_cases hke : e' = k
      · subst hke
        have h1 : (lr.setIfInBounds e' true).getD e' true = true := by
          simp [Array.getD_eq_getD_getElem?, Array.getElem?_setIfInBounds]
          split <;> rfl
        rw [h1, getDL_set_same _ (by rw [hr.lsz]; exact hlt)]
        cases hc : (sub.map (·.1)).contains e'
        · rfl
        obtain ⟨p, hp, e1⟩ := List.mem_map.1 (List.contains_iff_mem.1 hc)
        have := hr.lvl p hp
        rw [e1, h0'] at this; cases this
      rw [getD_set_ne true hke, getDL_set_ne hke, hr.lrv k hk]
    · by_cases hke : e' = k
      · subst hke; exact getD_set_true (hpre j hj)
      rw [getD_set_ne false hke] at hk; exact getD_set_true (hr.cl k hk j hj)
    · by_cases hd : o.dst = some x
      · rw [hd]; show upd σr x v x = upd σ x v x; rw [upd_same, upd_same]
      rw [updO_other hd, updO_other hd]; exact hσ x hx
    cases hf : p.2 with
    | false =>
      obtain ⟨o', v', ho', hv', hy'⟩ := hst.get p (hmem p hp) hf
      refine ⟨o', v', ho', hv', fun w'' hw'' => ?_⟩
      rcases hw'' with hw'' | hw''
      · cases hw''
      rw [hw'']; exact hy'
    | true =>
      obtain ⟨o', v', ho', hv', hy'⟩ := hr.yl p hp
      refine ⟨o', v', ho', fun d hd => ?_, fun w'' _ => (hy' w'' (.inl hf)).congr ho' (okOps_at hok ho').2 fun x hx => (updO_other fun e1 => ((hids' p hp).1 x e1).2 hx).symm⟩
      rw [updO_other (fun e1 => ((hids' p hp).1 d e1).1 (by rw [dstOf_eq ho', hd]))]; exact hv' d hd
  unfold wpOpIn
  simp only [ho]
  have hww : Region.wanted o (yielded ops a.tmps) = true := by
    rw [hrep.yielded ops (okOps_dst hok), wanted_congr ho hlook]; exact hw
  rw [if_pos hww]
  refine ⟨fun _ _ => trivial, ?_⟩
  unfold EffK at h
  have hsem : (o.semAt (fen r).round a.eval) = execOp (evF σ) o := by
    rw [Oper.semAt_eq _ _ _ fun c hc => ?_, hrep.eval, exec_congr ho hopl hlook]
    have hne : ∀ x w', (execOp (evF σ) o).run P w = .ok x w' → ∃ d, x = .defer d := fun x w' hx => by
      unfold execOp at hx
      rw [hc] at hx
      simp only [Sem.run_bind] at hx
      cases hr : (resolve (evF σ) c o.type).run P w <;> rw [hr] at hx <;> simp [Result.andThen] at hx
      exact ⟨_, hx.1.symm⟩
    cases hx : (execOp (evF σ) o).run P w with
    | halt x w' => rw [hx] at h; exact h
    | ok x w' =>
      obtain ⟨d, rfl⟩ := hne x w' hx
      rw [hx] at h; exact h
  rw [hsem]
  generalize (execOp (evF σ) o).run P w = res at h ⊢
  cases res with
  | halt x w' => exact h.elim
  | ok nx w' =>
    cases nx with
    | value v => exact h.2 _ _ _ (hnext v w' _ (hrep.putO hod v) h.1)
    | skip => exact h.2 _ _ _ (hnext undef w' _ (hrep.putO hod undef) h.1)
    | enter f args =>
      refine ⟨(fun h => by cases h), fen_calls r (Calls.mono h fun en w'' hen => ?_)⟩
      cases en with
      | returned v => exact hen.2 _ _ _ (hnext v w'' _ (hrep.putO hod v) hen.1)
      | _ => exact hen.elim
    | _ => exact h.elim

theorem step_call (hok : okOps n ops = true) (e : Nat) (pd' : List (Nat × Bool)) {dst : Option Nat} {f : FuncId} {xs : List Operand} {ats : Array TypeId} {vals : List Value} {R : Value → World → Prop} {ty : TypeId} {pos : String} {after : Array Edge} {guard : Option (Nat × Bool)} [he : Enters P f]
    (ho : ops[e]? = some { dst := dst, op := .call { callee := .value (.func f), args := xs.toArray, argTypes := ats }, type := ty, pos := pos, after := after, guard := guard })
    (hw : Region.wanted { dst := dst, op := .call { callee := .value (.func f), args := xs.toArray, argTypes := ats }, type := ty, pos := pos, after := after, guard := guard } (yieldF ops σ) = true) (hc : Rets P f vals w R) (hv : xs.map (evF σ) = vals) (hck : effectIn ops lv (pd.map (·.1)) e = true)
    (hpd : pd.filter (fun p => !((above ops e).contains p.1)) = pd') (h : ∀ v w', R v w' → Stab P ops (updO σ dst v) w' pd' ∧ FG P r n ops Q (lv.set e true) pd' (updO σ dst v) w') : EffStep P r n ops Q lv pd σ w e := by
  refine eff_step hok ho hck hw pd' hpd ?_
  unfold EffK
  have e1 : execOp (evF σ) { dst := dst, op := .call { callee := .value (.func f), args := xs.toArray, argTypes := ats }, type := ty, pos := pos, after := after, guard := guard } = callFunc f (#[] ++ xs.toArray.map (evF σ) ++ #[]) := rfl
  have e2 : (#[] ++ xs.toArray.map (evF σ) ++ #[] : Array Value) = vals.toArray := by simp [hv]
  rw [e1, he.run, e2]
  refine Calls.mono hc fun en w'' hr => ?_
  cases en with
  | returned v => exact h v w'' hr
  | _ => exact hr.elim
theorem step_val (hok : okOps n ops = true) (e : Nat) (pd' : List (Nat × Bool)) {d : Nat} {op : Op} {ty : TypeId} {pos : String} {after : Array Edge} {guard : Option (Nat × Bool)} {C : Value → World → Prop} (ho : ops[e]? = some { dst := some d, op := op, type := ty, pos := pos, after := after, guard := guard })
    (hw : Region.wanted { dst := some d, op := op, type := ty, pos := pos, after := after, guard := guard } (yieldF ops σ) = true) (hg : ∃ v w', Gives P (evF σ) op ty w v w' ∧ C v w') (hck : effectIn ops lv (pd.map (·.1)) e = true)
    (hpd : pd.filter (fun p => !((above ops e).contains p.1)) = pd') (h : ∀ v w', C v w' → Stab P ops (upd σ d v) w' pd' ∧ FG P r n ops Q (lv.set e true) pd' (upd σ d v) w') : EffStep P r n ops Q lv pd σ w e := by
  obtain ⟨v, w', hg, hC⟩ := hg
  refine eff_step hok ho hck hw pd' hpd ?_
  unfold EffK
  rw [hg]
  exact h v w' hC
theorem step_alloc {w₀ : World} {S : Nat → Prop} {rs : List HP} (hok : okOps n ops = true) (i : Nat) (pd' : List (Nat × Bool)) {d : Nat} {T : TypeId} {ty : TypeId} {pos : String} {after : Array Edge} {guard : Option (Nat × Bool)} {z : Value} [hz : Zero P T z] {cs : List Value} (H : Sep w₀ S rs w) (ho : ops[i]? = some { dst := some d, op := .alloc T, type := ty, pos := pos, after := after, guard := guard } := by exact rfl)
    (hw : Region.wanted { dst := some d, op := .alloc T, type := ty, pos := pos, after := after, guard := guard } (yieldF ops σ) = true := by kernel_rfl) (hcs : z.cells = cs.toArray := by exact rfl)
    (hck : effectIn ops lv (pd.map (·.1)) i = true := by kernel_rfl) (hpd : pd.filter (fun p => !((above ops i).contains p.1)) = pd' := by kernel_rfl)
    (h : ∀ b w', Sep w₀ S (blk b cs T :: rs) w' → Stab P ops (upd σ d (.pointer (some ⟨b, 0, none⟩))) w' pd' ∧ FG P r n ops Q (lv.set i true) pd' (upd σ d (.pointer (some ⟨b, 0, none⟩))) w') : EffStep P r n ops Q lv pd σ w i :=
  step_val (C := fun v w' => ∃ b, v = .pointer (some ⟨b, 0, none⟩) ∧ Sep w₀ S (blk b cs T :: rs) w') hok i pd' ho hw
    ⟨.pointer (some ⟨w.heap.size, 0, none⟩), w.alloc (.cells cs.toArray T), fun _ _ _ _ => by simp [execOp, Instr.alloc, hz.run, newVar, newRow, hcs], _, rfl, H.alloc _⟩ hck hpd
    (fun v w' hv => by obtain ⟨b, rfl, hs⟩ := hv; exact h b w' hs)
end
end Go.Mw
namespace Go.Mw
open Go.RowKit
def rowD {α : Type} (e k : Nat) (enc : α → List Value) (v : Value) (l : List α) : HP := rowH e k v l.length (l.flatMap enc)
section
variable {α : Type} {enc : α → List Value} {k e : Nat} {l news : List α} {A : Option Addr} {w w' w₀ : World} {S : Nat → Prop} {rs : List HP} {put : HP → List HP} {v : Value}
theorem Sep.nilD (H : Sep w₀ S rs w) (e k : Nat) (enc : α → List Value) : Sep w₀ S (rowD e k enc (.slice none 0 0) [] :: rs) w := H.nilRow e k
theorem Sep.formD (H : Sep w₀ S rs w) (hat : At rs (rowD e k enc v l) put) : ∃ A c, v = .slice A l.length c ∧ l.length ≤ c ∧ Rd w A enc k l := by
 obtain ⟨A, c, hv, hle, _, _⟩ := Sep.rowForm H hat
 subst hv
 exact ⟨A, c, rfl, hle, Sep.rowAt H hat⟩
theorem flat_take (hk : ∀ x, (enc x).length = k) : ∀ (l : List α) (m : Nat), (l.take m).flatMap enc = (l.flatMap enc).take (m * k)
 | _, 0 => by simp
 | [], m + 1 => by simp
 | a :: l, m + 1 => by
  rw [List.take_succ_cons, List.flatMap_cons, List.flatMap_cons, flat_take hk l m, List.take_append, hk, Nat.succ_mul, Nat.add_sub_cancel, List.take_of_length_le (l := enc a) (by rw [hk]; omega)]
theorem gives_appendD {P : Program} {ρ : Operand → Value} {ty : TypeId} {x y : Operand} {t b c bytes : Nat} [hs : IsSlice P t e] [hc : Cells P e k bytes] {z : Value} [hz : Zero P e z] [hk : EncK enc k]
    (H : Sep w₀ S (blk b (news.flatMap enc) e :: rs) w) (hx : ρ x = v) (hy : ρ y = .slice (some ⟨b, 0, none⟩) c c) (hc' : c = news.length) (hat : At rs (rowD e k enc v l) put) (hone : ∀ u ∈ news.flatMap enc, u.oneCell' = true)
    (hk0 : 0 < k) (hzs : z.cells.size = k) (h63 : l.length + news.length ≤ maxLen) (hbytes : (l.length + news.length) * bytes ≤ 140737488355328) :
    ∃ v' w', Gives P ρ (.call { callee := .builtin .append, args := #[x, y], argTypes := #[t, t] }) ty w v' w' ∧ Sep w₀ S (put (rowD e k enc v' (l ++ news))) w' := by
  subst hc'
  have hr : RowAt w (some ⟨b, 0, none⟩) news.length k (news.flatMap enc) := Sep.blkRow H At0 (flat_len hk.len news)
  have H2 := H.drop0
  obtain ⟨F, hp, _, _⟩ := H2.focus hat
  obtain ⟨v', w', hrun, hown, hg, hb⟩ := run_append (P := P) (ty := ty) t e (z := z) hk0 hzs v l.length (l.flatMap enc) hp.1 (some ⟨b, 0, none⟩) news.length news.length (news.flatMap enc) hr hone h63 hbytes
  refine ⟨v', w', fun _ _ _ _ => ?_, ?_⟩
  · simp only [execOp, resolve, invoke, builtin, Sem.run_bind, Sem.run_pure, Result.andThen_ok, List.map_toArray, List.map_cons, List.map_nil, hx, hy, hrun]
  refine H2.rowTurn hat hg ?_ (by rcases hb with e | e <;> simp [e])
  rw [← List.flatMap_append] at hown
  rw [List.length_append]
  exact hown
end
section
variable {P : Program} {r : Option Nat} {n : Nat} {ops : Array Oper} {Q : Post} {rest : List Oper} {σ : St} {w w' w₀ : World} {S : Nat → Prop} {rs : List HP} {put : HP → List HP} {ty : TypeId} {pos : String} {after : Array Edge} {guard : Option (Nat × Bool)} {lv : List Bool} {pd : List (Nat × Bool)} {α : Type} {enc : α → List Value} {k e : Nat} {l news : List α} {v : Value}
theorem FL_appendD {d : Nat} {x y : Operand} {t b c bytes : Nat} [hs : IsSlice P t e] [hc : Cells P e k bytes] {z : Value} [hz : Zero P e z] [hk : EncK enc k]
    (H : Sep w₀ S (blk b (news.flatMap enc) e :: rs) w) (hat : At rs (rowD e k enc v l) put) (h63 : l.length + news.length ≤ maxLen) (hbytes : (l.length + news.length) * bytes ≤ 140737488355328) (hone : ∀ u ∈ news.flatMap enc, u.oneCell' = true)
    (hx : evF σ x = v := by exact rfl) (hy : evF σ y = .slice (some ⟨b, 0, none⟩) c c := by exact rfl) (hc' : c = news.length := by exact rfl) (hk0 : 0 < k := by decide) (hzs : z.cells.size = k := by exact rfl) (hd : Nat.blt d n = true := by exact rfl)
    (h : ∀ v' w', Sep w₀ S (put (rowD e k enc v' (l ++ news))) w' → FL P r n ops Q rest (upd σ d v') w') :
    FL P r n ops Q ({ dst := some d, op := .call { callee := .builtin .append, args := #[x, y], argTypes := #[t, t] }, type := ty, pos := pos, after := after, guard := none } :: rest) σ w := by
  obtain ⟨v', w', hg, hs'⟩ := gives_appendD (P := P) (t := t) (ty := ty) H hx hy hc' hat hone hk0 hzs h63 hbytes
  exact FL_val hg hd (h v' w' hs')
theorem FGappendD (hok : okOps n ops = true) (i : Nat) (pd' : List (Nat × Bool)) {d : Nat} {x y : Operand} {t b c bytes : Nat} [hs : IsSlice P t e] [hc : Cells P e k bytes] {z : Value} [hz : Zero P e z] [hk : EncK enc k]
    (H : Sep w₀ S (blk b (news.flatMap enc) e :: rs) w) (hat : At rs (rowD e k enc v l) put) (h63 : l.length + news.length ≤ maxLen) (hbytes : (l.length + news.length) * bytes ≤ 140737488355328) (hone : ∀ u ∈ news.flatMap enc, u.oneCell' = true)
    (ho : ops[i]? = some { dst := some d, op := .call { callee := .builtin .append, args := #[x, y], argTypes := #[t, t] }, type := ty, pos := pos, after := after, guard := guard } := by exact rfl)
    (hw : Region.wanted { dst := some d, op := .call { callee := .builtin .append, args := #[x, y], argTypes := #[t, t] }, type := ty, pos := pos, after := after, guard := guard } (yieldF ops σ) = true := by kernel_rfl)
    (hx : evF σ x = v := by exact rfl) (hy : evF σ y = .slice (some ⟨b, 0, none⟩) c c := by exact rfl) (hc' : c = news.length := by exact rfl) (hk0 : 0 < k := by decide) (hzs : z.cells.size = k := by exact rfl)
    (hck : effectOk ops lv (pd.map (·.1)) i = true := by kernel_rfl) (hpd : pd.filter (fun p => !((above ops i).contains p.1)) = pd' := by kernel_rfl)
    (h : ∀ v' w', Sep w₀ S (put (rowD e k enc v' (l ++ news))) w' → Stab P ops (upd σ d v') w' pd' ∧ FG P r n ops Q (lv.set i true) pd' (upd σ d v') w') : FG P r n ops Q lv pd σ w :=
  FGval hok i pd' ho hw (gives_appendD (P := P) (t := t) (ty := ty) H hx hy hc' hat hone hk0 hzs h63 hbytes) hck hpd h
theorem FGalloc (hok : okOps n ops = true) (i : Nat) (pd' : List (Nat × Bool)) {d : Nat} {T : TypeId} {z : Value} [hz : Zero P T z] {cs : List Value} (H : Sep w₀ S rs w) (ho : ops[i]? = some { dst := some d, op := .alloc T, type := ty, pos := pos, after := after, guard := guard } := by exact rfl)
    (hw : Region.wanted { dst := some d, op := .alloc T, type := ty, pos := pos, after := after, guard := guard } (yieldF ops σ) = true := by kernel_rfl) (hcs : z.cells = cs.toArray := by exact rfl)
    (hck : effectOk ops lv (pd.map (·.1)) i = true := by kernel_rfl) (hpd : pd.filter (fun p => !((above ops i).contains p.1)) = pd' := by kernel_rfl)
    (h : ∀ b w', Sep w₀ S (blk b cs T :: rs) w' → Stab P ops (upd σ d (.pointer (some ⟨b, 0, none⟩))) w' pd' ∧ FG P r n ops Q (lv.set i true) pd' (upd σ d (.pointer (some ⟨b, 0, none⟩))) w') : FG P r n ops Q lv pd σ w :=
  FGval (C := fun v w' => ∃ b, v = .pointer (some ⟨b, 0, none⟩) ∧ Sep w₀ S (blk b cs T :: rs) w') hok i pd' ho hw
    ⟨.pointer (some ⟨w.heap.size, 0, none⟩), w.alloc (.cells cs.toArray T), fun _ _ _ _ => by simp [execOp, Instr.alloc, hz.run, newVar, newRow, hcs], _, rfl, H.alloc _⟩ hck hpd
    (fun v w' hv => by obtain ⟨b, rfl, hs⟩ := hv; exact h b w' hs)
end
section
variable {P : Program} {ρ : Operand → Value} {ty : TypeId} {w : World} {x y : Operand} {α : Type} {enc : α → List Value} {k : Nat} {l : List α} {A : Option Addr}
theorem Gives.loadW [hk : EncK enc k] {i f : Nat} {c : α} {v : Value} {T : TypeId} [OneCell P T] (hx : ρ x = adr A (i * k + f)) (hr : Rd w A enc k l) (hg : l[i]? = some c) (hv : (enc c)[f]? = some v) : Gives P ρ (.load T x) ty w v w := by
 obtain ⟨ad, rfl, h2⟩ := hr.cell hg hv
 exact Gives.loadC hx h2
theorem Gives.loadW0 [hk : EncK enc k] {i : Nat} {c : α} {T : TypeId} [Agg P T k] (hx : ρ x = adr A (i * k)) (hr : Rd w A enc k l) (hg : l[i]? = some c) : Gives P ρ (.load T x) ty w (.agg (enc c).toArray) w :=
 Gives.loadE0 (rs := []) hx (Sep.start0 w) hr hg
end
end Go.Mw
namespace Go.Proofs.YtolaedhdjcnijaaGreatDoor
open Go Go.Mw
theorem cells_one {α : Type} {enc : α → List Value} (h : ∀ x, (enc x).all Value.oneCell' = true) (l : List α) : ∀ u ∈ l.flatMap enc, u.oneCell' = true := fun u hu => by
 obtain ⟨x, _, hx⟩ := List.mem_flatMap.1 hu
 exact List.all_eq_true.1 (h x) u hx
end Go.Proofs.YtolaedhdjcnijaaGreatDoor
namespace Go.Mw
open Go
section
variable {α β : Type} {enc : α → List Value} {val : β → Value} {row : β → List α} {k e : Nat} {l : List β} {x : β} {w w₀ : World} {S : Nat → Prop} {rs : List HP} {put : HP → List HP}
end
end Go.Mw
namespace Go.Mw
open Go.RowKit
section
variable {α : Type} {enc : α → List Value} {k e : Nat} {l news : List α} {A B : Option Addr} {w w' w₀ : World} {S : Nat → Prop} {rs : List HP}
theorem own_base {w : World} {b e s n : Nat} {v : Value} {xs : List Value} (h : w.ownsRow b e s v n xs) : w.ownsRow 0 e s v n xs := by
 refine ⟨h.1, ?_⟩
 rcases h.2 with h2 | ⟨g, cap, cur, hv, _, r⟩
 ·exact .inl h2
 exact .inr ⟨g, cap, cur, hv, Nat.zero_le _, r⟩
theorem kept_grown {w w' : World} (h : w.grownBy w' none) : Kept noB w w' := ⟨h.os, h.tape, h.output, h.size, fun k hk _ => h.block k hk fun e => by cases e⟩
theorem gives_appendF {P : Program} {ρ : Operand → Value} {ty : TypeId} {x y : Operand} {t c bytes : Nat} [hs : IsSlice P t e] [hc : Cells P e k bytes] {z : Value} [hz : Zero P e z] [hk : EncK enc k]
    (H : Sep w₀ S rs w) (hx : ρ x = .slice A l.length l.length) (hr : Rd w A enc k l) (hy : ρ y = .slice B news.length c) (hrb : Rd w B enc k news) (hone : ∀ u ∈ news.flatMap enc, u.oneCell' = true)
    (hk0 : 0 < k) (hzs : z.cells.size = k) (hne : 0 < news.length) (h63 : l.length + news.length ≤ maxLen) (hbytes : (l.length + news.length) * bytes ≤ 140737488355328) :
    ∃ v' w', Gives P ρ (.call { callee := .builtin .append, args := #[x, y], argTypes := #[t, t] }) ty w v' w' ∧ Sep w₀ S (rowD e k enc v' (l ++ news) :: rs) w' ∧ Kept noB w w' := by
  have fin : ∀ v' w', (Builtin.append_ #[t, t] ty #[.slice A l.length l.length, .slice B news.length c]).run P w = .ok v' w' → w'.ownsRow 0 e k v' (l.length + news.length) (l.flatMap enc ++ news.flatMap enc) → Kept noB w w' → (∀ b, v'.ownBlock = some b → w.heap.size ≤ b) →
      ∃ v' w', Gives P ρ (.call { callee := .builtin .append, args := #[x, y], argTypes := #[t, t] }) ty w v' w' ∧ Sep w₀ S (rowD e k enc v' (l ++ news) :: rs) w' ∧ Kept noB w w' := by
    intro v' w' hrun hown hkk hb
    refine ⟨v', w', fun _ _ _ _ => ?_, H.new (F' := fun b => v'.ownBlock = some b) hkk ⟨?_, fun b => Iff.rfl⟩ hb, hkk⟩
    · simp only [execOp, resolve, invoke, builtin, Sem.run_bind, Sem.run_pure, Result.andThen_ok, List.map_toArray, List.map_cons, List.map_nil, hx, hy, hrun]
    show w'.ownsRow 0 e k v' (l ++ news).length ((l ++ news).flatMap enc)
    rw [List.length_append, List.flatMap_append]; exact hown
  cases A with
  | none =>
    have hl : l = [] := by
      rcases Nat.eq_zero_or_pos l.length with h | h
      · exact List.eq_nil_of_length_eq_zero h
      obtain ⟨ad, h1⟩ := hr.addr h; cases h1
    subst hl
    obtain ⟨v', w', hrun, hown, hg, hb⟩ := run_append (P := P) (ty := ty) t e hk0 hzs (.slice none 0 0) 0 [] (World.ownsRow_nil w 0 e k) B news.length c (news.flatMap enc) hrb hone h63 hbytes
    refine fin v' w' hrun hown (kept_grown hg) fun b hb' => ?_
    rcases hb with h | h
    · rw [h] at hb'; cases hb'
    rw [h] at hb'; injection hb' with hb'; omega
  | some ad =>
    obtain ⟨i, hi, hsb⟩ := Option.map_eq_some_iff.1 hc.size
    simp only [Prod.mk.injEq] at hsb
    have hzero : i.zero = some z := by
      have := hz.run w
      simp [zeroValue, typeInfo, hi] at this
      cases hq : i.zero with
      | none => simp [hq] at this
      | some u => simp [hq] at this; rw [this]
    obtain ⟨bd, hB, hcb⟩ := hrb.at_ hne
    subst hB
    have hca : ∀ j u, (l.flatMap enc)[j]? = some u → w.cell? (ad.add j) = some u := by
      intro j u hu
      rcases Nat.eq_zero_or_pos l.length with h | h
      · have hn := List.eq_nil_of_length_eq_zero h
        subst hn
        simp at hu
      obtain ⟨ad', h1, h2⟩ := hr.at_ h
      injection h1 with h1
      subst h1
      exact h2 j u hu
    obtain ⟨v', w', hrun, hown, hg⟩ := run_append_arg_grows (P := P) w t ty e i z k bytes hs.und hi hzero hsb.1 hsb.2 hzs hk0 ad l.length l.length (l.flatMap enc) hr.len hca bd news.length c (news.flatMap enc) hrb.len hcb (by omega) h63 hbytes
    exact fin v' w' hrun (own_base hown) (kept_grown hg) fun b hb => (hown.lt b hb).1
end
section
variable {P : Program} {r : Option Nat} {n : Nat} {ops : Array Oper} {Q : Post} {rest : List Oper} {σ : St} {w w' w₀ : World} {S : Nat → Prop} {rs : List HP} {put : HP → List HP} {ty : TypeId} {pos : String} {after : Array Edge} {guard : Option (Nat × Bool)} {lv : List Bool} {pd : List (Nat × Bool)} {α : Type} {enc : α → List Value} {k e : Nat} {l news : List α} {A B : Option Addr}
theorem FL_appendF {d : Nat} {x y : Operand} {t c bytes : Nat} [hs : IsSlice P t e] [hc : Cells P e k bytes] {z : Value} [hz : Zero P e z] [hk : EncK enc k]
    (H : Sep w₀ S rs w) (hr : Rd w A enc k l) (hrb : Rd w B enc k news) (hne : 0 < news.length) (h63 : l.length + news.length ≤ maxLen) (hbytes : (l.length + news.length) * bytes ≤ 140737488355328) (hone : ∀ u ∈ news.flatMap enc, u.oneCell' = true)
    (hx : evF σ x = .slice A l.length l.length := by exact rfl) (hy : evF σ y = .slice B news.length c := by exact rfl) (hk0 : 0 < k := by decide) (hzs : z.cells.size = k := by exact rfl) (hd : Nat.blt d n = true := by exact rfl)
    (h : ∀ v' w', Sep w₀ S (rowD e k enc v' (l ++ news) :: rs) w' → Kept noB w w' → FL P r n ops Q rest (upd σ d v') w') :
    FL P r n ops Q ({ dst := some d, op := .call { callee := .builtin .append, args := #[x, y], argTypes := #[t, t] }, type := ty, pos := pos, after := after, guard := none } :: rest) σ w := by
  obtain ⟨v', w', hg, hs', hkk⟩ := gives_appendF (P := P) (t := t) (ty := ty) H hx hr hy hrb hone hk0 hzs hne h63 hbytes
  exact FL_val hg hd (h v' w' hs' hkk)
end
section
/-! The same, whatever else is ready. -/
variable {P : Program} {r : Option Nat} {n : Nat} {ops : Array Oper} {Q : Post} {rest : List Oper} {σ : St} {w w' w₀ : World} {S : Nat → Prop} {rs : List HP} {put : HP → List HP} {ty : TypeId} {pos : String} {after : Array Edge} {guard : Option (Nat × Bool)} {lv : List Bool} {pd : List (Nat × Bool)} {α : Type} {enc : α → List Value} {k e : Nat} {l news : List α} {A B : Option Addr} {v : Value}
theorem step_buildSlice (hok : okOps n ops = true) (i : Nat) (pd' : List (Nat × Bool)) {d : Nat} {t e : TypeId} {xs : List Operand} {parts : List (Nat × Operand)} {out : List Value} {size bytes : Nat} [hs : IsSlice P t e] [hc : Cells P e size bytes] {z : Value} [hz : Zero P e z] (H : Sep w₀ S rs w) (hE : Elems (evF σ) size xs out)
    (ho : ops[i]? = some { dst := some d, op := .buildSlice t xs.length parts.toArray, type := ty, pos := pos, after := after, guard := guard } := by exact rfl)
    (hw : Region.wanted { dst := some d, op := .buildSlice t xs.length parts.toArray, type := ty, pos := pos, after := after, guard := guard } (yieldF ops σ) = true := by kernel_rfl)
    (hp : parts = (xs.zipIdx 0).map fun p => (p.2, p.1) := by exact rfl) (hlen : Nat.ble (xs.length * size) 16777216 = true := by exact rfl)
    (hck : effectIn ops lv (pd.map (·.1)) i = true := by kernel_rfl) (hpd : pd.filter (fun p => !((above ops i).contains p.1)) = pd' := by kernel_rfl)
    (h : ∀ b w', Sep w₀ S (blk b out e :: rs) w' → Stab P ops (upd σ d (.slice (some ⟨b, 0, none⟩) xs.length xs.length)) w' pd' ∧ FG P r n ops Q (lv.set i true) pd' (upd σ d (.slice (some ⟨b, 0, none⟩) xs.length xs.length)) w') : EffStep P r n ops Q lv pd σ w i :=
  step_val hok i pd' (C := fun v w' => ∃ b, v = .slice (some ⟨b, 0, none⟩) xs.length xs.length ∧ Sep w₀ S (blk b out e :: rs) w') ho hw ⟨_, _, Gives.buildSlice hE hp hlen, _, rfl, H.alloc _⟩ hck hpd fun v w' ⟨b, hv, hsep⟩ => by subst hv; exact h b w' hsep
theorem step_callQ (hok : okOps n ops = true) (e : Nat) (pd' : List (Nat × Bool)) {d : Nat} {f : FuncId} {xs : List Operand} {ats : Array TypeId} {vals : List Value} {v : Value} [he : Enters P f] (H : Sep w₀ S rs w) (hc : Rets P f vals w fun v' w' => v' = v ∧ Kept noB w w')
    (ho : ops[e]? = some { dst := some d, op := .call { callee := .value (.func f), args := xs.toArray, argTypes := ats }, type := ty, pos := pos, after := after, guard := guard } := by exact rfl)
    (hw : Region.wanted { dst := some d, op := .call { callee := .value (.func f), args := xs.toArray, argTypes := ats }, type := ty, pos := pos, after := after, guard := guard } (yieldF ops σ) = true := by kernel_rfl) (hv : xs.map (evF σ) = vals := by exact rfl) (hck : effectIn ops lv (pd.map (·.1)) e = true := by kernel_rfl)
    (hpd : pd.filter (fun p => !((above ops e).contains p.1)) = pd' := by kernel_rfl) (h : ∀ w', Sep w₀ S rs w' → Kept noB w w' → Stab P ops (upd σ d v) w' pd' ∧ FG P r n ops Q (lv.set e true) pd' (upd σ d v) w') : EffStep P r n ops Q lv pd σ w e :=
  step_call hok e pd' ho hw hc hv hck hpd fun v' w' ⟨h1, h2⟩ => by subst h1; exact h w' (H.keep h2) h2
end
theorem Rd.cut {α : Type} {enc : α → List Value} {k : Nat} [hk : EncK enc k] {w : World} {A : Option Addr} {l : List α} (h : Rd w A enc k l) (m : Nat) : Rd w A enc k (l.take m) := by
 refine ⟨flat_len hk.len _, fun hn => ?_⟩
 have hl : 0 < l.length := by rw [List.length_take] at hn; omega
 obtain ⟨ad, h1, h2⟩ := h.at_ hl
 refine ⟨ad, h1, fun j u hu => h2 j u ?_⟩
 rw [flat_take hk.len, List.getElem?_take] at hu
 split at hu
 ·exact hu
 cases hu
theorem Rd.from {α : Type} {enc : α → List Value} {k : Nat} [hk : EncK enc k] {w : World} {A : Option Addr} {l : List α} (h : Rd w A enc k l) (m : Nat) : Rd w (A.map fun a => a.add (m * k)) enc k (l.drop m) := by
 refine ⟨flat_len hk.len _, fun hn => ?_⟩
 rw [List.length_drop] at hn
 obtain ⟨ad, h1, h2⟩ := h.at_ (by omega)
 subst h1
 refine ⟨ad.add (m * k), rfl, fun j u hu => ?_⟩
 rw [add_add]
 refine h2 _ _ ?_
 rw [← hu]
 have e : l.flatMap enc = (l.take m).flatMap enc ++ (l.drop m).flatMap enc := by rw [← List.flatMap_append, List.take_append_drop]
 have el : ((l.take m).flatMap enc).length = m * k := by rw [flat_len hk.len, List.length_take, Nat.min_eq_left (by omega)]
 rw [e, List.getElem?_append_right (by omega), el, Nat.add_sub_cancel_left]
theorem Rd.nil {α : Type} {enc : α → List Value} {k : Nat} {w : World} {A : Option Addr} : Rd w A enc k [] := ⟨by simp, fun h => absurd h (by simp)⟩
theorem Rd.fromC {α : Type} {enc : α → List Value} {k c : Nat} [hk : EncK enc k] {w : World} {A : Option Addr} {l : List α} (h : Rd w A enc k l) (m : Nat) (hc : l.length ≤ c) : Rd w (if c = m then A else A.map fun a => a.add (m * k)) enc k (l.drop m) := by
 split
 ·rw [List.drop_of_length_le (by omega)]; exact Rd.nil
 exact h.from m
end Go.Mw
namespace Go.Proofs.YtolaedhdjcnijaaGreatDoor
open Go Go.Mw
def intCells (n : Int) : List Value := [I n]
def textCells (s : List UInt8) : List Value := [str s]
instance : EncK intCells 1 := ⟨fun _ => rfl⟩
instance : EncK textCells 1 := ⟨fun _ => rfl⟩
end Go.Proofs.YtolaedhdjcnijaaGreatDoor
namespace Go.Proofs.YtolaedhdjcnijaaGreatDoor
open Go Go.Mw Go.Lib
set_option maxRecDepth 4000
theorem getD_of {α : Type} {l : List α} {i : Nat} {c d : α} (h : l[i]? = some c) : l.getD i d = c := by rw [List.getD_eq_getElem?_getD, h]; rfl
theorem Sep_rdD {α : Type} {w₀ w : World} {S : Nat → Prop} {rs : List HP} {put : HP → List HP} {e k c : Nat} {enc : α → List Value} {l : List α} {A : Option Addr} (H : Sep w₀ S rs w) (hat : At rs (rowD e k enc (.slice A l.length c) l) put) : Rd w A enc k l := Sep.rowAt H hat
attribute [local irreducible] mayS mayT
section
variable {w : World}
end
section
variable {w : World}
end
section
variable {w : World}
end
end Go.Proofs.YtolaedhdjcnijaaGreatDoor
namespace Go.Proofs.YtolaedhdjcnijaaGreatDoor
open Go Go.Lib
set_option maxRecDepth 4000
def okC (t : TypeM) (c : CellM) : Prop := checkC t c = 0
end Go.Proofs.YtolaedhdjcnijaaGreatDoor
namespace Go.Proofs.YtolaedhdjcnijaaGreatDoor
open Go Go.Lib
end Go.Proofs.YtolaedhdjcnijaaGreatDoor
namespace Go.Proofs.YtolaedhdjcnijaaGreatDoor
open Go Go.Mw Go.Lib
set_option maxRecDepth 4000
section
variable {w : World}
end
theorem quote_len (s : List UInt8) : (quoteL s).length ≤ 6 * s.length + 2 := by
  have h := len_flat (f := quoteB) (k := 6) (fun c => by unfold quoteB; repeat' split
                                                         all_goals simp) s
  unfold quoteL
  simp only [List.length_cons, List.length_append, List.length_nil]
  omega
theorem sign_get {k : Int} (h : 7 ≤ k) (h2 : k ≤ 18) : signsW[(k - 7).toNat]? = some (signsW.getD (k - 7).toNat []) := by
 rw [List.getD_eq_getElem?_getD]
 have : (k - 7).toNat < signsW.length := by show _ < 12; omega
 rw [List.getElem?_eq_getElem this]; rfl
section
variable {w : World}
end
theorem find_at {α : Type} {l : List α} {p : α → Bool} {j : Nat} {x : α} (h : ∀ (i : Nat) y, i < j → l[i]? = some y → p y = false) (hj : l[j]? = some x) (hp : p x = true) : l.findIdx? p = some j := by
 rw [List.findIdx?_eq_some_iff_getElem]
 obtain ⟨h1, h2⟩ := List.getElem?_eq_some_iff.1 hj
 refine ⟨h1, by rw [h2]; exact hp, fun i hi => ?_⟩
 rw [h i _ hi (List.getElem?_eq_getElem (by omega))]; simp
theorem findNone {α : Type} {l : List α} {p : α → Bool} (h : ∀ (i : Nat) y, l[i]? = some y → p y = false) : l.findIdx? p = none := by
 rw [List.findIdx?_eq_none_iff]
 intro x hx
 obtain ⟨i, hi⟩ := List.getElem?_of_mem hx
 exact h i x hi
theorem word_len {x : StepM} (h : mayS x = true) (hf : fits x.n) : (wordS x).length ≤ 6146 := (len_word h hf.1 hf.2).1
attribute [local irreducible] mayS wordS
section
variable {w : World}
end
end Go.Proofs.YtolaedhdjcnijaaGreatDoor
namespace Go.Proofs.YtolaedhdjcnijaaGreatDoor
open Go Go.Mw Go.Lib
set_option maxRecDepth 4000
attribute [local irreducible] unqL mayS wordS
section
variable {w : World}
end
end Go.Proofs.YtolaedhdjcnijaaGreatDoor
namespace Go.Proofs.YtolaedhdjcnijaaGreatDoor
open Go Go.Mw Go.Lib
set_option maxRecDepth 4000
theorem count_le_len (s : List UInt8) (c : UInt8) : s.count c ≤ s.length := List.count_le_length
attribute [local irreducible] mayS wordS splitW readAll
section
variable {w : World}
end
end Go.Proofs.YtolaedhdjcnijaaGreatDoor
