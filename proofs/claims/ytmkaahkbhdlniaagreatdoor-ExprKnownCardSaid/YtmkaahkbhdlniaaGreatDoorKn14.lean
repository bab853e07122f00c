/-
 Regions that draw in which two effects are ready at once: either may come first.
-/
import Derived.Test.YtmkaahkbhdlniaaGreatDoorKn6
import Derived.Test.YtmkaahkbhdlniaaGreatDoorKn13
import Derived.ArgAppend
set_option linter.unusedVariables false
set_option linter.unusedSimpArgs false
namespace Go.Mw
open Go.RowKit
section
variable {P : Program} {r : Option Nat} {n : Nat} {ops : Array Oper} {Q : Post} {lv : List Bool} {pd : List (Nat × Bool)} {σ : St} {w : World}
def effectIn (ops : Array Oper) (lv : List Bool) (ids : List Nat) (e : Nat) : Bool :=
 (readyL ops lv).contains e &&
 ids.all fun k => (preds ops e).contains k || ((match dstOf ops e with | some d => dstOf ops k != some d && !(looks ops k).contains d | none => true) &&
  (match dstOf ops k with | some d => !(looks ops e).contains d | none => true))
def EffStep (P : Program) (r : Option Nat) (n : Nat) (ops : Array Oper) (Q : Post) (lv : List Bool) (pd : List (Nat × Bool)) (σ : St) (w : World) (e : Nat) : Prop :=
 ∀ sub lr a, Real P n ops lv pd σ w sub lr a → (∀ k ∈ preds ops e, lr.getD k false = true) → wpOpIn (fen r) 0 P ops (lift n Q) e (wpAnyIn (fen r) 0 P .any ops (lift n Q) (left ops (lr.setIfInBounds e true)) (lr.setIfInBounds e true)) a w
theorem FG_two (hok : okOps n ops = true) {e1 e2 : Nat} (hre : (readyL ops lv == [e1, e2]) = true) (h1 : EffStep P r n ops Q lv pd σ w e1) (h2 : EffStep P r n ops Q lv pd σ w e2) : FG P r n ops Q lv pd σ w := by
 have hre' : readyL ops lv = [e1, e2] := by simpa using hre
 refine FG_core hok (fun h0 => by rw [h0] at hre'; cases hre') fun e he sub lr a hr hpre => ?_
 rw [hre'] at he
 rcases List.mem_cons.1 he with rfl | he
 ·exact h1 sub lr a hr hpre
 rw [List.mem_singleton] at he
 subst he
 exact h2 sub lr a hr hpre
theorem eff_step (hok : okOps n ops = true) {e' : Nat} {o : Oper} (ho : ops[e']? = some o) (hck : effectIn ops lv (pd.map (·.1)) e' = true) (hw : Region.wanted o (yieldF ops σ) = true) (pd' : List (Nat × Bool)) (hpd : pd.filter (fun p => !((above ops e').contains p.1)) = pd')
    (h : EffK P σ w o fun σ' w' => Stab P ops σ' w' pd' ∧ FG P r n ops Q (lv.set e' true) pd' σ' w') : EffStep P r n ops Q lv pd σ w e' := by
  unfold effectIn at hck
  simp only [Bool.and_eq_true, List.all_eq_true] at hck
  obtain ⟨hmr0, hids⟩ := hck
  have hmr : e' ∈ readyL ops lv := List.contains_iff_mem.1 hmr0
  intro sub lr a hr hpre
  have hlt := (Array.getElem?_eq_some_iff.1 ho).1
  have hdo := dstOf_eq ho
  obtain ⟨hod, hopl⟩ := okOps_at hok ho
  have hrd := readyL_iff.1 hmr
  have h0' := getDL_false hrd.1
  obtain ⟨σr, hrep, hds, hσ⟩ := hr.rep
  have hnp : ∀ p ∈ sub, p.1 ∉ preds ops e' := fun p hp hm => by have := hpre _ hm; rw [hr.sub_not hp] at this; cases this
  have hids' : ∀ p ∈ sub, (∀ d, o.dst = some d → dstOf ops p.1 ≠ some d ∧ d ∉ looks ops p.1) ∧ ∀ d, dstOf ops p.1 = some d → d ∉ looks ops e' := fun p hp => by
    have := hids p.1 (List.mem_map.2 ⟨p, hr.mem p hp, rfl⟩)
    rw [Bool.or_eq_true] at this
    rcases this with h1 | h1
    · exact absurd (List.contains_iff_mem.1 h1) (hnp p hp)
    rw [Bool.and_eq_true, hdo] at h1
    refine ⟨fun d hd => ?_, fun d hd => ?_⟩
    · have h2 := h1.1
      rw [hd] at h2
      simpa using h2
    have h2 := h1.2
    rw [hd] at h2
    simpa using h2
  have hlook : ∀ x ∈ looks ops e', σr x = σ x := fun x hx => hσ x fun p hp hd => (hids' p hp).2 x hd hx
  have hnext : ∀ (v : Value) (w' : World) (a' : Act), Rep n (updO σr o.dst v) a' → Stab P ops (updO σ o.dst v) w' pd' → Real P n ops (lv.set e' true) pd' (updO σ o.dst v) w' sub (lr.setIfInBounds e' true) a' := by
    intro v w' a' ha' hst
    have hmem : ∀ p ∈ sub, p ∈ pd' := fun p hp => by
      rw [← hpd, List.mem_filter]
      refine ⟨hr.mem p hp, ?_⟩
      cases hc : (above ops e').contains p.1
      · rfl
      have := above_listed hr hpre p.1 (List.contains_iff_mem.1 hc)
      rw [hr.sub_not hp] at this; cases this
    refine ⟨hmem, hr.nd, hr.pw, fun p hp k hk => ⟨getDL_set (hr.pr p hp k hk).1, (hr.pr p hp k hk).2⟩, fun p hp => getDL_set (hr.lvl p hp), fun k hk => ?_, by simpa using hr.sz, by simpa using hr.lsz, fun k hk j hj => ?_, ⟨_, ha', by simpa [updO_ds] using hds, fun x hx => ?_⟩,
      fun p hp => ?_, hr.own, hr.apart⟩
    · by_cases hke : e' = k
      · subst hke
        have h1 : (lr.setIfInBounds e' true).getD e' true = true := by
          simp [Array.getD_eq_getD_getElem?, Array.getElem?_setIfInBounds]
          split <;> rfl
        rw [h1, getDL_set_same _ (by rw [hr.lsz]; exact hlt)]
        cases hc : (sub.map (·.1)).contains e'
        · rfl
        obtain ⟨p, hp, e1⟩ := List.mem_map.1 (List.contains_iff_mem.1 hc)
        have := hr.lvl p hp
        rw [e1, h0'] at this; cases this
      rw [getD_set_ne true hke, getDL_set_ne hke, hr.lrv k hk]
    · by_cases hke : e' = k
      · subst hke; exact getD_set_true (hpre j hj)
      rw [getD_set_ne false hke] at hk; exact getD_set_true (hr.cl k hk j hj)
    · by_cases hd : o.dst = some x
      · rw [hd]; show upd σr x v x = upd σ x v x; rw [upd_same, upd_same]
      rw [updO_other hd, updO_other hd]; exact hσ x hx
    cases hf : p.2 with
    | false =>
      obtain ⟨o', v', ho', hv', hy'⟩ := hst.get p (hmem p hp) hf
      refine ⟨o', v', ho', hv', fun w'' hw'' => ?_⟩
      rcases hw'' with hw'' | hw''
      · cases hw''
      rw [hw'']; exact hy'
    | true =>
      obtain ⟨o', v', ho', hv', hy'⟩ := hr.yl p hp
      refine ⟨o', v', ho', fun d hd => ?_, fun w'' _ => (hy' w'' (.inl hf)).congr ho' (okOps_at hok ho').2 fun x hx => (updO_other fun e1 => ((hids' p hp).1 x e1).2 hx).symm⟩
      rw [updO_other (fun e1 => ((hids' p hp).1 d e1).1 (by rw [dstOf_eq ho', hd]))]; exact hv' d hd
  unfold wpOpIn
  simp only [ho]
  have hww : Region.wanted o (yielded ops a.tmps) = true := by
    rw [hrep.yielded ops (okOps_dst hok), wanted_congr ho hlook]; exact hw
  rw [if_pos hww]
  refine ⟨fun _ _ => trivial, ?_⟩
  unfold EffK at h
  have hsem : (o.semAt (fen r).round a.eval) = execOp (evF σ) o := by
    rw [Oper.semAt_eq _ _ _ fun c hc => ?_, hrep.eval, exec_congr ho hopl hlook]
    have hne : ∀ x w', (execOp (evF σ) o).run P w = .ok x w' → ∃ d, x = .defer d := fun x w' hx => by
      unfold execOp at hx
      rw [hc] at hx
      simp only [Sem.run_bind] at hx
      cases hr : (resolve (evF σ) c o.type).run P w <;> rw [hr] at hx <;> simp [Result.andThen] at hx
      exact ⟨_, hx.1.symm⟩
    cases hx : (execOp (evF σ) o).run P w with
    | halt x w' => rw [hx] at h; exact h
    | ok x w' =>
      obtain ⟨d, rfl⟩ := hne x w' hx
      rw [hx] at h; exact h
  rw [hsem]
  generalize (execOp (evF σ) o).run P w = res at h ⊢
  cases res with
  | halt x w' => exact h.elim
  | ok nx w' =>
    cases nx with
    | value v => exact h.2 _ _ _ (hnext v w' _ (hrep.putO hod v) h.1)
    | skip => exact h.2 _ _ _ (hnext undef w' _ (hrep.putO hod undef) h.1)
    | enter f args =>
      refine ⟨(fun h => by cases h), fen_calls r (Calls.mono h fun en w'' hen => ?_)⟩
      cases en with
      | returned v => exact hen.2 _ _ _ (hnext v w'' _ (hrep.putO hod v) hen.1)
      | _ => exact hen.elim
    | _ => exact h.elim

theorem step_call (hok : okOps n ops = true) (e : Nat) (pd' : List (Nat × Bool)) {dst : Option Nat} {f : FuncId} {xs : List Operand} {ats : Array TypeId} {vals : List Value} {R : Value → World → Prop} {ty : TypeId} {pos : String} {after : Array Edge} {guard : Option (Nat × Bool)} [he : Enters P f]
    (ho : ops[e]? = some { dst := dst, op := .call { callee := .value (.func f), args := xs.toArray, argTypes := ats }, type := ty, pos := pos, after := after, guard := guard })
    (hw : Region.wanted { dst := dst, op := .call { callee := .value (.func f), args := xs.toArray, argTypes := ats }, type := ty, pos := pos, after := after, guard := guard } (yieldF ops σ) = true) (hc : Rets P f vals w R) (hv : xs.map (evF σ) = vals) (hck : effectIn ops lv (pd.map (·.1)) e = true)
    (hpd : pd.filter (fun p => !((above ops e).contains p.1)) = pd') (h : ∀ v w', R v w' → Stab P ops (updO σ dst v) w' pd' ∧ FG P r n ops Q (lv.set e true) pd' (updO σ dst v) w') : EffStep P r n ops Q lv pd σ w e := by
  refine eff_step hok ho hck hw pd' hpd ?_
  unfold EffK
  have e1 : execOp (evF σ) { dst := dst, op := .call { callee := .value (.func f), args := xs.toArray, argTypes := ats }, type := ty, pos := pos, after := after, guard := guard } = callFunc f (#[] ++ xs.toArray.map (evF σ) ++ #[]) := rfl
  have e2 : (#[] ++ xs.toArray.map (evF σ) ++ #[] : Array Value) = vals.toArray := by simp [hv]
  rw [e1, he.run, e2]
  refine Calls.mono hc fun en w'' hr => ?_
  cases en with
  | returned v => exact h v w'' hr
  | _ => exact hr.elim
theorem step_val (hok : okOps n ops = true) (e : Nat) (pd' : List (Nat × Bool)) {d : Nat} {op : Op} {ty : TypeId} {pos : String} {after : Array Edge} {guard : Option (Nat × Bool)} {C : Value → World → Prop} (ho : ops[e]? = some { dst := some d, op := op, type := ty, pos := pos, after := after, guard := guard })
    (hw : Region.wanted { dst := some d, op := op, type := ty, pos := pos, after := after, guard := guard } (yieldF ops σ) = true) (hg : ∃ v w', Gives P (evF σ) op ty w v w' ∧ C v w') (hck : effectIn ops lv (pd.map (·.1)) e = true)
    (hpd : pd.filter (fun p => !((above ops e).contains p.1)) = pd') (h : ∀ v w', C v w' → Stab P ops (upd σ d v) w' pd' ∧ FG P r n ops Q (lv.set e true) pd' (upd σ d v) w') : EffStep P r n ops Q lv pd σ w e := by
  obtain ⟨v, w', hg, hC⟩ := hg
  refine eff_step hok ho hck hw pd' hpd ?_
  unfold EffK
  rw [hg]
  exact h v w' hC
theorem step_alloc {w₀ : World} {S : Nat → Prop} {rs : List HP} (hok : okOps n ops = true) (i : Nat) (pd' : List (Nat × Bool)) {d : Nat} {T : TypeId} {ty : TypeId} {pos : String} {after : Array Edge} {guard : Option (Nat × Bool)} {z : Value} [hz : Zero P T z] {cs : List Value} (H : Sep w₀ S rs w) (ho : ops[i]? = some { dst := some d, op := .alloc T, type := ty, pos := pos, after := after, guard := guard } := by exact rfl)
    (hw : Region.wanted { dst := some d, op := .alloc T, type := ty, pos := pos, after := after, guard := guard } (yieldF ops σ) = true := by kernel_rfl) (hcs : z.cells = cs.toArray := by exact rfl)
    (hck : effectIn ops lv (pd.map (·.1)) i = true := by kernel_rfl) (hpd : pd.filter (fun p => !((above ops i).contains p.1)) = pd' := by kernel_rfl)
    (h : ∀ b w', Sep w₀ S (blk b cs T :: rs) w' → Stab P ops (upd σ d (.pointer (some ⟨b, 0, none⟩))) w' pd' ∧ FG P r n ops Q (lv.set i true) pd' (upd σ d (.pointer (some ⟨b, 0, none⟩))) w') : EffStep P r n ops Q lv pd σ w i :=
  step_val (C := fun v w' => ∃ b, v = .pointer (some ⟨b, 0, none⟩) ∧ Sep w₀ S (blk b cs T :: rs) w') hok i pd' ho hw
    ⟨.pointer (some ⟨w.heap.size, 0, none⟩), w.alloc (.cells cs.toArray T), fun _ _ _ _ => by simp [execOp, Instr.alloc, hz.run, newVar, newRow, hcs], _, rfl, H.alloc _⟩ hck hpd
    (fun v w' hv => by obtain ⟨b, rfl, hs⟩ := hv; exact h b w' hs)
end
end Go.Mw
namespace Go.Mw
open Go.RowKit
def rowD {α : Type} (e k : Nat) (enc : α → List Value) (v : Value) (l : List α) : HP := rowH e k v l.length (l.flatMap enc)
section
variable {α : Type} {enc : α → List Value} {k e : Nat} {l news : List α} {A : Option Addr} {w w' w₀ : World} {S : Nat → Prop} {rs : List HP} {put : HP → List HP} {v : Value}
theorem Sep.nilD (H : Sep w₀ S rs w) (e k : Nat) (enc : α → List Value) : Sep w₀ S (rowD e k enc (.slice none 0 0) [] :: rs) w := H.nilRow e k
theorem Sep.formD (H : Sep w₀ S rs w) (hat : At rs (rowD e k enc v l) put) : ∃ A c, v = .slice A l.length c ∧ l.length ≤ c ∧ Rd w A enc k l := by
 obtain ⟨A, c, hv, hle, _, _⟩ := Sep.rowForm H hat
 subst hv
 exact ⟨A, c, rfl, hle, Sep.rowAt H hat⟩
theorem flat_take (hk : ∀ x, (enc x).length = k) : ∀ (l : List α) (m : Nat), (l.take m).flatMap enc = (l.flatMap enc).take (m * k)
 | _, 0 => by simp
 | [], m + 1 => by simp
 | a :: l, m + 1 => by
  rw [List.take_succ_cons, List.flatMap_cons, List.flatMap_cons, flat_take hk l m, List.take_append, hk, Nat.succ_mul, Nat.add_sub_cancel, List.take_of_length_le (l := enc a) (by rw [hk]; omega)]
theorem Sep.cutD [hk : EncK enc k] {c m : Nat} (H : Sep w₀ S rs w) (hat : At rs (rowD e k enc (.slice A l.length c) l) put) (hm : m ≤ l.length) : Sep w₀ S (put (rowD e k enc (.slice A m c) (l.take m))) w := by
 refine H.imp hat fun F hF => ?_
 obtain ⟨⟨h1, h2⟩, h3⟩ := hF
 have hlm : (l.take m).length = m := by rw [List.length_take]; omega
 refine ⟨?_, fun b => by rw [h3 b]; cases A <;> simp [Value.ownBlock]⟩
 show w.ownsRow 0 e k _ (l.take m).length ((l.take m).flatMap enc)
 rw [hlm, flat_take hk.len]
 refine ⟨by rw [List.length_take, h1]; exact Nat.min_eq_left (Nat.mul_le_mul_right k hm), ?_⟩
 rcases h2 with ⟨hv, h0⟩ | ⟨g, cap, cur, hv, hg, hh, hle, hmax, hsz, htk⟩
 ·injection hv with ha hb hc
  subst ha; subst hc
  left
  have : m = 0 := by omega
  subst this
  exact ⟨rfl, rfl⟩
 injection hv with ha hb hc
 subst ha; subst hc
 refine .inr ⟨g, c, cur, rfl, hg, hh, by omega, hmax, hsz, ?_⟩
 rw [← htk, List.take_take, Nat.min_eq_left (Nat.mul_le_mul_right k hm)]
theorem gives_appendD {P : Program} {ρ : Operand → Value} {ty : TypeId} {x y : Operand} {t b c bytes : Nat} [hs : IsSlice P t e] [hc : Cells P e k bytes] {z : Value} [hz : Zero P e z] [hk : EncK enc k]
    (H : Sep w₀ S (blk b (news.flatMap enc) e :: rs) w) (hx : ρ x = v) (hy : ρ y = .slice (some ⟨b, 0, none⟩) c c) (hc' : c = news.length) (hat : At rs (rowD e k enc v l) put) (hone : ∀ u ∈ news.flatMap enc, u.oneCell' = true)
    (hk0 : 0 < k) (hzs : z.cells.size = k) (h63 : l.length + news.length ≤ maxLen) (hbytes : (l.length + news.length) * bytes ≤ 140737488355328) :
    ∃ v' w', Gives P ρ (.call { callee := .builtin .append, args := #[x, y], argTypes := #[t, t] }) ty w v' w' ∧ Sep w₀ S (put (rowD e k enc v' (l ++ news))) w' := by
  subst hc'
  have hr : RowAt w (some ⟨b, 0, none⟩) news.length k (news.flatMap enc) := Sep.blkRow H At0 (flat_len hk.len news)
  have H2 := H.drop0
  obtain ⟨F, hp, _, _⟩ := H2.focus hat
  obtain ⟨v', w', hrun, hown, hg, hb⟩ := run_append (P := P) (ty := ty) t e (z := z) hk0 hzs v l.length (l.flatMap enc) hp.1 (some ⟨b, 0, none⟩) news.length news.length (news.flatMap enc) hr hone h63 hbytes
  refine ⟨v', w', fun _ _ _ _ => ?_, ?_⟩
  · simp only [execOp, resolve, invoke, builtin, Sem.run_bind, Sem.run_pure, Result.andThen_ok, List.map_toArray, List.map_cons, List.map_nil, hx, hy, hrun]
  refine H2.rowTurn hat hg ?_ (by rcases hb with e | e <;> simp [e])
  rw [← List.flatMap_append] at hown
  rw [List.length_append]
  exact hown
end
section
variable {P : Program} {r : Option Nat} {n : Nat} {ops : Array Oper} {Q : Post} {rest : List Oper} {σ : St} {w w' w₀ : World} {S : Nat → Prop} {rs : List HP} {put : HP → List HP} {ty : TypeId} {pos : String} {after : Array Edge} {guard : Option (Nat × Bool)} {lv : List Bool} {pd : List (Nat × Bool)} {α : Type} {enc : α → List Value} {k e : Nat} {l news : List α} {v : Value}
theorem FL_appendD {d : Nat} {x y : Operand} {t b c bytes : Nat} [hs : IsSlice P t e] [hc : Cells P e k bytes] {z : Value} [hz : Zero P e z] [hk : EncK enc k]
    (H : Sep w₀ S (blk b (news.flatMap enc) e :: rs) w) (hat : At rs (rowD e k enc v l) put) (h63 : l.length + news.length ≤ maxLen) (hbytes : (l.length + news.length) * bytes ≤ 140737488355328) (hone : ∀ u ∈ news.flatMap enc, u.oneCell' = true)
    (hx : evF σ x = v := by exact rfl) (hy : evF σ y = .slice (some ⟨b, 0, none⟩) c c := by exact rfl) (hc' : c = news.length := by exact rfl) (hk0 : 0 < k := by decide) (hzs : z.cells.size = k := by exact rfl) (hd : Nat.blt d n = true := by exact rfl)
    (h : ∀ v' w', Sep w₀ S (put (rowD e k enc v' (l ++ news))) w' → FL P r n ops Q rest (upd σ d v') w') :
    FL P r n ops Q ({ dst := some d, op := .call { callee := .builtin .append, args := #[x, y], argTypes := #[t, t] }, type := ty, pos := pos, after := after, guard := none } :: rest) σ w := by
  obtain ⟨v', w', hg, hs'⟩ := gives_appendD (P := P) (t := t) (ty := ty) H hx hy hc' hat hone hk0 hzs h63 hbytes
  exact FL_val hg hd (h v' w' hs')
theorem FGappendD (hok : okOps n ops = true) (i : Nat) (pd' : List (Nat × Bool)) {d : Nat} {x y : Operand} {t b c bytes : Nat} [hs : IsSlice P t e] [hc : Cells P e k bytes] {z : Value} [hz : Zero P e z] [hk : EncK enc k]
    (H : Sep w₀ S (blk b (news.flatMap enc) e :: rs) w) (hat : At rs (rowD e k enc v l) put) (h63 : l.length + news.length ≤ maxLen) (hbytes : (l.length + news.length) * bytes ≤ 140737488355328) (hone : ∀ u ∈ news.flatMap enc, u.oneCell' = true)
    (ho : ops[i]? = some { dst := some d, op := .call { callee := .builtin .append, args := #[x, y], argTypes := #[t, t] }, type := ty, pos := pos, after := after, guard := guard } := by exact rfl)
    (hw : Region.wanted { dst := some d, op := .call { callee := .builtin .append, args := #[x, y], argTypes := #[t, t] }, type := ty, pos := pos, after := after, guard := guard } (yieldF ops σ) = true := by kernel_rfl)
    (hx : evF σ x = v := by exact rfl) (hy : evF σ y = .slice (some ⟨b, 0, none⟩) c c := by exact rfl) (hc' : c = news.length := by exact rfl) (hk0 : 0 < k := by decide) (hzs : z.cells.size = k := by exact rfl)
    (hck : effectOk ops lv (pd.map (·.1)) i = true := by kernel_rfl) (hpd : pd.filter (fun p => !((above ops i).contains p.1)) = pd' := by kernel_rfl)
    (h : ∀ v' w', Sep w₀ S (put (rowD e k enc v' (l ++ news))) w' → Stab P ops (upd σ d v') w' pd' ∧ FG P r n ops Q (lv.set i true) pd' (upd σ d v') w') : FG P r n ops Q lv pd σ w :=
  FGval hok i pd' ho hw (gives_appendD (P := P) (t := t) (ty := ty) H hx hy hc' hat hone hk0 hzs h63 hbytes) hck hpd h
theorem FGalloc (hok : okOps n ops = true) (i : Nat) (pd' : List (Nat × Bool)) {d : Nat} {T : TypeId} {z : Value} [hz : Zero P T z] {cs : List Value} (H : Sep w₀ S rs w) (ho : ops[i]? = some { dst := some d, op := .alloc T, type := ty, pos := pos, after := after, guard := guard } := by exact rfl)
    (hw : Region.wanted { dst := some d, op := .alloc T, type := ty, pos := pos, after := after, guard := guard } (yieldF ops σ) = true := by kernel_rfl) (hcs : z.cells = cs.toArray := by exact rfl)
    (hck : effectOk ops lv (pd.map (·.1)) i = true := by kernel_rfl) (hpd : pd.filter (fun p => !((above ops i).contains p.1)) = pd' := by kernel_rfl)
    (h : ∀ b w', Sep w₀ S (blk b cs T :: rs) w' → Stab P ops (upd σ d (.pointer (some ⟨b, 0, none⟩))) w' pd' ∧ FG P r n ops Q (lv.set i true) pd' (upd σ d (.pointer (some ⟨b, 0, none⟩))) w') : FG P r n ops Q lv pd σ w :=
  FGval (C := fun v w' => ∃ b, v = .pointer (some ⟨b, 0, none⟩) ∧ Sep w₀ S (blk b cs T :: rs) w') hok i pd' ho hw
    ⟨.pointer (some ⟨w.heap.size, 0, none⟩), w.alloc (.cells cs.toArray T), fun _ _ _ _ => by simp [execOp, Instr.alloc, hz.run, newVar, newRow, hcs], _, rfl, H.alloc _⟩ hck hpd
    (fun v w' hv => by obtain ⟨b, rfl, hs⟩ := hv; exact h b w' hs)
end
section
variable {P : Program} {ρ : Operand → Value} {ty : TypeId} {w : World} {x y : Operand} {α : Type} {enc : α → List Value} {k : Nat} {l : List α} {A : Option Addr}
theorem Gives.loadW [hk : EncK enc k] {i f : Nat} {c : α} {v : Value} {T : TypeId} [OneCell P T] (hx : ρ x = adr A (i * k + f)) (hr : Rd w A enc k l) (hg : l[i]? = some c) (hv : (enc c)[f]? = some v) : Gives P ρ (.load T x) ty w v w := by
 obtain ⟨ad, rfl, h2⟩ := hr.cell hg hv
 exact Gives.loadC hx h2
theorem Gives.loadW0 [hk : EncK enc k] {i : Nat} {c : α} {T : TypeId} [Agg P T k] (hx : ρ x = adr A (i * k)) (hr : Rd w A enc k l) (hg : l[i]? = some c) : Gives P ρ (.load T x) ty w (.agg (enc c).toArray) w :=
 Gives.loadE0 (rs := []) hx (Sep.start0 w) hr hg
end
end Go.Mw
namespace Go.Proofs.YtmkaahkbhdlniaaGreatDoor
open Go Go.Mw
theorem cells_one {α : Type} {enc : α → List Value} (h : ∀ x, (enc x).all Value.oneCell' = true) (l : List α) : ∀ u ∈ l.flatMap enc, u.oneCell' = true := fun u hu => by
 obtain ⟨x, _, hx⟩ := List.mem_flatMap.1 hu
 exact List.all_eq_true.1 (h x) u hx
end Go.Proofs.YtmkaahkbhdlniaaGreatDoor
namespace Go.Mw
open Go.RowKit
section
variable {α : Type} {enc : α → List Value} {k e : Nat} {l news : List α} {A B : Option Addr} {w w' w₀ : World} {S : Nat → Prop} {rs : List HP}
theorem own_base {w : World} {b e s n : Nat} {v : Value} {xs : List Value} (h : w.ownsRow b e s v n xs) : w.ownsRow 0 e s v n xs := by
 refine ⟨h.1, ?_⟩
 rcases h.2 with h2 | ⟨g, cap, cur, hv, _, r⟩
 ·exact .inl h2
 exact .inr ⟨g, cap, cur, hv, Nat.zero_le _, r⟩
theorem kept_grown {w w' : World} (h : w.grownBy w' none) : Kept noB w w' := ⟨h.os, h.tape, h.output, h.size, fun k hk _ => h.block k hk fun e => by cases e⟩
theorem gives_appendF {P : Program} {ρ : Operand → Value} {ty : TypeId} {x y : Operand} {t c bytes : Nat} [hs : IsSlice P t e] [hc : Cells P e k bytes] {z : Value} [hz : Zero P e z] [hk : EncK enc k]
    (H : Sep w₀ S rs w) (hx : ρ x = .slice A l.length l.length) (hr : Rd w A enc k l) (hy : ρ y = .slice B news.length c) (hrb : Rd w B enc k news) (hone : ∀ u ∈ news.flatMap enc, u.oneCell' = true)
    (hk0 : 0 < k) (hzs : z.cells.size = k) (hne : 0 < news.length) (h63 : l.length + news.length ≤ maxLen) (hbytes : (l.length + news.length) * bytes ≤ 140737488355328) :
    ∃ v' w', Gives P ρ (.call { callee := .builtin .append, args := #[x, y], argTypes := #[t, t] }) ty w v' w' ∧ Sep w₀ S (rowD e k enc v' (l ++ news) :: rs) w' ∧ Kept noB w w' := by
  have fin : ∀ v' w', (Builtin.append_ #[t, t] ty #[.slice A l.length l.length, .slice B news.length c]).run P w = .ok v' w' → w'.ownsRow 0 e k v' (l.length + news.length) (l.flatMap enc ++ news.flatMap enc) → Kept noB w w' → (∀ b, v'.ownBlock = some b → w.heap.size ≤ b) →
      ∃ v' w', Gives P ρ (.call { callee := .builtin .append, args := #[x, y], argTypes := #[t, t] }) ty w v' w' ∧ Sep w₀ S (rowD e k enc v' (l ++ news) :: rs) w' ∧ Kept noB w w' := by
    intro v' w' hrun hown hkk hb
    refine ⟨v', w', fun _ _ _ _ => ?_, H.new (F' := fun b => v'.ownBlock = some b) hkk ⟨?_, fun b => Iff.rfl⟩ hb, hkk⟩
    · simp only [execOp, resolve, invoke, builtin, Sem.run_bind, Sem.run_pure, Result.andThen_ok, List.map_toArray, List.map_cons, List.map_nil, hx, hy, hrun]
    show w'.ownsRow 0 e k v' (l ++ news).length ((l ++ news).flatMap enc)
    rw [List.length_append, List.flatMap_append]; exact hown
  cases A with
  | none =>
    have hl : l = [] := by
      rcases Nat.eq_zero_or_pos l.length with h | h
      · exact List.eq_nil_of_length_eq_zero h
      obtain ⟨ad, h1⟩ := hr.addr h; cases h1
    subst hl
    obtain ⟨v', w', hrun, hown, hg, hb⟩ := run_append (P := P) (ty := ty) t e hk0 hzs (.slice none 0 0) 0 [] (World.ownsRow_nil w 0 e k) B news.length c (news.flatMap enc) hrb hone h63 hbytes
    refine fin v' w' hrun hown (kept_grown hg) fun b hb' => ?_
    rcases hb with h | h
    · rw [h] at hb'; cases hb'
    rw [h] at hb'; injection hb' with hb'; omega
  | some ad =>
    obtain ⟨i, hi, hsb⟩ := Option.map_eq_some_iff.1 hc.size
    simp only [Prod.mk.injEq] at hsb
    have hzero : i.zero = some z := by
      have := hz.run w
      simp [zeroValue, typeInfo, hi] at this
      cases hq : i.zero with
      | none => simp [hq] at this
      | some u => simp [hq] at this; rw [this]
    obtain ⟨bd, hB, hcb⟩ := hrb.at_ hne
    subst hB
    have hca : ∀ j u, (l.flatMap enc)[j]? = some u → w.cell? (ad.add j) = some u := by
      intro j u hu
      rcases Nat.eq_zero_or_pos l.length with h | h
      · have hn := List.eq_nil_of_length_eq_zero h
        subst hn
        simp at hu
      obtain ⟨ad', h1, h2⟩ := hr.at_ h
      injection h1 with h1
      subst h1
      exact h2 j u hu
    obtain ⟨v', w', hrun, hown, hg⟩ := run_append_arg_grows (P := P) w t ty e i z k bytes hs.und hi hzero hsb.1 hsb.2 hzs hk0 ad l.length l.length (l.flatMap enc) hr.len hca bd news.length c (news.flatMap enc) hrb.len hcb (by omega) h63 hbytes
    exact fin v' w' hrun (own_base hown) (kept_grown hg) fun b hb => (hown.lt b hb).1
end
section
variable {P : Program} {r : Option Nat} {n : Nat} {ops : Array Oper} {Q : Post} {rest : List Oper} {σ : St} {w w' w₀ : World} {S : Nat → Prop} {rs : List HP} {put : HP → List HP} {ty : TypeId} {pos : String} {after : Array Edge} {guard : Option (Nat × Bool)} {lv : List Bool} {pd : List (Nat × Bool)} {α : Type} {enc : α → List Value} {k e : Nat} {l news : List α} {A B : Option Addr}
theorem FL_appendF {d : Nat} {x y : Operand} {t c bytes : Nat} [hs : IsSlice P t e] [hc : Cells P e k bytes] {z : Value} [hz : Zero P e z] [hk : EncK enc k]
    (H : Sep w₀ S rs w) (hr : Rd w A enc k l) (hrb : Rd w B enc k news) (hne : 0 < news.length) (h63 : l.length + news.length ≤ maxLen) (hbytes : (l.length + news.length) * bytes ≤ 140737488355328) (hone : ∀ u ∈ news.flatMap enc, u.oneCell' = true)
    (hx : evF σ x = .slice A l.length l.length := by exact rfl) (hy : evF σ y = .slice B news.length c := by exact rfl) (hk0 : 0 < k := by decide) (hzs : z.cells.size = k := by exact rfl) (hd : Nat.blt d n = true := by exact rfl)
    (h : ∀ v' w', Sep w₀ S (rowD e k enc v' (l ++ news) :: rs) w' → Kept noB w w' → FL P r n ops Q rest (upd σ d v') w') :
    FL P r n ops Q ({ dst := some d, op := .call { callee := .builtin .append, args := #[x, y], argTypes := #[t, t] }, type := ty, pos := pos, after := after, guard := none } :: rest) σ w := by
  obtain ⟨v', w', hg, hs', hkk⟩ := gives_appendF (P := P) (t := t) (ty := ty) H hx hr hy hrb hone hk0 hzs hne h63 hbytes
  exact FL_val hg hd (h v' w' hs' hkk)
theorem gives_appendO {P : Program} {ρ : Operand → Value} {ty : TypeId} {x y : Operand} {t c bytes : Nat} {v : Value} [hs : IsSlice P t e] [hc : Cells P e k bytes] {z : Value} [hz : Zero P e z] [hk : EncK enc k]
    (H : Sep w₀ S rs w) (hx : ρ x = v) (hy : ρ y = .slice B news.length c) (hrb : Rd w B enc k news) (hat : At rs (rowD e k enc v l) put) (hone : ∀ u ∈ news.flatMap enc, u.oneCell' = true)
    (hk0 : 0 < k) (hzs : z.cells.size = k) (h63 : l.length + news.length ≤ maxLen) (hbytes : (l.length + news.length) * bytes ≤ 140737488355328) :
    ∃ v' w', Gives P ρ (.call { callee := .builtin .append, args := #[x, y], argTypes := #[t, t] }) ty w v' w' ∧ Sep w₀ S (put (rowD e k enc v' (l ++ news))) w' := by
  obtain ⟨v', w', hg, h2⟩ := gives_append (P := P) (t := t) (ty := ty) H hx hy hat hrb hone hk0 hzs h63 hbytes
  refine ⟨v', w', hg, ?_⟩
  have e : rowD e k enc v' (l ++ news) = rowH e k v' (l.length + news.length) (l.flatMap enc ++ news.flatMap enc) := by unfold rowD; rw [List.length_append, List.flatMap_append]
  rw [e]; exact h2
theorem FL_appendO {d : Nat} {x y : Operand} {t c bytes : Nat} {v : Value} [hs : IsSlice P t e] [hc : Cells P e k bytes] {z : Value} [hz : Zero P e z] [hk : EncK enc k]
    (H : Sep w₀ S rs w) (hat : At rs (rowD e k enc v l) put) (hrb : Rd w B enc k news) (h63 : l.length + news.length ≤ maxLen) (hbytes : (l.length + news.length) * bytes ≤ 140737488355328) (hone : ∀ u ∈ news.flatMap enc, u.oneCell' = true)
    (hx : evF σ x = v := by exact rfl) (hy : evF σ y = .slice B news.length c := by exact rfl) (hk0 : 0 < k := by decide) (hzs : z.cells.size = k := by exact rfl) (hd : Nat.blt d n = true := by exact rfl)
    (h : ∀ v' w', Sep w₀ S (put (rowD e k enc v' (l ++ news))) w' → FL P r n ops Q rest (upd σ d v') w') :
    FL P r n ops Q ({ dst := some d, op := .call { callee := .builtin .append, args := #[x, y], argTypes := #[t, t] }, type := ty, pos := pos, after := after, guard := none } :: rest) σ w := by
  obtain ⟨v', w', hg, hs'⟩ := gives_appendO (P := P) (t := t) (ty := ty) H hx hy hrb hat hone hk0 hzs h63 hbytes
  exact FL_val hg hd (h v' w' hs')
theorem FGappendO (hok : okOps n ops = true) (i : Nat) (pd' : List (Nat × Bool)) {d : Nat} {x y : Operand} {t c bytes : Nat} {v : Value} [hs : IsSlice P t e] [hc : Cells P e k bytes] {z : Value} [hz : Zero P e z] [hk : EncK enc k]
    (H : Sep w₀ S rs w) (hat : At rs (rowD e k enc v l) put) (hrb : Rd w B enc k news) (h63 : l.length + news.length ≤ maxLen) (hbytes : (l.length + news.length) * bytes ≤ 140737488355328) (hone : ∀ u ∈ news.flatMap enc, u.oneCell' = true)
    (ho : ops[i]? = some { dst := some d, op := .call { callee := .builtin .append, args := #[x, y], argTypes := #[t, t] }, type := ty, pos := pos, after := after, guard := guard } := by exact rfl)
    (hw : Region.wanted { dst := some d, op := .call { callee := .builtin .append, args := #[x, y], argTypes := #[t, t] }, type := ty, pos := pos, after := after, guard := guard } (yieldF ops σ) = true := by kernel_rfl)
    (hx : evF σ x = v := by exact rfl) (hy : evF σ y = .slice B news.length c := by exact rfl) (hk0 : 0 < k := by decide) (hzs : z.cells.size = k := by exact rfl)
    (hck : effectOk ops lv (pd.map (·.1)) i = true := by kernel_rfl) (hpd : pd.filter (fun p => !((above ops i).contains p.1)) = pd' := by kernel_rfl)
    (h : ∀ v' w', Sep w₀ S (put (rowD e k enc v' (l ++ news))) w' → Stab P ops (upd σ d v') w' pd' ∧ FG P r n ops Q (lv.set i true) pd' (upd σ d v') w') : FG P r n ops Q lv pd σ w :=
  FGval hok i pd' ho hw (gives_appendO (P := P) (t := t) (ty := ty) H hx hy hrb hat hone hk0 hzs h63 hbytes) hck hpd h
end
section
/-! The same, whatever else is ready. -/
variable {P : Program} {r : Option Nat} {n : Nat} {ops : Array Oper} {Q : Post} {rest : List Oper} {σ : St} {w w' w₀ : World} {S : Nat → Prop} {rs : List HP} {put : HP → List HP} {ty : TypeId} {pos : String} {after : Array Edge} {guard : Option (Nat × Bool)} {lv : List Bool} {pd : List (Nat × Bool)} {α : Type} {enc : α → List Value} {k e : Nat} {l news : List α} {A B : Option Addr} {v : Value}
theorem step_buildSlice (hok : okOps n ops = true) (i : Nat) (pd' : List (Nat × Bool)) {d : Nat} {t e : TypeId} {xs : List Operand} {parts : List (Nat × Operand)} {out : List Value} {size bytes : Nat} [hs : IsSlice P t e] [hc : Cells P e size bytes] {z : Value} [hz : Zero P e z] (H : Sep w₀ S rs w) (hE : Elems (evF σ) size xs out)
    (ho : ops[i]? = some { dst := some d, op := .buildSlice t xs.length parts.toArray, type := ty, pos := pos, after := after, guard := guard } := by exact rfl)
    (hw : Region.wanted { dst := some d, op := .buildSlice t xs.length parts.toArray, type := ty, pos := pos, after := after, guard := guard } (yieldF ops σ) = true := by kernel_rfl)
    (hp : parts = (xs.zipIdx 0).map fun p => (p.2, p.1) := by exact rfl) (hlen : Nat.ble (xs.length * size) 16777216 = true := by exact rfl)
    (hck : effectIn ops lv (pd.map (·.1)) i = true := by kernel_rfl) (hpd : pd.filter (fun p => !((above ops i).contains p.1)) = pd' := by kernel_rfl)
    (h : ∀ b w', Sep w₀ S (blk b out e :: rs) w' → Stab P ops (upd σ d (.slice (some ⟨b, 0, none⟩) xs.length xs.length)) w' pd' ∧ FG P r n ops Q (lv.set i true) pd' (upd σ d (.slice (some ⟨b, 0, none⟩) xs.length xs.length)) w') : EffStep P r n ops Q lv pd σ w i :=
  step_val hok i pd' (C := fun v w' => ∃ b, v = .slice (some ⟨b, 0, none⟩) xs.length xs.length ∧ Sep w₀ S (blk b out e :: rs) w') ho hw ⟨_, _, Gives.buildSlice hE hp hlen, _, rfl, H.alloc _⟩ hck hpd fun v w' ⟨b, hv, hsep⟩ => by subst hv; exact h b w' hsep
theorem step_appendO (hok : okOps n ops = true) (i : Nat) (pd' : List (Nat × Bool)) {d : Nat} {x y : Operand} {t c bytes : Nat} {v : Value} [hs : IsSlice P t e] [hc : Cells P e k bytes] {z : Value} [hz : Zero P e z] [hk : EncK enc k]
    (H : Sep w₀ S rs w) (hat : At rs (rowD e k enc v l) put) (hrb : Rd w B enc k news) (h63 : l.length + news.length ≤ maxLen) (hbytes : (l.length + news.length) * bytes ≤ 140737488355328) (hone : ∀ u ∈ news.flatMap enc, u.oneCell' = true)
    (ho : ops[i]? = some { dst := some d, op := .call { callee := .builtin .append, args := #[x, y], argTypes := #[t, t] }, type := ty, pos := pos, after := after, guard := guard } := by exact rfl)
    (hw : Region.wanted { dst := some d, op := .call { callee := .builtin .append, args := #[x, y], argTypes := #[t, t] }, type := ty, pos := pos, after := after, guard := guard } (yieldF ops σ) = true := by kernel_rfl)
    (hx : evF σ x = v := by exact rfl) (hy : evF σ y = .slice B news.length c := by exact rfl) (hk0 : 0 < k := by decide) (hzs : z.cells.size = k := by exact rfl)
    (hck : effectIn ops lv (pd.map (·.1)) i = true := by kernel_rfl) (hpd : pd.filter (fun p => !((above ops i).contains p.1)) = pd' := by kernel_rfl)
    (h : ∀ v' w', Sep w₀ S (put (rowD e k enc v' (l ++ news))) w' → Stab P ops (upd σ d v') w' pd' ∧ FG P r n ops Q (lv.set i true) pd' (upd σ d v') w') : EffStep P r n ops Q lv pd σ w i :=
  step_val hok i pd' ho hw (gives_appendO (P := P) (t := t) (ty := ty) H hx hy hrb hat hone hk0 hzs h63 hbytes) hck hpd h
end
theorem Rd.cut {α : Type} {enc : α → List Value} {k : Nat} [hk : EncK enc k] {w : World} {A : Option Addr} {l : List α} (h : Rd w A enc k l) (m : Nat) : Rd w A enc k (l.take m) := by
 refine ⟨flat_len hk.len _, fun hn => ?_⟩
 have hl : 0 < l.length := by rw [List.length_take] at hn; omega
 obtain ⟨ad, h1, h2⟩ := h.at_ hl
 refine ⟨ad, h1, fun j u hu => h2 j u ?_⟩
 rw [flat_take hk.len, List.getElem?_take] at hu
 split at hu
 ·exact hu
 cases hu
theorem Rd.from {α : Type} {enc : α → List Value} {k : Nat} [hk : EncK enc k] {w : World} {A : Option Addr} {l : List α} (h : Rd w A enc k l) (m : Nat) : Rd w (A.map fun a => a.add (m * k)) enc k (l.drop m) := by
 refine ⟨flat_len hk.len _, fun hn => ?_⟩
 rw [List.length_drop] at hn
 obtain ⟨ad, h1, h2⟩ := h.at_ (by omega)
 subst h1
 refine ⟨ad.add (m * k), rfl, fun j u hu => ?_⟩
 rw [add_add]
 refine h2 _ _ ?_
 rw [← hu]
 have e : l.flatMap enc = (l.take m).flatMap enc ++ (l.drop m).flatMap enc := by rw [← List.flatMap_append, List.take_append_drop]
 have el : ((l.take m).flatMap enc).length = m * k := by rw [flat_len hk.len, List.length_take, Nat.min_eq_left (by omega)]
 rw [e, List.getElem?_append_right (by omega), el, Nat.add_sub_cancel_left]
theorem Rd.nil {α : Type} {enc : α → List Value} {k : Nat} {w : World} {A : Option Addr} : Rd w A enc k [] := ⟨by simp, fun h => absurd h (by simp)⟩
theorem Rd.fromC {α : Type} {enc : α → List Value} {k c : Nat} [hk : EncK enc k] {w : World} {A : Option Addr} {l : List α} (h : Rd w A enc k l) (m : Nat) (hc : l.length ≤ c) : Rd w (if c = m then A else A.map fun a => a.add (m * k)) enc k (l.drop m) := by
 split
 ·rw [List.drop_of_length_le (by omega)]; exact Rd.nil
 exact h.from m
end Go.Mw
namespace Go.Proofs.YtmkaahkbhdlniaaGreatDoor
open Go Go.Mw
def intCells (n : Int) : List Value := [I n]
def textCells (s : List UInt8) : List Value := [str s]
instance : EncK intCells 1 := ⟨fun _ => rfl⟩
instance : EncK textCells 1 := ⟨fun _ => rfl⟩
end Go.Proofs.YtmkaahkbhdlniaaGreatDoor
namespace Go.Proofs.YtmkaahkbhdlniaaGreatDoor
open Go Go.Mw Go.Lib
set_option maxRecDepth 4000
def resT (cols : List ColM) (st : List TypeM) (x : StepM) : Option TypeM :=
 if takesD x.kind = 0 then leafT cols x else madeT x.kind (st.getD (st.length - takesD x.kind) type0) (st.getD (st.length - 1) type0)
theorem stepT_no {cols : List ColM} {st : List TypeM} {x : StepM} (h : mayS x = false ∨ st.length < takesD x.kind) : stepT cols st x = none := by
 unfold stepT
 by_cases h1 : mayS x = false
 ·dsimp only; rw [if_pos (.inl h1)]
 have hm : mayS x = true := by simpa using h1
 rw [takes_may hm] at h
 dsimp only; rw [if_pos (h.imp id id)]
theorem stepT_res {cols : List ColM} {st : List TypeM} {x : StepM} (h1 : mayS x = true) (h2 : takesD x.kind ≤ st.length) : stepT cols st x = (resT cols st x).map fun t => st.take (st.length - takesD x.kind) ++ [t] := by
 unfold stepT resT
 rw [takes_may h1] at h2 ⊢
 dsimp only
 rw [if_neg (by rw [h1]; simp; omega)]
theorem takesD_le (k : Int) : takesD k ≤ 2 := by
 unfold takesD
 repeat' split
 all_goals omega
theorem getD_of {α : Type} {l : List α} {i : Nat} {c d : α} (h : l[i]? = some c) : l.getD i d = c := by rw [List.getD_eq_getElem?_getD, h]; rfl
theorem Sep_rdD {α : Type} {w₀ w : World} {S : Nat → Prop} {rs : List HP} {put : HP → List HP} {e k c : Nat} {enc : α → List Value} {l : List α} {A : Option Addr} (H : Sep w₀ S rs w) (hat : At rs (rowD e k enc (.slice A l.length c) l) put) : Rd w A enc k l := Sep.rowAt H hat
attribute [local irreducible] mayS mayT
section
variable {w : World}
theorem type_ok22 {cols : List ColM} {l : List StepM} {vc vl : Value} (hc : RowIn w vc colCells 7 cols) (hl : RowIn w vl stepCells 3 l) : Rets Tryz.prog 18 [vc, vl] w fun v w' => v = .tuple #[agg (typeCells (typeS cols l).1), I (typeS cols l).2] ∧ Kept noB w w' := by
  have hcc := hc
  obtain ⟨A, m, rfl, ⟨hm, hm'⟩, hA⟩ := hc
  obtain ⟨C, n, rfl, ⟨hn, hn'⟩, hC⟩ := hl
  have H := Sep.start0 w
  obtain ⟨res, hres⟩ : ∃ res, res = typeS cols l := ⟨_, rfl⟩
  rw [← hres]
  unfold typeS at hres
  refine retsC2 Tryz.func18 rfl rfl rfl rfl ?_
  refine Sr (FL_alloc H (h := fun b1 w2 H2 k1 => ?_))
  refine Am ?_
  refine Qn (FW_seq (Sr (Mv ?_)))
  refine Vs ?_
  refine Vg ?_
  refine Qn (Cp rfl (fun hc7 => ?_) (fun hc7 => ?_))
  · have hfin : res = (type0, 5) := by rw [hres, if_pos (by omega)]
    refine Sr (Vv (Gives.build (out := typeCells type0) Fills.nil) (FL_storeAll H2 (h := fun w11 H11 => ?_)))
    refine Am ?_
    refine Qn (Rs (QfnC_ret (h := ?_)))
    exact ⟨_, resC2 H11, by rw [hfin]; rfl, H11.kept⟩
  rw [if_neg (by omega)] at hres
  refine Sk (Sr (Am ?_))
  refine Qn (FW_seq (Sr (Am ?_)))
  refine Qn (FW_block ?_)
  have H18 := Sep.nilD H2 29 2 typeCells
  refine FW_loop' (fun x : Nat × List TypeM × Value => [(0, .slice A cols.length m), (1, .slice C l.length n), (4, .pointer (some ⟨b1, 0, none⟩)), (6, x.2.2), (7, I x.1)]) (fun x w' => (x.1 ≤ l.length ∧ x.2.1.length ≤ x.1 ∧ runT cols x.2.1 (l.drop x.1) = runT cols [] l) ∧ Sep w noB [rowD 29 2 typeCells x.2.2 x.2.1, blk b1 (typeCells type0) 29] w') (fun x _ => l.length - x.1) (0, [], _) ⟨rfl, rfl, rfl, rfl, rfl, trivial⟩ ⟨⟨Nat.zero_le _, Nat.le_refl _, rfl⟩, H18⟩ (fun x τ w18 hI => ?_)
  obtain ⟨i, st, v0⟩ := x
  obtain ⟨⟨hi, hsl, hst⟩, H18⟩ := hI
  dsimp only at hi hsl hst H18
  obtain ⟨B, cb, rfl, hcb, hB⟩ := Sep.formD H18 At0
  try simp only [upds, like, upd_ds, und_ds]
  refine FW_seq (Sr (Mv ?_))
  refine Mv ?_
  refine Vs ?_
  refine Vl ?_
  refine Qn (Cp rfl (fun hc23 => ?_) (fun hc23 => ?_))
  · have hlt : i < l.length := by omega
    obtain ⟨x, hx⟩ := get_some hlt
    have hdr : l.drop i = x :: l.drop (i + 1) := by
      rw [List.drop_eq_getElem_cons hlt]; rw [List.getElem?_eq_getElem hlt] at hx; injection hx with hx; rw [hx]
    rw [hdr, runT] at hst
    have htk := takesD_le x.kind
    refine Sk (FW_seq (FW_block (Sr (Mv ?_))))
    refine Vs ?_
    refine Am ?_
    refine Nx (Mv ?_)
    refine Mv ?_
    refine Vv (Gives.idxR rfl rfl (by assumption) (by omega)) (Vv (Gives.fieldR rfl (by assumption) (by omega)) ?_)
    refine Vv (Gives.loadE rfl H18 (by assumption) (by assumption) rfl) (FL_callS (takes_ok22 _) (h := ?_))
    refine Am ?_
    refine Qn (FW_seq (Sr (Mv ?_)))
    refine Mv ?_
    refine Vv (Gives.idxR rfl rfl (by assumption) (by omega)) (Vv (Gives.loadE0 rfl H18 (by assumption) (by assumption)) ?_)
    refine FL_callQ H18 (mayS_ok22 _) (h := fun w40 H40 k39 => ?_)
    refine Vv (Gives.not rfl) (Mv ?_)
    refine FL_split (t := 36) rfl (fun hs43 => ?_) (fun hs43 => ?_)
    · have hmay : mayS x = false := by simpa using hs43
      refine Of (Of (Of (Pt ?_)))
      refine Qn (FW_cond_true rfl ?_)
      refine Sr (Vv (Gives.build (out := typeCells type0) Fills.nil) (FL_storeAll H40 (h := fun w48 H48 => ?_)))
      refine Am ?_
      refine Qn (Rs (Qblk_ret (Qseq_ret (Qround_ret (Qblk_ret (Qseq_ret (QfnC_ret (h := ?_))))))))
      have hno : stepT cols st x = none := stepT_no (by first | (left; assumption) | (right; omega))
      rw [hno] at hst
      rw [← hst] at hres
      exact ⟨_, resC2 H48, by rw [hres]; rfl, H48.kept⟩
    have hmay : mayS x = true := by simpa using hs43
    refine On (Mv ?_)
    refine On (Mv ?_)
    refine On (Vg ?_)
    refine Pf ?_
    refine Qn (Cp rfl (fun hc56 => ?_) (fun hc56 => ?_))
    · refine Sr (Vv (Gives.build (out := typeCells type0) Fills.nil) (FL_storeAll H40 (h := fun w59 H59 => ?_)))
      refine Am ?_
      refine Qn (Rs (Qblk_ret (Qseq_ret (Qround_ret (Qblk_ret (Qseq_ret (QfnC_ret (h := ?_))))))))
      have hno : stepT cols st x = none := stepT_no (by first | (left; assumption) | (right; omega))
      rw [hno] at hst
      rw [← hst] at hres
      exact ⟨_, resC2 H59, by rw [hres]; rfl, H59.kept⟩
    have hle : takesD x.kind ≤ st.length := by omega
    have hsp := stepT_res (cols := cols) hmay hle
    obtain ⟨rt, hrt⟩ : ∃ rt, rt = resT cols st x := ⟨_, rfl⟩
    rw [← hrt] at hsp
    rw [hsp] at hst
    unfold resT at hrt
    refine Sk (Sr (Vv (Gives.build (out := typeCells type0) Fills.nil) (FL_alloc H40 (h := ?_))))
    intro bt w65 H65 _
    refine FL_storeAll H65 (h := fun w67 H67 => ?_)
    refine Nx (Am ?_)
    refine Qn (FW_cut (fun z : TypeM × Bool => [(0, .slice A cols.length m), (1, .slice C l.length n), (4, .pointer (some ⟨b1, 0, none⟩)), (6, .slice B st.length cb), (7, I i), (8, I st.length), (9, I (takesD x.kind)), (10, .pointer (some ⟨bt, 0, none⟩)), (11, .bool z.2)]) (fun z w' => (z.2 = rt.isSome ∧ ∀ y, rt = some y → z.1 = y) ∧ Sep w noB [blk bt (typeCells z.1) 29, rowD 29 2 typeCells (.slice B st.length cb) st, blk b1 (typeCells type0) 29] w') ?_ ?_)
    · refine Sr (Mv ?_)
      refine Ve ?_
      refine Qn (Cp rfl (fun hc72 => ?_) (fun hc72 => ?_))
      · rw [if_pos (by omega)] at hrt
        refine FW_region (Mv ?_)
        refine Mv ?_
        refine Mv ?_
        refine Vv (Gives.idxR rfl rfl (by assumption) (by omega)) (Vv (Gives.loadE0 rfl H67 (by assumption) (by assumption)) ?_)
        refine FL_callQ H67 (leaf_ok22 x (hcc.keep H67.kept)) (h := fun w80 H80 k79 => ?_)
        refine Mv ?_
        refine Vx ?_
        refine Vx ?_
        refine FL_storeAll H80 (h := fun w85 H85 => ?_)
        refine Am ?_
        refine FL_nil ?_
        exact Qcut_normal ((leafT cols x).getD type0, (leafT cols x).isSome) ⟨rfl, rfl, rfl, rfl, rfl, rfl, rfl, rfl, rfl, trivial⟩ ⟨⟨by rw [hrt], fun y hy => by rw [← hrt, hy]; rfl⟩, H85⟩
      have hk1 : 1 ≤ takesD x.kind := by omega
      obtain ⟨a, ha⟩ := get_some (l := st) (i := st.length - takesD x.kind) (by omega)
      obtain ⟨b, hb⟩ := get_some (l := st) (i := st.length - 1) (by omega)
      rw [if_neg (by omega), getD_of ha, getD_of hb] at hrt
      refine FW_drawS rfl H67 (h := fun hok89 w91 H91 => ?_)
      refine Gm hok89 0 ?_
      refine Gm hok89 1 ?_
      refine Gp hok89 2 rfl rfl (fun _ => (Gives.idxR rfl rfl (by assumption) (by omega))) (Gp hok89 3 rfl rfl (fun _ => (Gives.fieldR rfl (by assumption) (by omega))) ?_)
      refine Gl hok89 4 rfl rfl (Gives.loadE rfl H91 (by assumption) (by assumption) rfl) (Gm hok89 5 ?_)
      refine Gm hok89 6 ?_
      refine Gm hok89 7 ?_
      refine Gp hok89 8 rfl rfl (fun _ => (Gives.subI (c := ((st.length - takesD x.kind : Nat) : Int)) rfl rfl (by omega) (by omega))) (Gp hok89 9 rfl rfl (fun _ => (Gives.idxR rfl rfl (by assumption) (by omega))) ?_)
      refine Gl hok89 10 rfl rfl (Gives.loadW0 rfl (Sep_rdD H91 At1) ha) (Gm hok89 11 ?_)
      refine Gm hok89 12 ?_
      refine Gp hok89 13 rfl rfl (fun _ => (Gives.subI (c := ((st.length - 1 : Nat) : Int)) rfl rfl (by omega) (by omega))) (Gp hok89 14 rfl rfl (fun _ => (Gives.idxR rfl rfl (by assumption) (by omega))) ?_)
      refine Gl hok89 15 rfl rfl (Gives.loadW0 rfl (Sep_rdD H91 At1) hb) (FGcall hok89 16 [] rfl (by kernel_rfl) (made_ok22 x.kind a b) rfl (by kernel_rfl) (by kernel_rfl) (fun v' w102 hv => ?_))
      obtain ⟨⟨t, rfl, ht⟩, hkk⟩ := hv
      have H102 := H91.keep hkk
      refine ⟨Stab_nil, ?_⟩
      refine Gm hok89 17 ?_
      refine Gp hok89 18 rfl rfl (fun _ => (Gives.extract rfl rfl)) (Gp hok89 19 rfl rfl (fun _ => (Gives.extract rfl rfl)) ?_)
      refine FGstoreAll hok89 20 [(19, true)] H102 (h := fun w106 H106 => ⟨Stab_pure (Stab_nil), ?_⟩)
      refine Gp hok89 21 rfl rfl (fun _ => Gives.assign rfl) (FG_end hok89 (by kernel_rfl) ?_)
      exact Qcut_normal (t, (madeT x.kind a b).isSome) ⟨rfl, rfl, rfl, rfl, rfl, rfl, rfl, rfl, rfl, trivial⟩ ⟨⟨by rw [hrt], fun y hy => ht y (by rw [← hrt]; exact hy)⟩, H106⟩
    rintro ⟨t, ok⟩ τ w110 ⟨⟨hok1, hok2⟩, H110⟩
    dsimp only at hok1 hok2 H110
    simp only [upds, like, upd_ds]
    refine FW_seq (Sr (Mv ?_))
    refine Vv (Gives.not rfl) (Qn ?_)
    refine Cd rfl (fun hc113 => ?_) (fun hc113 => ?_)
    · have hrn : rt = none := by
        cases rt with
        | none => rfl
        | some y => rw [hok1] at hc113; cases hc113
      rw [hrn] at hst
      have hst2 : none = runT cols [] l := hst
      rw [← hst2] at hres
      have hfin : res = (type0, 220) := hres
      refine Sr (Vv (Gives.build (out := typeCells type0) Fills.nil) (FL_storeAll H110 (h := fun w117 H117 => ?_)))
      refine Am ?_
      refine Qn (Rs (Qblk_ret (Qseq_ret (Qround_ret (Qblk_ret (Qseq_ret (QfnC_ret (h := ?_))))))))
      exact ⟨_, resC2 H117, by rw [hfin]; rfl, H117.kept⟩
    obtain ⟨y, hy⟩ : ∃ y, rt = some y := by
      cases rt with
      | none => rw [hok1] at hc113; cases hc113
      | some y => exact ⟨y, rfl⟩
    have hty := hok2 y hy
    subst hty
    rw [hy] at hst
    have hst2 : runT cols (st.take (st.length - takesD x.kind) ++ [t]) (l.drop (i + 1)) = runT cols [] l := hst
    refine Sk (FW_drawS rfl H110 (h := fun hok121 w123 H123 => ?_))
    refine Gm hok121 0 ?_
    refine Gm hok121 1 ?_
    refine Gm hok121 2 ?_
    refine Gp hok121 3 rfl rfl (fun _ => (Gives.subI (c := ((st.length - takesD x.kind : Nat) : Int)) rfl rfl (by omega) (by omega))) (Gp hok121 4 rfl rfl (fun _ => (Gives.sliceTo rfl rfl (by omega))) ?_)
    refine FGloadAll hok121 5 H123 (h := ?_)
    refine FGbuildSlice hok121 6 [(4, true), (3, true), (2, true), (1, true), (0, true)] H123 (xs := [.tmp 82]) (out := [t].flatMap typeCells) (Elems.many rfl rfl Elems.nil) (h := fun b w128 H128 => ⟨Stab_pure (Stab_pure (Stab_pure (Stab_pure (Stab_pure (Stab_nil))))), ?_⟩)
    have hcut := Sep.cutD (m := st.length - takesD x.kind) H128 At2 (by omega)
    have htl : (st.take (st.length - takesD x.kind)).length = st.length - takesD x.kind := by rw [List.length_take]; omega
    refine FGappendD hok121 7 [] hcut (news := [t]) At1 (by rw [htl]; unfold maxLen; simp; omega) (by rw [htl]; simp; omega) (cells_one (fun _ => rfl) [t]) (h := fun v2 w130 H130 => ⟨Stab_nil, ?_⟩)
    refine FGset hok121 8 [] (h := ⟨Stab_nil, ?_⟩)
    refine FG_end hok121 (by kernel_rfl) ?_
    refine Qblk_normal (Qseq_normal (FW_region (Mv ?_)))
    refine Vv (Gives.addI rfl rfl rfl (by omega)) (Am ?_)
    refine FL_nil ?_
    exact Qround_normal (i + 1, st.take (st.length - takesD x.kind) ++ [t], v2) ⟨rfl, rfl, rfl, rfl, rfl, trivial⟩ ⟨⟨by dsimp only; omega, by dsimp only; rw [List.length_append, htl]; simp; omega, hst2⟩, H130.drop0⟩ (by dsimp only; omega)
  have hil : i = l.length := by omega
  rw [hil, List.drop_length, runT] at hst
  rw [← hst] at hres
  refine FW_exit (Qseq_exit (Qround_exit (Qblk_exit (Qseq_normal (FW_seq (Sr (Mv ?_)))))))
  refine Vs ?_
  refine Vn ?_
  refine Qn (Cp rfl (fun hc140 => ?_) (fun hc140 => ?_))
  · have hfin : res = (type0, 220) := by
      rw [hres]
      match st, hc140 with
      | [], _ => rfl
      | [_], h => exact absurd rfl h
      | _ :: _ :: _, _ => rfl
    refine Sr (Vv (Gives.build (out := typeCells type0) Fills.nil) (FL_storeAll H18 (h := fun w144 H144 => ?_)))
    refine Am ?_
    refine Qn (Rs (QfnC_ret (h := ?_)))
    exact ⟨_, resC2 H144, by rw [hfin]; rfl, H144.kept⟩
  have h1 : st.length = 1 := by omega
  obtain ⟨t, ht⟩ := List.length_eq_one_iff.1 h1
  have hg : st[0]? = some t := by rw [ht]; rfl
  have hfin : res = (t, 0) := by rw [hres, ht]
  refine Sk (Sr (Mv ?_))
  refine Vv (Gives.idxR (i := 0) rfl rfl hB (by omega)) (Vv (Gives.loadW0 (i := 0) rfl hB hg) ?_)
  refine FL_storeAll H18 (h := fun w152 H152 => ?_)
  refine Am ?_
  refine Qn (FW_ret (QfnC_ret (h := ?_)))
  exact ⟨_, resC2 H152, by rw [hfin]; rfl, H152.kept⟩
end
end Go.Proofs.YtmkaahkbhdlniaaGreatDoor
