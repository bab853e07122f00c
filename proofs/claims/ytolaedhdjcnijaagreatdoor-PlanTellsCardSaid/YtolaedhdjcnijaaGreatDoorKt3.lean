/-
 A region that draws its order, walked in one order of our choosing: operations that only look are carried out (in thought) as soon as they may be, and must look at the same behind each effect that they may come behind; effects are carried out when nothing else is ready. Nothing of a given program stands here.
-/
import Derived.Test.YtolaedhdjcnijaaGreatDoorKt2
import Derived.KernelRfl
import Derived.Laws.Externs
import Derived.MapKept
import Derived.RangeFuncIn
set_option linter.unusedVariables false
set_option linter.unusedSimpArgs false
namespace Go.Mw
open Go.RowKit

section
variable (ops : Array Oper)
def preds (i : Nat) : List Nat := match ops[i]? with
 | some o => o.after.toList.filterMap fun e => if Region.binds .any e then some e.on else none
 | none => []
def dstOf (i : Nat) : Option Nat := (ops[i]?).bind (fun o : Oper => o.dst)
def looks (i : Nat) : List Nat := match ops[i]? with
 | some o => o.looksAt ops
 | none => []
def plainOp : Op → Bool
 | .select .. => false
 | _ => true
def quietOk (lv : List Bool) (ids : List Nat) (i : Nat) : Bool :=
 !(lv.getD i true) && (preds ops i).all (fun e => lv.getD e false) && (match dstOf ops i with | some d => !(looks ops i).contains d | none => true) &&
 ids.all fun k => (match dstOf ops i with | some d => dstOf ops k != some d && !(looks ops k).contains d | none => true) &&
  (match dstOf ops k with | some d => !(looks ops i).contains d || (preds ops i).contains k | none => true)
def readyL (lv : List Bool) : List Nat := (List.range ops.size).filter fun i => !(lv.getD i true) && (preds ops i).all fun e => lv.getD e false
def effectOk (lv : List Bool) (ids : List Nat) (e : Nat) : Bool :=
 readyL ops lv == [e] &&
 ids.all fun k => (preds ops e).contains k || ((match dstOf ops e with | some d => dstOf ops k != some d && !(looks ops k).contains d | none => true) &&
  (match dstOf ops k with | some d => !(looks ops e).contains d | none => true))
def aboveStep (S : List Nat) (k : Nat) : List Nat := if S.contains k then S ++ (preds ops k).filter (fun j => !(S.contains j)) else S
def above (i : Nat) : List Nat := (List.range ops.size).reverse.foldl (aboveStep ops) (preds ops i)
end

def QYield (P : Program) (ops : Array Oper) (σ : St) (w : World) (o : Oper) (v : Value) : Prop :=
 (Region.wanted o (yieldF ops σ) = true ∧ (execOp (evF σ) o).run P w = .ok (.value v) w) ∨ (Region.wanted o (yieldF ops σ) = false ∧ v = undef)
def okOps (n : Nat) (ops : Array Oper) : Bool := ops.all fun o => okDst n o.dst && plainOp o.op

structure Real (P : Program) (n : Nat) (ops : Array Oper) (lv : List Bool) (pd : List (Nat × Bool)) (σ : St) (w : World) (sub : List (Nat × Bool)) (lr : Array Bool) (a : Act) : Prop where
 mem : ∀ p ∈ sub, p ∈ pd
 nd : (sub.map (·.1)).Nodup
 pw : sub.Pairwise fun x y => x.1 ∉ preds ops y.1
 pr : ∀ p ∈ sub, ∀ e ∈ preds ops p.1, lv.getD e false = true ∧ e ≠ p.1
 lvl : ∀ p ∈ sub, lv.getD p.1 false = true
 lrv : ∀ i, i < ops.size → lr.getD i true = (lv.getD i true && !((sub.map (·.1)).contains i))
 sz : lr.size = ops.size
 lsz : lv.length = ops.size
 cl : ∀ i, lr.getD i false = true → ∀ e ∈ preds ops i, lr.getD e false = true
 rep : ∃ σr, Rep n σr a ∧ σr.ds = σ.ds ∧ ∀ x, (∀ p ∈ sub, dstOf ops p.1 ≠ some x) → σr x = σ x
 yl : ∀ p ∈ sub, ∃ o v, ops[p.1]? = some o ∧ (∀ d, o.dst = some d → σ d = v) ∧ ∀ w', (p.2 = true ∨ w' = w) → QYield P ops σ w' o v
 own : ∀ p ∈ sub, ∀ d, dstOf ops p.1 = some d → d ∉ looks ops p.1
 apart : ∀ p ∈ sub, ∀ q ∈ sub, p.1 ≠ q.1 → ∀ d, dstOf ops p.1 = some d → dstOf ops q.1 ≠ some d ∧ (d ∈ looks ops q.1 → p.1 ∈ preds ops q.1)

def left (ops : Array Oper) (lr : Array Bool) : Nat := ((List.range ops.size).filter fun i => !(lr.getD i true)).length

def FG (P : Program) (r : Option Nat) (n : Nat) (ops : Array Oper) (Q : Post) (lv : List Bool) (pd : List (Nat × Bool)) (σ : St) (w : World) : Prop :=
 ∀ sub lr a, Real P n ops lv pd σ w sub lr a → wpAnyIn (fen r) 0 P .any ops (lift n Q) (left ops lr) lr a w

section
variable {P : Program} {r : Option Nat} {n : Nat} {ops : Array Oper} {Q : Post} {lv : List Bool} {pd : List (Nat × Bool)} {σ : St} {w : World}

theorem mem_preds {i e : Nat} {o : Oper} (ho : ops[i]? = some o) : e ∈ preds ops i ↔ ∃ x ∈ o.after, Region.binds .any x = true ∧ x.on = e := by
 unfold preds
 simp only [ho, List.mem_filterMap]
 constructor
 ·rintro ⟨x, hx, h⟩
  split at h
  ·rename_i hb; injection h with h; exact ⟨x, by simpa using hx, hb, h⟩
  cases h
 rintro ⟨x, hx, hb, h⟩
 exact ⟨x, by simpa using hx, by rw [if_pos hb, h]⟩
theorem ready_iff {lr : Array Bool} {j : Nat} : j ∈ Region.ready .any ops lr ↔ lr.getD j true = false ∧ j < ops.size ∧ ∀ e ∈ preds ops j, lr.getD e false = true := by
 rw [mem_ready]
 constructor
 ·rintro ⟨h0, o, ho, h⟩
  refine ⟨h0, (Array.getElem?_eq_some_iff.1 ho).1, fun e he => ?_⟩
  obtain ⟨x, hx, hb, rfl⟩ := (mem_preds ho).1 he
  exact h x hx hb
 rintro ⟨h0, hlt, h⟩
 refine ⟨h0, ops[j], Array.getElem?_eq_getElem hlt, fun e he hb => h _ ((mem_preds (Array.getElem?_eq_getElem hlt)).2 ⟨e, he, hb, rfl⟩)⟩
theorem readyL_iff {j : Nat} : j ∈ readyL ops lv ↔ lv.getD j true = false ∧ j < ops.size ∧ ∀ e ∈ preds ops j, lv.getD e false = true := by
 unfold readyL
 simp only [List.mem_filter, List.mem_range, Bool.and_eq_true, Bool.not_eq_true', List.all_eq_true]
 constructor
 ·rintro ⟨h1, h2, h3⟩; exact ⟨h2, h1, h3⟩
 rintro ⟨h1, h2, h3⟩; exact ⟨h2, h1, h3⟩
theorem left_set {lr : Array Bool} {i : Nat} (hi : i < ops.size) (hs : lr.size = ops.size) (h : lr.getD i true = false) : left ops lr = left ops (lr.setIfInBounds i true) + 1 := by
 unfold left
 have key : ∀ m, m ≤ ops.size → ((List.range m).filter fun k => !(lr.getD k true)).length = ((List.range m).filter fun k => !((lr.setIfInBounds i true).getD k true)).length + (if i < m then 1 else 0) := by
  intro m
  induction m with
  | zero => intro _; simp
  | succ m ih =>
   intro hm
   rw [List.range_succ, List.filter_append, List.filter_append, List.length_append, List.length_append, ih (by omega)]
   by_cases him : i = m
   ·subst him
    have h2 : (lr.setIfInBounds i true).getD i true = true := by
     simp [Array.getD_eq_getD_getElem?, Array.getElem?_setIfInBounds]
     split <;> rfl
    simp only [List.filter_cons, List.filter_nil, h, h2]
    simp
   simp only [List.filter_cons, List.filter_nil]
   rw [show (lr.setIfInBounds i true).getD m true = lr.getD m true from getD_set_ne true him]
   by_cases h1 : i < m
   ·have h2 : i < m + 1 := by omega
    simp only [h1, h2, if_true]; omega
   have h2 : ¬ i < m + 1 := by omega
   simp only [h1, h2, if_false]; omega
 rw [key ops.size (Nat.le_refl _), if_pos hi]
theorem left_zero {lr : Array Bool} (h : left ops lr = 0) : ∀ i, i < ops.size → lr.getD i true = true := by
 intro i hi
 unfold left at h
 have h0 := List.eq_nil_of_length_eq_zero h
 rw [List.filter_eq_nil_iff] at h0
 have := h0 i (List.mem_range.2 hi)
 simpa using this
theorem getD_true_of_lt {lr : Array Bool} (hs : lr.size = ops.size) {i : Nat} (hi : i < ops.size) (b : Bool) : lr.getD i b = lr.getD i true := by
 simp [Array.getD_eq_getD_getElem?, hs, hi]
theorem getDL_of_lt (hs : lv.length = ops.size) {i : Nat} (hi : i < ops.size) (b : Bool) : lv.getD i b = lv.getD i true := by
 simp [List.getD_eq_getElem?_getD, hs, hi]

theorem Real.sub_lv {sub lr a} (h : Real P n ops lv pd σ w sub lr a) {i : Nat} (hi : lr.getD i false = true) : lv.getD i false = true := by
 have hlt : i < ops.size := by
  rcases Nat.lt_or_ge i lr.size with h1 | h1
  ·rw [← h.sz]; exact h1
  simp [Array.getD_eq_getD_getElem?, Array.getElem?_eq_none h1] at hi
 have := h.lrv i hlt
 rw [getD_true_of_lt h.sz hlt] at hi
 rw [getDL_of_lt h.lsz hlt]
 rw [hi] at this
 revert this
 cases lv.getD i true <;> simp
theorem Real.sub_not {sub lr a} (h : Real P n ops lv pd σ w sub lr a) {p : Nat × Bool} (hp : p ∈ sub) : lr.getD p.1 false = false := by
 obtain ⟨o, _, ho, _⟩ := h.yl p hp
 have hlt := (Array.getElem?_eq_some_iff.1 ho).1
 rw [getD_true_of_lt h.sz hlt, h.lrv _ hlt]
 have : (sub.map (·.1)).contains p.1 = true := List.contains_iff_mem.2 (List.mem_map.2 ⟨p, hp, rfl⟩)
 rw [this]; simp

theorem wanted_congr {σ σ' : St} {o : Oper} {i : Nat} (ho : ops[i]? = some o) (h : ∀ x ∈ looks ops i, σ x = σ' x) : Region.wanted o (yieldF ops σ) = Region.wanted o (yieldF ops σ') := by
 unfold Region.wanted
 cases hg : o.guard with
 | none => rfl
 | some gw =>
  obtain ⟨g, want⟩ := gw
  have : yieldF ops σ g = yieldF ops σ' g := by
   unfold yieldF
   cases hd : (ops[g]?).bind (fun o : Oper => o.dst) with
   | none => rfl
   | some d =>
    have : d ∈ looks ops i := by
     unfold looks
     simp only [ho, Oper.looksAt, hg, List.mem_append]
     right
     have hd' : (ops[g]?).bind (·.dst) = some d := hd
     simp [hd']
    simp only [h d this]
  simp only [this]
theorem exec_congr {σ σ' : St} {o : Oper} {i : Nat} (ho : ops[i]? = some o) (hpl : plainOp o.op = true) (h : ∀ x ∈ looks ops i, σ x = σ' x) : execOp (evF σ) o = execOp (evF σ') o := by
 refine execOp_congr o (fun cs b hs => by rw [hs] at hpl; cases hpl) fun x hx => ?_
 cases x with
 | tmp t =>
  refine h t ?_
  unfold looks
  simp only [ho, Oper.looksAt, List.mem_append, List.mem_filterMap]
  exact .inl ⟨.tmp t, by simpa using hx, rfl⟩
 | _ => rfl
theorem okOps_at (hok : okOps n ops = true) {i : Nat} {o : Oper} (ho : ops[i]? = some o) : okDst n o.dst = true ∧ plainOp o.op = true := by
 unfold okOps at hok
 rw [Array.all_eq_true_iff_forall_mem] at hok
 have := hok o (Array.mem_of_getElem? ho)
 simpa using this
theorem okOps_dst (hok : okOps n ops = true) (j d : Nat) (h : (ops[j]?).bind (fun o : Oper => o.dst) = some d) : d < n := by
 cases ho : ops[j]? with
 | none => simp [ho] at h
 | some o =>
  simp [ho] at h
  have := (okOps_at hok ho).1
  rw [h] at this
  exact Nat.le_of_ble_eq_true this

theorem Real.pop {sub lr a} (hok : okOps n ops = true) (h : Real P n ops lv pd σ w sub lr a) {p : Nat × Bool} (hp : p ∈ sub) (hpre : ∀ e ∈ preds ops p.1, lr.getD e false = true)
    {K : Act → World → Prop} {Q' : Exit → Act → World → Prop}
    (hK : ∀ a', Real P n ops lv pd σ w (sub.filter (fun q => q.1 != p.1)) (lr.setIfInBounds p.1 true) a' → K a' w) : wpOpIn (fen r) 0 P ops Q' p.1 K a w := by
  obtain ⟨o, v, ho, hv, hy0⟩ := h.yl p hp
  have hy := hy0 w (.inr rfl)
  have hlt := (Array.getElem?_eq_some_iff.1 ho).1
  obtain ⟨hod, hopl⟩ := okOps_at hok ho
  obtain ⟨σr, hr, hds, hσ⟩ := h.rep
  have hlook : ∀ x ∈ looks ops p.1, σr x = σ x := fun x hx => hσ x fun q hq hd => by
    by_cases hqp : q.1 = p.1
    · exact h.own p hp x (by rw [← hqp]; exact hd) hx
    have := (h.apart q hq p hp hqp x hd).2 hx
    have h1 := hpre _ this
    rw [h.sub_not hq] at h1
    cases h1
  have hdo : dstOf ops p.1 = o.dst := by unfold dstOf; simp [ho]
  have hreal : ∀ a', Rep n (updO σr o.dst v) a' → Real P n ops lv pd σ w (sub.filter (fun q => q.1 != p.1)) (lr.setIfInBounds p.1 true) a' := by
    intro a' ha'
    have hmem : ∀ q, q ∈ sub.filter (fun q => q.1 != p.1) → q ∈ sub ∧ q.1 ≠ p.1 := fun q hq => by simpa using hq
    refine ⟨fun q hq => h.mem q (hmem q hq).1, ?_, h.pw.filter _, fun q hq => h.pr q (hmem q hq).1, fun q hq => h.lvl q (hmem q hq).1, fun i hi => ?_, by simpa using h.sz, h.lsz, fun i hi e he => ?_, ⟨_, ha', by simpa [updO_ds] using hds, fun x hx => ?_⟩,
      fun q hq => h.yl q (hmem q hq).1, fun q hq => h.own q (hmem q hq).1, fun q hq r hr => h.apart q (hmem q hq).1 r (hmem r hr).1⟩
    · exact List.Nodup.sublist (List.Sublist.map _ List.filter_sublist) h.nd
    · by_cases hip : p.1 = i
      · subst hip
        have h1 : (lr.setIfInBounds p.1 true).getD p.1 true = true := by
          simp [Array.getD_eq_getD_getElem?, Array.getElem?_setIfInBounds]
          split <;> rfl
        have h2 : lv.getD p.1 true = true := by
          have := h.lvl p hp
          rw [getDL_of_lt h.lsz hlt] at this; exact this
        rw [h1, h2]
        simp
      rw [getD_set_ne true hip, h.lrv i hi]
      congr 2
      rw [Bool.eq_iff_iff]
      simp only [List.contains_iff_mem, List.mem_map, List.mem_filter]
      constructor
      · rintro ⟨q, hq, rfl⟩; exact ⟨q, ⟨hq, by simpa using fun e => hip e.symm⟩, rfl⟩
      rintro ⟨q, ⟨hq, _⟩, rfl⟩; exact ⟨q, hq, rfl⟩
    · by_cases hip : p.1 = i
      · subst hip; exact getD_set_true (hpre e he)
      rw [getD_set_ne false hip] at hi; exact getD_set_true (h.cl i hi e he)
    cases hd : o.dst with
    | none =>
      refine hσ x fun q hq hqd => ?_
      by_cases hqp : q.1 = p.1
      · rw [hqp, hdo, hd] at hqd; cases hqd
      exact hx q (by simp [hq, hqp]) hqd
    | some d =>
      by_cases hxd : x = d
      · subst hxd
        show upd σr x v x = σ x
        rw [upd_same, hv x hd]
      show upd σr d v x = σ x
      rw [upd_ne _ _ _ _ hxd]
      refine hσ x fun q hq hqd => ?_
      by_cases hqp : q.1 = p.1
      · rw [hqp, hdo, hd] at hqd; injection hqd with hqd; exact hxd hqd.symm
      exact hx q (by simp [hq, hqp]) hqd
  unfold wpOpIn
  simp only [ho]
  have hw : Region.wanted o (yielded ops a.tmps) = Region.wanted o (yieldF ops σ) := by
    rw [hr.yielded ops (okOps_dst hok)]; exact wanted_congr ho hlook
  rw [hw]
  rcases hy with ⟨h1, h2⟩ | ⟨h1, h2⟩
  · rw [if_pos h1]
    refine ⟨fun _ _ => trivial, ?_⟩
    rw [hr.eval, semAt_val (by rw [exec_congr ho hopl hlook]; exact h2)]
    exact hK _ (hreal _ (hr.putO hod _))
  rw [if_neg (by simp [h1])]
  rw [← h2]
  exact ⟨fun _ _ => trivial, hK _ (hreal _ (hr.putO hod _))⟩

theorem Real.last_ready {sub lr a} (h : Real P n ops lv pd σ w sub lr a) (hne : sub ≠ []) : Region.ready .any ops lr ≠ [] := by
 have hl : sub.getLast hne ∈ sub := List.getLast_mem hne
 have hnot := h.sub_not hl
 obtain ⟨o, _, ho, _⟩ := h.yl _ hl
 have hlt := (Array.getElem?_eq_some_iff.1 ho).1
 have : (sub.getLast hne).1 ∈ Region.ready .any ops lr := by
  rw [ready_iff]
  refine ⟨by rw [← getD_true_of_lt h.sz hlt false]; exact hnot, hlt, fun e he => ?_⟩
  have h1 := h.pr _ hl e he
  have helt : e < ops.size := by
   rcases Nat.lt_or_ge e ops.size with h2 | h2
   ·exact h2
   have := h1.1; rw [List.getD_eq_getElem?_getD, List.getElem?_eq_none (by rw [h.lsz]; exact h2)] at this; cases this
  rw [getD_true_of_lt h.sz helt, h.lrv e helt, ← getDL_of_lt h.lsz helt false, h1.1]
  simp only [Bool.true_and, Bool.not_eq_true']
  cases hc : (sub.map (·.1)).contains e
  ·rfl
  exfalso
  simp only [List.contains_iff_mem, List.mem_map] at hc
  obtain ⟨q, hq, rfl⟩ := hc
  -- q is pending, and one that the last comes behind: it stands ahead of the last in the list, which is later in thought
  have hsub : sub = sub.dropLast ++ [sub.getLast hne] := (List.dropLast_concat_getLast hne).symm
  have hpw := h.pw
  rw [hsub, List.pairwise_append] at hpw
  rw [hsub, List.mem_append, List.mem_singleton] at hq
  rcases hq with hq | hq
  ·exact hpw.2.2 q hq _ (List.mem_singleton.2 rfl) he
  rw [hq] at h1; exact h1.2 rfl
 intro h0
 rw [h0] at this
 cases this

theorem FG_core (hok : okOps n ops = true) (hQ : readyL ops lv = [] → Q .normal σ w)
    (hE : ∀ e ∈ readyL ops lv, ∀ sub lr a, Real P n ops lv pd σ w sub lr a → (∀ k ∈ preds ops e, lr.getD k false = true) → wpOpIn (fen r) 0 P ops (lift n Q) e (wpAnyIn (fen r) 0 P .any ops (lift n Q) (left ops (lr.setIfInBounds e true)) (lr.setIfInBounds e true)) a w) :
    FG P r n ops Q lv pd σ w := by
  have key : ∀ m sub lr a, sub.length = m → Real P n ops lv pd σ w sub lr a → wpAnyIn (fen r) 0 P .any ops (lift n Q) (left ops lr) lr a w := by
    intro m
    induction m using Nat.strongRecOn with
    | _ m ih =>
      intro sub lr a hm h
      have hnil : Region.ready .any ops lr = [] → lift n Q .normal a w := fun h0 => by
        have hs : sub = [] := Classical.byContradiction fun hne => h.last_ready hne h0
        obtain ⟨σr, hr, hds, hσ⟩ := h.rep
        have : σr = σ := St.eq_of (fun x => hσ x fun p hp => by rw [hs] at hp; cases hp) hds
        subst this
        refine ⟨_, hr, hQ ?_⟩
        rw [List.eq_nil_iff_forall_not_mem]
        intro j hj
        rw [readyL_iff] at hj
        have : j ∈ Region.ready .any ops lr := by
          rw [ready_iff]
          refine ⟨by rw [h.lrv j hj.2.1, hs]; simpa using hj.1, hj.2.1, fun e he => ?_⟩
          have h1 := hj.2.2 e he
          have helt : e < ops.size := by
            rcases Nat.lt_or_ge e ops.size with h2 | h2
            · exact h2
            rw [List.getD_eq_getElem?_getD, List.getElem?_eq_none (by rw [h.lsz]; exact h2)] at h1; cases h1
          rw [getD_true_of_lt h.sz helt, h.lrv e helt, hs, ← getDL_of_lt h.lsz helt false, h1]
          simp
        rw [h0] at this; cases this
      have hstep : ∀ i ∈ Region.ready .any ops lr, wpOpIn (fen r) 0 P ops (lift n Q) i (wpAnyIn (fen r) 0 P .any ops (lift n Q) (left ops (lr.setIfInBounds i true)) (lr.setIfInBounds i true)) a w := fun i hi => by
        obtain ⟨h0, hlt, hpre⟩ := ready_iff.1 hi
        by_cases hs : i ∈ sub.map (·.1)
        · obtain ⟨p, hp, rfl⟩ := List.mem_map.1 hs
          refine h.pop hok hp hpre fun a' ha' => ih _ ?_ _ _ a' rfl ha'
          rw [← hm]
          exact List.length_filter_lt_length_iff_exists.2 ⟨p, hp, by simp⟩
        refine hE i ?_ sub lr a h hpre
        rw [readyL_iff]
        refine ⟨?_, hlt, fun e he => h.sub_lv (hpre e he)⟩
        have h1 := h.lrv i hlt
        rw [h0] at h1
        have hc : (sub.map (·.1)).contains i = false := by
          cases hc : (sub.map (·.1)).contains i
          · rfl
          exact absurd (List.contains_iff_mem.1 hc) hs
        rw [hc] at h1
        simpa using h1.symm
      cases hl : left ops lr with
      | zero =>
        have h0 : Region.ready .any ops lr = [] := by
          rw [List.eq_nil_iff_forall_not_mem]
          intro j hj
          obtain ⟨h1, h2, _⟩ := ready_iff.1 hj
          rw [left_zero hl j h2] at h1; cases h1
        exact ⟨h0, hnil h0⟩
      | succ k =>
        refine ⟨hnil, fun i hi => ?_⟩
        obtain ⟨h0, hlt, hpre⟩ := ready_iff.1 hi
        have := hstep i hi
        have e := left_set hlt h.sz h0
        rw [hl] at e
        have ek : k = left ops (lr.setIfInBounds i true) := by omega
        rw [ek]; exact this
  exact fun sub lr a h => key _ sub lr a rfl h

theorem getDL_set {i j : Nat} (h : lv.getD j false = true) : (lv.set i true).getD j false = true := by
 by_cases hij : i = j
 ·subst hij
  have : i < lv.length := by
   rcases Nat.lt_or_ge i lv.length with h1 | h1
   ·exact h1
   rw [List.getD_eq_getElem?_getD, List.getElem?_eq_none h1] at h; cases h
  simp [List.getD_eq_getElem?_getD, this]
 simp only [List.getD_eq_getElem?_getD, List.getElem?_set_ne hij] at h ⊢; exact h
theorem getDL_set_ne {i j : Nat} (h : i ≠ j) (b : Bool) : (lv.set i true).getD j b = lv.getD j b := by
 simp only [List.getD_eq_getElem?_getD, List.getElem?_set_ne h]
theorem getDL_set_same {i : Nat} (b : Bool) (h : i < lv.length) : (lv.set i true).getD i b = true := by
 simp [List.getD_eq_getElem?_getD, h]
theorem getDL_false {i : Nat} (h : lv.getD i true = false) : lv.getD i false = false := by
 rw [List.getD_eq_getElem?_getD] at h ⊢
 cases hq : lv[i]? with
 | none => rfl
 | some b => rw [hq] at h; simpa using h
theorem QYield.congr {σ σ' : St} {o : Oper} {v : Value} {i : Nat} (ho : ops[i]? = some o) (hpl : plainOp o.op = true) (h : ∀ x ∈ looks ops i, σ x = σ' x) (hy : QYield P ops σ w o v) : QYield P ops σ' w o v := by
 unfold QYield at *
 rw [← wanted_congr ho h, ← exec_congr ho hpl h]
 exact hy
theorem updO_other {σ : St} {o : Option Nat} {v : Value} {x : Nat} (h : o ≠ some x) : updO σ o v x = σ x := by
 cases o with
 | none => rfl
 | some d => exact upd_ne _ _ _ _ fun e => h (by rw [e])
theorem dstOf_eq {i : Nat} {o : Oper} (ho : ops[i]? = some o) : dstOf ops i = o.dst := by unfold dstOf; simp [ho]

theorem FG_end (hok : okOps n ops = true) (hr : (readyL ops lv).isEmpty = true) (h : Q .normal σ w) : FG P r n ops Q lv pd σ w :=
 FG_core hok (fun _ => h) fun e he => by rw [List.isEmpty_iff.1 hr] at he; cases he

theorem FG_quiet (hok : okOps n ops = true) {i : Nat} {o : Oper} {v : Value} (f : Bool) (ho : ops[i]? = some o) (hck : quietOk ops lv (pd.map (·.1)) i = true) (hy : ∀ w', (f = true ∨ w' = w) → QYield P ops σ w' o v)
    (h : FG P r n ops Q (lv.set i true) ((i, f) :: pd) (updO σ o.dst v) w) : FG P r n ops Q lv pd σ w := by
  intro sub lr a hr
  have hlt := (Array.getElem?_eq_some_iff.1 ho).1
  have hdo := dstOf_eq ho
  obtain ⟨hod, hopl⟩ := okOps_at hok ho
  unfold quietOk at hck
  simp only [Bool.and_eq_true, Bool.not_eq_true', List.all_eq_true] at hck
  obtain ⟨⟨⟨h0, hpre⟩, hown⟩, hids⟩ := hck
  have h0' := getDL_false h0
  have hown' : ∀ d, o.dst = some d → d ∉ looks ops i := fun d hd => by
    rw [hdo, hd] at hown
    simpa using hown
  have hid : ∀ p ∈ sub, p.1 ≠ i := fun p hp e => by
    have := hr.lvl p hp
    rw [e, h0'] at this; cases this
  have hids' : ∀ p ∈ sub, (∀ d, o.dst = some d → dstOf ops p.1 ≠ some d ∧ d ∉ looks ops p.1) ∧ ∀ d, dstOf ops p.1 = some d → d ∈ looks ops i → p.1 ∈ preds ops i := fun p hp => by
    have := hids p.1 (List.mem_map.2 ⟨p, hr.mem p hp, rfl⟩)
    rw [hdo] at this
    refine ⟨fun d hd => ?_, fun d hd hx => ?_⟩
    · have h1 := this.1
      rw [hd] at h1
      simpa using h1
    have h1 := this.2
    rw [hd] at h1
    simp at h1
    rcases h1 with h1 | h1
    · exact absurd hx h1
    exact h1
  refine h ((i, f) :: sub) lr a ⟨?_, ?_, ?_, ?_, ?_, ?_, hr.sz, by simpa using hr.lsz, hr.cl, ?_, ?_, ?_, ?_⟩
  · rintro p hp
    rcases List.mem_cons.1 hp with rfl | hp
    · exact List.mem_cons_self
    exact List.mem_cons_of_mem _ (hr.mem p hp)
  · rw [List.map_cons, List.nodup_cons]
    exact ⟨fun hm => by obtain ⟨p, hp, e⟩ := List.mem_map.1 hm; exact hid p hp e, hr.nd⟩
  · rw [List.pairwise_cons]
    refine ⟨fun p hp hm => ?_, hr.pw⟩
    have := (hr.pr p hp _ hm).1
    rw [h0'] at this; cases this
  · rintro p hp e he
    rcases List.mem_cons.1 hp with rfl | hp
    · exact ⟨getDL_set (hpre e he), fun e2 => by have := hpre e he; rw [e2, h0'] at this; cases this⟩
    exact ⟨getDL_set (hr.pr p hp e he).1, (hr.pr p hp e he).2⟩
  · rintro p hp
    rcases List.mem_cons.1 hp with rfl | hp
    · exact getDL_set_same _ (by rw [hr.lsz]; exact hlt)
    exact getDL_set (hr.lvl p hp)
  · intro k hk
    rw [hr.lrv k hk]
    by_cases hki : i = k
    · subst hki
      rw [h0]
      simp
    rw [getDL_set_ne hki]
    congr 2
    have : (k == i) = false := by simpa using fun e : k = i => hki e.symm
    rw [List.map_cons, List.contains_cons, this, Bool.false_or]
  · obtain ⟨σr, hrep, hds, hσ⟩ := hr.rep
    refine ⟨σr, hrep, by simpa [updO_ds] using hds, fun x hx => ?_⟩
    rw [updO_other (fun e => hx (i, f) List.mem_cons_self (by rw [hdo, e]))]
    exact hσ x fun p hp => hx p (List.mem_cons_of_mem _ hp)
  · rintro p hp
    rcases List.mem_cons.1 hp with rfl | hp
    · exact ⟨o, v, ho, fun d hd => by rw [hd]; exact upd_same _ _ _, fun w' hw' => (hy w' hw').congr ho hopl fun x hx => (updO_other fun e => hown' x e hx).symm⟩
    obtain ⟨o', v', ho', hv', hy'⟩ := hr.yl p hp
    refine ⟨o', v', ho', fun d hd => ?_, fun w' hw' => ?_⟩
    · rw [updO_other (fun e => ((hids' p hp).1 d e).1 (by rw [dstOf_eq ho', hd]))]; exact hv' d hd
    exact (hy' w' hw').congr ho' (okOps_at hok ho').2 fun x hx => (updO_other fun e => ((hids' p hp).1 x e).2 hx).symm
  · rintro p hp d hd
    rcases List.mem_cons.1 hp with rfl | hp
    · exact hown' d (by rw [← hdo]; exact hd)
    exact hr.own p hp d hd
  rintro p hp q hq hne d hd
  rcases List.mem_cons.1 hp with rfl | hp
  · rcases List.mem_cons.1 hq with rfl | hq
    · exact absurd rfl hne
    have := (hids' q hq).1 d (by rw [← hdo]; exact hd)
    exact ⟨this.1, fun hx => absurd hx this.2⟩
  rcases List.mem_cons.1 hq with rfl | hq
  · refine ⟨fun e => ?_, fun hx => (hids' p hp).2 d hd hx⟩
    exact ((hids' p hp).1 d (by rw [← hdo]; exact e)).1 hd
  exact hr.apart p hp q hq hne d hd

def EffK (P : Program) (σ : St) (w : World) (o : Oper) (K : St → World → Prop) : Prop :=
 match (execOp (evF σ) o).run P w with
 | .ok (.value v) w' => K (updO σ o.dst v) w'
 | .ok .skip w' => K (updO σ o.dst undef) w'
 | .ok (.enter f args) w' => Calls P f args w' (Ret fun v w'' => K (updO σ o.dst v) w'')
 | _ => False

theorem above_listed {sub lr a} (hr : Real P n ops lv pd σ w sub lr a) {e : Nat} (he : ∀ k ∈ preds ops e, lr.getD k false = true) : ∀ k ∈ above ops e, lr.getD k false = true := by
 have key : ∀ (l : List Nat) (S : List Nat), (∀ k ∈ S, lr.getD k false = true) → ∀ k ∈ l.foldl (aboveStep ops) S, lr.getD k false = true := by
  intro l
  induction l with
  | nil => intro S hS; exact hS
  | cons m l ih =>
   intro S hS
   refine ih _ fun k hk => ?_
   unfold aboveStep at hk
   split at hk
   ·rename_i hm
    rcases List.mem_append.1 hk with h1 | h1
    ·exact hS k h1
    exact hr.cl m (hS m (List.contains_iff_mem.1 hm)) k (List.mem_filter.1 h1).1
   exact hS k hk
 exact key _ _ he

def Stab (P : Program) (ops : Array Oper) (σ : St) (w : World) : List (Nat × Bool) → Prop
 | [] => True
 | (i, false) :: l => (∃ o v, ops[i]? = some o ∧ (∀ d, o.dst = some d → σ d = v) ∧ QYield P ops σ w o v) ∧ Stab P ops σ w l
 | (_, true) :: l => Stab P ops σ w l
theorem Stab.get {σ : St} {w : World} : ∀ {l : List (Nat × Bool)}, Stab P ops σ w l → ∀ p ∈ l, p.2 = false → ∃ o v, ops[p.1]? = some o ∧ (∀ d, o.dst = some d → σ d = v) ∧ QYield P ops σ w o v
 | [], _, p, hp, _ => by cases hp
 | (i, false) :: l, h, p, hp, hf => by
  rcases List.mem_cons.1 hp with rfl | hp
  ·exact h.1
  exact Stab.get h.2 p hp hf
 | (i, true) :: l, h, p, hp, hf => by
  rcases List.mem_cons.1 hp with rfl | hp
  ·cases hf
  exact Stab.get (l := l) h p hp hf

theorem FG_effect (hok : okOps n ops = true) {e : Nat} {o : Oper} (ho : ops[e]? = some o) (hck : effectOk ops lv (pd.map (·.1)) e = true) (hw : Region.wanted o (yieldF ops σ) = true) (pd' : List (Nat × Bool)) (hpd : pd.filter (fun p => !((above ops e).contains p.1)) = pd')
    (h : EffK P σ w o fun σ' w' => Stab P ops σ' w' pd' ∧ FG P r n ops Q (lv.set e true) pd' σ' w') : FG P r n ops Q lv pd σ w := by
  unfold effectOk at hck
  simp only [Bool.and_eq_true, beq_iff_eq, List.all_eq_true] at hck
  obtain ⟨hre, hids⟩ := hck
  refine FG_core hok (fun h0 => by rw [h0] at hre; cases hre) fun e' he' sub lr a hr hpre => ?_
  rw [hre, List.mem_singleton] at he'
  subst he'
  have hlt := (Array.getElem?_eq_some_iff.1 ho).1
  have hdo := dstOf_eq ho
  obtain ⟨hod, hopl⟩ := okOps_at hok ho
  have hrd := readyL_iff.1 (show e' ∈ readyL ops lv by rw [hre]; exact List.mem_singleton.2 rfl)
  have h0' := getDL_false hrd.1
  obtain ⟨σr, hrep, hds, hσ⟩ := hr.rep
  have hnp : ∀ p ∈ sub, p.1 ∉ preds ops e' := fun p hp hm => by have := hpre _ hm; rw [hr.sub_not hp] at this; cases this
  have hids' : ∀ p ∈ sub, (∀ d, o.dst = some d → dstOf ops p.1 ≠ some d ∧ d ∉ looks ops p.1) ∧ ∀ d, dstOf ops p.1 = some d → d ∉ looks ops e' := fun p hp => by
    have := hids p.1 (List.mem_map.2 ⟨p, hr.mem p hp, rfl⟩)
    rw [Bool.or_eq_true] at this
    rcases this with h1 | h1
    · exact absurd (List.contains_iff_mem.1 h1) (hnp p hp)
    rw [Bool.and_eq_true, hdo] at h1
    refine ⟨fun d hd => ?_, fun d hd => ?_⟩
    · have h2 := h1.1
      rw [hd] at h2
      simpa using h2
    have h2 := h1.2
    rw [hd] at h2
    simpa using h2
  have hlook : ∀ x ∈ looks ops e', σr x = σ x := fun x hx => hσ x fun p hp hd => (hids' p hp).2 x hd hx
  have hnext : ∀ (v : Value) (w' : World) (a' : Act), Rep n (updO σr o.dst v) a' → Stab P ops (updO σ o.dst v) w' pd' → Real P n ops (lv.set e' true) pd' (updO σ o.dst v) w' sub (lr.setIfInBounds e' true) a' := by
    intro v w' a' ha' hst
    have hmem : ∀ p ∈ sub, p ∈ pd' := fun p hp => by
      rw [← hpd, List.mem_filter]
      refine ⟨hr.mem p hp, ?_⟩
      cases hc : (above ops e').contains p.1
      · rfl
      have := above_listed hr hpre p.1 (List.contains_iff_mem.1 hc)
      rw [hr.sub_not hp] at this; cases this
    refine ⟨hmem, hr.nd, hr.pw, fun p hp k hk => ⟨getDL_set (hr.pr p hp k hk).1, (hr.pr p hp k hk).2⟩, fun p hp => getDL_set (hr.lvl p hp), fun k hk => ?_, by simpa using hr.sz, by simpa using hr.lsz, fun k hk j hj => ?_, ⟨_, ha', by simpa [updO_ds] using hds, fun x hx => ?_⟩,
      fun p hp => ?_, hr.own, hr.apart⟩
    · by_cases hke : e' = k
      · subst hke
        have h1 : (lr.setIfInBounds e' true).getD e' true = true := by
          simp [Array.getD_eq_getD_getElem?, Array.getElem?_setIfInBounds]
          split <;> rfl
        rw [h1, getDL_set_same _ (by rw [hr.lsz]; exact hlt)]
        cases hc : (sub.map (·.1)).contains e'
        · rfl
        obtain ⟨p, hp, e1⟩ := List.mem_map.1 (List.contains_iff_mem.1 hc)
        have := hr.lvl p hp
        rw [e1, h0'] at this; cases this
      rw [getD_set_ne true hke, getDL_set_ne hke, hr.lrv k hk]
    · by_cases hke : e' = k
      · subst hke; exact getD_set_true (hpre j hj)
      rw [getD_set_ne false hke] at hk; exact getD_set_true (hr.cl k hk j hj)
    · by_cases hd : o.dst = some x
      · rw [hd]; show upd σr x v x = upd σ x v x; rw [upd_same, upd_same]
      rw [updO_other hd, updO_other hd]; exact hσ x hx
    cases hf : p.2 with
    | false =>
      obtain ⟨o', v', ho', hv', hy'⟩ := hst.get p (hmem p hp) hf
      refine ⟨o', v', ho', hv', fun w'' hw'' => ?_⟩
      rcases hw'' with hw'' | hw''
      · cases hw''
      rw [hw'']; exact hy'
    | true =>
      obtain ⟨o', v', ho', hv', hy'⟩ := hr.yl p hp
      refine ⟨o', v', ho', fun d hd => ?_, fun w'' _ => (hy' w'' (.inl hf)).congr ho' (okOps_at hok ho').2 fun x hx => (updO_other fun e1 => ((hids' p hp).1 x e1).2 hx).symm⟩
      rw [updO_other (fun e1 => ((hids' p hp).1 d e1).1 (by rw [dstOf_eq ho', hd]))]; exact hv' d hd
  unfold wpOpIn
  simp only [ho]
  have hww : Region.wanted o (yielded ops a.tmps) = true := by
    rw [hrep.yielded ops (okOps_dst hok), wanted_congr ho hlook]; exact hw
  rw [if_pos hww]
  refine ⟨fun _ _ => trivial, ?_⟩
  unfold EffK at h
  have hsem : (o.semAt (fen r).round a.eval) = execOp (evF σ) o := by
    rw [Oper.semAt_eq _ _ _ fun c hc => ?_, hrep.eval, exec_congr ho hopl hlook]
    have hne : ∀ x w', (execOp (evF σ) o).run P w = .ok x w' → ∃ d, x = .defer d := fun x w' hx => by
      unfold execOp at hx
      rw [hc] at hx
      simp only [Sem.run_bind] at hx
      cases hr : (resolve (evF σ) c o.type).run P w <;> rw [hr] at hx <;> simp [Result.andThen] at hx
      exact ⟨_, hx.1.symm⟩
    cases hx : (execOp (evF σ) o).run P w with
    | halt x w' => rw [hx] at h; exact h
    | ok x w' =>
      obtain ⟨d, rfl⟩ := hne x w' hx
      rw [hx] at h; exact h
  rw [hsem]
  generalize (execOp (evF σ) o).run P w = res at h ⊢
  cases res with
  | halt x w' => exact h.elim
  | ok nx w' =>
    cases nx with
    | value v => exact h.2 _ _ _ (hnext v w' _ (hrep.putO hod v) h.1)
    | skip => exact h.2 _ _ _ (hnext undef w' _ (hrep.putO hod undef) h.1)
    | enter f args =>
      refine ⟨(fun h => by cases h), fen_calls r (Calls.mono h fun en w'' hen => ?_)⟩
      cases en with
      | returned v => exact hen.2 _ _ _ (hnext v w'' _ (hrep.putO hod v) hen.1)
      | _ => exact hen.elim
    | _ => exact h.elim

theorem FW_draw {id : Nat} {l : List Oper} (hm : P.follows .mixedOrders = true) (_hok : okOps n l.toArray = true) (h : ∀ w', Kept noB w w' → FG P r n l.toArray Q (List.replicate l.length false) [] σ w') : FW P r n (.region id l.toArray true) Q σ w := by
  intro a ha
  refine wpIn_region_any hm ?_
  have h1 := h { w with drawn := w.drawn + 1 } ⟨rfl, rfl, rfl, Nat.le_refl _, fun _ _ _ => rfl⟩ [] (Array.replicate l.length false) a
    ⟨(fun _ hp => by cases hp), List.nodup_nil, List.Pairwise.nil, (fun _ hp => by cases hp), (fun _ hp => by cases hp), fun i hi => ?_, by simp, by simp, fun i hi => ?_, ⟨σ, ha, rfl, fun _ _ => rfl⟩, (fun _ hp => by cases hp), (fun _ hp => by cases hp), (fun _ hp => by cases hp)⟩
  · have : left l.toArray (Array.replicate l.length false) = l.toArray.size := by
      unfold left
      rw [List.filter_eq_self.2]
      · simp
      intro i hi
      simp at hi
      simp [Array.getD_eq_getD_getElem?, hi]
    rw [this] at h1
    simpa using h1
  · simp at hi
    simp [Array.getD_eq_getD_getElem?, List.getD_eq_getElem?_getD, hi]
  exfalso
  simp [Array.getD_eq_getD_getElem?, Array.getElem?_replicate] at hi
  split at hi <;> simp at hi
end
end Go.Mw
namespace Go.Mw
open Go.RowKit

section
variable {P : Program} {r : Option Nat} {n : Nat} {ops : Array Oper} {Q : Post} {lv : List Bool} {pd pd' : List (Nat × Bool)} {σ : St} {w : World} {op : Op} {ty : TypeId} {pos : String} {after : Array Edge} {guard : Option (Nat × Bool)}
theorem FGp (hok : okOps n ops = true) (i : Nat) {d : Nat} {v : Value} (ho : ops[i]? = some { dst := some d, op := op, type := ty, pos := pos, after := after, guard := guard })
    (hw : Region.wanted { dst := some d, op := op, type := ty, pos := pos, after := after, guard := guard } (yieldF ops σ) = true) (hg : ∀ w, Gives P (evF σ) op ty w v w) (hck : quietOk ops lv (pd.map (·.1)) i = true)
    (h : FG P r n ops Q (lv.set i true) ((i, true) :: pd) (upd σ d v) w) : FG P r n ops Q lv pd σ w :=
  FG_quiet hok true ho hck (fun w' _ => .inl ⟨hw, hg w' _ _ _ _⟩) h
theorem FGl (hok : okOps n ops = true) (i : Nat) {d : Nat} {v : Value} (ho : ops[i]? = some { dst := some d, op := op, type := ty, pos := pos, after := after, guard := guard })
    (hw : Region.wanted { dst := some d, op := op, type := ty, pos := pos, after := after, guard := guard } (yieldF ops σ) = true) (hg : Gives P (evF σ) op ty w v w) (hck : quietOk ops lv (pd.map (·.1)) i = true)
    (h : FG P r n ops Q (lv.set i true) ((i, false) :: pd) (upd σ d v) w) : FG P r n ops Q lv pd σ w :=
  FG_quiet hok false ho hck (fun w' hw' => by
    rcases hw' with h1 | rfl
    · cases h1
    exact .inl ⟨hw, hg _ _ _ _⟩) h
theorem FGoff (hok : okOps n ops = true) (i : Nat) {d : Nat} (ho : ops[i]? = some { dst := some d, op := op, type := ty, pos := pos, after := after, guard := guard })
    (hw : Region.wanted { dst := some d, op := op, type := ty, pos := pos, after := after, guard := guard } (yieldF ops σ) = false) (hck : quietOk ops lv (pd.map (·.1)) i = true)
    (h : FG P r n ops Q (lv.set i true) ((i, true) :: pd) (upd σ d undef) w) : FG P r n ops Q lv pd σ w :=
  FG_quiet hok true ho hck (fun _ _ => .inr ⟨hw, rfl⟩) h
theorem FGact (hok : okOps n ops = true) (e : Nat) (pd' : List (Nat × Bool)) {C : World → Prop} (ho : ops[e]? = some { dst := none, op := op, type := ty, pos := pos, after := after, guard := guard })
    (hw : Region.wanted { dst := none, op := op, type := ty, pos := pos, after := after, guard := guard } (yieldF ops σ) = true) (hg : ∃ w', Acts P (evF σ) op ty w w' ∧ C w') (hck : effectOk ops lv (pd.map (·.1)) e = true)
    (hpd : pd.filter (fun p => !((above ops e).contains p.1)) = pd') (h : ∀ w', C w' → Stab P ops σ w' pd' ∧ FG P r n ops Q (lv.set e true) pd' σ w') : FG P r n ops Q lv pd σ w := by
  obtain ⟨w', hg, hC⟩ := hg
  refine FG_effect hok ho hck hw pd' hpd ?_
  unfold EffK
  rw [hg]
  exact h w' hC
theorem FGval (hok : okOps n ops = true) (e : Nat) (pd' : List (Nat × Bool)) {d : Nat} {C : Value → World → Prop} (ho : ops[e]? = some { dst := some d, op := op, type := ty, pos := pos, after := after, guard := guard })
    (hw : Region.wanted { dst := some d, op := op, type := ty, pos := pos, after := after, guard := guard } (yieldF ops σ) = true) (hg : ∃ v w', Gives P (evF σ) op ty w v w' ∧ C v w') (hck : effectOk ops lv (pd.map (·.1)) e = true)
    (hpd : pd.filter (fun p => !((above ops e).contains p.1)) = pd') (h : ∀ v w', C v w' → Stab P ops (upd σ d v) w' pd' ∧ FG P r n ops Q (lv.set e true) pd' (upd σ d v) w') : FG P r n ops Q lv pd σ w := by
  obtain ⟨v, w', hg, hC⟩ := hg
  refine FG_effect hok ho hck hw pd' hpd ?_
  unfold EffK
  rw [hg]
  exact h v w' hC
theorem FGcall (hok : okOps n ops = true) (e : Nat) (pd' : List (Nat × Bool)) {dst : Option Nat} {f : FuncId} {xs : List Operand} {ats : Array TypeId} {vals : List Value} {R : Value → World → Prop} [he : Enters P f]
    (ho : ops[e]? = some { dst := dst, op := .call { callee := .value (.func f), args := xs.toArray, argTypes := ats }, type := ty, pos := pos, after := after, guard := guard })
    (hw : Region.wanted { dst := dst, op := .call { callee := .value (.func f), args := xs.toArray, argTypes := ats }, type := ty, pos := pos, after := after, guard := guard } (yieldF ops σ) = true) (hc : Rets P f vals w R) (hv : xs.map (evF σ) = vals) (hck : effectOk ops lv (pd.map (·.1)) e = true)
    (hpd : pd.filter (fun p => !((above ops e).contains p.1)) = pd') (h : ∀ v w', R v w' → Stab P ops (updO σ dst v) w' pd' ∧ FG P r n ops Q (lv.set e true) pd' (updO σ dst v) w') : FG P r n ops Q lv pd σ w := by
  refine FG_effect hok ho hck hw pd' hpd ?_
  unfold EffK
  have e1 : execOp (evF σ) { dst := dst, op := .call { callee := .value (.func f), args := xs.toArray, argTypes := ats }, type := ty, pos := pos, after := after, guard := guard } = callFunc f (#[] ++ xs.toArray.map (evF σ) ++ #[]) := rfl
  have e2 : (#[] ++ xs.toArray.map (evF σ) ++ #[] : Array Value) = vals.toArray := by simp [hv]
  rw [e1, he.run, e2]
  refine Calls.mono hc fun en w'' hr => ?_
  cases en with
  | returned v => exact h v w'' hr
  | _ => exact hr.elim
theorem Stab_nil : Stab P ops σ w [] := trivial
theorem Stab_pure {i : Nat} {l : List (Nat × Bool)} (h : Stab P ops σ w l) : Stab P ops σ w ((i, true) :: l) := h
theorem Stab_cons {i : Nat} {d : Nat} {v : Value} {l : List (Nat × Bool)} (ho : ops[i]? = some { dst := some d, op := op, type := ty, pos := pos, after := after, guard := guard })
    (hw : Region.wanted { dst := some d, op := op, type := ty, pos := pos, after := after, guard := guard } (yieldF ops σ) = true) (hg : Gives P (evF σ) op ty w v w) (hv : σ d = v) (h : Stab P ops σ w l) : Stab P ops σ w ((i, false) :: l) :=
  ⟨⟨_, v, ho, fun d' hd' => by injection hd' with hd'; rw [← hd']; exact hv, .inl ⟨hw, hg _ _ _ _⟩⟩, h⟩
end

section acts
variable {P : Program} {ρ : Operand → Value} {w w₀ : World} {S : Nat → Prop} {rs : List HP} {put : HP → List HP} {ty : TypeId} {x y : Operand}
theorem acts_store {b o : Nat} {T : TypeId} [h1 : OneCell P T] {cs : List Value} {E : TypeId} {v : Value} (cs' : List Value) (H : Sep w₀ S rs w) (hx : ρ x = .pointer (some ⟨b, o, none⟩))
    (hy : ρ y = v) (hv : v.oneCell' = true) (hat : At rs (blk b cs E) put) (ho : Nat.blt o cs.length = true) (hs : cs.set o v = cs') :
    ∃ w', Acts P ρ (.store T x y) ty w w' ∧ Sep w₀ S (put (blk b cs' E)) w' := by
  have hlt : o < cs.length := Nat.le_of_ble_eq_true ho
  have hb := H.obj hat
  obtain ⟨hk, ho'⟩ := stored_blk (v := v) hb hlt
  refine ⟨w.setCell ⟨b, o, none⟩ v, fun _ _ _ _ => ?_, by subst hs; exact H.setObj hat hk ho'⟩
  have hst : (store (⟨b, o, none⟩ : Addr) v).run P w = .ok () (w.setCell ⟨b, o, none⟩ v) := by
    rw [run_store P w _ v _ hv, cell_blk hb, List.getElem?_eq_getElem hlt]
    simp [World.frozen?, hb]
  have hcs : v.cells = #[v] := by cases v <;> first | rfl | cases hv
  simp [execOp, hx, hy, Instr.storeAt, Instr.sureAddr, storeVar, h1.size, hcs, storeCells, hst, Addr.add_zero']
theorem gives_append {t e : TypeId} [hs : IsSlice P t e] {size bytes : Nat} [hc : Cells P e size bytes] {z : Value} [hz : Zero P e z] {v : Value} {k m c : Nat} {xs news : List Value} {A : Option Addr}
    (H : Sep w₀ S rs w) (hx : ρ x = v) (hy : ρ y = .slice A m c) (hat : At rs (rowH e size v k xs) put) (hr : RowAt w A m size news) (h1 : ∀ u ∈ news, u.oneCell' = true)
    (hsz : 0 < size) (hzs : z.cells.size = size) (h63 : k + m ≤ maxLen) (hbytes : (k + m) * bytes ≤ 140737488355328) :
    ∃ v' w', Gives P ρ (.call { callee := .builtin .append, args := #[x, y], argTypes := #[t, t] }) ty w v' w' ∧ Sep w₀ S (put (rowH e size v' (k + m) (xs ++ news))) w' := by
  obtain ⟨F, hp, _, _⟩ := H.focus hat
  obtain ⟨v', w', hrun, hown, hg, hb⟩ := run_append (P := P) (ty := ty) t e hsz hzs v k xs hp.1 A m c news hr h1 h63 hbytes
  refine ⟨v', w', fun _ _ _ _ => ?_, H.rowTurn hat hg hown (by rcases hb with e | e <;> simp [e])⟩
  simp only [execOp, resolve, invoke, builtin, Sem.run_bind, Sem.run_pure, Result.andThen_ok, List.map_toArray, List.map_cons, List.map_nil, hx, hy, hrun]
end acts
end Go.Mw
namespace Go.Mw
open Go.RowKit

def keyIs (k : Int) (e : MapEntry) : Bool := match e.key with
 | .int .i64 a => a == k
 | _ => false
def mget (es : List MapEntry) (k : Int) : Option Value := (es.find? (keyIs k)).map (·.val)
def intKeys (es : List MapEntry) : Prop := ∀ e ∈ es, ∃ a, e.key = .int .i64 a
section
variable {w₀ w w' : World} {S : Nat → Prop} {rs : List HP} {put : HP → List HP} {P : Program}
theorem findNow_int (k : Int) : ∀ (es : List MapEntry) (i : Nat), intKeys es → ∃ r, Instr.findNow (.int .i64) (.int .i64 k) es i = some r ∧ r.map (·.2) = mget es k ∧
    (∀ j v, r = some (j, v) → ∃ m, j = i + m ∧ ∃ e, es[m]? = some e ∧ keyIs k e = true ∧ es.find? (keyIs k) = some e ∧ ∀ m' e', m' < m → es[m']? = some e' → keyIs k e' = false) := by
  intro es
  induction es with
  | nil => intro i _; exact ⟨none, rfl, rfl, fun _ _ h => by cases h⟩
  | cons e es ih =>
    intro i hk
    obtain ⟨a, ha⟩ := hk e List.mem_cons_self
    obtain ⟨r, h1, h2, h3⟩ := ih (i + 1) fun x hx => hk x (List.mem_cons_of_mem _ hx)
    have hs : Instr.sameNow (.int .i64) (.int .i64 k) e.key = some (k == a) := by rw [ha]; simp [Instr.sameNow]
    have hki : keyIs k e = (a == k) := by unfold keyIs; rw [ha]
    by_cases hka : k = a
    · subst hka
      have hkt : keyIs k e = true := by rw [hki]; simp
      refine ⟨some (i, e.val), ?_, ?_, ?_⟩
      · unfold Instr.findNow; rw [hs]; simp
      · simp [mget, hkt]
      rintro j v hjv
      injection hjv with hjv
      injection hjv with h4 h5
      exact ⟨0, by omega, e, rfl, hkt, by simp [hkt], fun m' _ hm => by omega⟩
    have hkf : keyIs k e = false := by rw [hki]; simpa using fun h : a = k => hka h.symm
    refine ⟨r, ?_, ?_, ?_⟩
    · unfold Instr.findNow; rw [hs, h1]
      have : (k == a) = false := by simpa using hka
      rw [this]
    · rw [h2]; simp [mget, hkf]
    rintro j v hjv
    obtain ⟨m, hm, e', he', hk', hf', hlt⟩ := h3 j v hjv
    refine ⟨m + 1, by omega, e', by simpa using he', hk', by simp [hkf, hf'], fun m' e'' hm' he'' => ?_⟩
    cases m' with
    | zero => simp at he''; rw [← he'']; exact hkf
    | succ m' => exact hlt m' e'' (by omega) (by simpa using he'')
theorem run_findKey_int {kt : TypeId} (hu : P.underlying kt = some (.int .i64)) (k : Int) (es : List MapEntry) (hk : intKeys es) :
    ∃ r, (Instr.findKey kt (.int .i64 k) es).run P w = .ok r w ∧ r.map (·.2) = mget es k ∧
    (∀ j v, r = some (j, v) → ∃ e, es[j]? = some e ∧ keyIs k e = true ∧ ∀ m' e', m' < j → es[m']? = some e' → keyIs k e' = false) := by
  obtain ⟨r, h1, h2, h3⟩ := findNow_int k es 0 hk
  refine ⟨r, by simp [Instr.findKey, run_underlying hu, h1], h2, fun j v hjv => ?_⟩
  obtain ⟨m, hm, e, he, hke, _, hlt⟩ := h3 j v hjv
  have : j = m := by omega
  subst this
  exact ⟨e, he, hke, hlt⟩
theorem run_checkKey_int {kt : TypeId} (hu : P.underlying kt = some (.int .i64)) (b : Bool) (k : Int) (d : Nat) : (Instr.checkKey b (d + 1) kt (.int .i64 k)).run P w = .ok () w := by
 simp [Instr.checkKey, run_underlying hu]
theorem run_getObj_map {b : Nat} {es : Array MapEntry} {c : Nat} (h : w.heap[b]? = some (.map es c)) : (getObj b).run P w = .ok (.map es c) w := by
 simp [getObj, Sem.run, h]
end
end Go.Mw
namespace Go.Mw
open Go.RowKit

section
variable {P : Program} {r : Option Nat} {n : Nat} {ops : Array Oper} {Q : Post} {rest : List Oper} {σ : St} {w w₀ : World} {S : Nat → Prop} {rs : List HP} {ty : TypeId} {pos : String} {after : Array Edge}
theorem Gives.makeFunc {ρ : Operand → Value} {fn : Fn} {fs cs : List Operand} {us vs : List Value} (hf : fs.map ρ = us) (hc : cs.map ρ = vs) : Gives P ρ (.makeFunc fn fs.toArray cs.toArray) ty w (.func fn us.toArray vs.toArray) w := fun _ _ _ _ => by
 simp [execOp, Instr.makeFunc, hf, hc]
theorem FL_callV {d : Nat} {y : Operand} {f : FuncId} {fs cs : List Value} {xs : List Operand} {ats : Array TypeId} {vals : List Value} {R : Value → World → Prop} [he : Enters P f] (hy : evF σ y = .func (.func f) fs.toArray cs.toArray) (hc : Rets P f (fs ++ vals ++ cs) w R)
    (hv : xs.map (evF σ) = vals) (hd : Nat.blt d n = true) (h : ∀ v w', R v w' → FL P r n ops Q rest (upd σ d v) w') :
    FL P r n ops Q ({ dst := some d, op := .call { callee := .value y, args := xs.toArray, argTypes := ats }, type := ty, pos := pos, after := after, guard := none } :: rest) σ w := fun a ha =>
  wpListIn_plain rfl fun K hK => by
    refine ⟨fun _ _ => trivial, ?_⟩
    rw [Oper.semAt_eq _ _ _ (fun _ h => by cases h), ha.eval]
    have e : (execOp (evF σ) { dst := some d, op := .call { callee := .value y, args := xs.toArray, argTypes := ats }, type := ty, pos := pos, after := after, guard := none }).run P w = .ok (.enter f (fs ++ vals ++ cs).toArray) w := by
      simp [execOp, resolve, hy, Deferred.ofValue, invoke, hv]
      rw [← he.run (fs ++ (vals ++ cs)).toArray w]
    rw [e, Oper.uponIn_enter]
    refine ⟨(fun h => by cases h), fen_calls r (Calls.mono hc fun e w'' hr => ?_)⟩
    cases e with
    | returned v => exact hK _ _ (h v w'' hr _ (ha.put (Nat.le_of_ble_eq_true hd) v))
    | _ => exact hr.elim
def loopRec (st : LoopState) (fn : FuncId) (tmps : Array Value) (ps : Array Tmp) (assign body : Code) (D : Nat) : Obj := .loop { state := st, pending := none, fn := fn, tmps := tmps, params := ps, assign := assign, body := body, defers := D }

theorem Sep.put0 {o o' : Obj} {b : Nat} (h : Sep w₀ S (Mw.obj b o :: rs) w) : Sep w₀ S (Mw.obj b o' :: rs) (w.putObj b o') := by
 have hb := h.obj At0
 have hlt := lt_of_get hb
 exact h.setObj (At0 (p := Mw.obj b o) (l := rs)) ⟨rfl, rfl, rfl, by simp [World.putObj], fun k _ hS => World.putObj_heap_other hS⟩ (World.putObj_heap_same hlt)

def Qassign (K : St → World → Prop) : Post := fun e σ w => match e with
 | .normal => K σ w
 | _ => False
theorem Qassign_normal {K : St → World → Prop} (h : K σ w) : Qassign K .normal σ w := h

end
end Go.Mw
