/-
 What an expression gives is a cell of its type. No program stands here.
-/
import Derived.Test.YtmkaahkbhdlniaaGreatDoorTx14
set_option linter.unusedVariables false
set_option linter.unusedSimpArgs false
namespace Go.Proofs.YtmkaahkbhdlniaaGreatDoor
open Go Go.Lib
set_option maxRecDepth 4000
def okC (t : TypeM) (c : CellM) : Prop := checkC t c = 0
theorem okC_iff {t : TypeM} {c : CellM} : okC t c ↔ (mayT t = true ∧ ((c.null = true ∧ t.null = true ∧ c = cellNull) ∨ (c.null = false ∧ isC t.kind c = true))) := by
 unfold okC checkC
 cases hm : mayT t
 ·simp
 ·cases hn : c.null
  ·cases hi : isC t.kind c <;> simp
  ·by_cases h : t.null = true ∧ c = cellNull
   ·simp [h]
   ·simp [h]
theorem may_kind {t : TypeM} (h : mayT t = true) : 1 ≤ t.kind ∧ t.kind ≤ 5 := of_decide_eq_true h
theorem may_of {t : TypeM} (h : 1 ≤ t.kind ∧ t.kind ≤ 5) : mayT t = true := decide_eq_true h
theorem okC_null {k : Int} (h : 1 ≤ k ∧ k ≤ 5) : okC ⟨k, true⟩ cellNull := okC_iff.2 ⟨may_of h, .inl ⟨rfl, rfl, rfl⟩⟩
theorem okC_flag (n : Bool) (b : Bool) : okC ⟨1, n⟩ (flagC b) := okC_iff.2 ⟨may_of (show (1 : Int) ≤ 1 ∧ (1 : Int) ≤ 5 by decide), .inr ⟨by cases b <;> rfl, by cases b <;> rfl⟩⟩
theorem okC_num (n : Bool) (i : Int) : okC ⟨3, n⟩ ⟨false, i, []⟩ := okC_iff.2 ⟨may_of (show (1 : Int) ≤ 3 ∧ (3 : Int) ≤ 5 by decide), .inr ⟨rfl, by simp [isC]⟩⟩
theorem bool_cases {t : TypeM} {c : CellM} (h : okC t c) (hk : t.kind = 1) : (c = cellNull ∧ t.null = true) ∨ c = flagC false ∨ c = flagC true := by
 rcases (okC_iff.1 h).2 with ⟨_, h2, h3⟩ | ⟨h1, h2⟩
 ·exact .inl ⟨h3, h2⟩
 ·right
  rw [hk] at h2
  unfold isC at h2
  rw [if_pos rfl] at h2
  obtain ⟨h3, h4, h5⟩ := of_decide_eq_true h2
  by_cases h0 : c.n = 0
  ·left; exact CellM.ext' h1 h0 h3
  ·right; exact CellM.ext' h1 (show c.n = 1 by omega) h3
theorem ok_short {t : TypeM} {c : CellM} (h : okC t c) : c.s.length ≤ 1024 := by
 rcases (okC_iff.1 h).2 with ⟨_, _, h3⟩ | ⟨h1, h2⟩
 ·rw [h3]; simp [cellNull]
 ·unfold isC at h2
  repeat' split at h2
  all_goals first
   | (have := of_decide_eq_true h2; omega)
   | (have h3 := of_decide_eq_true h2; first | (rw [h3.1]; simp) | (rw [h3]; simp))
theorem ok_nulls {t : TypeM} {c : CellM} (h : okC t c) (hn : c.null = true) : t.null = true ∧ c = cellNull := by
 rcases (okC_iff.1 h).2 with ⟨_, h2, h3⟩ | ⟨h1, h2⟩
 ·exact ⟨h2, h3⟩
 ·rw [h1] at hn; cases hn
theorem ok_wide {t t' : TypeM} {c : CellM} (h : okC t c) (hk : t'.kind = t.kind) (hn : t.null = true → t'.null = true) : okC t' c := by
 obtain ⟨h1, h2⟩ := okC_iff.1 h
 refine okC_iff.2 ⟨may_of (by rw [hk]; exact may_kind h1), ?_⟩
 rcases h2 with ⟨a, b, d⟩ | ⟨a, b⟩
 ·exact .inl ⟨a, hn b, d⟩
 ·exact .inr ⟨a, by rw [hk]; exact b⟩
theorem cmp_eq_zero {a b : CellM} (h : a.null = b.null) : cmpC a b = 0 ↔ a = b := by
 constructor
 ·intro e
  unfold cmpC at e
  rw [if_pos h] at e
  split at e
  ·cases e
  ·split at e
   ·cases e
   ·exact CellM.ext' h (by omega) (cmp_zero e)
 ·rintro rfl
  unfold cmpC
  rw [if_pos rfl, if_neg (Int.lt_irrefl _), if_neg (Int.lt_irrefl _), cmp_self]
theorem logic_eq {k : Int} {ta tb : TypeM} {a b : CellM} (ha : okC ta a) (hb : okC tb b) (hka : ta.kind = 1) (hkb : tb.kind = 1) (hk : k = 13 ∨ k = 14 ∨ k = 15) : logicG k a b = logicC k a b := by
 rcases bool_cases ha hka with ⟨rfl, _⟩ | rfl | rfl <;> rcases bool_cases hb hkb with ⟨rfl, _⟩ | rfl | rfl <;> rcases hk with rfl | rfl | rfl <;> decide
theorem logic_ok {k : Int} {ta tb : TypeM} {a b : CellM} (ha : okC ta a) (hb : okC tb b) (hka : ta.kind = 1) (hkb : tb.kind = 1) : okC ⟨1, ta.null || tb.null⟩ (logicC k a b) := by
 unfold logicC
 repeat' split
 ·exact okC_flag _ _
 ·exact okC_flag _ _
 ·rename_i h
  have : (ta.null || tb.null) = true := by
   rcases h with h | h
   ·rw [(ok_nulls ha (by rw [h]; rfl)).1]; rfl
   ·rw [(ok_nulls hb (by rw [h]; rfl)).1]; simp
  rw [this]
  exact okC_null ⟨by decide, by decide⟩
 ·exact okC_flag _ _
 ·exact okC_flag _ _
theorem null_or {ta tb : TypeM} {a b : CellM} (ha : okC ta a) (hb : okC tb b) (h : a.null = true ∨ b.null = true) : (ta.null || tb.null) = true := by
 rcases h with h | h
 ·rw [(ok_nulls ha h).1]; rfl
 ·rw [(ok_nulls hb h).1]; simp
theorem num_ok {ta tb : TypeM} {a b : CellM} {n : Int} (ha : okC ta a) (hb : okC tb b) : ∀ c, (if a.null = true ∨ b.null = true then some cellNull else numG n) = some c → okC ⟨3, ta.null || tb.null⟩ c ∧ fits c.n := by
 intro c hc
 split at hc
 ·rename_i h
  injection hc with hc
  subst hc
  rw [null_or ha hb h]
  exact ⟨okC_null (by decide), by decide, by decide⟩
 ·unfold numG at hc
  split at hc
  ·rename_i hf
   injection hc with hc
   subst hc
   have h : -9223372036854775808 ≤ n ∧ n ≤ 9223372036854775807 := of_decide_eq_true hf
   exact ⟨okC_num _ _, h⟩
  ·cases hc
theorem flag_fits (b : Bool) : fits (flagC b).n := by cases b <;> exact ⟨by decide, by decide⟩
theorem flag_ok {ta tb : TypeM} {a b : CellM} {f : Bool} (ha : okC ta a) (hb : okC tb b) : ∀ c, (if a.null = true ∨ b.null = true then some cellNull else some (flagC f)) = some c → okC ⟨1, ta.null || tb.null⟩ c ∧ fits c.n := by
 intro c hc
 split at hc
 ·rename_i h
  injection hc with hc
  subst hc
  rw [null_or ha hb h]
  exact ⟨okC_null (by decide), by decide, by decide⟩
 ·injection hc with hc
  subst hc
  exact ⟨okC_flag _ _, flag_fits _⟩
theorem logic_fits {k : Int} {a b : CellM} : fits (logicC k a b).n := by
 unfold logicC
 repeat' split
 all_goals first | exact flag_fits _ | exact ⟨by decide, by decide⟩
theorem made_typed {k : Int} {ta tb t : TypeM} {a b : CellM} (hk : 7 ≤ k ∧ k ≤ 18) (ht : madeT k ta tb = some t) (ha : okC ta a) (hb : okC tb b) (hfa : fits a.n) (hfb : fits b.n) :
    madeG k a b = madeC k a b ∧ ∀ c, madeC k a b = some c → okC t c ∧ fits c.n := by
  have hc : k = 7 ∨ k = 8 ∨ k = 9 ∨ k = 10 ∨ k = 11 ∨ k = 12 ∨ k = 13 ∨ k = 14 ∨ k = 15 ∨ k = 16 ∨ k = 17 ∨ k = 18 := by omega
  have hnum : ∀ n : Int, madeG k a b = (if a.null = true ∨ b.null = true then some cellNull else numG n) → madeC k a b = (if a.null = true ∨ b.null = true then some cellNull else numG n) → (if ta.kind = 3 ∧ tb.kind = 3 then some (⟨3, ta.null || tb.null⟩ : TypeM) else none) = some t → madeG k a b = madeC k a b ∧ ∀ c, madeC k a b = some c → okC t c ∧ fits c.n := by
    intro n h1 h2 h3
    rw [h1, h2]
    split at h3
    · injection h3 with h3
      subst h3
      exact ⟨rfl, num_ok ha hb⟩
    · cases h3
  have hlog : (k = 13 ∨ k = 14 ∨ k = 15) → (if ta.kind = 1 ∧ tb.kind = 1 then some (⟨1, ta.null || tb.null⟩ : TypeM) else none) = some t → madeG k a b = madeC k a b ∧ ∀ c, madeC k a b = some c → okC t c ∧ fits c.n := by
    intro h1 h3
    split at h3
    · rename_i hkk
      injection h3 with h3
      subst h3
      have e1 : madeG k a b = some (logicG k a b) := if_pos h1
      have e2 : madeC k a b = some (logicC k a b) := if_pos h1
      rw [e1, e2, logic_eq ha hb hkk.1 hkk.2 h1]
      refine ⟨rfl, fun c hc => ?_⟩
      injection hc with hc
      subst hc
      exact ⟨logic_ok ha hb hkk.1 hkk.2, logic_fits⟩
    · cases h3
  rcases hc with rfl | rfl | rfl | rfl | rfl | rfl | rfl | rfl | rfl | rfl | rfl | rfl
  · exact hnum (a.n + b.n) (by unfold madeG; simp) (by unfold madeC numG; simp) ht
  · exact hnum (a.n - b.n) (by unfold madeG; simp) (by unfold madeC numG; simp) ht
  · exact hnum (a.n * b.n) (by unfold madeG; simp) (by unfold madeC numG; simp) ht
  · exact hnum (-a.n) (by unfold madeG; simp) (by unfold madeC numG; simp) ht
  · have e2 : madeC 11 a b = (if a.null = true ∨ b.null = true then some cellNull else some (flagC (decide (cmpC a b = 0)))) := by unfold madeC; simp
    have e1 : madeG 11 a b = (if a.null = true ∨ b.null = true then some cellNull else some (flagC (decide (a = b)))) := by unfold madeG; simp
    have h3 : (if ta.kind = tb.kind then some (⟨1, ta.null || tb.null⟩ : TypeM) else none) = some t := ht
    split at h3
    · injection h3 with h3
      subst h3
      refine ⟨?_, by rw [e2]; exact flag_ok ha hb⟩
      rw [e1, e2]
      split
      · rfl
      · rename_i hn
        have hz := cmp_eq_zero (a := a) (b := b) (by cases h1 : a.null <;> cases h2 : b.null <;> simp [h1, h2] at hn ⊢)
        simp only [hz]
    · cases h3
  · have e2 : madeC 12 a b = (if a.null = true ∨ b.null = true then some cellNull else some (flagC (decide (cmpC a b < 0)))) := by unfold madeC; simp
    have e1 : madeG 12 a b = (if a.null = true ∨ b.null = true then some cellNull else some (flagC (decide (cmpC a b < 0)))) := by unfold madeG; simp
    have h3 : (if ta.kind = tb.kind then some (⟨1, ta.null || tb.null⟩ : TypeM) else none) = some t := ht
    split at h3
    · injection h3 with h3
      subst h3
      exact ⟨by rw [e1, e2], by rw [e2]; exact flag_ok ha hb⟩
    · cases h3
  · exact hlog (by decide) ht
  · exact hlog (by decide) ht
  · exact hlog (by decide) ht
  · have e1 : madeG 16 a b = some (flagC a.null) := by unfold madeG; simp
    have e2 : madeC 16 a b = some (flagC a.null) := by unfold madeC; simp
    have h3 : some (⟨1, false⟩ : TypeM) = some t := ht
    injection h3 with h3
    subst h3
    rw [e1, e2]
    refine ⟨rfl, fun c hc => ?_⟩
    injection hc with hc
    subst hc
    exact ⟨okC_flag _ _, flag_fits _⟩
  · have e1 : madeG 17 a b = some (if a.null = true then b else a) := by unfold madeG; simp
    have e2 : madeC 17 a b = some (if a.null = true then b else a) := by unfold madeC; simp
    have h3 : (if ta.kind = tb.kind then some (⟨ta.kind, ta.null && tb.null⟩ : TypeM) else none) = some t := ht
    split at h3
    · rename_i hkk
      injection h3 with h3
      subst h3
      rw [e1, e2]
      refine ⟨rfl, fun c hc => ?_⟩
      injection hc with hc
      subst hc
      split
      · rename_i hn
        exact ⟨ok_wide hb hkk (fun h => by show (ta.null && tb.null) = true; rw [(ok_nulls ha hn).1, h]; rfl), hfb⟩
      · rename_i hn
        refine ⟨okC_iff.2 ⟨may_of (may_kind (okC_iff.1 ha).1), .inr ?_⟩, hfa⟩
        rcases (okC_iff.1 ha).2 with ⟨h1, _⟩ | h2
        · exact absurd h1 hn
        · exact h2
    · cases h3
  · have e1 : madeG 18 a b = (if a.null = true ∨ b.null = true then some cellNull else some ⟨false, a.s.length, []⟩) := by unfold madeG; simp
    have e2 : madeC 18 a b = (if a.null = true ∨ b.null = true then some cellNull else some ⟨false, a.s.length, []⟩) := by unfold madeC; simp
    have h3 : (if ta.kind = 4 ∨ ta.kind = 5 then some (⟨3, ta.null || tb.null⟩ : TypeM) else none) = some t := ht
    split at h3
    · injection h3 with h3
      subst h3
      rw [e1, e2]
      refine ⟨rfl, fun c hc => ?_⟩
      split at hc
      · rename_i h
        injection hc with hc
        subst hc
        rw [null_or ha hb h]
        exact ⟨okC_null (by decide), by decide, by decide⟩
      · injection hc with hc
        subst hc
        have := ok_short ha
        exact ⟨okC_num _ _, by show (-9223372036854775808 : Int) ≤ a.s.length; omega, by show (a.s.length : Int) ≤ 9223372036854775807; omega⟩
    · cases h3
end Go.Proofs.YtmkaahkbhdlniaaGreatDoor
/-
 Which columns an expression uses: a rising row. No program stands here.
-/
namespace Go.Proofs.YtmkaahkbhdlniaaGreatDoor
open Go Go.Lib
theorem insertI_mem {k x : Int} : ∀ {l : List Int}, x ∈ insertI k l ↔ x = k ∨ x ∈ l
 | [] => by simp [insertI]
 | y :: l => by
  rw [insertI]
  split
  ·rw [List.mem_cons, insertI_mem, List.mem_cons]; constructor
   ·rintro (h | h | h)
    ·exact .inr (.inl h)
    ·exact .inl h
    ·exact .inr (.inr h)
   ·rintro (h | h | h)
    ·exact .inr (.inl h)
    ·exact .inl h
    ·exact .inr (.inr h)
  ·split
   ·rename_i h1 h2
    subst h2
    rw [List.mem_cons]
    constructor
    ·intro h; exact .inr h
    ·rintro (h | h)
     ·exact .inl h
     ·exact h
   ·rw [List.mem_cons]
theorem insertI_rises {k : Int} : ∀ {l : List Int}, l.Pairwise (· < ·) → (insertI k l).Pairwise (· < ·)
 | [], _ => by simp [insertI]
 | y :: l, h => by
  rw [insertI]
  obtain ⟨h1, h2⟩ := List.pairwise_cons.1 h
  split
  ·rename_i hy
   refine List.pairwise_cons.2 ⟨fun z hz => ?_, insertI_rises h2⟩
   rcases insertI_mem.1 hz with rfl | hz
   ·exact hy
   ·exact h1 z hz
  ·split
   ·exact h
   ·refine List.pairwise_cons.2 ⟨fun z hz => ?_, h⟩
    rcases List.mem_cons.1 hz with rfl | hz
    ·omega
    ·have := h1 z hz; omega
theorem usesS_fold {l : List StepM} : ∀ {a : List Int}, a.Pairwise (· < ·) → (l.foldl (fun a x => insertI x.n a) a).Pairwise (· < ·) ∧ ∀ k, k ∈ l.foldl (fun a x => insertI x.n a) a ↔ k ∈ a ∨ ∃ x ∈ l, x.n = k := by
 induction l with
 | nil => intro a h; exact ⟨h, fun k => by simp⟩
 | cons x l ih =>
  intro a h
  obtain ⟨h1, h2⟩ := ih (a := insertI x.n a) (insertI_rises h)
  refine ⟨h1, fun k => ?_⟩
  rw [List.foldl_cons, h2 k, insertI_mem]
  constructor
  ·rintro ((h | h) | ⟨y, hy, e⟩)
   ·exact .inr ⟨x, List.mem_cons_self, h.symm⟩
   ·exact .inl h
   ·exact .inr ⟨y, List.mem_cons_of_mem _ hy, e⟩
  ·rintro (h | ⟨y, hy, e⟩)
   ·exact .inl (.inr h)
   ·rcases List.mem_cons.1 hy with rfl | hy
    ·exact .inl (.inl e.symm)
    ·exact .inr ⟨y, hy, e⟩
theorem usesS_rises (l : List StepM) : (usesS l).Pairwise (· < ·) := (usesS_fold List.Pairwise.nil).1
theorem usesS_mem {l : List StepM} {k : Int} : k ∈ usesS l ↔ ∃ x ∈ l, x.kind = 1 ∧ x.n = k := by
 unfold usesS
 rw [(usesS_fold List.Pairwise.nil).2 k]
 simp only [List.not_mem_nil, false_or, List.mem_filter, decide_eq_true_eq, and_assoc]
/-- Rising rows with the same numbers are the same. -/
theorem rises_same : ∀ {a b : List Int}, a.Pairwise (· < ·) → b.Pairwise (· < ·) → (∀ k, k ∈ a ↔ k ∈ b) → a = b
 | [], [], _, _, _ => rfl
 | [], y :: b, _, _, h => absurd ((h y).2 List.mem_cons_self) (by simp)
 | x :: a, [], _, _, h => absurd ((h x).1 List.mem_cons_self) (by simp)
 | x :: a, y :: b, h1, h2, h => by
  obtain ⟨p1, p2⟩ := List.pairwise_cons.1 h1
  obtain ⟨q1, q2⟩ := List.pairwise_cons.1 h2
  have hxy : x = y := by
   rcases List.mem_cons.1 ((h x).1 List.mem_cons_self) with e | hx
   ·exact e
   rcases List.mem_cons.1 ((h y).2 List.mem_cons_self) with e | hy
   ·exact e.symm
   have := p1 y hy
   have := q1 x hx
   omega
  subst hxy
  congr 1
  refine rises_same p2 q2 fun k => ⟨fun hk => ?_, fun hk => ?_⟩
  ·rcases List.mem_cons.1 ((h k).1 (List.mem_cons_of_mem _ hk)) with rfl | hk'
   ·exact absurd (p1 k hk) (by omega)
   ·exact hk'
  ·rcases List.mem_cons.1 ((h k).2 (List.mem_cons_of_mem _ hk)) with rfl | hk'
   ·exact absurd (q1 k hk) (by omega)
   ·exact hk'
end Go.Proofs.YtmkaahkbhdlniaaGreatDoor
/-
 The document's Uses, walked.
-/
namespace Go.Proofs.YtmkaahkbhdlniaaGreatDoor
open Go Go.Mw Go.Lib
set_option maxRecDepth 4000
section
variable {w : World}
end
end Go.Proofs.YtmkaahkbhdlniaaGreatDoor
/-
 The document's word of a step, walked.
-/
namespace Go.Proofs.YtmkaahkbhdlniaaGreatDoor
open Go Go.Mw Go.Lib
set_option maxRecDepth 4000
/-- A byte of a literal, without blanks. -/
def blankB (c : UInt8) : List UInt8 := if c = 32 then [92, 117, 48, 48, 50, 48] else [c]
theorem blank_succ {q : List UInt8} {i : Nat} {c : UInt8} (h : q[i]? = some c) : (q.take (i + 1)).flatMap blankB = (q.take i).flatMap blankB ++ blankB c := by
 rw [List.take_add_one, h, List.flatMap_append]; simp
theorem blank_len (q : List UInt8) : (q.flatMap blankB).length ≤ 6 * q.length := len_flat (f := blankB) (fun c => by unfold blankB; split <;> simp) q
theorem quote_len (s : List UInt8) : (quoteL s).length ≤ 6 * s.length + 2 := by
  have h := len_flat (f := quoteB) (k := 6) (fun c => by unfold quoteB; repeat' split
                                                         all_goals simp) s
  unfold quoteL
  simp only [List.length_cons, List.length_append, List.length_nil]
  omega
theorem piece_one {q : List UInt8} {i : Nat} {c : UInt8} (h : q[i]? = some c) : (q.take (i + 1)).drop i = [c] := by
 have hlt := get_lt h
 rw [List.take_add_one, h, List.drop_append, List.drop_of_length_le (by rw [List.length_take]; omega), List.length_take, Nat.min_eq_left (by omega), Nat.sub_self]
 rfl
theorem sign_get {k : Int} (h : 7 ≤ k) (h2 : k ≤ 18) : signsW[(k - 7).toNat]? = some (signsW.getD (k - 7).toNat []) := by
 rw [List.getD_eq_getElem?_getD]
 have : (k - 7).toNat < signsW.length := by show _ < 12; omega
 rw [List.getElem?_eq_getElem this]; rfl
section
variable {w : World}
theorem word_ok22 (x : StepM) (hm : mayS x = true) (hf : fits x.n) : Rets Tryz.prog 68 [agg (stepCells x)] w fun v w' => v = str (wordS x) ∧ Kept noB w w' := by
 have H := Sep.start0 w
 obtain ⟨res, hres⟩ : ∃ res, res = wordS x := ⟨_, rfl⟩
 rw [← hres]
 unfold wordS at hres
 unfold mayS at hm
 have hil := itoa_len hf.1 hf.2
 refine rets1 Tryz.func68 rfl rfl rfl rfl ?_
 refine Sr ?_
 refine FL_box H (cs := stepCells x) rfl (h := ?_)
 intro b0 w2 H2 k0
 refine Am ?_
 refine Qn ?_
 refine FW_seq ?_
 refine Sr ?_
 refine Vf ?_
 refine Ld H2 ?_
 refine Qn ?_
 refine FW_block ?_
 refine Sr ?_
 refine Ve ?_
 refine Am ?_
 refine Qn ?_
 refine FW_condP rfl (fun hc8 => ?_) (fun hc8 => ?_)
 ·rw [if_pos hc8] at hres
  refine Sr ?_
  refine Vf ?_
  refine Ld H2 ?_
  refine FL_callQ H2 (digits_ok9 x.n hf) (h := fun w13 H13 k12 => ?_)
  refine FL_val (Gives.catT rfl rfl (by first | omega | (simp; done) | (simp; omega))) rfl ?_
  refine Am ?_
  refine Qn ?_
  refine Rb (Qfn_ret (hR := ?_))
  exact ⟨by rw [hres]; rfl, H13.kept⟩
 ·rw [if_neg hc8] at hres hm
  refine Sr ?_
  refine Ve ?_
  refine Am ?_
  refine Qn ?_
  refine FW_condP rfl (fun hc20 => ?_) (fun hc20 => ?_)
  ·rw [if_pos hc20] at hres
   refine Sr ?_
   refine Vf ?_
   refine Ld H2 ?_
   refine FL_callQ H2 (digits_ok9 x.n hf) (h := fun w25 H25 k24 => ?_)
   refine Am ?_
   refine Qn ?_
   refine Rb (Qfn_ret (hR := ?_))
   exact ⟨by rw [hres]; rfl, H25.kept⟩
  ·rw [if_neg hc20] at hres hm
   refine Sr ?_
   refine Ve ?_
   refine Am ?_
   refine Qn ?_
   refine FW_condP rfl (fun hc31 => ?_) (fun hc31 => ?_)
   ·rw [if_pos hc31] at hres hm
    simp only [decide_eq_true_eq] at hm
    obtain ⟨_, hn0, hn1⟩ := hm
    have hg : [falseW, trueW][x.n.toNat]? = some res := by
     rw [hres]
     rcases (by omega : x.n = 0 ∨ x.n = 1) with e | e
     ·rw [e]; rfl
     ·rw [e]; rfl
    have htn : ((x.n.toNat : Nat) : Int) = x.n := Int.toNat_of_nonneg hn0
    refine Sr ?_
    refine FL_buildSlice H2 (xs := [_, _]) (out := [falseW, trueW].flatMap textCells) (Elems.one rfl rfl (Elems.one rfl rfl Elems.nil)) rfl rfl rfl (fun b1 w34 H34 k33 => ?_)
    have hR : Rd w34 (some ⟨b1, 0, none⟩) textCells 1 [falseW, trueW] := Sep.blkRow H34 At0 rfl
    refine Vf ?_
    refine Ld H34 ?_
    refine FL_val (Gives.idxR (l := [falseW, trueW]) (enc := textCells) (i := x.n.toNat) rfl (by rw [htn]; rfl) hR (get_lt hg)) rfl ?_
    refine FL_val (Gives.loadW (f := 0) (i := x.n.toNat) rfl hR hg rfl) rfl ?_
    refine Am ?_
    refine Qn ?_
    refine Rb (Qfn_ret (hR := ?_))
    exact ⟨rfl, H34.kept⟩
   ·rw [if_neg hc31] at hres hm
    refine Sr ?_
    refine Ve ?_
    refine Am ?_
    refine Qn ?_
    refine FW_condP rfl (fun hc44 => ?_) (fun hc44 => ?_)
    ·rw [if_pos hc44] at hres hm
     simp only [decide_eq_true_eq] at hm
     obtain ⟨_, hlen, hval⟩ := hm
     have hql := quote_len x.s
     refine Sr ?_
     refine Vf ?_
     refine Ld H2 ?_
     refine FL_callQ H2 (quote_ok4 x.s (by omega)) (h := fun w49 H49 k48 => ?_)
     rw [show quoteP x.s = (quoteL x.s, 0) by unfold quoteP; rw [if_pos hval]]
     refine Mv ?_
     refine Vx ?_
     refine Vx ?_
     refine Am ?_
     refine Am ?_
     refine Nx ?_
     refine Am ?_
     refine Qn ?_
     refine FW_seq ?_
     refine Sr ?_
     refine Am ?_
     refine Qn ?_
     refine FW_block ?_
     refine FW_loop' (fun i : Nat => [(1, .pointer (some ⟨b0, 0, none⟩)), (3, str (quoteL x.s)), (5, str (((quoteL x.s).take i).flatMap blankB)), (6, I i)]) (fun i w' => i ≤ (quoteL x.s).length ∧ Sep w noB [blk b0 (stepCells x) 57] w') (fun i _ => (quoteL x.s).length - i) 0 ⟨rfl, rfl, rfl, rfl, trivial⟩ ⟨Nat.zero_le _, H49⟩ (fun i τ w58 hI => ?_)
     obtain ⟨hi, H58⟩ := hI
     have hbl := blank_len ((quoteL x.s).take i)
     rw [List.length_take, Nat.min_eq_left hi] at hbl
     try simp only [upds, like, upd_ds, und_ds]
     refine FW_seq ?_
     refine Sr ?_
     refine Mv ?_
     refine Mv ?_
     refine Vt ?_
     refine Vl ?_
     refine Qn ?_
     refine FW_condP rfl (fun hc63 => ?_) (fun hc63 => ?_)
     ·have hlt : i < (quoteL x.s).length := by omega
      obtain ⟨c, hc⟩ := get_some hlt
      have hcd : (quoteL x.s).getD i 0 = c := getD_of hc
      have hsucc := blank_succ hc
      refine Sk ?_
      refine FW_seq ?_
      refine FW_block ?_
      refine Sr ?_
      refine Mv ?_
      refine Mv ?_
      refine FL_val (Gives.idxD rfl rfl (by omega)) rfl ?_
      rw [hcd]
      refine Ve ?_
      refine Qn ?_
      refine FW_condP rfl (fun hc69 => ?_) (fun hc69 => ?_)
      ·have hc32 : c = 32 := by rw [← UInt8.toNat_inj]; show c.toNat = 32; omega
       rw [hc32, show blankB 32 = [92, 117, 48, 48, 50, 48] from rfl] at hsucc
       refine FW_region ?_
       refine Mv ?_
       refine FL_val (Gives.catT rfl rfl (by simp only [List.length_cons, List.length_nil]; omega)) rfl ?_
       refine Am ?_
       refine FL_nil (Qblk_normal (Qseq_normal ?_))
       refine FW_region ?_
       refine Mv ?_
       refine FL_val (Gives.addI rfl rfl rfl (by omega)) rfl ?_
       refine Am ?_
       refine FL_nil ?_
       exact Qround_normal (i + 1) ⟨rfl, rfl, by rw [hsucc]; rfl, rfl, trivial⟩ ⟨by omega, H58⟩ (by omega)
      ·have hc32 : ¬ c = 32 := fun e => by subst e; exact hc69 rfl
       rw [show blankB c = [c] from if_neg hc32] at hsucc
       refine FW_region ?_
       refine Mv ?_
       refine Mv ?_
       refine Mv ?_
       refine Mv ?_
       refine FL_val (Gives.addI (c := ((i + 1 : Nat) : Int)) rfl rfl (by omega) (by omega)) rfl ?_
       refine FL_val (Gives.sliceBothT rfl rfl rfl (by omega) (by omega)) rfl ?_
       rw [piece_one hc]
       refine FL_val (Gives.catT rfl rfl (by simp only [List.length_cons, List.length_nil]; omega)) rfl ?_
       refine Am ?_
       refine FL_nil (Qblk_normal (Qseq_normal ?_))
       refine FW_region ?_
       refine Mv ?_
       refine FL_val (Gives.addI rfl rfl rfl (by omega)) rfl ?_
       refine Am ?_
       refine FL_nil ?_
       exact Qround_normal (i + 1) ⟨rfl, rfl, by rw [hsucc]; rfl, rfl, trivial⟩ ⟨by omega, H58⟩ (by omega)
     ·have hil2 : i = (quoteL x.s).length := by omega
      rw [hil2, List.take_length]
      refine FW_exit (Qseq_exit (Qround_exit (Qblk_exit (Qseq_normal ?_))))
      refine Sr ?_
      refine Mv ?_
      refine Am ?_
      refine Qn ?_
      refine Rb (Qfn_ret (hR := ?_))
      exact ⟨by rw [hres]; rfl, H58.kept⟩
    ·rw [if_neg hc44] at hres hm
     refine Sr ?_
     refine Ve ?_
     refine Am ?_
     refine Qn ?_
     refine FW_condP rfl (fun hc98 => ?_) (fun hc98 => ?_)
     ·rw [if_pos hc98] at hres hm
      simp only [decide_eq_true_eq] at hm
      obtain ⟨_, hlen⟩ := hm
      have hhl := hexL_length x.s
      refine Sr ?_
      refine Vf ?_
      refine Ld H2 ?_
      refine FL_callQ H2 (hex_ok9 x.s (by omega)) (h := fun w103 H103 k102 => ?_)
      refine FL_val (Gives.catT rfl rfl (by first | omega | (simp; done) | (simp; omega))) rfl ?_
      refine Am ?_
      refine Qn ?_
      refine Rb (Qfn_ret (hR := ?_))
      exact ⟨by rw [hres]; rfl, H103.kept⟩
     ·rw [if_neg hc98] at hres hm
      refine Sr ?_
      refine Ve ?_
      refine Am ?_
      refine Qn ?_
      refine FW_condP rfl (fun hc110 => ?_) (fun hc110 => ?_)
      ·rw [if_pos hc110] at hres hm
       simp only [decide_eq_true_eq] at hm
       obtain ⟨_, hn⟩ := hm
       have hn' : x.n = 1 ∨ x.n = 3 ∨ x.n = 4 ∨ x.n = 5 := by omega
       refine Sr ?_
       refine Vf ?_
       refine Ld H2 ?_
       refine FL_callS (word_ok11 _) (h := ?_)
       refine FL_val (Gives.catT rfl rfl (by unfold kindW; (repeat' split) <;> simp)) rfl ?_
       refine Am ?_
       refine Qn ?_
       refine Rb (Qfn_ret (hR := ?_))
       exact ⟨by rw [hres]; rcases hn' with e | e | e | e <;> rw [e] <;> rfl, H2.kept⟩
      ·rw [if_neg hc110] at hres hm
       simp only [decide_eq_true_eq] at hm
       obtain ⟨h7, h18, _, _⟩ := hm
       have hg := sign_get h7 h18
       rw [← hres] at hg
       have htn : (((x.kind - 7).toNat : Nat) : Int) = x.kind - 7 := Int.toNat_of_nonneg (by omega)
       refine FW_skip (Qblk_normal (Qseq_normal ?_))
       refine Sr ?_
       refine FL_buildSlice H2 (xs := [_, _, _, _, _, _, _, _, _, _, _, _]) (out := signsW.flatMap textCells) (Elems.one rfl rfl (Elems.one rfl rfl (Elems.one rfl rfl (Elems.one rfl rfl (Elems.one rfl rfl (Elems.one rfl rfl (Elems.one rfl rfl (Elems.one rfl rfl (Elems.one rfl rfl (Elems.one rfl rfl (Elems.one rfl rfl (Elems.one rfl rfl Elems.nil)))))))))))) rfl rfl rfl (fun b1 w120 H120 k119 => ?_)
       have hR : Rd w120 (some ⟨b1, 0, none⟩) textCells 1 signsW := Sep.blkRow H120 At0 rfl
       refine Vf ?_
       refine Ld H120 ?_
       refine FL_val (Gives.subI (c := (((x.kind - 7).toNat : Nat) : Int)) rfl rfl (by omega) (by omega)) rfl ?_
       refine FL_val (Gives.idxR (l := signsW) (enc := textCells) rfl rfl hR (get_lt hg)) rfl ?_
       refine FL_val (Gives.loadW (f := 0) rfl hR hg rfl) rfl ?_
       refine Am ?_
       refine Qn ?_
       refine FW_ret (Qfn_ret (hR := ?_))
       exact ⟨rfl, H120.kept⟩
end
end Go.Proofs.YtmkaahkbhdlniaaGreatDoor
/-
 The document's Text of steps, and the step of a word, walked.
-/
namespace Go.Proofs.YtmkaahkbhdlniaaGreatDoor
open Go Go.Mw Go.Lib
set_option maxRecDepth 4000
theorem join_snoc (sep : UInt8) (w : List UInt8) : ∀ ws : List (List UInt8), ws ≠ [] → joinW sep (ws ++ [w]) = joinW sep ws ++ [sep] ++ w
 | [], h => absurd rfl h
 | [a], _ => by simp [joinW]
 | a :: b :: ws, _ => by
  have ih := join_snoc sep w (b :: ws) (by simp)
  show a ++ sep :: joinW sep (b :: ws ++ [w]) = a ++ sep :: joinW sep (b :: ws) ++ [sep] ++ w
  rw [ih]; simp
theorem find_at {α : Type} {l : List α} {p : α → Bool} {j : Nat} {x : α} (h : ∀ (i : Nat) y, i < j → l[i]? = some y → p y = false) (hj : l[j]? = some x) (hp : p x = true) : l.findIdx? p = some j := by
 rw [List.findIdx?_eq_some_iff_getElem]
 obtain ⟨h1, h2⟩ := List.getElem?_eq_some_iff.1 hj
 refine ⟨h1, by rw [h2]; exact hp, fun i hi => ?_⟩
 rw [h i _ hi (List.getElem?_eq_getElem (by omega))]; simp
theorem findNone {α : Type} {l : List α} {p : α → Bool} (h : ∀ (i : Nat) y, l[i]? = some y → p y = false) : l.findIdx? p = none := by
 rw [List.findIdx?_eq_none_iff]
 intro x hx
 obtain ⟨i, hi⟩ := List.getElem?_of_mem hx
 exact h i x hi
theorem word_len {x : StepM} (h : mayS x = true) (hf : fits x.n) : (wordS x).length ≤ 6146 := (len_word h hf.1 hf.2).1
attribute [local irreducible] mayS wordS
section
variable {w : World}
theorem textR_ok22 {l : List StepM} {vl : Value} (hl : RowIn w vl stepCells 3 l) (hx : ∀ x ∈ l, fits x.n) : Rets Tryz.prog 35 [vl] w fun v w' => v = .tuple #[str (textS l).1, I (textS l).2] ∧ Kept noB w w' := by
  obtain ⟨C, n, rfl, ⟨hn, hn'⟩, hC⟩ := hl
  have H := Sep.start0 w
  obtain ⟨res, hres⟩ : ∃ res, res = textS l := ⟨_, rfl⟩
  rw [← hres]
  unfold textS at hres
  refine rets1 Tryz.func35 rfl rfl rfl rfl ?_
  refine Sr ?_
  refine Am ?_
  refine Am ?_
  refine Qn ?_
  refine FW_seq ?_
  refine Sr ?_
  refine Mv ?_
  refine Vs ?_
  refine Vg ?_
  refine Qn ?_
  refine FW_condP rfl (fun hc6 => ?_) (fun hc6 => ?_)
  · rw [if_pos (by omega)] at hres
    refine Sr ?_
    refine Am ?_
    refine Am ?_
    refine Qn ?_
    refine Rs (Qfn_ret (hR := ?_))
    exact ⟨by rw [hres]; rfl, H.kept⟩
  · rw [if_neg (by omega)] at hres
    refine Sk ?_
    refine Sr ?_
    refine Am ?_
    refine Qn ?_
    refine FW_seq ?_
    refine Sr ?_
    refine Am ?_
    refine Qn ?_
    refine FW_block ?_
    refine FW_loop' (fun i : Nat => [(0, .slice C l.length n), (4, str (joinW 32 ((l.take i).map wordS))), (5, I i)]) (fun i w' => (i ≤ l.length ∧ ∀ (j : Nat) x, j < i → l[j]? = some x → mayS x = true) ∧ Sep w noB [] w') (fun i _ => l.length - i) 0 ⟨rfl, rfl, rfl, trivial⟩ ⟨⟨Nat.zero_le _, fun j x hj => by omega⟩, H⟩ (fun i τ w15 hI => ?_)
    obtain ⟨⟨hi, hmay⟩, H15⟩ := hI
    have hlen : (joinW 32 ((l.take i).map wordS)).length ≤ (6146 + 1) * i := by
      have := len_join 32 (k := 6146) (ws := (l.take i).map wordS) fun w hw => by
        obtain ⟨x, hxm, rfl⟩ := List.mem_map.1 hw
        obtain ⟨j, hj⟩ := List.getElem?_of_mem hxm
        rw [List.getElem?_take] at hj
        split at hj
        · exact word_len (hmay j x (by omega) hj) (hx x (List.mem_of_getElem? hj))
        · cases hj
      rw [List.length_map, List.length_take, Nat.min_eq_left hi] at this
      exact this
    try simp only [upds, like, upd_ds, und_ds]
    refine FW_seq ?_
    refine Sr ?_
    refine Mv ?_
    refine Mv ?_
    refine Vs ?_
    refine Vl ?_
    refine Qn ?_
    refine FW_condP rfl (fun hc20 => ?_) (fun hc20 => ?_)
    · have hlt : i < l.length := by omega
      obtain ⟨x, hx'⟩ := get_some hlt
      have hfx := hx x (List.mem_of_getElem? hx')
      have htk : (l.take (i + 1)).map wordS = (l.take i).map wordS ++ [wordS x] := by rw [List.take_add_one, hx', List.map_append]; rfl
      refine Sk ?_
      refine FW_seq ?_
      refine FW_block ?_
      refine FW_seq ?_
      refine Sr ?_
      refine Mv ?_
      refine Mv ?_
      refine FL_val (Gives.idxR rfl rfl (by assumption) (by omega)) rfl ?_
      refine FL_val (Gives.loadE0 rfl H15 (by assumption) (by assumption)) rfl ?_
      refine FL_callQ H15 (mayS_ok22 x) (h := fun w27 H27 k26 => ?_)
      refine FL_val (Gives.not rfl) rfl ?_
      refine Qn ?_
      refine FW_cond rfl (fun hc29 => ?_) (fun hc29 => ?_)
      · have hno : l.all mayS = false := by
          rw [← Bool.not_eq_true, List.all_eq_true]
          intro h
          have := h x (List.mem_of_getElem? hx')
          rw [this] at hc29; cases hc29
        rw [if_pos hno] at hres
        refine Sr ?_
        refine Am ?_
        refine Am ?_
        refine Qn ?_
        refine Rs (Qblk_ret (Qseq_ret (Qround_ret (Qblk_ret (Qseq_ret (Qfn_ret (hR := ?_)))))))
        exact ⟨by rw [hres]; rfl, H27.kept⟩
      · have hmx : mayS x = true := by simpa using hc29
        refine Sk ?_
        refine FW_seq ?_
        refine Sr ?_
        refine Mv ?_
        refine Vg ?_
        refine Qn ?_
        refine FW_condP rfl (fun hc37 => ?_) (fun hc37 => ?_)
        · have hne : (l.take i).map wordS ≠ [] := fun e => by
            have := congrArg List.length e
            rw [List.length_map, List.length_take, List.length_nil] at this
            omega
          have hj := join_snoc 32 (wordS x) _ hne
          rw [← htk] at hj
          refine FW_region ?_
          refine Mv ?_
          refine FL_val (Gives.catT rfl rfl (by simp only [List.length_cons, List.length_nil]; omega)) rfl ?_
          refine Am ?_
          refine Qn ?_
          refine FW_region ?_
          refine Mv ?_
          refine Mv ?_
          refine Mv ?_
          refine FL_val (Gives.idxR rfl rfl (by assumption) (by omega)) rfl ?_
          refine FL_val (Gives.loadE0 rfl H27 (by assumption) (by assumption)) rfl ?_
          refine FL_callQ H27 (word_ok22 x hmx hfx) (h := fun w48 H48 k47 => ?_)
          have hwl := word_len hmx hfx
          refine FL_val (Gives.catT rfl rfl (by first | omega | (simp only [List.length_append, List.length_cons, List.length_nil]; omega))) rfl ?_
          refine Am ?_
          refine FL_nil (Qblk_normal (Qseq_normal ?_))
          refine FW_region ?_
          refine Mv ?_
          refine FL_val (Gives.addI rfl rfl rfl (by omega)) rfl ?_
          refine Am ?_
          refine FL_nil ?_
          exact Qround_normal (i + 1) ⟨rfl, by rw [hj]; rfl, rfl, trivial⟩ ⟨⟨by omega, fun j y hj hy => by
          by_cases e : j = i
          · subst e; rw [hx'] at hy; injection hy with hy; rw [← hy]; exact hmx
          · exact hmay j y (by omega) hy⟩, H48⟩ (by omega)
        · have hi0 : i = 0 := by omega
          subst hi0
          have hj : joinW 32 ((l.take (0 + 1)).map wordS) = [] ++ wordS x := by rw [htk]; rfl
          refine Sk ?_
          refine FW_region ?_
          refine Mv ?_
          refine Mv ?_
          refine Mv ?_
          refine FL_val (Gives.idxR rfl rfl (by assumption) (by omega)) rfl ?_
          refine FL_val (Gives.loadE0 rfl H27 (by assumption) (by assumption)) rfl ?_
          refine FL_callQ H27 (word_ok22 x hmx hfx) (h := fun w62 H62 k61 => ?_)
          have hwl := word_len hmx hfx
          refine FL_val (Gives.catT rfl rfl (by first | omega | (simp only [List.length_append, List.length_cons, List.length_nil]; omega))) rfl ?_
          refine Am ?_
          refine FL_nil (Qblk_normal (Qseq_normal ?_))
          refine FW_region ?_
          refine Mv ?_
          refine FL_val (Gives.addI rfl rfl rfl (by omega)) rfl ?_
          refine Am ?_
          refine FL_nil ?_
          exact Qround_normal 1 ⟨rfl, by rw [hj]; rfl, rfl, trivial⟩ ⟨⟨by omega, fun j y hj hy => by
          have : j = 0 := by omega
          subst this; rw [hx'] at hy; injection hy with hy; rw [← hy]; exact hmx⟩, H62⟩ (by omega)
    · have hil : i = l.length := by omega
      have hall : l.all mayS = true := List.all_eq_true.2 fun x hxm => by
        obtain ⟨j, hj⟩ := List.getElem?_of_mem hxm
        exact hmay j x (by have := get_lt hj; omega) hj
      rw [if_neg (by rw [hall]; simp)] at hres
      rw [hil, List.take_length]
      refine FW_exit (Qseq_exit (Qround_exit (Qblk_exit (Qseq_normal ?_))))
      refine Sr ?_
      refine Mv ?_
      refine Am ?_
      refine Am ?_
      refine Qn ?_
      refine FW_ret (Qfn_ret (hR := ?_))
      exact ⟨by rw [hres]; rfl, H15.kept⟩
end
end Go.Proofs.YtmkaahkbhdlniaaGreatDoor
