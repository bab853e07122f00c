/-
 What an expression gives is a cell of its type. No program stands here.
-/
import Derived.Test.YtmkaahkbhdlniaaGreatDoorAg9
set_option linter.unusedVariables false
set_option linter.unusedSimpArgs false
namespace Go.Proofs.YtmkaahkbhdlniaaGreatDoor
open Go Go.Lib
set_option maxRecDepth 4000
def okC (t : TypeM) (c : CellM) : Prop := checkC t c = 0
theorem okC_iff {t : TypeM} {c : CellM} : okC t c ↔ (mayT t = true ∧ ((c.null = true ∧ t.null = true ∧ c = cellNull) ∨ (c.null = false ∧ isC t.kind c = true))) := by
 unfold okC checkC
 cases hm : mayT t
 ·simp
 ·cases hn : c.null
  ·cases hi : isC t.kind c <;> simp
  ·by_cases h : t.null = true ∧ c = cellNull
   ·simp [h]
   ·simp [h]
theorem may_kind {t : TypeM} (h : mayT t = true) : 1 ≤ t.kind ∧ t.kind ≤ 5 := of_decide_eq_true h
theorem may_of {t : TypeM} (h : 1 ≤ t.kind ∧ t.kind ≤ 5) : mayT t = true := decide_eq_true h
theorem okC_null {k : Int} (h : 1 ≤ k ∧ k ≤ 5) : okC ⟨k, true⟩ cellNull := okC_iff.2 ⟨may_of h, .inl ⟨rfl, rfl, rfl⟩⟩
theorem okC_flag (n : Bool) (b : Bool) : okC ⟨1, n⟩ (flagC b) := okC_iff.2 ⟨may_of (show (1 : Int) ≤ 1 ∧ (1 : Int) ≤ 5 by decide), .inr ⟨by cases b <;> rfl, by cases b <;> rfl⟩⟩
theorem okC_num (n : Bool) (i : Int) : okC ⟨3, n⟩ ⟨false, i, []⟩ := okC_iff.2 ⟨may_of (show (1 : Int) ≤ 3 ∧ (3 : Int) ≤ 5 by decide), .inr ⟨rfl, by simp [isC]⟩⟩
theorem bool_cases {t : TypeM} {c : CellM} (h : okC t c) (hk : t.kind = 1) : (c = cellNull ∧ t.null = true) ∨ c = flagC false ∨ c = flagC true := by
 rcases (okC_iff.1 h).2 with ⟨_, h2, h3⟩ | ⟨h1, h2⟩
 ·exact .inl ⟨h3, h2⟩
 ·right
  rw [hk] at h2
  unfold isC at h2
  rw [if_pos rfl] at h2
  obtain ⟨h3, h4, h5⟩ := of_decide_eq_true h2
  by_cases h0 : c.n = 0
  ·left; exact CellM.ext' h1 h0 h3
  ·right; exact CellM.ext' h1 (show c.n = 1 by omega) h3
theorem ok_short {t : TypeM} {c : CellM} (h : okC t c) : c.s.length ≤ 1024 := by
 rcases (okC_iff.1 h).2 with ⟨_, _, h3⟩ | ⟨h1, h2⟩
 ·rw [h3]; simp [cellNull]
 ·unfold isC at h2
  repeat' split at h2
  all_goals first
   | (have := of_decide_eq_true h2; omega)
   | (have h3 := of_decide_eq_true h2; first | (rw [h3.1]; simp) | (rw [h3]; simp))
theorem ok_nulls {t : TypeM} {c : CellM} (h : okC t c) (hn : c.null = true) : t.null = true ∧ c = cellNull := by
 rcases (okC_iff.1 h).2 with ⟨_, h2, h3⟩ | ⟨h1, h2⟩
 ·exact ⟨h2, h3⟩
 ·rw [h1] at hn; cases hn
theorem ok_wide {t t' : TypeM} {c : CellM} (h : okC t c) (hk : t'.kind = t.kind) (hn : t.null = true → t'.null = true) : okC t' c := by
 obtain ⟨h1, h2⟩ := okC_iff.1 h
 refine okC_iff.2 ⟨may_of (by rw [hk]; exact may_kind h1), ?_⟩
 rcases h2 with ⟨a, b, d⟩ | ⟨a, b⟩
 ·exact .inl ⟨a, hn b, d⟩
 ·exact .inr ⟨a, by rw [hk]; exact b⟩
theorem cmp_eq_zero {a b : CellM} (h : a.null = b.null) : cmpC a b = 0 ↔ a = b := by
 constructor
 ·intro e
  unfold cmpC at e
  rw [if_pos h] at e
  split at e
  ·cases e
  ·split at e
   ·cases e
   ·exact CellM.ext' h (by omega) (cmp_zero e)
 ·rintro rfl
  unfold cmpC
  rw [if_pos rfl, if_neg (Int.lt_irrefl _), if_neg (Int.lt_irrefl _), cmp_self]
theorem logic_eq {k : Int} {ta tb : TypeM} {a b : CellM} (ha : okC ta a) (hb : okC tb b) (hka : ta.kind = 1) (hkb : tb.kind = 1) (hk : k = 13 ∨ k = 14 ∨ k = 15) : logicG k a b = logicC k a b := by
 rcases bool_cases ha hka with ⟨rfl, _⟩ | rfl | rfl <;> rcases bool_cases hb hkb with ⟨rfl, _⟩ | rfl | rfl <;> rcases hk with rfl | rfl | rfl <;> decide
theorem logic_ok {k : Int} {ta tb : TypeM} {a b : CellM} (ha : okC ta a) (hb : okC tb b) (hka : ta.kind = 1) (hkb : tb.kind = 1) : okC ⟨1, ta.null || tb.null⟩ (logicC k a b) := by
 unfold logicC
 repeat' split
 ·exact okC_flag _ _
 ·exact okC_flag _ _
 ·rename_i h
  have : (ta.null || tb.null) = true := by
   rcases h with h | h
   ·rw [(ok_nulls ha (by rw [h]; rfl)).1]; rfl
   ·rw [(ok_nulls hb (by rw [h]; rfl)).1]; simp
  rw [this]
  exact okC_null ⟨by decide, by decide⟩
 ·exact okC_flag _ _
 ·exact okC_flag _ _
theorem null_or {ta tb : TypeM} {a b : CellM} (ha : okC ta a) (hb : okC tb b) (h : a.null = true ∨ b.null = true) : (ta.null || tb.null) = true := by
 rcases h with h | h
 ·rw [(ok_nulls ha h).1]; rfl
 ·rw [(ok_nulls hb h).1]; simp
theorem num_ok {ta tb : TypeM} {a b : CellM} {n : Int} (ha : okC ta a) (hb : okC tb b) : ∀ c, (if a.null = true ∨ b.null = true then some cellNull else numG n) = some c → okC ⟨3, ta.null || tb.null⟩ c ∧ fits c.n := by
 intro c hc
 split at hc
 ·rename_i h
  injection hc with hc
  subst hc
  rw [null_or ha hb h]
  exact ⟨okC_null (by decide), by decide, by decide⟩
 ·unfold numG at hc
  split at hc
  ·rename_i hf
   injection hc with hc
   subst hc
   have h : -9223372036854775808 ≤ n ∧ n ≤ 9223372036854775807 := of_decide_eq_true hf
   exact ⟨okC_num _ _, h⟩
  ·cases hc
theorem flag_fits (b : Bool) : fits (flagC b).n := by cases b <;> exact ⟨by decide, by decide⟩
theorem flag_ok {ta tb : TypeM} {a b : CellM} {f : Bool} (ha : okC ta a) (hb : okC tb b) : ∀ c, (if a.null = true ∨ b.null = true then some cellNull else some (flagC f)) = some c → okC ⟨1, ta.null || tb.null⟩ c ∧ fits c.n := by
 intro c hc
 split at hc
 ·rename_i h
  injection hc with hc
  subst hc
  rw [null_or ha hb h]
  exact ⟨okC_null (by decide), by decide, by decide⟩
 ·injection hc with hc
  subst hc
  exact ⟨okC_flag _ _, flag_fits _⟩
theorem logic_fits {k : Int} {a b : CellM} : fits (logicC k a b).n := by
 unfold logicC
 repeat' split
 all_goals first | exact flag_fits _ | exact ⟨by decide, by decide⟩
theorem made_typed {k : Int} {ta tb t : TypeM} {a b : CellM} (hk : 7 ≤ k ∧ k ≤ 18) (ht : madeT k ta tb = some t) (ha : okC ta a) (hb : okC tb b) (hfa : fits a.n) (hfb : fits b.n) :
    madeG k a b = madeC k a b ∧ ∀ c, madeC k a b = some c → okC t c ∧ fits c.n := by
  have hc : k = 7 ∨ k = 8 ∨ k = 9 ∨ k = 10 ∨ k = 11 ∨ k = 12 ∨ k = 13 ∨ k = 14 ∨ k = 15 ∨ k = 16 ∨ k = 17 ∨ k = 18 := by omega
  have hnum : ∀ n : Int, madeG k a b = (if a.null = true ∨ b.null = true then some cellNull else numG n) → madeC k a b = (if a.null = true ∨ b.null = true then some cellNull else numG n) → (if ta.kind = 3 ∧ tb.kind = 3 then some (⟨3, ta.null || tb.null⟩ : TypeM) else none) = some t → madeG k a b = madeC k a b ∧ ∀ c, madeC k a b = some c → okC t c ∧ fits c.n := by
    intro n h1 h2 h3
    rw [h1, h2]
    split at h3
    · injection h3 with h3
      subst h3
      exact ⟨rfl, num_ok ha hb⟩
    · cases h3
  have hlog : (k = 13 ∨ k = 14 ∨ k = 15) → (if ta.kind = 1 ∧ tb.kind = 1 then some (⟨1, ta.null || tb.null⟩ : TypeM) else none) = some t → madeG k a b = madeC k a b ∧ ∀ c, madeC k a b = some c → okC t c ∧ fits c.n := by
    intro h1 h3
    split at h3
    · rename_i hkk
      injection h3 with h3
      subst h3
      have e1 : madeG k a b = some (logicG k a b) := if_pos h1
      have e2 : madeC k a b = some (logicC k a b) := if_pos h1
      rw [e1, e2, logic_eq ha hb hkk.1 hkk.2 h1]
      refine ⟨rfl, fun c hc => ?_⟩
      injection hc with hc
      subst hc
      exact ⟨logic_ok ha hb hkk.1 hkk.2, logic_fits⟩
    · cases h3
  rcases hc with rfl | rfl | rfl | rfl | rfl | rfl | rfl | rfl | rfl | rfl | rfl | rfl
  · exact hnum (a.n + b.n) (by unfold madeG; simp) (by unfold madeC numG; simp) ht
  · exact hnum (a.n - b.n) (by unfold madeG; simp) (by unfold madeC numG; simp) ht
  · exact hnum (a.n * b.n) (by unfold madeG; simp) (by unfold madeC numG; simp) ht
  · exact hnum (-a.n) (by unfold madeG; simp) (by unfold madeC numG; simp) ht
  · have e2 : madeC 11 a b = (if a.null = true ∨ b.null = true then some cellNull else some (flagC (decide (cmpC a b = 0)))) := by unfold madeC; simp
    have e1 : madeG 11 a b = (if a.null = true ∨ b.null = true then some cellNull else some (flagC (decide (a = b)))) := by unfold madeG; simp
    have h3 : (if ta.kind = tb.kind then some (⟨1, ta.null || tb.null⟩ : TypeM) else none) = some t := ht
    split at h3
    · injection h3 with h3
      subst h3
      refine ⟨?_, by rw [e2]; exact flag_ok ha hb⟩
      rw [e1, e2]
      split
      · rfl
      · rename_i hn
        have hz := cmp_eq_zero (a := a) (b := b) (by cases h1 : a.null <;> cases h2 : b.null <;> simp [h1, h2] at hn ⊢)
        simp only [hz]
    · cases h3
  · have e2 : madeC 12 a b = (if a.null = true ∨ b.null = true then some cellNull else some (flagC (decide (cmpC a b < 0)))) := by unfold madeC; simp
    have e1 : madeG 12 a b = (if a.null = true ∨ b.null = true then some cellNull else some (flagC (decide (cmpC a b < 0)))) := by unfold madeG; simp
    have h3 : (if ta.kind = tb.kind then some (⟨1, ta.null || tb.null⟩ : TypeM) else none) = some t := ht
    split at h3
    · injection h3 with h3
      subst h3
      exact ⟨by rw [e1, e2], by rw [e2]; exact flag_ok ha hb⟩
    · cases h3
  · exact hlog (by decide) ht
  · exact hlog (by decide) ht
  · exact hlog (by decide) ht
  · have e1 : madeG 16 a b = some (flagC a.null) := by unfold madeG; simp
    have e2 : madeC 16 a b = some (flagC a.null) := by unfold madeC; simp
    have h3 : some (⟨1, false⟩ : TypeM) = some t := ht
    injection h3 with h3
    subst h3
    rw [e1, e2]
    refine ⟨rfl, fun c hc => ?_⟩
    injection hc with hc
    subst hc
    exact ⟨okC_flag _ _, flag_fits _⟩
  · have e1 : madeG 17 a b = some (if a.null = true then b else a) := by unfold madeG; simp
    have e2 : madeC 17 a b = some (if a.null = true then b else a) := by unfold madeC; simp
    have h3 : (if ta.kind = tb.kind then some (⟨ta.kind, ta.null && tb.null⟩ : TypeM) else none) = some t := ht
    split at h3
    · rename_i hkk
      injection h3 with h3
      subst h3
      rw [e1, e2]
      refine ⟨rfl, fun c hc => ?_⟩
      injection hc with hc
      subst hc
      split
      · rename_i hn
        exact ⟨ok_wide hb hkk (fun h => by show (ta.null && tb.null) = true; rw [(ok_nulls ha hn).1, h]; rfl), hfb⟩
      · rename_i hn
        refine ⟨okC_iff.2 ⟨may_of (may_kind (okC_iff.1 ha).1), .inr ?_⟩, hfa⟩
        rcases (okC_iff.1 ha).2 with ⟨h1, _⟩ | h2
        · exact absurd h1 hn
        · exact h2
    · cases h3
  · have e1 : madeG 18 a b = (if a.null = true ∨ b.null = true then some cellNull else some ⟨false, a.s.length, []⟩) := by unfold madeG; simp
    have e2 : madeC 18 a b = (if a.null = true ∨ b.null = true then some cellNull else some ⟨false, a.s.length, []⟩) := by unfold madeC; simp
    have h3 : (if ta.kind = 4 ∨ ta.kind = 5 then some (⟨3, ta.null || tb.null⟩ : TypeM) else none) = some t := ht
    split at h3
    · injection h3 with h3
      subst h3
      rw [e1, e2]
      refine ⟨rfl, fun c hc => ?_⟩
      split at hc
      · rename_i h
        injection hc with hc
        subst hc
        rw [null_or ha hb h]
        exact ⟨okC_null (by decide), by decide, by decide⟩
      · injection hc with hc
        subst hc
        have := ok_short ha
        exact ⟨okC_num _ _, by show (-9223372036854775808 : Int) ≤ a.s.length; omega, by show (a.s.length : Int) ≤ 9223372036854775807; omega⟩
    · cases h3
end Go.Proofs.YtmkaahkbhdlniaaGreatDoor
/-
 Which columns an expression uses: a rising row. No program stands here.
-/
namespace Go.Proofs.YtmkaahkbhdlniaaGreatDoor
open Go Go.Lib
theorem insertI_mem {k x : Int} : ∀ {l : List Int}, x ∈ insertI k l ↔ x = k ∨ x ∈ l
 | [] => by simp [insertI]
 | y :: l => by
  rw [insertI]
  split
  ·rw [List.mem_cons, insertI_mem, List.mem_cons]; constructor
   ·rintro (h | h | h)
    ·exact .inr (.inl h)
    ·exact .inl h
    ·exact .inr (.inr h)
   ·rintro (h | h | h)
    ·exact .inr (.inl h)
    ·exact .inl h
    ·exact .inr (.inr h)
  ·split
   ·rename_i h1 h2
    subst h2
    rw [List.mem_cons]
    constructor
    ·intro h; exact .inr h
    ·rintro (h | h)
     ·exact .inl h
     ·exact h
   ·rw [List.mem_cons]
theorem insertI_rises {k : Int} : ∀ {l : List Int}, l.Pairwise (· < ·) → (insertI k l).Pairwise (· < ·)
 | [], _ => by simp [insertI]
 | y :: l, h => by
  rw [insertI]
  obtain ⟨h1, h2⟩ := List.pairwise_cons.1 h
  split
  ·rename_i hy
   refine List.pairwise_cons.2 ⟨fun z hz => ?_, insertI_rises h2⟩
   rcases insertI_mem.1 hz with rfl | hz
   ·exact hy
   ·exact h1 z hz
  ·split
   ·exact h
   ·refine List.pairwise_cons.2 ⟨fun z hz => ?_, h⟩
    rcases List.mem_cons.1 hz with rfl | hz
    ·omega
    ·have := h1 z hz; omega
theorem usesS_fold {l : List StepM} : ∀ {a : List Int}, a.Pairwise (· < ·) → (l.foldl (fun a x => insertI x.n a) a).Pairwise (· < ·) ∧ ∀ k, k ∈ l.foldl (fun a x => insertI x.n a) a ↔ k ∈ a ∨ ∃ x ∈ l, x.n = k := by
 induction l with
 | nil => intro a h; exact ⟨h, fun k => by simp⟩
 | cons x l ih =>
  intro a h
  obtain ⟨h1, h2⟩ := ih (a := insertI x.n a) (insertI_rises h)
  refine ⟨h1, fun k => ?_⟩
  rw [List.foldl_cons, h2 k, insertI_mem]
  constructor
  ·rintro ((h | h) | ⟨y, hy, e⟩)
   ·exact .inr ⟨x, List.mem_cons_self, h.symm⟩
   ·exact .inl h
   ·exact .inr ⟨y, List.mem_cons_of_mem _ hy, e⟩
  ·rintro (h | ⟨y, hy, e⟩)
   ·exact .inl (.inr h)
   ·rcases List.mem_cons.1 hy with rfl | hy
    ·exact .inl (.inl e.symm)
    ·exact .inr ⟨y, hy, e⟩
theorem usesS_rises (l : List StepM) : (usesS l).Pairwise (· < ·) := (usesS_fold List.Pairwise.nil).1
theorem usesS_mem {l : List StepM} {k : Int} : k ∈ usesS l ↔ ∃ x ∈ l, x.kind = 1 ∧ x.n = k := by
 unfold usesS
 rw [(usesS_fold List.Pairwise.nil).2 k]
 simp only [List.not_mem_nil, false_or, List.mem_filter, decide_eq_true_eq, and_assoc]
/-- Rising rows with the same numbers are the same. -/
theorem rises_same : ∀ {a b : List Int}, a.Pairwise (· < ·) → b.Pairwise (· < ·) → (∀ k, k ∈ a ↔ k ∈ b) → a = b
 | [], [], _, _, _ => rfl
 | [], y :: b, _, _, h => absurd ((h y).2 List.mem_cons_self) (by simp)
 | x :: a, [], _, _, h => absurd ((h x).1 List.mem_cons_self) (by simp)
 | x :: a, y :: b, h1, h2, h => by
  obtain ⟨p1, p2⟩ := List.pairwise_cons.1 h1
  obtain ⟨q1, q2⟩ := List.pairwise_cons.1 h2
  have hxy : x = y := by
   rcases List.mem_cons.1 ((h x).1 List.mem_cons_self) with e | hx
   ·exact e
   rcases List.mem_cons.1 ((h y).2 List.mem_cons_self) with e | hy
   ·exact e.symm
   have := p1 y hy
   have := q1 x hx
   omega
  subst hxy
  congr 1
  refine rises_same p2 q2 fun k => ⟨fun hk => ?_, fun hk => ?_⟩
  ·rcases List.mem_cons.1 ((h k).1 (List.mem_cons_of_mem _ hk)) with rfl | hk'
   ·exact absurd (p1 k hk) (by omega)
   ·exact hk'
  ·rcases List.mem_cons.1 ((h k).2 (List.mem_cons_of_mem _ hk)) with rfl | hk'
   ·exact absurd (q1 k hk) (by omega)
   ·exact hk'
end Go.Proofs.YtmkaahkbhdlniaaGreatDoor
/-
 The document's Uses, walked.
-/
namespace Go.Proofs.YtmkaahkbhdlniaaGreatDoor
open Go Go.Mw Go.Lib
set_option maxRecDepth 4000
section
variable {w : World}
end
end Go.Proofs.YtmkaahkbhdlniaaGreatDoor
/-
 The document's word of a step, walked.
-/
namespace Go.Proofs.YtmkaahkbhdlniaaGreatDoor
open Go Go.Mw Go.Lib
set_option maxRecDepth 4000
theorem quote_len (s : List UInt8) : (quoteL s).length ≤ 6 * s.length + 2 := by
  have h := len_flat (f := quoteB) (k := 6) (fun c => by unfold quoteB; repeat' split
                                                         all_goals simp) s
  unfold quoteL
  simp only [List.length_cons, List.length_append, List.length_nil]
  omega
theorem sign_get {k : Int} (h : 7 ≤ k) (h2 : k ≤ 18) : signsW[(k - 7).toNat]? = some (signsW.getD (k - 7).toNat []) := by
 rw [List.getD_eq_getElem?_getD]
 have : (k - 7).toNat < signsW.length := by show _ < 12; omega
 rw [List.getElem?_eq_getElem this]; rfl
section
variable {w : World}
end
end Go.Proofs.YtmkaahkbhdlniaaGreatDoor
/-
 The document's Text of steps, and the step of a word, walked.
-/
namespace Go.Proofs.YtmkaahkbhdlniaaGreatDoor
open Go Go.Mw Go.Lib
set_option maxRecDepth 4000
theorem find_at {α : Type} {l : List α} {p : α → Bool} {j : Nat} {x : α} (h : ∀ (i : Nat) y, i < j → l[i]? = some y → p y = false) (hj : l[j]? = some x) (hp : p x = true) : l.findIdx? p = some j := by
 rw [List.findIdx?_eq_some_iff_getElem]
 obtain ⟨h1, h2⟩ := List.getElem?_eq_some_iff.1 hj
 refine ⟨h1, by rw [h2]; exact hp, fun i hi => ?_⟩
 rw [h i _ hi (List.getElem?_eq_getElem (by omega))]; simp
theorem findNone {α : Type} {l : List α} {p : α → Bool} (h : ∀ (i : Nat) y, l[i]? = some y → p y = false) : l.findIdx? p = none := by
 rw [List.findIdx?_eq_none_iff]
 intro x hx
 obtain ⟨i, hi⟩ := List.getElem?_of_mem hx
 exact h i x hi
theorem word_len {x : StepM} (h : mayS x = true) (hf : fits x.n) : (wordS x).length ≤ 6146 := (len_word h hf.1 hf.2).1
attribute [local irreducible] mayS wordS
section
variable {w : World}
end
end Go.Proofs.YtmkaahkbhdlniaaGreatDoor
/-
 The document's step of a word, walked.
-/
namespace Go.Proofs.YtmkaahkbhdlniaaGreatDoor
open Go Go.Mw Go.Lib
set_option maxRecDepth 4000
attribute [local irreducible] unqL mayS wordS
section
variable {w : World}
end
end Go.Proofs.YtmkaahkbhdlniaaGreatDoor
/-
 The document's Parse, walked.
-/
namespace Go.Proofs.YtmkaahkbhdlniaaGreatDoor
open Go Go.Mw Go.Lib
set_option maxRecDepth 4000
theorem count_le_len (s : List UInt8) (c : UInt8) : s.count c ≤ s.length := List.count_le_length
attribute [local irreducible] mayS wordS splitW readAll
section
variable {w : World}
end
end Go.Proofs.YtmkaahkbhdlniaaGreatDoor
/-
 Searches in rows, walked: slices.IndexFunc, ContainsFunc, Index, Contains.
-/
namespace Go.Proofs.YtmkaahkbhdlniaaGreatDoor
open Go Go.Mw Go.Lib
set_option maxRecDepth 4000
/-- A function value that answers whether p, whatever has been made since. -/
def PredIn {α : Type} (w : World) (fv : Value) (enc : α → Value) (p : α → Bool) : Prop :=
 ∃ f fs cs, fv = .func (.func f) (List.toArray fs) (List.toArray cs) ∧ Enters Tryz.prog f ∧ ∀ x w', Kept noB w w' → Rets Tryz.prog f (fs ++ [enc x] ++ cs) w' fun v w'' => v = .bool (p x) ∧ Kept noB w' w''
theorem PredIn.keep {α : Type} {w w' : World} {fv : Value} {enc : α → Value} {p : α → Bool} (h : PredIn w fv enc p) (hk : Kept noB w w') : PredIn w' fv enc p := by
 obtain ⟨f, fs, cs, h1, h2, h3⟩ := h
 exact ⟨f, fs, cs, h1, h2, fun x w'' hk' => h3 x w'' (hk.trans0 hk')⟩
def idxI (o : Option Nat) : Int := match o with | none => -1 | some i => i
theorem idx_any {α : Type} {l : List α} {p : α → Bool} : decide (idxI (l.findIdx? p) ≥ 0) = l.any p := by
 cases h : l.findIdx? p with
 | none =>
  rw [List.findIdx?_eq_none_iff] at h
  show decide ((-1 : Int) ≥ 0) = _
  rw [eq_comm, show decide ((-1 : Int) ≥ 0) = false from rfl, List.any_eq_false]
  intro x hx
  rw [h x hx]; simp
 | some i =>
  obtain ⟨h1, h2, _⟩ := List.findIdx?_eq_some_iff_getElem.1 h
  show decide ((i : Int) ≥ 0) = _
  rw [eq_comm, decide_eq_true (show (i : Int) ≥ 0 by omega), List.any_eq_true]
  exact ⟨_, List.getElem_mem h1, h2⟩
section
variable {w : World}
theorem columnsF_ok {l : List ColM} {v fv : Value} {p : ColM → Bool} (hl : RowIn w v colCells 7 l) (hp : PredIn w fv (fun x => agg (colCells x)) p) : Rets Tryz.prog 96 [v, fv] w fun v w' => v = I (idxI (l.findIdx? p)) ∧ Kept noB w w' := by
 obtain ⟨A, m, rfl, ⟨hm, hm'⟩, hA⟩ := hl
 obtain ⟨f, fs, cs, rfl, hen, hcall⟩ := hp
 have H := Sep.start0 w
 refine rets2 Tryz.func96 rfl rfl rfl rfl ?_
 refine Sr ?_
 refine Am ?_
 refine Qn ?_
 refine FW_seq ?_
 refine Sr ?_
 refine Mv ?_
 refine Vs ?_
 refine Mv ?_
 refine Qn ?_
 refine FW_block ?_
 refine FW_loop' (fun i : Nat => [(0, .slice A l.length m), (1, .func (.func f) fs.toArray cs.toArray), (7, I l.length), (8, I i)]) (fun i w' => (i ≤ l.length ∧ ∀ (j : Nat) y, j < i → l[j]? = some y → p y = false) ∧ Sep w noB [] w') (fun i _ => l.length - i) 0 ⟨rfl, rfl, rfl, rfl, trivial⟩ ⟨⟨Nat.zero_le _, fun j y hj => by omega⟩, H⟩ (fun i τ w6 hI => ?_)
 obtain ⟨⟨hi, hbe⟩, H6⟩ := hI
 try simp only [upds, like, upd_ds, und_ds]
 refine Sr ?_
 refine Vl ?_
 refine Qn ?_
 refine FW_seq ?_
 refine FW_condP rfl (fun hc8 => ?_) (fun hc8 => ?_)
 ·have hlt : i < l.length := by omega
  obtain ⟨x, hx⟩ := get_some hlt
  refine Sk ?_
  refine FW_seq ?_
  refine FW_block ?_
  refine Sr ?_
  refine Mv ?_
  refine Am ?_
  refine Nx ?_
  refine Mv ?_
  refine Mv ?_
  refine Mv ?_
  refine FL_val (Gives.idxR rfl rfl (by assumption) (by omega)) rfl ?_
  refine FL_val (Gives.loadE0 rfl H6 (by assumption) (by assumption)) rfl ?_
  refine FL_callV rfl (hcall x _ H6.kept) rfl rfl (fun v' w18 hv => ?_)
  obtain ⟨rfl, hkk⟩ := hv
  have H18 := H6.keep hkk
  refine Qn ?_
  refine FW_cond rfl (fun hc19 => ?_) (fun hc19 => ?_)
  ·have hfin : l.findIdx? p = some i := find_at hbe hx hc19
   refine Sr ?_
   refine Mv ?_
   refine Am ?_
   refine Qn ?_
   refine Rb (Qround_ret (Qblk_ret (Qseq_ret (Qfn_ret (hR := ?_)))))
   exact ⟨by rw [hfin]; rfl, H18.kept⟩
  ·have hpx := hc19
   refine FW_skip (Qblk_normal (Qseq_normal ?_))
   refine FW_region ?_
   refine FL_val (Gives.addI rfl rfl rfl (by omega)) rfl ?_
   refine Mv ?_
   refine FL_nil ?_
   exact Qround_normal (i + 1) ⟨rfl, rfl, rfl, rfl, trivial⟩ ⟨⟨by omega, fun j y hj hy => by
   by_cases e : j = i
   ·subst e; rw [hx] at hy; injection hy with hy; rw [← hy]; exact Bool.not_eq_true _ ▸ hpx
   ·exact hbe j y (by omega) hy⟩, H18⟩ (by omega)
 ·have hil : i = l.length := by omega
  have hfin : l.findIdx? p = none := findNone fun j y hy => hbe j y (by have := get_lt hy; omega) hy
  refine FW_exit (Qseq_exit (Qround_exit (Qblk_exit (Qseq_normal ?_))))
  refine Sr ?_
  refine Am ?_
  refine Qn ?_
  refine FW_ret (Qfn_ret (hR := ?_))
  exact ⟨by rw [hfin]; rfl, H6.kept⟩
theorem typesF_ok {l : List TypeM} {v fv : Value} {p : TypeM → Bool} (hl : RowIn w v typeCells 2 l) (hp : PredIn w fv (fun x => agg (typeCells x)) p) : Rets Tryz.prog 154 [v, fv] w fun v w' => v = I (idxI (l.findIdx? p)) ∧ Kept noB w w' := by
 obtain ⟨A, m, rfl, ⟨hm, hm'⟩, hA⟩ := hl
 obtain ⟨f, fs, cs, rfl, hen, hcall⟩ := hp
 have H := Sep.start0 w
 refine rets2 Tryz.func154 rfl rfl rfl rfl ?_
 refine Sr ?_
 refine Am ?_
 refine Qn ?_
 refine FW_seq ?_
 refine Sr ?_
 refine Mv ?_
 refine Vs ?_
 refine Mv ?_
 refine Qn ?_
 refine FW_block ?_
 refine FW_loop' (fun i : Nat => [(0, .slice A l.length m), (1, .func (.func f) fs.toArray cs.toArray), (7, I l.length), (8, I i)]) (fun i w' => (i ≤ l.length ∧ ∀ (j : Nat) y, j < i → l[j]? = some y → p y = false) ∧ Sep w noB [] w') (fun i _ => l.length - i) 0 ⟨rfl, rfl, rfl, rfl, trivial⟩ ⟨⟨Nat.zero_le _, fun j y hj => by omega⟩, H⟩ (fun i τ w6 hI => ?_)
 obtain ⟨⟨hi, hbe⟩, H6⟩ := hI
 try simp only [upds, like, upd_ds, und_ds]
 refine Sr ?_
 refine Vl ?_
 refine Qn ?_
 refine FW_seq ?_
 refine FW_condP rfl (fun hc8 => ?_) (fun hc8 => ?_)
 ·have hlt : i < l.length := by omega
  obtain ⟨x, hx⟩ := get_some hlt
  refine Sk ?_
  refine FW_seq ?_
  refine FW_block ?_
  refine Sr ?_
  refine Mv ?_
  refine Am ?_
  refine Nx ?_
  refine Mv ?_
  refine Mv ?_
  refine Mv ?_
  refine FL_val (Gives.idxR rfl rfl (by assumption) (by omega)) rfl ?_
  refine FL_val (Gives.loadE0 rfl H6 (by assumption) (by assumption)) rfl ?_
  refine FL_callV rfl (hcall x _ H6.kept) rfl rfl (fun v' w18 hv => ?_)
  obtain ⟨rfl, hkk⟩ := hv
  have H18 := H6.keep hkk
  refine Qn ?_
  refine FW_cond rfl (fun hc19 => ?_) (fun hc19 => ?_)
  ·have hfin : l.findIdx? p = some i := find_at hbe hx hc19
   refine Sr ?_
   refine Mv ?_
   refine Am ?_
   refine Qn ?_
   refine Rb (Qround_ret (Qblk_ret (Qseq_ret (Qfn_ret (hR := ?_)))))
   exact ⟨by rw [hfin]; rfl, H18.kept⟩
  ·have hpx := hc19
   refine FW_skip (Qblk_normal (Qseq_normal ?_))
   refine FW_region ?_
   refine FL_val (Gives.addI rfl rfl rfl (by omega)) rfl ?_
   refine Mv ?_
   refine FL_nil ?_
   exact Qround_normal (i + 1) ⟨rfl, rfl, rfl, rfl, trivial⟩ ⟨⟨by omega, fun j y hj hy => by
   by_cases e : j = i
   ·subst e; rw [hx] at hy; injection hy with hy; rw [← hy]; exact Bool.not_eq_true _ ▸ hpx
   ·exact hbe j y (by omega) hy⟩, H18⟩ (by omega)
 ·have hil : i = l.length := by omega
  have hfin : l.findIdx? p = none := findNone fun j y hy => hbe j y (by have := get_lt hy; omega) hy
  refine FW_exit (Qseq_exit (Qround_exit (Qblk_exit (Qseq_normal ?_))))
  refine Sr ?_
  refine Am ?_
  refine Qn ?_
  refine FW_ret (Qfn_ret (hR := ?_))
  exact ⟨by rw [hfin]; rfl, H6.kept⟩
end
end Go.Proofs.YtmkaahkbhdlniaaGreatDoor
/-
 Searches in rows, walked: slices.ContainsFunc, Index, Contains.
-/
namespace Go.Proofs.YtmkaahkbhdlniaaGreatDoor
open Go Go.Mw Go.Lib
set_option maxRecDepth 4000
section
variable {w : World}
theorem typesAny_ok {l : List TypeM} {v fv : Value} {p : TypeM → Bool} (hl : RowIn w v typeCells 2 l) (hp : PredIn w fv (fun x => agg (typeCells x)) p) : Rets Tryz.prog 83 [v, fv] w fun v w' => v = .bool (l.any p) ∧ Kept noB w w' := by
 have H := Sep.start0 w
 refine rets2 Tryz.func83 rfl rfl rfl rfl ?_
 refine Sr ?_
 refine Am ?_
 refine Nx ?_
 refine Mv ?_
 refine Mv ?_
 refine FL_callQ H (typesF_ok (hl.keep H.kept) (hp.keep H.kept)) (h := fun w5 H5 k4 => ?_)
 refine FL_val (Gives.geq rfl rfl) rfl ?_
 refine Am ?_
 refine Qn ?_
 refine FW_ret (Qfn_ret (hR := ?_))
 exact ⟨by rw [← idx_any]; rfl, H5.kept⟩
theorem intsI_ok {l : List (Int)} {v : Value} (x : Int) (hl : RowIn w v intCells 1 l) : Rets Tryz.prog 155 [v, I x] w fun v w' => v = I (idxI (l.findIdx? fun y => decide (x = y))) ∧ Kept noB w w' := by
 obtain ⟨A, m, rfl, ⟨hm, hm'⟩, hA⟩ := hl
 have H := Sep.start0 w
 obtain ⟨p, hp⟩ : ∃ p : Int → Bool, p = fun y => decide (x = y) := ⟨_, rfl⟩
 rw [← hp]
 refine rets2 Tryz.func155 rfl rfl rfl rfl ?_
 refine Sr ?_
 refine Am ?_
 refine Qn ?_
 refine FW_seq ?_
 refine Sr ?_
 refine Mv ?_
 refine Vs ?_
 refine Mv ?_
 refine Qn ?_
 refine FW_block ?_
 refine FW_loop' (fun i : Nat => [(0, .slice A l.length m), (1, I x), (7, I l.length), (8, I i)]) (fun i w' => (i ≤ l.length ∧ ∀ (j : Nat) y, j < i → l[j]? = some y → p y = false) ∧ Sep w noB [] w') (fun i _ => l.length - i) 0 ⟨rfl, rfl, rfl, rfl, trivial⟩ ⟨⟨Nat.zero_le _, fun j y hj => by omega⟩, H⟩ (fun i τ w6 hI => ?_)
 obtain ⟨⟨hi, hbe⟩, H6⟩ := hI
 try simp only [upds, like, upd_ds, und_ds]
 refine Sr ?_
 refine Vl ?_
 refine Qn ?_
 refine FW_seq ?_
 refine FW_condP rfl (fun hc8 => ?_) (fun hc8 => ?_)
 ·have hlt : i < l.length := by omega
  obtain ⟨y, hy⟩ := get_some hlt
  refine Sk ?_
  refine FW_seq ?_
  refine FW_block ?_
  refine Sr ?_
  refine Mv ?_
  refine Am ?_
  refine Nx ?_
  refine Mv ?_
  refine Mv ?_
  refine Mv ?_
  refine FL_val (Gives.idxR rfl rfl (by assumption) (by omega)) rfl ?_
  refine FL_val (Gives.loadE1 rfl H6 (by assumption) (by assumption) rfl) rfl ?_
  refine Ve ?_
  refine Qn ?_
  refine FW_condP rfl (fun hc18 => ?_) (fun hc18 => ?_)
  ·have hfin : l.findIdx? p = some i := find_at hbe hy (by rw [hp]; simpa using hc18)
   refine Sr ?_
   refine Mv ?_
   refine Am ?_
   refine Qn ?_
   refine Rb (Qround_ret (Qblk_ret (Qseq_ret (Qfn_ret (hR := ?_)))))
   exact ⟨by rw [hfin]; rfl, H6.kept⟩
  ·have hpx : p y = false := by rw [hp]; simpa using hc18
   refine FW_skip (Qblk_normal (Qseq_normal ?_))
   refine FW_region ?_
   refine FL_val (Gives.addI rfl rfl rfl (by omega)) rfl ?_
   refine Mv ?_
   refine FL_nil ?_
   exact Qround_normal (i + 1) ⟨rfl, rfl, rfl, rfl, trivial⟩ ⟨⟨by omega, fun j z hj hz => by
   by_cases e : j = i
   ·subst e; rw [hy] at hz; injection hz with hz; rw [← hz]; exact hpx
   ·exact hbe j z (by omega) hz⟩, H6⟩ (by omega)
 ·have hil : i = l.length := by omega
  have hfin : l.findIdx? p = none := findNone fun j y hy => hbe j y (by have := get_lt hy; omega) hy
  refine FW_exit (Qseq_exit (Qround_exit (Qblk_exit (Qseq_normal ?_))))
  refine Sr ?_
  refine Am ?_
  refine Qn ?_
  refine FW_ret (Qfn_ret (hR := ?_))
  exact ⟨by rw [hfin]; rfl, H6.kept⟩
theorem textsI_ok {l : List (List UInt8)} {v : Value} (x : List UInt8) (hl : RowIn w v textCells 1 l) : Rets Tryz.prog 141 [v, str x] w fun v w' => v = I (idxI (l.findIdx? fun y => decide (x = y))) ∧ Kept noB w w' := by
 obtain ⟨A, m, rfl, ⟨hm, hm'⟩, hA⟩ := hl
 have H := Sep.start0 w
 obtain ⟨p, hp⟩ : ∃ p : List UInt8 → Bool, p = fun y => decide (x = y) := ⟨_, rfl⟩
 rw [← hp]
 refine rets2 Tryz.func141 rfl rfl rfl rfl ?_
 refine Sr ?_
 refine Am ?_
 refine Qn ?_
 refine FW_seq ?_
 refine Sr ?_
 refine Mv ?_
 refine Vs ?_
 refine Mv ?_
 refine Qn ?_
 refine FW_block ?_
 refine FW_loop' (fun i : Nat => [(0, .slice A l.length m), (1, str x), (7, I l.length), (8, I i)]) (fun i w' => (i ≤ l.length ∧ ∀ (j : Nat) y, j < i → l[j]? = some y → p y = false) ∧ Sep w noB [] w') (fun i _ => l.length - i) 0 ⟨rfl, rfl, rfl, rfl, trivial⟩ ⟨⟨Nat.zero_le _, fun j y hj => by omega⟩, H⟩ (fun i τ w6 hI => ?_)
 obtain ⟨⟨hi, hbe⟩, H6⟩ := hI
 try simp only [upds, like, upd_ds, und_ds]
 refine Sr ?_
 refine Vl ?_
 refine Qn ?_
 refine FW_seq ?_
 refine FW_condP rfl (fun hc8 => ?_) (fun hc8 => ?_)
 ·have hlt : i < l.length := by omega
  obtain ⟨y, hy⟩ := get_some hlt
  refine Sk ?_
  refine FW_seq ?_
  refine FW_block ?_
  refine Sr ?_
  refine Mv ?_
  refine Am ?_
  refine Nx ?_
  refine Mv ?_
  refine Mv ?_
  refine Mv ?_
  refine FL_val (Gives.idxR rfl rfl (by assumption) (by omega)) rfl ?_
  refine FL_val (Gives.loadE1 rfl H6 (by assumption) (by assumption) rfl) rfl ?_
  refine FL_val (Gives.eqlT rfl rfl) rfl ?_
  refine Qn ?_
  refine FW_condP rfl (fun hc18 => ?_) (fun hc18 => ?_)
  ·have hfin : l.findIdx? p = some i := find_at hbe hy (by rw [hp]; simpa using hc18)
   refine Sr ?_
   refine Mv ?_
   refine Am ?_
   refine Qn ?_
   refine Rb (Qround_ret (Qblk_ret (Qseq_ret (Qfn_ret (hR := ?_)))))
   exact ⟨by rw [hfin]; rfl, H6.kept⟩
  ·have hpx : p y = false := by rw [hp]; simpa using hc18
   refine FW_skip (Qblk_normal (Qseq_normal ?_))
   refine FW_region ?_
   refine FL_val (Gives.addI rfl rfl rfl (by omega)) rfl ?_
   refine Mv ?_
   refine FL_nil ?_
   exact Qround_normal (i + 1) ⟨rfl, rfl, rfl, rfl, trivial⟩ ⟨⟨by omega, fun j z hj hz => by
   by_cases e : j = i
   ·subst e; rw [hy] at hz; injection hz with hz; rw [← hz]; exact hpx
   ·exact hbe j z (by omega) hz⟩, H6⟩ (by omega)
 ·have hil : i = l.length := by omega
  have hfin : l.findIdx? p = none := findNone fun j y hy => hbe j y (by have := get_lt hy; omega) hy
  refine FW_exit (Qseq_exit (Qround_exit (Qblk_exit (Qseq_normal ?_))))
  refine Sr ?_
  refine Am ?_
  refine Qn ?_
  refine FW_ret (Qfn_ret (hR := ?_))
  exact ⟨by rw [hfin]; rfl, H6.kept⟩
theorem cellsI_ok {l : List (CellM)} {v : Value} (x : CellM) (hl : RowIn w v cellCells 3 l) : Rets Tryz.prog 203 [v, agg (cellCells x)] w fun v w' => v = I (idxI (l.findIdx? fun y => decide (x = y))) ∧ Kept noB w w' := by
 obtain ⟨A, m, rfl, ⟨hm, hm'⟩, hA⟩ := hl
 have H := Sep.start0 w
 obtain ⟨p, hp⟩ : ∃ p : CellM → Bool, p = fun y => decide (x = y) := ⟨_, rfl⟩
 rw [← hp]
 refine rets2 Tryz.func203 rfl rfl rfl rfl ?_
 refine Sr ?_
 refine FL_box H (h := ?_)
 intro b1 w2 H2 k1
 refine Am ?_
 refine Qn ?_
 refine FW_seq ?_
 refine Sr ?_
 refine Mv ?_
 refine Vs ?_
 refine Mv ?_
 refine Qn ?_
 refine FW_block ?_
 refine FW_loop' (fun i : Nat => [(0, .slice A l.length m), (3, .pointer (some ⟨b1, 0, none⟩)), (7, I l.length), (8, I i)]) (fun i w' => (i ≤ l.length ∧ ∀ (j : Nat) y, j < i → l[j]? = some y → p y = false) ∧ Sep w noB [blk b1 (cellCells x) 34] w') (fun i _ => l.length - i) 0 ⟨rfl, rfl, rfl, rfl, trivial⟩ ⟨⟨Nat.zero_le _, fun j y hj => by omega⟩, H2⟩ (fun i τ w8 hI => ?_)
 obtain ⟨⟨hi, hbe⟩, H8⟩ := hI
 try simp only [upds, like, upd_ds, und_ds]
 refine Sr ?_
 refine Vl ?_
 refine Qn ?_
 refine FW_seq ?_
 refine FW_condP rfl (fun hc10 => ?_) (fun hc10 => ?_)
 ·have hlt : i < l.length := by omega
  obtain ⟨y, hy⟩ := get_some hlt
  refine Sk ?_
  refine FW_seq ?_
  refine FW_block ?_
  refine Sr ?_
  refine Mv ?_
  refine Am ?_
  refine Qn ?_
  refine FW_seq ?_
  refine FW_drawS rfl H8 (h := fun hok14 w16 H16 => ?_)
  refine FGloadAll hok14 0 H16 (h := ?_)
  refine FGmove hok14 1 (h := ?_)
  refine FGmove hok14 2 (h := ?_)
  refine FGp hok14 3 rfl rfl (fun _ => (Gives.idxR rfl rfl (by assumption) (by omega))) (by kernel_rfl) ?_
  refine FGl hok14 4 rfl rfl (Gives.loadE0 rfl H16 (by assumption) (by assumption)) (by kernel_rfl) ?_
  refine FGp hok14 5 rfl rfl (fun _ => (Gives.eqlG (enc := cellCells) _ _ rfl rfl)) (by kernel_rfl) ?_
  refine FG_end hok14 (by kernel_rfl) ?_
  refine Qseq_normal ?_
  refine FW_condP rfl (fun hc21 => ?_) (fun hc21 => ?_)
  ·have hfin : l.findIdx? p = some i := find_at hbe hy (by rw [hp]; simpa using hc21)
   refine Sr ?_
   refine Mv ?_
   refine Am ?_
   refine Qn ?_
   refine Rb (Qround_ret (Qblk_ret (Qseq_ret (Qfn_ret (hR := ?_)))))
   exact ⟨by rw [hfin]; rfl, H16.kept⟩
  ·have hpx : p y = false := by rw [hp]; simpa using hc21
   refine FW_skip (Qblk_normal (Qseq_normal ?_))
   refine FW_region ?_
   refine FL_val (Gives.addI rfl rfl rfl (by omega)) rfl ?_
   refine Mv ?_
   refine FL_nil ?_
   exact Qround_normal (i + 1) ⟨rfl, rfl, rfl, rfl, trivial⟩ ⟨⟨by omega, fun j z hj hz => by
   by_cases e : j = i
   ·subst e; rw [hy] at hz; injection hz with hz; rw [← hz]; exact hpx
   ·exact hbe j z (by omega) hz⟩, H16⟩ (by omega)
 ·have hil : i = l.length := by omega
  have hfin : l.findIdx? p = none := findNone fun j y hy => hbe j y (by have := get_lt hy; omega) hy
  refine FW_exit (Qseq_exit (Qround_exit (Qblk_exit (Qseq_normal ?_))))
  refine Sr ?_
  refine Am ?_
  refine Qn ?_
  refine FW_ret (Qfn_ret (hR := ?_))
  exact ⟨by rw [hfin]; rfl, H8.kept⟩
theorem intsHas_ok {l : List (Int)} {v : Value} (x : Int) (hl : RowIn w v intCells 1 l) : Rets Tryz.prog 85 [v, I x] w fun v w' => v = .bool (l.any fun y => decide (x = y)) ∧ Kept noB w w' := by
 have H := Sep.start0 w
 refine rets2 Tryz.func85 rfl rfl rfl rfl ?_
 refine Sr ?_
 refine Am ?_
 refine Nx ?_
 refine Mv ?_
 refine Mv ?_
 refine FL_callQ H (intsI_ok x (hl.keep H.kept)) (h := fun w5 H5 k4 => ?_)
 refine FL_val (Gives.geq rfl rfl) rfl ?_
 refine Am ?_
 refine Qn ?_
 refine FW_ret (Qfn_ret (hR := ?_))
 exact ⟨by rw [← idx_any]; rfl, H5.kept⟩
theorem cellsHas_ok {l : List (CellM)} {v : Value} (x : CellM) (hl : RowIn w v cellCells 3 l) : Rets Tryz.prog 158 [v, agg (cellCells x)] w fun v w' => v = .bool (l.any fun y => decide (x = y)) ∧ Kept noB w w' := by
 have H := Sep.start0 w
 refine rets2 Tryz.func158 rfl rfl rfl rfl ?_
 refine Sr ?_
 refine FL_box H (h := ?_)
 intro b1 w2 H2 k1
 refine Am ?_
 refine Nx ?_
 refine Mv ?_
 refine FL_loadAll H2 (h := ?_)
 refine FL_callQ H2 (cellsI_ok x (hl.keep H2.kept)) (h := fun w7 H7 k6 => ?_)
 refine FL_val (Gives.geq rfl rfl) rfl ?_
 refine Am ?_
 refine Qn ?_
 refine FW_ret (Qfn_ret (hR := ?_))
 exact ⟨by rw [← idx_any]; rfl, H7.kept⟩
end
end Go.Proofs.YtmkaahkbhdlniaaGreatDoor
/-
 A stack's take and put, walked; how many values a step takes; words of nothing; may a type be.
-/
namespace Go.Mw
open Go.RowKit
section gives
variable {P : Program} {ρ : Operand → Value} {ty : TypeId} {w : World} {x y z : Operand}
/-- x[:h:m]. -/
theorem Gives.sliceMax {t e : TypeId} [ht : IsSlice P t e] {size bytes : Nat} [hc : Cells P e size bytes] {A : Option Addr} {n c h m : Nat} {k j : IntKind} (hx : ρ x = .slice A n c) (hy : ρ y = .int k h) (hz : ρ z = .int j m) (hle : h ≤ m) (hle2 : m ≤ c) : Gives P ρ (.slice t x none (some y) (some z)) ty w (.slice A h m) w := fun _ _ _ _ => by
 obtain ⟨i, hi, hsb⟩ := Option.map_eq_some_iff.1 hc.size
 have e1 : (0 : Int) ≤ (h : Int) ∧ (h : Int) ≤ (m : Int) := by omega
 have e2 : (0 : Int) ≤ (m : Int) ∧ (m : Int) ≤ (c : Int) := by omega
 have e3 : A.map (fun x : Addr => x.add 0) = A := by cases A <;> simp [Addr.add_zero']
 simp [execOp, hx, hy, hz, Instr.sliceAt, run_underlying ht.und, Instr.slice, Instr.sliceBounds, Instr.sliceBound, asIntOf, e1, e2, sizeOf, typeInfo, hi, e3, hle, hle2]
end gives
end Go.Mw
namespace Go.Proofs.YtmkaahkbhdlniaaGreatDoor
open Go Go.Mw Go.Lib
set_option maxRecDepth 4000
section
variable {w : World}
theorem typesTake_ok {b E n c k : Nat} {A : Option Addr} {F : Nat → Prop} (hp : (blk b [.slice A n c] E).ok F w) (hk : k ≤ n) (hnc : n ≤ c) (hc : n ≤ 9223372036854775807) :
    Rets Tryz.prog 40 [.pointer (some ⟨b, 0, none⟩), I k] w fun v w' => v = .tuple #[.slice (if c = n - k then A else A.map (·.add ((n - k) * 2))) k (c - (n - k)), .bool true] ∧ Turn F (blk b [.slice A (n - k) (n - k)] E) w w' := by
  have H := Sep.start1 hp
  refine rets2 Tryz.func40 rfl rfl rfl rfl ?_
  refine Sr ?_
  refine Am ?_
  refine Am ?_
  refine Nx ?_
  refine Mv ?_
  refine FL_val (Gives.nilCheck rfl) rfl ?_
  refine Vf ?_
  refine Ld H ?_
  refine Vs ?_
  refine Mv ?_
  refine FL_val (Gives.subI (c := ((n - k : Nat) : Int)) rfl rfl (by omega) (by omega)) rfl ?_
  refine Am ?_
  refine Qn ?_
  refine FW_seq ?_
  refine Sr ?_
  refine Mv ?_
  refine Vl ?_
  refine Qn ?_
  refine FW_condP rfl (fun hc13 => ?_) (fun hc13 => ?_)
  · exact absurd hc13 (by omega)
  · refine Sk ?_
    refine Sr ?_
    refine Mv ?_
    refine FL_val (Gives.nilCheck rfl) rfl ?_
    refine Vf ?_
    refine Ld H ?_
    refine Mv ?_
    refine FL_val (Gives.sliceFrom rfl rfl (by omega)) rfl ?_
    rw [show n - (n - k) = k by omega]
    refine Am ?_
    refine Nx ?_
    refine Mv ?_
    refine Mv ?_
    refine FL_val (Gives.nilCheck rfl) rfl ?_
    refine Vf ?_
    refine Ld H ?_
    refine Mv ?_
    refine Mv ?_
    refine FL_val (Gives.sliceMax rfl rfl rfl (by omega) (by omega)) rfl ?_
    refine FL_val (Gives.nilCheck rfl) rfl ?_
    refine Vf ?_
    refine FL_store H (h := ?_)
    intro w33 H33
    refine Nx ?_
    refine Mv ?_
    refine Am ?_
    refine Am ?_
    refine Qn ?_
    refine FW_ret (Qfn_ret (hR := ?_))
    exact ⟨rfl, H33.turn⟩
theorem typesTakeNo_ok {b E n c k : Nat} {A : Option Addr} {F : Nat → Prop} (hp : (blk b [.slice A n c] E).ok F w) (hk : n < k) (hk2 : k ≤ 1000000) :
    Rets Tryz.prog 40 [.pointer (some ⟨b, 0, none⟩), I k] w fun v w' => v = .tuple #[.slice none 0 0, .bool false] ∧ Turn F (blk b [.slice A n c] E) w w' := by
  have H := Sep.start1 hp
  refine rets2 Tryz.func40 rfl rfl rfl rfl ?_
  refine Sr ?_
  refine Am ?_
  refine Am ?_
  refine Nx ?_
  refine Mv ?_
  refine FL_val (Gives.nilCheck rfl) rfl ?_
  refine Vf ?_
  refine Ld H ?_
  refine Vs ?_
  refine Mv ?_
  refine FL_val (Gives.subI rfl rfl rfl (by omega)) rfl ?_
  refine Am ?_
  refine Qn ?_
  refine FW_seq ?_
  refine Sr ?_
  refine Mv ?_
  refine Vl ?_
  refine Qn ?_
  refine FW_condP rfl (fun hc13 => ?_) (fun hc13 => ?_)
  · refine Sr ?_
    refine Am ?_
    refine Am ?_
    refine Qn ?_
    refine Rs (Qfn_ret (hR := ?_))
    exact ⟨rfl, H.turn⟩
  · exact absurd (show ((n : Int) - k) < 0 by omega) hc13
theorem typesPut_ok {b E : Nat} {A : Option Addr} {F : Nat → Prop} {l news : List TypeM} {vn : Value} (hp : (blk b [.slice A l.length l.length] E).ok F w) (hr : Rd w A typeCells 2 l) (hn : RowIn w vn typeCells 2 news) (hne : 0 < news.length) (hlen : l.length + news.length ≤ 1000000) :
    Rets Tryz.prog 45 [.pointer (some ⟨b, 0, none⟩), vn] w fun v w' => ∃ x, v = .tuple #[] ∧ True ∧ Turn F (star (blk b [x] E) (rowD 29 2 typeCells x (l ++ news))) w w' := by
  obtain ⟨B, m, rfl, ⟨hm, hm'⟩, hB⟩ := hn
  have H := Sep.start1 hp
  refine rets2 Tryz.func45 rfl rfl rfl rfl ?_
  refine FW_region ?_
  refine Mv ?_
  refine Mv ?_
  refine FL_val (Gives.nilCheck rfl) rfl ?_
  refine Vf ?_
  refine Ld H ?_
  refine Mv ?_
  refine FL_appendF H hr hB hne (by unfold maxLen; omega) (by omega) (cells_one (fun _ => rfl) _) (h := ?_)
  intro v2 w8 H8 k7
  obtain ⟨B2, c2, rfl, hc2, hB2⟩ := Sep.formD H8 At0
  refine FL_val (Gives.nilCheck rfl) rfl ?_
  refine Vf ?_
  refine FL_store H8 (h := ?_)
  intro w12 H12
  refine FL_nil (Qfn_normal (hR := ?_))
  exact ⟨_, rfl, trivial, (H12.front1.join0).turn⟩
theorem cellsTake_ok {b E n c k : Nat} {A : Option Addr} {F : Nat → Prop} (hp : (blk b [.slice A n c] E).ok F w) (hk : k ≤ n) (hnc : n ≤ c) (hc : n ≤ 9223372036854775807) :
    Rets Tryz.prog 51 [.pointer (some ⟨b, 0, none⟩), I k] w fun v w' => v = .tuple #[.slice (if c = n - k then A else A.map (·.add ((n - k) * 3))) k (c - (n - k)), .bool true] ∧ Turn F (blk b [.slice A (n - k) (n - k)] E) w w' := by
  have H := Sep.start1 hp
  refine rets2 Tryz.func51 rfl rfl rfl rfl ?_
  refine Sr ?_
  refine Am ?_
  refine Am ?_
  refine Nx ?_
  refine Mv ?_
  refine FL_val (Gives.nilCheck rfl) rfl ?_
  refine Vf ?_
  refine Ld H ?_
  refine Vs ?_
  refine Mv ?_
  refine FL_val (Gives.subI (c := ((n - k : Nat) : Int)) rfl rfl (by omega) (by omega)) rfl ?_
  refine Am ?_
  refine Qn ?_
  refine FW_seq ?_
  refine Sr ?_
  refine Mv ?_
  refine Vl ?_
  refine Qn ?_
  refine FW_condP rfl (fun hc13 => ?_) (fun hc13 => ?_)
  · exact absurd hc13 (by omega)
  · refine Sk ?_
    refine Sr ?_
    refine Mv ?_
    refine FL_val (Gives.nilCheck rfl) rfl ?_
    refine Vf ?_
    refine Ld H ?_
    refine Mv ?_
    refine FL_val (Gives.sliceFrom rfl rfl (by omega)) rfl ?_
    rw [show n - (n - k) = k by omega]
    refine Am ?_
    refine Nx ?_
    refine Mv ?_
    refine Mv ?_
    refine FL_val (Gives.nilCheck rfl) rfl ?_
    refine Vf ?_
    refine Ld H ?_
    refine Mv ?_
    refine Mv ?_
    refine FL_val (Gives.sliceMax rfl rfl rfl (by omega) (by omega)) rfl ?_
    refine FL_val (Gives.nilCheck rfl) rfl ?_
    refine Vf ?_
    refine FL_store H (h := ?_)
    intro w33 H33
    refine Nx ?_
    refine Mv ?_
    refine Am ?_
    refine Am ?_
    refine Qn ?_
    refine FW_ret (Qfn_ret (hR := ?_))
    exact ⟨rfl, H33.turn⟩
theorem cellsPut_ok {b E : Nat} {A : Option Addr} {F : Nat → Prop} {l news : List CellM} {vn : Value} (hp : (blk b [.slice A l.length l.length] E).ok F w) (hr : Rd w A cellCells 3 l) (hn : RowIn w vn cellCells 3 news) (hne : 0 < news.length) (hlen : l.length + news.length ≤ 1000000) :
    Rets Tryz.prog 53 [.pointer (some ⟨b, 0, none⟩), vn] w fun v w' => ∃ x, v = .tuple #[] ∧ True ∧ Turn F (star (blk b [x] E) (rowD 34 3 cellCells x (l ++ news))) w w' := by
  obtain ⟨B, m, rfl, ⟨hm, hm'⟩, hB⟩ := hn
  have H := Sep.start1 hp
  refine rets2 Tryz.func53 rfl rfl rfl rfl ?_
  refine FW_region ?_
  refine Mv ?_
  refine Mv ?_
  refine FL_val (Gives.nilCheck rfl) rfl ?_
  refine Vf ?_
  refine Ld H ?_
  refine Mv ?_
  refine FL_appendF H hr hB hne (by unfold maxLen; omega) (by omega) (cells_one (fun _ => rfl) _) (h := ?_)
  intro v2 w8 H8 k7
  obtain ⟨B2, c2, rfl, hc2, hB2⟩ := Sep.formD H8 At0
  refine FL_val (Gives.nilCheck rfl) rfl ?_
  refine Vf ?_
  refine FL_store H8 (h := ?_)
  intro w12 H12
  refine FL_nil (Qfn_normal (hR := ?_))
  exact ⟨_, rfl, trivial, (H12.front1.join0).turn⟩
theorem many_ok (k : Int) : Rets Tryz.prog 41 [I k] w fun v w' => v = I (takesS k) ∧ Kept noB w w' := by
 have H := Sep.start0 w
 obtain ⟨res, hres⟩ : ∃ res, res = takesS k := ⟨_, rfl⟩
 rw [← hres]
 unfold takesS at hres
 refine rets1 Tryz.func41 rfl rfl rfl rfl ?_
 refine Sr ?_
 refine Am ?_
 refine Qn ?_
 refine FW_seq ?_
 refine FW_block ?_
 refine Sr ?_
 refine Mv ?_
 refine Vl ?_
 refine Am ?_
 refine Qn ?_
 refine FW_condP rfl (fun hc5 => ?_) (fun hc5 => ?_)
 ·rw [if_pos hc5] at hres
  refine Sr ?_
  refine Am ?_
  refine Qn ?_
  refine Rb (Qfn_ret (hR := ?_))
  exact ⟨by rw [hres]; rfl, H.kept⟩
 ·rw [if_neg hc5] at hres
  refine Sr ?_
  refine Mv ?_
  refine Ve ?_
  refine Mv ?_
  refine FL_splitP (t := 9) rfl (fun hs13 => ?_) (fun hs13 => ?_)
  ·refine Of ?_
   refine Of ?_
   refine Pt ?_
   refine Mv ?_
   refine Of ?_
   refine Of ?_
   refine Pt ?_
   refine Mv ?_
   refine Of ?_
   refine Of ?_
   refine Pt ?_
   refine Am ?_
   refine Qn ?_
   refine FW_cond_true rfl ?_
   refine Sr ?_
   refine Am ?_
   refine Qn ?_
   refine Rb (Qfn_ret (hR := ?_))
   exact ⟨by rw [hres, if_pos (by omega)]; rfl, H.kept⟩
  ·refine On ?_
   refine Mv ?_
   refine On ?_
   refine Ve ?_
   refine Pf ?_
   refine Mv ?_
   refine FL_splitP (t := 13) rfl (fun hs26 => ?_) (fun hs26 => ?_)
   ·refine Of ?_
    refine Of ?_
    refine Pt ?_
    refine Mv ?_
    refine Of ?_
    refine Of ?_
    refine Pt ?_
    refine Am ?_
    refine Qn ?_
    refine FW_cond_true rfl ?_
    refine Sr ?_
    refine Am ?_
    refine Qn ?_
    refine Rb (Qfn_ret (hR := ?_))
    exact ⟨by rw [hres, if_pos (by omega)]; rfl, H.kept⟩
   ·refine On ?_
    refine Mv ?_
    refine On ?_
    refine Ve ?_
    refine Pf ?_
    refine Mv ?_
    refine FL_splitP (t := 17) rfl (fun hs37 => ?_) (fun hs37 => ?_)
    ·refine Of ?_
     refine Of ?_
     refine Pt ?_
     refine Am ?_
     refine Qn ?_
     refine FW_cond_true rfl ?_
     refine Sr ?_
     refine Am ?_
     refine Qn ?_
     refine Rb (Qfn_ret (hR := ?_))
     exact ⟨by rw [hres, if_pos (by omega)]; rfl, H.kept⟩
    ·refine On ?_
     refine Mv ?_
     refine On ?_
     refine Ve ?_
     refine Pf ?_
     refine Am ?_
     refine Qn ?_
     refine FW_condP rfl (fun hc46 => ?_) (fun hc46 => ?_)
     ·refine Sr ?_
      refine Am ?_
      refine Qn ?_
      refine Rb (Qfn_ret (hR := ?_))
      exact ⟨by rw [hres, if_pos (by omega)]; rfl, H.kept⟩
     ·rw [if_neg (by omega)] at hres
      refine FW_skip (Qblk_normal (Qseq_normal ?_))
      refine Sr ?_
      refine Am ?_
      refine Qn ?_
      refine FW_ret (Qfn_ret (hR := ?_))
      exact ⟨by rw [hres]; rfl, H.kept⟩
theorem null_ok (k : Int) : Rets Tryz.prog 81 [I k] w fun v w' => v = str (nullW k) ∧ Kept noB w w' := by
 have H := Sep.start0 w
 obtain ⟨res, hres⟩ : ∃ res, res = nullW k := ⟨_, rfl⟩
 rw [← hres]
 unfold nullW at hres
 refine rets1 Tryz.func81 rfl rfl rfl rfl ?_
 refine Sr ?_
 refine Am ?_
 refine Qn ?_
 refine FW_seq ?_
 refine Sr ?_
 refine Mv ?_
 refine Qn ?_
 refine FW_block ?_
 refine Sr ?_
 refine Ve ?_
 refine Am ?_
 refine Qn ?_
 refine FW_condP rfl (fun hc5 => ?_) (fun hc5 => ?_)
 ·rw [if_pos hc5] at hres
  refine Sr ?_
  refine Am ?_
  refine Qn ?_
  refine Rb (Qfn_ret (hR := ?_))
  exact ⟨by rw [hres]; rfl, H.kept⟩
 ·rw [if_neg hc5] at hres
  refine Sr ?_
  refine Ve ?_
  refine Am ?_
  refine Qn ?_
  refine FW_condP rfl (fun hc12 => ?_) (fun hc12 => ?_)
  ·rw [if_pos hc12] at hres
   refine Sr ?_
   refine Am ?_
   refine Qn ?_
   refine Rb (Qfn_ret (hR := ?_))
   exact ⟨by rw [hres]; rfl, H.kept⟩
  ·rw [if_neg hc12] at hres
   refine Sr ?_
   refine Ve ?_
   refine Am ?_
   refine Qn ?_
   refine FW_condP rfl (fun hc19 => ?_) (fun hc19 => ?_)
   ·rw [if_pos hc19] at hres
    refine Sr ?_
    refine Am ?_
    refine Qn ?_
    refine Rb (Qfn_ret (hR := ?_))
    exact ⟨by rw [hres]; rfl, H.kept⟩
   ·rw [if_neg hc19] at hres
    refine Sr ?_
    refine Ve ?_
    refine Am ?_
    refine Qn ?_
    refine FW_condP rfl (fun hc26 => ?_) (fun hc26 => ?_)
    ·rw [if_pos hc26] at hres
     refine Sr ?_
     refine Am ?_
     refine Qn ?_
     refine Rb (Qfn_ret (hR := ?_))
     exact ⟨by rw [hres]; rfl, H.kept⟩
    ·rw [if_neg hc26] at hres
     refine FW_skip (Qblk_normal (Qseq_normal ?_))
     refine Sr ?_
     refine Am ?_
     refine Qn ?_
     refine FW_ret (Qfn_ret (hR := ?_))
     exact ⟨by rw [hres]; rfl, H.kept⟩
theorem cellMay_ok (t : TypeM) : Rets Tryz.prog 63 [agg (typeCells t)] w fun v w' => v = .bool (mayT t) ∧ Kept noB w w' := by
 have H := Sep.start0 w
 refine rets1 Tryz.func63 rfl rfl rfl rfl ?_
 refine Sr ?_
 refine FL_box H (cs := typeCells t) rfl (h := ?_)
 intro b0 w2 H2 k0
 refine Am ?_
 refine Nx ?_
 refine Vf ?_
 refine Ld H2 ?_
 refine Vg ?_
 refine Mv ?_
 refine FL_splitP (t := 6) rfl (fun hs8 => ?_) (fun hs8 => ?_)
 ·refine On ?_
  refine Vf ?_
  refine On ?_
  refine Ld H2 ?_
  refine On ?_
  refine Vl ?_
  refine Pt ?_
  refine Am ?_
  refine Qn ?_
  refine FW_ret (Qfn_ret (hR := ?_))
  exact ⟨by unfold mayT; exact congrArg Value.bool (decide_eq_decide.2 (by omega)), H2.kept⟩
 ·refine Of ?_
  refine Of ?_
  refine Of ?_
  refine Pf ?_
  refine Am ?_
  refine Qn ?_
  refine FW_ret (Qfn_ret (hR := ?_))
  exact ⟨by unfold mayT; rw [decide_eq_false (by omega)]; rfl, H2.kept⟩
end
end Go.Proofs.YtmkaahkbhdlniaaGreatDoor
