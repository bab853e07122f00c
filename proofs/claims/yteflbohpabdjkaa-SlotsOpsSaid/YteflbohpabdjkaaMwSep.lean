/-
  Assertions on pieces of the heap, and what a step keeps. Nothing of a given program stands here.
-/
import Derived.Test.YteflbohpabdjkaaMwCore
import Derived.Laws.Rows
namespace Go.Mw
open Go.RowKit

/-- But for the blocks of S, what was there is there as it was. -/
structure Kept (S : Nat → Prop) (w w' : World) : Prop where
  os : w'.os = w.os
  tape : w'.tape = w.tape
  output : w'.output = w.output
  size : w.heap.size ≤ w'.heap.size
  block : ∀ k, k < w.heap.size → ¬ S k → w'.heap[k]? = w.heap[k]?
def noB : Nat → Prop := fun _ => False

section
variable {S T : Nat → Prop} {a b c w w' : World}
theorem Kept.refl (S : Nat → Prop) (w : World) : Kept S w w := ⟨rfl, rfl, rfl, Nat.le_refl _, fun _ _ _ => rfl⟩
theorem Kept.trans (h : Kept S a b) (k : Kept T b c) (hT : ∀ i, T i → S i ∨ a.heap.size ≤ i) : Kept S a c :=
  ⟨k.os.trans h.os, k.tape.trans h.tape, k.output.trans h.output, Nat.le_trans h.size k.size, fun i hi hS => by
    rw [k.block i (Nat.lt_of_lt_of_le hi h.size) (fun ht => by rcases hT i ht with h1 | h1; exact hS h1; omega), h.block i hi hS]⟩
theorem Kept.mono (h : Kept S w w') (hS : ∀ i, S i → T i) : Kept T w w' := ⟨h.os, h.tape, h.output, h.size, fun i hi hT => h.block i hi fun hs => hT (hS i hs)⟩
theorem Kept.trans0 (h : Kept S a b) (k : Kept noB b c) : Kept S a c := h.trans k fun _ hf => hf.elim
theorem Kept.below (h : Kept noB w w') : Below w.heap.size w w' := ⟨h.os, h.tape, h.output, h.size, fun k hk => h.block k hk id⟩
theorem Kept.of_below (h : Below w.heap.size w w') : Kept noB w w' := ⟨h.os, h.tape, h.output, h.size, fun k hk _ => h.block k hk⟩
theorem Kept.drewn (h : Kept S a w) (n : Nat) : Kept S a { w with drawn := n } := ⟨h.os, h.tape, h.output, h.size, h.block⟩
theorem Kept.alloc (w : World) (o : Obj) : Kept noB w (w.alloc o) := Kept.of_below ((Below.refl _ _).alloc (Nat.le_refl _) o)
theorem Kept.drew (w : World) : Kept noB w w.drew := ⟨rfl, rfl, rfl, Nat.le_refl _, fun _ _ _ => rfl⟩
theorem Kept.get (h : Kept S w w') {k : Nat} {o : Obj} (hk : w.heap[k]? = some o) (hS : ¬ S k) : w'.heap[k]? = some o := by
  have hlt : k < w.heap.size := by
    rcases Nat.lt_or_ge k w.heap.size with h1 | h1
    · exact h1
    · rw [Array.getElem?_eq_none h1] at hk; cases hk
  rw [h.block k hlt hS, hk]
end

/-- An assertion on a piece of the heap: the blocks that it owns, and the world. -/
structure HP where
  ok : (Nat → Prop) → World → Prop
  loc : ∀ {F : Nat → Prop} {w w' : World}, w.heap.size ≤ w'.heap.size → (∀ b, F b → w'.heap[b]? = w.heap[b]?) → ok F w → ok F w'
  low : ∀ {F : Nat → Prop} {w : World}, ok F w → ∀ b, F b → b < w.heap.size
theorem lt_of_get {w : World} {k : Nat} {o : Obj} (hk : w.heap[k]? = some o) : k < w.heap.size := by
  rcases Nat.lt_or_ge k w.heap.size with h1 | h1
  · exact h1
  · rw [Array.getElem?_eq_none h1] at hk; cases hk
/-- Nothing, and a fact. -/
def pureH (φ : Prop) : HP where
  ok F _ := φ ∧ ∀ b, ¬ F b
  loc _ _ h := h
  low h b hb := (h.2 b hb).elim
def emp : HP := pureH True
/-- One block, known whole. -/
def obj (b : Nat) (o : Obj) : HP where
  ok F w := (∀ x, F x ↔ x = b) ∧ w.heap[b]? = some o
  loc _ h hok := ⟨hok.1, by rw [h b ((hok.1 b).2 rfl)]; exact hok.2⟩
  low h x hx := by have := (h.1 x).1 hx; subst this; exact lt_of_get h.2
/-- One block of cells. -/
def blk (b : Nat) (cs : List Value) (E : TypeId) : HP := obj b (.cells cs.toArray E (0, 0))
def star (p q : HP) : HP where
  ok F w := ∃ F1 F2, (∀ b, F b ↔ F1 b ∨ F2 b) ∧ (∀ b, F1 b → ¬ F2 b) ∧ p.ok F1 w ∧ q.ok F2 w
  loc hs h hok := by
    obtain ⟨F1, F2, hF, hd, h1, h2⟩ := hok
    exact ⟨F1, F2, hF, hd, p.loc hs (fun b hb => h b ((hF b).2 (.inl hb))) h1, q.loc hs (fun b hb => h b ((hF b).2 (.inr hb))) h2⟩
  low h b hb := by
    obtain ⟨F1, F2, hF, hd, h1, h2⟩ := h
    rcases (hF b).1 hb with h | h
    · exact p.low h1 b h
    · exact q.low h2 b h
def exH {α : Type} (p : α → HP) : HP where
  ok F w := ∃ x, (p x).ok F w
  loc hs h hok := by obtain ⟨x, hx⟩ := hok; exact ⟨x, (p x).loc hs h hx⟩
  low h b hb := by obtain ⟨x, hx⟩ := h; exact (p x).low hx b hb
def starL : List HP → HP
  | [] => emp
  | p :: l => star p (starL l)

/-- Since w₀ only the blocks of S have turned (and what is new); of these, and of what is new, the pieces rs are owned. -/
def Sep (w₀ : World) (S : Nat → Prop) (rs : List HP) (w : World) : Prop :=
  Kept S w₀ w ∧ ∃ F, (starL rs).ok F w ∧ ∀ b, F b → S b ∨ w₀.heap.size ≤ b

/-- The piece p stands in the list; 'put' puts another in its place. -/
def At (rs : List HP) (p : HP) (put : HP → List HP) : Prop := ∃ l1 l2, rs = l1 ++ p :: l2 ∧ ∀ q, put q = l1 ++ q :: l2
section
variable {a b c d e f g h i j k m p : HP} {l : List HP}
theorem At0 : At (p :: l) p (fun q => q :: l) := ⟨[], l, rfl, fun _ => rfl⟩
theorem At1 : At (a :: p :: l) p (fun q => a :: q :: l) := ⟨[a], l, rfl, fun _ => rfl⟩
theorem At2 : At (a :: b :: p :: l) p (fun q => a :: b :: q :: l) := ⟨[a, b], l, rfl, fun _ => rfl⟩
theorem At3 : At (a :: b :: c :: p :: l) p (fun q => a :: b :: c :: q :: l) := ⟨[a, b, c], l, rfl, fun _ => rfl⟩
theorem At4 : At (a :: b :: c :: d :: p :: l) p (fun q => a :: b :: c :: d :: q :: l) := ⟨[a, b, c, d], l, rfl, fun _ => rfl⟩
theorem At5 : At (a :: b :: c :: d :: e :: p :: l) p (fun q => a :: b :: c :: d :: e :: q :: l) := ⟨[a, b, c, d, e], l, rfl, fun _ => rfl⟩
theorem At6 : At (a :: b :: c :: d :: e :: f :: p :: l) p (fun q => a :: b :: c :: d :: e :: f :: q :: l) := ⟨[a, b, c, d, e, f], l, rfl, fun _ => rfl⟩
theorem At7 : At (a :: b :: c :: d :: e :: f :: g :: p :: l) p (fun q => a :: b :: c :: d :: e :: f :: g :: q :: l) := ⟨[a, b, c, d, e, f, g], l, rfl, fun _ => rfl⟩
theorem At8 : At (a :: b :: c :: d :: e :: f :: g :: h :: p :: l) p (fun q => a :: b :: c :: d :: e :: f :: g :: h :: q :: l) := ⟨[a, b, c, d, e, f, g, h], l, rfl, fun _ => rfl⟩
theorem At9 : At (a :: b :: c :: d :: e :: f :: g :: h :: i :: p :: l) p (fun q => a :: b :: c :: d :: e :: f :: g :: h :: i :: q :: l) := ⟨[a, b, c, d, e, f, g, h, i], l, rfl, fun _ => rfl⟩
end

theorem emp_ok {F : Nat → Prop} {w : World} (h : ∀ b, ¬ F b) : emp.ok F w := ⟨trivial, h⟩
/-- The list's own sum, taken apart at a place. -/
theorem starL_split {l1 l2 : List HP} {p : HP} : ∀ {F : Nat → Prop} {w : World}, (starL (l1 ++ p :: l2)).ok F w →
    ∃ F1 F2, (∀ b, F b ↔ F1 b ∨ F2 b) ∧ (∀ b, F1 b → ¬ F2 b) ∧ p.ok F1 w ∧ (starL (l1 ++ l2)).ok F2 w := by
  induction l1 with
  | nil => intro F w h; exact h
  | cons q l ih =>
    rintro F w ⟨G1, G2, hF, hd, h1, h2⟩
    obtain ⟨F1, F2, hG, hd2, hp, hr⟩ := ih h2
    refine ⟨F1, fun b => G1 b ∨ F2 b, fun b => ?_, fun b hb => ?_, hp, G1, F2, fun b => Iff.rfl, fun b hb hb2 => hd b hb ((hG b).2 (.inr hb2)), h1, hr⟩
    · rw [hF, hG]; constructor
      · rintro (h | h | h)
        · exact .inr (.inl h)
        · exact .inl h
        · exact .inr (.inr h)
      · rintro (h | h | h)
        · exact .inr (.inl h)
        · exact .inl h
        · exact .inr (.inr h)
    · rintro (h | h)
      · exact hd b h ((hG b).2 (.inl hb))
      · exact hd2 b hb h
theorem starL_join {l1 l2 : List HP} {p : HP} : ∀ {F F1 F2 : Nat → Prop} {w : World}, (∀ b, F b ↔ F1 b ∨ F2 b) → (∀ b, F1 b → ¬ F2 b) → p.ok F1 w → (starL (l1 ++ l2)).ok F2 w → (starL (l1 ++ p :: l2)).ok F w := by
  induction l1 with
  | nil => intro F F1 F2 w hF hd hp hr; exact ⟨F1, F2, hF, hd, hp, hr⟩
  | cons q l ih =>
    rintro F F1 F2 w hF hd hp ⟨G1, G2, hG, hd2, h1, h2⟩
    refine ⟨G1, fun b => F1 b ∨ G2 b, fun b => ?_, fun b hb => ?_, h1, ih (F1 := F1) (F2 := G2) (fun b => Iff.rfl) (fun b hb hb2 => hd b hb ((hG b).2 (.inr hb2))) hp h2⟩
    · rw [hF, hG]; constructor
      · rintro (h | h | h)
        · exact .inr (.inl h)
        · exact .inl h
        · exact .inr (.inr h)
      · rintro (h | h | h)
        · exact .inr (.inl h)
        · exact .inl h
        · exact .inr (.inr h)
    · rintro (h | h)
      · exact hd b h ((hG b).2 (.inl hb))
      · exact hd2 b hb h

section
variable {w₀ w w' : World} {S : Nat → Prop} {rs : List HP}
theorem Sep.kept (h : Sep w₀ S rs w) : Kept S w₀ w := h.1
theorem Sep.size (h : Sep w₀ S rs w) : w₀.heap.size ≤ w.heap.size := h.1.size
/-- Nothing that was there has turned. -/
theorem Sep.keep (h : Sep w₀ S rs w) (hk : Kept noB w w') : Sep w₀ S rs w' := by
  obtain ⟨h1, F, hF, hS⟩ := h
  exact ⟨h1.trans0 hk, F, (starL rs).loc hk.size (fun b hb => hk.block b ((starL rs).low hF b hb) id) hF, hS⟩
/-- A piece that is owned: look at it, turn it. -/
theorem Sep.focus {p : HP} {put : HP → List HP} (h : Sep w₀ S rs w) (hat : At rs p put) :
    ∃ F, p.ok F w ∧ (∀ b, F b → S b ∨ w₀.heap.size ≤ b) ∧
      ∀ w' F' q, Kept F w w' → q.ok F' w' → (∀ b, F' b → F b ∨ w.heap.size ≤ b) → Sep w₀ S (put q) w' := by
  obtain ⟨l1, l2, rfl, hput⟩ := hat
  obtain ⟨h1, F, hF, hS⟩ := h
  obtain ⟨F1, F2, hF12, hd, hp, hr⟩ := starL_split hF
  refine ⟨F1, hp, fun b hb => hS b ((hF12 b).2 (.inl hb)), fun w' F' q hk hq hsub => ?_⟩
  rw [hput]
  have hlow := (starL (l1 ++ l2)).low hr
  refine ⟨h1.trans hk fun b hb => hS b ((hF12 b).2 (.inl hb)), fun b => F' b ∨ F2 b, ?_, ?_⟩
  · refine starL_join (F1 := F') (F2 := F2) (fun b => Iff.rfl) (fun b hb hb2 => ?_) hq ((starL (l1 ++ l2)).loc hk.size (fun b hb => hk.block b (hlow b hb) (fun h1 => hd b h1 hb)) hr)
    rcases hsub b hb with h | h
    · exact hd b h hb2
    · have := hlow b hb2; omega
  · rintro b (hb | hb)
    · rcases hsub b hb with h | h
      · exact hS b ((hF12 b).2 (.inl h))
      · exact .inr (Nat.le_trans h1.size h)
    · exact hS b ((hF12 b).2 (.inr hb))
/-- A new piece. -/
theorem Sep.new {p : HP} {F' : Nat → Prop} (h : Sep w₀ S rs w) (hk : Kept noB w w') (hp : p.ok F' w') (hF' : ∀ b, F' b → w.heap.size ≤ b) : Sep w₀ S (p :: rs) w' := by
  have h0 := h
  obtain ⟨h1, F, hF, hS⟩ := h
  have hlow := (starL rs).low hF
  refine ⟨h1.trans0 hk, fun b => F' b ∨ F b, ⟨F', F, fun b => Iff.rfl, fun b hb hb2 => ?_, hp, (starL rs).loc hk.size (fun b hb => hk.block b (hlow b hb) id) hF⟩, ?_⟩
  · have := hlow b hb2; have := hF' b hb; omega
  · rintro b (hb | hb)
    · exact .inr (Nat.le_trans h0.size (hF' b hb))
    · exact hS b hb
theorem Sep.alloc (h : Sep w₀ S rs w) (o : Obj) : Sep w₀ S (obj w.heap.size o :: rs) (w.alloc o) :=
  h.new (F' := fun b => b = w.heap.size) (Kept.alloc w o) ⟨fun _ => Iff.rfl, heap_alloc_new w o⟩ fun b hb => by rw [hb]; exact Nat.le_refl _
/-- Its blocks, of a block that is owned. -/
theorem Sep.obj {b : Nat} {o : Obj} {put : HP → List HP} (h : Sep w₀ S rs w) (hat : At rs (obj b o) put) : w.heap[b]? = some o := by
  obtain ⟨F, hp, _, _⟩ := h.focus hat
  exact hp.2
/-- Turn one block. -/
theorem Sep.setObj {b : Nat} {o o' : Obj} {put : HP → List HP} (h : Sep w₀ S rs w) (hat : At rs (Mw.obj b o) put) (hk : Kept (fun x => x = b) w w') (ho : w'.heap[b]? = some o') : Sep w₀ S (put (Mw.obj b o')) w' := by
  obtain ⟨F, hp, hS, hput⟩ := h.focus hat
  exact hput w' F (Mw.obj b o') (hk.mono fun i hi => (hp.1 i).2 hi) ⟨hp.1, ho⟩ fun b hb => .inl hb
/-- Let a piece go. -/
theorem Sep.drop0 {p : HP} (h : Sep w₀ S (p :: rs) w) : Sep w₀ S rs w := by
  obtain ⟨h1, F, ⟨F1, F2, hF, hd, hp, hr⟩, hS⟩ := h
  exact ⟨h1, F2, hr, fun b hb => hS b ((hF b).2 (.inr hb))⟩
theorem Sep.start (rs : List HP) {F : Nat → Prop} {w : World} (h : (starL rs).ok F w) : Sep w F rs w := ⟨Kept.refl _ _, F, h, fun _ hb => .inl hb⟩
theorem Sep.start0 (w : World) : Sep w noB [] w := ⟨Kept.refl _ _, fun _ => False, emp_ok (fun _ => id), fun _ hb => hb.elim⟩
/-- Existentials and pure facts come out. -/
theorem Sep.ex0 {α : Type} {p : α → HP} (h : Sep w₀ S (exH p :: rs) w) : ∃ x, Sep w₀ S (p x :: rs) w := by
  obtain ⟨h1, F, ⟨F1, F2, hF, hd, ⟨x, hp⟩, hr⟩, hS⟩ := h
  exact ⟨x, h1, F, ⟨F1, F2, hF, hd, hp, hr⟩, hS⟩
theorem Sep.star0 {p q : HP} (h : Sep w₀ S (star p q :: rs) w) : Sep w₀ S (p :: q :: rs) w := by
  obtain ⟨h1, F, ⟨F1, F2, hF, hd, ⟨G1, G2, hG, hd2, hp, hq⟩, hr⟩, hS⟩ := h
  refine ⟨h1, F, ⟨G1, fun b => G2 b ∨ F2 b, fun b => ?_, fun b hb => ?_, hp, G2, F2, fun _ => Iff.rfl, fun b hb hb2 => hd b ((hG b).2 (.inr hb)) hb2, hq, hr⟩, hS⟩
  · rw [hF, hG, or_assoc]
  · rintro (h | h)
    · exact hd2 b hb h
    · exact hd b ((hG b).2 (.inl hb)) h
theorem Sep.pure0 {φ : Prop} (h : Sep w₀ S (pureH φ :: rs) w) : φ ∧ Sep w₀ S rs w := by
  have h' := h.drop0
  obtain ⟨h1, F, ⟨F1, F2, hF, hd, hp, hr⟩, hS⟩ := h
  exact ⟨hp.1, h'⟩
theorem Sep.join0 {p q : HP} (h : Sep w₀ S (p :: q :: rs) w) : Sep w₀ S (star p q :: rs) w := by
  obtain ⟨h1, F, ⟨F1, F2, hF, hd, hp, G1, G2, hG, hd2, hq, hr⟩, hS⟩ := h
  refine ⟨h1, F, ⟨fun b => F1 b ∨ G1 b, G2, fun b => ?_, fun b hb => ?_, ⟨F1, G1, fun _ => Iff.rfl, fun b hb hb2 => hd b hb ((hG b).2 (.inl hb2)), hp, hq⟩, hr⟩, hS⟩
  · rw [hF, hG, or_assoc]
  · rcases hb with hb | hb
    · exact fun h => hd b hb ((hG b).2 (.inr h))
    · exact hd2 b hb
theorem Sep.pack0 {α : Type} {p : α → HP} (x : α) (h : Sep w₀ S (p x :: rs) w) : Sep w₀ S (exH p :: rs) w := by
  obtain ⟨h1, F, ⟨F1, F2, hF, hd, hp, hr⟩, hS⟩ := h
  exact ⟨h1, F, ⟨F1, F2, hF, hd, ⟨x, hp⟩, hr⟩, hS⟩
theorem Sep.addPure {φ : Prop} (hφ : φ) (h : Sep w₀ S rs w) : Sep w₀ S (pureH φ :: rs) w := by
  obtain ⟨h1, F, hr, hS⟩ := h
  exact ⟨h1, F, ⟨fun _ => False, F, fun b => by simp, fun _ hb => hb.elim, ⟨hφ, fun _ hb => hb⟩, hr⟩, hS⟩
/-- One piece says what another does. -/
theorem Sep.imp {p q : HP} {put : HP → List HP} (h : Sep w₀ S rs w) (hat : At rs p put) (hpq : ∀ F, p.ok F w → q.ok F w) : Sep w₀ S (put q) w := by
  obtain ⟨F, hp, hS, hput⟩ := h.focus hat
  exact hput w F q (Kept.refl _ _) (hpq F hp) fun b hb => .inl hb
/-- A piece to the front. -/
theorem Sep.front {p : HP} {l1 l2 : List HP} (h : Sep w₀ S (l1 ++ p :: l2) w) : Sep w₀ S (p :: (l1 ++ l2)) w := by
  obtain ⟨h1, F, hF, hS⟩ := h
  obtain ⟨F1, F2, hF12, hd, hp, hr⟩ := starL_split hF
  exact ⟨h1, F, ⟨F1, F2, hF12, hd, hp, hr⟩, hS⟩
theorem Sep.front1 {a p : HP} {l : List HP} (h : Sep w₀ S (a :: p :: l) w) : Sep w₀ S (p :: a :: l) w := Sep.front (l1 := [a]) h
theorem Sep.front2 {a b p : HP} {l : List HP} (h : Sep w₀ S (a :: b :: p :: l) w) : Sep w₀ S (p :: a :: b :: l) w := Sep.front (l1 := [a, b]) h
theorem Sep.front3 {a b c p : HP} {l : List HP} (h : Sep w₀ S (a :: b :: c :: p :: l) w) : Sep w₀ S (p :: a :: b :: c :: l) w := Sep.front (l1 := [a, b, c]) h
theorem Sep.front4 {a b c d p : HP} {l : List HP} (h : Sep w₀ S (a :: b :: c :: d :: p :: l) w) : Sep w₀ S (p :: a :: b :: c :: d :: l) w := Sep.front (l1 := [a, b, c, d]) h
theorem Sep.front5 {a b c d e p : HP} {l : List HP} (h : Sep w₀ S (a :: b :: c :: d :: e :: p :: l) w) : Sep w₀ S (p :: a :: b :: c :: d :: e :: l) w := Sep.front (l1 := [a, b, c, d, e]) h
theorem Sep.front6 {a b c d e f p : HP} {l : List HP} (h : Sep w₀ S (a :: b :: c :: d :: e :: f :: p :: l) w) : Sep w₀ S (p :: a :: b :: c :: d :: e :: f :: l) w := Sep.front (l1 := [a, b, c, d, e, f]) h
end

theorem star_assoc {p q t : HP} {F : Nat → Prop} {w : World} : (star (star p q) t).ok F w ↔ (star p (star q t)).ok F w := by
  constructor
  · rintro ⟨F1, F2, hF, hd, ⟨G1, G2, hG, hd2, hp, hq⟩, hr⟩
    refine ⟨G1, fun b => G2 b ∨ F2 b, fun b => ?_, fun b hb => ?_, hp, G2, F2, fun _ => Iff.rfl, fun b hb hb2 => hd b ((hG b).2 (.inr hb)) hb2, hq, hr⟩
    · rw [hF, hG, or_assoc]
    · rintro (h | h)
      · exact hd2 b hb h
      · exact hd b ((hG b).2 (.inl hb)) h
  · rintro ⟨F1, F2, hF, hd, hp, G1, G2, hG, hd2, hq, hr⟩
    refine ⟨fun b => F1 b ∨ G1 b, G2, fun b => ?_, fun b hb => ?_, ⟨F1, G1, fun _ => Iff.rfl, fun b hb hb2 => hd b hb ((hG b).2 (.inl hb2)), hp, hq⟩, hr⟩
    · rw [hF, hG, or_assoc]
    · rcases hb with hb | hb
      · exact fun h => hd b hb ((hG b).2 (.inr h))
      · exact hd2 b hb
theorem starL_append {l rs : List HP} : ∀ {F : Nat → Prop} {w : World}, (star (starL l) (starL rs)).ok F w ↔ (starL (l ++ rs)).ok F w := by
  induction l with
  | nil =>
    intro F w
    constructor
    · rintro ⟨F1, F2, hF, hd, ⟨_, h1⟩, h2⟩
      have : F = F2 := funext fun b => propext ((hF b).trans ⟨fun h => h.elim (fun h => (h1 b h).elim) id, .inr⟩)
      rw [this]; exact h2
    · intro h
      exact ⟨fun _ => False, F, fun b => by simp, fun _ h => h.elim, ⟨trivial, fun _ h => h⟩, h⟩
  | cons p l ih =>
    intro F w
    show (star (star p (starL l)) (starL rs)).ok F w ↔ (star p (starL (l ++ rs))).ok F w
    rw [star_assoc]
    constructor
    · rintro ⟨F1, F2, hF, hd, hp, hr⟩; exact ⟨F1, F2, hF, hd, hp, ih.1 hr⟩
    · rintro ⟨F1, F2, hF, hd, hp, hr⟩; exact ⟨F1, F2, hF, hd, hp, ih.2 hr⟩
/-- A bundle is its parts. -/
theorem Sep.parts {w₀ w : World} {S : Nat → Prop} {l rs : List HP} (h : Sep w₀ S (starL l :: rs) w) : Sep w₀ S (l ++ rs) w := by
  obtain ⟨h1, F, hF, hS⟩ := h
  exact ⟨h1, F, starL_append.1 hF, hS⟩
theorem Sep.bundle {w₀ w : World} {S : Nat → Prop} {l rs : List HP} (h : Sep w₀ S (l ++ rs) w) : Sep w₀ S (starL l :: rs) w := by
  obtain ⟨h1, F, hF, hS⟩ := h
  exact ⟨h1, F, starL_append.2 hF, hS⟩
/-- A contract's post-condition: of the pieces with blocks F these have become. -/
def Turns (F : Nat → Prop) (outs : List HP) (w w' : World) : Prop := Kept F w w' ∧ ∃ F', (starL outs).ok F' w' ∧ ∀ b, F' b → F b ∨ w.heap.size ≤ b
theorem Sep.turns {w₀ w : World} {S : Nat → Prop} {rs : List HP} (h : Sep w₀ S rs w) : Turns S rs w₀ w := h
end Go.Mw
