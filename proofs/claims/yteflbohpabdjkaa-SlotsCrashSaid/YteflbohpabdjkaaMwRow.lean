/-
  Rows that are owned, opened to their blocks and shut again; pools of small rows. Nothing of a given program stands here.
-/
import Derived.Test.YteflbohpabdjkaaMwMake
namespace Go.Mw
open Go.RowKit

section
variable {w w' w₀ : World} {S : Nat → Prop} {rs : List HP} {put : HP → List HP}
theorem Sep.rowOpen {E s n : Nat} {v : Value} {xs : List Value} (h : Sep w₀ S rs w) (hat : At rs (rowH E s v n xs) put) (hn : 0 < n) :
    ∃ g c rest, v = .slice (some ⟨g, 0, none⟩) n c ∧ (xs ++ rest).length = c * s ∧ xs.length = n * s ∧ n ≤ c ∧ c ≤ maxLen ∧ Sep w₀ S (put (blk g (xs ++ rest) E)) w := by
  obtain ⟨F, hp, hS, hput⟩ := h.focus hat
  obtain ⟨⟨hl, ho⟩, hF⟩ := hp
  rcases ho with ⟨_, h0⟩ | ⟨g, c, cur, hv, _, hh, hle, hmax, hsz, htk⟩
  · omega
  · have e : cur = (xs ++ cur.toList.drop (n * s)).toArray := by
      rw [← htk, List.take_append_drop, Array.toArray_toList]
    refine ⟨g, c, cur.toList.drop (n * s), hv, ?_, hl, hle, hmax, ?_⟩
    · have := congrArg Array.size e
      rw [hsz] at this
      simpa using this.symm
    · refine h.imp hat fun F hF => ⟨fun b => ?_, ?_⟩
      · rw [hF.2 b, hv]
        simp [Value.ownBlock, eq_comm]
      · show w.heap[g]? = some (.cells (xs ++ cur.toList.drop (n * s)).toArray E (0, 0))
        rw [hh, ← e]
theorem Sep.rowShut {E s n c g : Nat} {xs rest : List Value} (h : Sep w₀ S rs w) (hat : At rs (blk g (xs ++ rest) E) put) (hc : (xs ++ rest).length = c * s) (hl : xs.length = n * s) (hle : n ≤ c) (hm : c ≤ maxLen) :
    Sep w₀ S (put (rowH E s (.slice (some ⟨g, 0, none⟩) n c) n xs)) w :=
  h.imp hat fun F hF => ⟨⟨hl, .inr ⟨g, c, (xs ++ rest).toArray, rfl, Nat.zero_le _, hF.2, hle, hm, by simpa using hc, by rw [← hl]; simp⟩⟩, fun x => by rw [hF.1 x]; simp [Value.ownBlock, eq_comm]⟩
theorem set_front {xs rest : List Value} {i : Nat} {v : Value} (h : i < xs.length) : (xs ++ rest).set i v = xs.set i v ++ rest := by
  rw [List.set_append_left _ _ h]
/-- Small rows, each in a block of its own. -/
def poolH (E : Nat) : List (Nat × List Value) → HP
  | [] => emp
  | x :: l => star (blk x.1 x.2 E) (poolH E l)
theorem poolH_get {E : Nat} : ∀ {pool : List (Nat × List Value)} {F : Nat → Prop} {w : World}, (poolH E pool).ok F w → ∀ x ∈ pool, w.heap[x.1]? = some (.cells x.2.toArray E (0, 0))
  | [], _, _, _, _, hx => by cases hx
  | y :: l, F, w, ⟨F1, F2, _, _, h1, h2⟩, x, hx => by
    rcases List.mem_cons.1 hx with rfl | hx
    · exact h1.2
    · exact poolH_get h2 x hx
theorem Sep.pool {E : Nat} {pool : List (Nat × List Value)} (h : Sep w₀ S rs w) (hat : At rs (poolH E pool) put) {x : Nat × List Value} (hx : x ∈ pool) : w.heap[x.1]? = some (.cells x.2.toArray E (0, 0)) := by
  obtain ⟨F, hp, _, _⟩ := h.focus hat
  exact poolH_get hp x hx
theorem rowAt_of_block {b E m s : Nat} {cs : List Value} (hb : w.heap[b]? = some (.cells cs.toArray E (0, 0))) (hl : cs.length = m * s) : RowAt w (some ⟨b, 0, none⟩) m s cs :=
  ⟨hl, fun _ => ⟨_, rfl, fun j u hu => by rw [Addr.add_lit, Nat.zero_add, cell_blk hb]; exact hu⟩⟩
/-- Two pools are one. -/
theorem poolH_append {E : Nat} {a b : List (Nat × List Value)} : ∀ {F : Nat → Prop} {w : World}, (star (poolH E a) (poolH E b)).ok F w → (poolH E (a ++ b)).ok F w := by
  induction a with
  | nil =>
    rintro F w ⟨F1, F2, hF, hd, ⟨_, h1⟩, h2⟩
    have : F = F2 := funext fun b => propext ((hF b).trans ⟨fun h => h.elim (fun h => (h1 b h).elim) id, .inr⟩)
    rw [this]; exact h2
  | cons p l ih =>
    intro F w h
    obtain ⟨F1, F2, hF, hd, hp, hr⟩ := star_assoc.1 h
    exact ⟨F1, F2, hF, hd, hp, ih hr⟩
theorem Sep.poolJoin {E : Nat} {a b : List (Nat × List Value)} (h : Sep w₀ S (poolH E a :: poolH E b :: rs) w) : Sep w₀ S (poolH E (a ++ b) :: rs) w :=
  Sep.imp h.join0 At0 fun _ hF => poolH_append hF
theorem Sep.poolCons {E b : Nat} {cs : List Value} {a : List (Nat × List Value)} (h : Sep w₀ S (blk b cs E :: poolH E a :: rs) w) : Sep w₀ S (poolH E ((b, cs) :: a) :: rs) w := h.join0
theorem Sep.poolNil (h : Sep w₀ S rs w) (E : Nat) : Sep w₀ S (poolH E [] :: rs) w := Sep.addPure trivial h
end
end Go.Mw
