/-
  The disk and the reference's disk, side by side: plain laws.
-/
import Derived.Test.YteflbohpabdjkaaRefE
namespace Go.Proofs.Yteflbohpabdjkaa
open Go Go.Mw

def tot (f : Int → Option (List UInt8)) : Int → List UInt8 := fun k => (f k).getD zeroSec
theorem tot_setAt (f : Int → Option (List UInt8)) (k : Int) (b : List UInt8) : tot (setAt f k b) = setT (tot f) k b := by
  funext j
  unfold tot setAt setT
  split <;> rfl
theorem tot_all : ∀ (l : List (Int × List UInt8)) (f : Int → Option (List UInt8)), tot (DM.keptAll l f) = allT l (tot f)
  | [], _ => rfl
  | x :: l, f => by
    unfold DM.keptAll allT
    rw [tot_all l, tot_setAt]
theorem tot_by (keep : List Int) : ∀ (i : Nat) (l : List (Int × List UInt8)) (f : Int → Option (List UInt8)), tot (keptBy keep i l f) = keptT keep i l (tot f)
  | _, [], _ => rfl
  | i, x :: l, f => by
    unfold keptBy keptT
    rw [tot_by keep (i + 1) l]
    split
    · rw [tot_setAt]
    · rfl
/-- The same on numbers from nought on. -/
def same (f g : Int → List UInt8) : Prop := ∀ k, 0 ≤ k → f k = g k
theorem same_set {f g : Int → List UInt8} (h : same f g) (k : Int) (b : List UInt8) : same (setT f k b) (setT g k b) := by
  intro j hj
  unfold setT
  split
  · rfl
  · exact h j hj
theorem same_all : ∀ {l : List (Int × List UInt8)} {f g : Int → List UInt8}, same f g → same (allT l f) (allT l g)
  | [], _, _, h => h
  | x :: l, _, _, h => same_all (l := l) (same_set h x.1 x.2)
theorem same_by {keep : List Int} : ∀ {i : Nat} {l : List (Int × List UInt8)} {f g : Int → List UInt8}, same f g → same (keptT keep i l f) (keptT keep i l g)
  | _, [], _, _, h => h
  | i, x :: l, f, g, h => by
    unfold keptT
    split
    · exact same_by (i := i + 1) (l := l) (same_set h x.1 x.2)
    · exact same_by (i := i + 1) (l := l) h
structure Sim (d : DM) (a : AM) : Prop where
  wf : d.wf
  size : d.size = a.many
  dead : d.dead = a.dead
  ops : d.ops = a.ops
  opn : d.opn = a.opn
  kept : same (tot d.kept) a.kf
  sync : DM.keptAll d.opn d.kept = d.now
  fail : (d.fail = 0 ∧ (a.left ≤ 0 ∨ 2000000 < a.left + a.ops)) ∨ (d.fail = d.ops + a.left ∧ 0 < a.left ∧ d.keep = a.keep)
namespace Sim
variable {d : DM} {a : AM}
theorem look (h : Sim d a) (k : Int) : d.look k = a.look k := by
  unfold DM.look AM.look
  rw [h.dead, h.size]
theorem sec (h : Sim d a) {k : Int} (hk : 0 ≤ k) : d.sec k = a.sec k := by
  have h1 : d.sec k = tot d.now k := rfl
  rw [h1, ← h.sync, tot_all, h.opn]
  exact same_all h.kept k hk
theorem read (h : Sim d a) (k : Int) : d.read k = a.read k := by
  unfold DM.read AM.read
  rw [h.look]
  split
  · rfl
  · rename_i hl
    have : 0 ≤ k := by
      have hl : a.look k = 0 := by simpa using hl
      rw [← h.look] at hl
      exact (look_zero hl).2.1
    rw [h.sec this]
theorem new (n : Int) (hn : 1 ≤ n ∧ n ≤ 65536) : Sim (DM.new n) (AM.new n) :=
  ⟨⟨hn.1, hn.2, fun _ _ h => (by cases h), fun _ _ h => (by cases h), fun _ h => (by cases h)⟩, rfl, rfl, rfl, rfl, fun _ _ => rfl, rfl, .inl ⟨rfl, .inl (Int.le_refl 0)⟩⟩
theorem fall (h : Sim d a) (keep : List Int) : Sim (d.fall keep) (a.fall keep) := by
  refine ⟨h.wf.fall keep, h.size, rfl, h.ops, rfl, ?_, rfl, .inl ⟨rfl, .inl (Int.le_refl 0)⟩⟩
  show same (tot (keptBy keep 0 d.opn d.kept)) (keptT keep 0 a.opn a.kf)
  rw [tot_by, h.opn]
  exact same_by h.kept
theorem boot (h : Sim d a) : Sim d.boot a.boot := ⟨h.wf, h.size, rfl, h.ops, h.opn, h.kept, h.sync, h.fail⟩
theorem crash (h : Sim d a) (keep : List Int) : Sim (d.crash keep) (a.crash keep) := by
  unfold DM.crash AM.crash
  rw [h.dead]
  split
  · exact h
  · exact h.fall keep
theorem put (h : Sim d a) {k : Int} {b : List UInt8} (hb : b.length ≤ 128) : Sim (d.put k b) (a.put k b) := by
  refine ⟨h.wf.put hb, h.size, h.dead, h.ops, ?_, h.kept, ?_, h.fail⟩
  · show d.opn ++ _ = a.opn ++ _
    rw [h.opn]
  · show DM.keptAll (d.opn ++ [(k, pad b)]) d.kept = setAt d.now k (pad b)
    rw [keptAll_append, h.sync]
    rfl
theorem op (h : Sim d a) (h0 : 0 ≤ d.ops ∧ d.ops ≤ 1000000) : d.count.1 = !a.fails ∧ Sim d.count.2 (if a.fails then a.counts.fall a.keep else a.counts) := by
  have hf := h.fail
  have ho := h.ops
  have hiff : d.ops + 1 = d.fail ↔ a.left - 1 = 0 := by
    rcases hf with ⟨h1, h2⟩ | ⟨h1, h2, _⟩ <;> constructor <;> intro <;> omega
  unfold DM.count AM.fails
  by_cases hc : a.left - 1 = 0
  · rw [if_pos (hiff.2 hc), decide_eq_true hc, if_pos rfl]
    refine ⟨rfl, ?_⟩
    have hk : d.keep = a.keep := by
      rcases hf with ⟨h1, h2⟩ | ⟨_, _, h3⟩
      · omega
      · exact h3
    have h1 : Sim { d with ops := d.ops + 1, fail := 0 } { a.counts with left := 0 } := ⟨h.wf, h.size, h.dead, by show d.ops + 1 = a.ops + 1; rw [ho], h.opn, h.kept, h.sync, .inl ⟨rfl, .inl (Int.le_refl 0)⟩⟩
    rw [hk]
    exact h1.fall a.keep
  · rw [if_neg fun e => hc (hiff.1 e), decide_eq_false hc, if_neg (by simp)]
    refine ⟨rfl, h.wf, h.size, h.dead, by show d.ops + 1 = a.ops + 1; rw [ho], h.opn, h.kept, h.sync, ?_⟩
    show (d.fail = 0 ∧ (a.left - 1 ≤ 0 ∨ 2000000 < a.left - 1 + (a.ops + 1))) ∨ (d.fail = d.ops + 1 + (a.left - 1) ∧ 0 < a.left - 1 ∧ d.keep = a.keep)
    rcases hf with ⟨h1, h2⟩ | ⟨h1, h2, h3⟩
    · exact .inl ⟨h1, by omega⟩
    · exact .inr ⟨by omega, by omega, h3⟩
theorem write (h : Sim d a) (h0 : 0 ≤ d.ops ∧ d.ops ≤ 1000000) (k : Int) (b : List UInt8) : (d.write k b).1 = (a.write k b).1 ∧ Sim (d.write k b).2 (a.write k b).2 := by
  unfold DM.write AM.write
  rw [h.look]
  split
  · exact ⟨rfl, h⟩
  · split
    · exact ⟨rfl, h⟩
    · obtain ⟨h1, h2⟩ := (h.put (k := k) (b := b) (by omega)).op h0
      unfold AM.op
      rw [h1]
      cases hf : (a.put k b).fails
      · rw [hf] at h2
        exact ⟨rfl, h2⟩
      · rw [hf] at h2
        exact ⟨rfl, h2⟩
theorem flush (h : Sim d a) (h0 : 0 ≤ d.ops ∧ d.ops ≤ 1000000) : d.flush.1 = a.flush.1 ∧ Sim d.flush.2 a.flush.2 := by
  have hl : d.look 0 = if a.dead then 290 else 0 := by
    unfold DM.look
    rw [h.dead]
    split
    · rfl
    · rw [if_neg (by have := h.wf.1; omega)]
  obtain ⟨h1, h2⟩ := h.op h0
  unfold DM.flush AM.flush AM.op
  rw [hl]
  cases hd : a.dead
  · cases hf : a.fails
    · rw [hf] at h1 h2
      simp only [Bool.false_eq_true, if_false, h1, Bool.not_false, if_true, ne_eq, not_true_eq_false]
      refine ⟨trivial, ⟨h2.wf.1, h2.wf.2.1, keptAll_wf h.wf.2.2.2.2 h.wf.2.2.1, h2.wf.2.2.2.1, fun _ hx => (by cases hx)⟩, h2.size, h2.dead, h2.ops, rfl, ?_, ?_, h2.fail⟩
      · show same (tot (DM.keptAll d.opn d.kept)) (allT a.opn a.kf)
        rw [tot_all, h.opn]
        exact same_all h.kept
      · show DM.keptAll d.opn d.kept = d.count.2.now
        rw [h.sync]
        unfold DM.count at h1 ⊢
        split <;> simp_all
    · rw [hf] at h1 h2
      simp only [Bool.false_eq_true, if_false, h1, Bool.not_true, if_true, ne_eq, not_true_eq_false]
      exact ⟨trivial, h2⟩
  · simp only [if_true]
    rw [if_pos (show (290 : Int) ≠ 0 by decide)]
    exact ⟨rfl, h⟩
theorem failAt (h : Sim d a) (h0 : 0 ≤ d.ops ∧ d.ops ≤ 1000000) (ops : Int) (keep : List Int) : Sim (d.failAt ops keep) (a.fail ops keep) := by
  have ho := h.ops
  unfold DM.failAt AM.fail
  rw [h.dead]
  split
  · exact h
  · split
    · rename_i h1
      exact ⟨h.wf, h.size, rfl, h.ops, h.opn, h.kept, h.sync, .inr ⟨by show d.ops + ops = d.ops + max ops 0; omega, by show 0 < max ops 0; omega, rfl⟩⟩
    · rename_i h1
      exact ⟨h.wf, h.size, rfl, h.ops, h.opn, h.kept, h.sync, .inl ⟨rfl, by show max ops 0 ≤ 0 ∨ 2000000 < max ops 0 + a.ops; omega⟩⟩
end Sim
end Go.Proofs.Yteflbohpabdjkaa
