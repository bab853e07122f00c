/-
  Numbers as bytes, and back; roots: plain laws.
-/
import Derived.Test.YteflbohpabdjkaaSlotC
namespace Go.Proofs.Yteflbohpabdjkaa
open Go Go.Mw

theorem byteAt_div (n : Int) (k : Nat) : byteAt (n / 256) k = byteAt n (k + 1) := by
  unfold byteAt
  congr 3
  rw [Int.fdiv_eq_ediv_of_nonneg _ (by exact Int.pow_nonneg (by decide)), Int.fdiv_eq_ediv_of_nonneg _ (by exact Int.pow_nonneg (by decide)), Int.ediv_ediv_of_nonneg (by decide)]
  congr 1
  rw [show 8 * (k + 1) = 8 * k + 8 by omega, Int.pow_add, Int.mul_comm]
  rfl
theorem be_succ (m : Nat) (n : Int) : be (m + 1) n = be m (n / 256) ++ [byteAt n 0] := by
  unfold be
  rw [List.range_succ, List.map_append]
  congr 1
  · apply List.map_congr_left
    intro i hi
    rw [List.mem_range] at hi
    rw [byteAt_div]
    congr 1
    omega
  · simp
theorem takeN_be : ∀ (m : Nat) (n : Int), m ≤ 8 → 0 ≤ n → n < 256 ^ m → (takeN (be m n) : Int) = n
  | 0, n, _, h0, h1 => by
    have : n = 0 := by simp at h1; omega
    subst this
    rfl
  | m + 1, n, hm, h0, h1 => by
    have ih := takeN_be m (n / 256) (by omega) (by omega) (by
      rw [Int.pow_succ] at h1
      exact Int.ediv_lt_of_lt_mul (by decide) h1)
    rw [be_succ, takeN_snoc]
    have hb := byteAt_val n 0
    have e : n.fdiv (2 ^ (8 * 0)) = n := by simp
    rw [e] at hb
    have hp : (256 : Int) ^ (m + 1) ≤ 18446744073709551616 := by
      rcases (show m = 0 ∨ m = 1 ∨ m = 2 ∨ m = 3 ∨ m = 4 ∨ m = 5 ∨ m = 6 ∨ m = 7 by omega) with rfl | rfl | rfl | rfl | rfl | rfl | rfl | rfl <;> decide
    omega
theorem rootB_take8 (n m : Int) : (rootB n m).take 8 = be 8 n := by
  unfold rootB
  rw [List.append_assoc, List.take_append_of_le_length (by rw [be_length]; decide), List.take_of_length_le (by rw [be_length]; decide)]
theorem rootB_mid (n m : Int) : ((rootB n m).drop 8).take 4 = be 4 m := by
  unfold rootB
  rw [List.append_assoc, List.drop_append_of_le_length (by rw [be_length]; decide), List.drop_of_length_le (by rw [be_length]; decide), List.nil_append, List.take_append_of_le_length (by rw [be_length]; decide), List.take_of_length_le (by rw [be_length]; decide)]
theorem takeN4_lt {l : List UInt8} (h : l.length = 4) : takeN l < 4294967296 := by
  match l, h with
  | [a, b, c, d], _ =>
    have := a.toNat_lt
    have := b.toNat_lt
    have := c.toNat_lt
    have := d.toNat_lt
    simp only [takeN, List.foldl_cons, List.foldl_nil]
    omega
/-- The root that the program looks at, and the one that the plain words say. -/
theorem root_iff {b : List UInt8} (_hb : b.length = 128) : (rootB ((takeN (b.take 8) % 9007199254740992 : Nat) : Int) (takeN ((b.drop 8).take 4)) = b) ↔ (b = rootB (takeN (b.take 8)) (takeN ((b.drop 8).take 4)) ∧ (takeN (b.take 8) : Int) ≤ mostNum) := by
  unfold mostNum
  constructor
  · intro h
    have h1 := congrArg (fun l => takeN (l.take 8)) h
    simp only [rootB_take8] at h1
    have h2 := takeN_be 8 ((takeN (b.take 8) % 9007199254740992 : Nat) : Int) (by decide) (by omega) (by
      have h8 : (256 : Int) ^ 8 = 18446744073709551616 := by decide
      omega)
    have h3 : takeN (b.take 8) % 9007199254740992 = takeN (b.take 8) := by omega
    rw [h3] at h
    exact ⟨h.symm, by omega⟩
  · rintro ⟨h, hn⟩
    rw [Nat.mod_eq_of_lt (by omega)]
    exact h.symm
end Go.Proofs.Yteflbohpabdjkaa
