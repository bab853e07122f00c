/-
  slices.Clone, maps.Clone, slices.Index and slices.Contains, walked.
-/
import Derived.Test.YteflbohpabdjkaaDiskB
namespace Go.Proofs.Yteflbohpabdjkaa
open Go Go.Mw
set_option maxRecDepth 4000

section
variable {w : World}
theorem cloneInts_ok {A : Option Addr} {n c : Nat} {xs : List Value} (hr : RowAt w A n 1 xs) (h1 : ∀ u ∈ xs, u.oneCell' = true) (hn : n ≤ 1000000000000) : Rets Try.prog 66 [.slice A n c] w fun v w' => ∃ v', v = v' ∧ True ∧ Turn noB (rowH 3 1 v' n xs) w w' := by
  have H := Sep.start0 w
  refine rets1 Try.func66 rfl rfl rfl rfl ?_
  refine FW_seq ?_
  refine FW_region ?_
  refine FL_assign (h := ?_)
  refine FL_nil (Qseq_normal ?_)
  refine FW_seq ?_
  refine FW_seq ?_
  refine FW_region ?_
  refine FL_move (h := ?_)
  refine FL_val (Gives.eqlNilSl rfl rfl) rfl ?_
  refine FL_nil (Qseq_normal ?_)
  first | refine FW_condP rfl (fun hc4 => ?_) (fun hc4 => ?_) | refine FW_cond rfl (fun hc4 => ?_) (fun hc4 => ?_)
  · skip
    have hA : A = none := by simpa using hc4
    subst hA
    have hn0 : n = 0 := by
      rcases Nat.eq_zero_or_pos n with h0 | h0
      · exact h0
      · obtain ⟨_, h, _⟩ := hr.at_ h0; cases h
    subst hn0
    have hx : xs = [] := List.eq_nil_of_length_eq_zero (by simpa using hr.len)
    subst hx
    refine FW_seq ?_
    refine FW_region ?_
    refine FL_assign (h := ?_)
    refine FL_nil (Qseq_normal ?_)
    refine FW_ret (Qseq_ret (Qfn_ret (hR := ?_)))
    exact ⟨_, rfl, trivial, (H.nilRow _ _).turn⟩ --done
  · skip
    refine FW_skip (Qseq_normal ?_)
    refine FW_seq ?_
    refine FW_region ?_
    refine FL_buildSlice H Elems.nil rfl rfl rfl (fun b6 w7 H7 k6 => ?_)
    have hr2 := hr.keep k6
    have H2 := Sep.asRow H7 At0 (s := 1) (n := 0) rfl (by decide)
    refine FL_move (h := ?_)
    refine FL_append H2 (hx := by exact rfl) (hy := by exact rfl) (hat := At0) hr2 h1 (h63 := by unfold maxLen; omega) (hbytes := by omega) (h := fun v9 w10 H10 => ?_)
    refine FL_assign (h := ?_)
    refine FL_nil (Qseq_normal ?_)
    refine FW_ret (Qfn_ret (hR := ?_))
    rw [Nat.zero_add] at H10
    exact ⟨_, rfl, trivial, H10.turn⟩
theorem cloneOpens_ok {A : Option Addr} {n c : Nat} {xs : List Value} (hr : RowAt w A n 129 xs) (h1 : ∀ u ∈ xs, u.oneCell' = true) (hn : n ≤ 1000000000000) : Rets Try.prog 68 [.slice A n c] w fun v w' => ∃ v', v = v' ∧ True ∧ Turn noB (rowH 101 129 v' n xs) w w' := by
  have H := Sep.start0 w
  refine rets1 Try.func68 rfl rfl rfl rfl ?_
  refine FW_seq ?_
  refine FW_region ?_
  refine FL_assign (h := ?_)
  refine FL_nil (Qseq_normal ?_)
  refine FW_seq ?_
  refine FW_seq ?_
  refine FW_region ?_
  refine FL_move (h := ?_)
  refine FL_val (Gives.eqlNilSl rfl rfl) rfl ?_
  refine FL_nil (Qseq_normal ?_)
  first | refine FW_condP rfl (fun hc4 => ?_) (fun hc4 => ?_) | refine FW_cond rfl (fun hc4 => ?_) (fun hc4 => ?_)
  · skip
    have hA : A = none := by simpa using hc4
    subst hA
    have hn0 : n = 0 := by
      rcases Nat.eq_zero_or_pos n with h0 | h0
      · exact h0
      · obtain ⟨_, h, _⟩ := hr.at_ h0; cases h
    subst hn0
    have hx : xs = [] := List.eq_nil_of_length_eq_zero (by simpa using hr.len)
    subst hx
    refine FW_seq ?_
    refine FW_region ?_
    refine FL_assign (h := ?_)
    refine FL_nil (Qseq_normal ?_)
    refine FW_ret (Qseq_ret (Qfn_ret (hR := ?_)))
    exact ⟨_, rfl, trivial, (H.nilRow _ _).turn⟩ --done
  · skip
    refine FW_skip (Qseq_normal ?_)
    refine FW_seq ?_
    refine FW_region ?_
    refine FL_buildSlice H Elems.nil rfl rfl rfl (fun b6 w7 H7 k6 => ?_)
    have hr2 := hr.keep k6
    have H2 := Sep.asRow H7 At0 (s := 129) (n := 0) rfl (by decide)
    refine FL_move (h := ?_)
    refine FL_append H2 (hx := by exact rfl) (hy := by exact rfl) (hat := At0) hr2 h1 (h63 := by unfold maxLen; omega) (hbytes := by omega) (h := fun v9 w10 H10 => ?_)
    refine FL_assign (h := ?_)
    refine FL_nil (Qseq_normal ?_)
    refine FW_ret (Qfn_ret (hR := ?_))
    rw [Nat.zero_add] at H10
    exact ⟨_, rfl, trivial, H10.turn⟩
theorem cloneMap_ok {b : Nat} {g : Int → Option Value} {F : Nat → Prop} (h : (mapI b g).ok F w) : Rets Try.prog 67 [.map (some b)] w fun v w' => ∃ b', v = .map (some b') ∧ True ∧ Turn noB (mapI b' g) w w' := by
  obtain ⟨hF, es, c, hb, hk, hf⟩ := mapI_ok.1 h
  have H := Sep.start0 w
  refine rets1 Try.func67 rfl rfl rfl rfl ?_
  refine FW_seq ?_
  refine FW_region ?_
  refine FL_assign (h := ?_)
  refine FL_nil (Qseq_normal ?_)
  refine FW_seq ?_
  refine FW_seq ?_
  refine FW_region ?_
  refine FL_move (h := ?_)
  refine FL_val (Gives.eqlNilM rfl rfl) rfl ?_
  refine FL_nil (Qseq_normal ?_)
  first | refine FW_condP rfl (fun hc4 => ?_) (fun hc4 => ?_) | refine FW_cond rfl (fun hc4 => ?_) (fun hc4 => ?_)
  · skip
    cases hc4 --done
  · skip
    refine FW_skip (Qseq_normal ?_)
    refine FW_seq ?_
    refine FW_region ?_
    refine FL_move (h := ?_)
    refine FL_val (Gives.makeIfaceM rfl) rfl ?_
    refine FL_cloneB H rfl hb hk hf rfl (fun b8 w9 H9 => ?_)
    refine FL_val (Gives.assertM rfl) rfl ?_
    refine FL_assign (h := ?_)
    refine FL_nil (Qseq_normal ?_)
    refine FW_ret (Qfn_ret (hR := ?_))
    exact ⟨_, rfl, trivial, H9.turn⟩
end
/-- The first place of a number in a list. -/
def idxOf (l : List Int) (k : Int) : Int := if l.contains k then (l.idxOf k : Int) else -1
theorem idxOf_some {l : List Int} {k : Int} {x : Nat} (hx : x < l.length) (hk : k = l[x]) (hno : ∀ j, j < x → l[j]? ≠ some k) : idxOf l k = x := by
  have hm : k ∈ l := by rw [hk]; exact List.getElem_mem hx
  have hl := List.idxOf_lt_length_iff.2 hm
  have hg : l[l.idxOf k]'hl = k := List.getElem_idxOf hl
  have h1 : ¬ l.idxOf k < x := fun h => hno _ h (by rw [List.getElem?_eq_getElem hl, hg])
  have h2 : ¬ x < l.idxOf k := fun h => by
    have := List.not_of_lt_findIdx (p := fun a => a == k) (xs := l) (i := x) (by simpa [List.idxOf] using h)
    simp [hk] at this
  unfold idxOf
  rw [if_pos (by simpa using hm)]
  omega
theorem idxOf_none {l : List Int} {k : Int} (hno : ∀ j, j < l.length → l[j]? ≠ some k) : idxOf l k = -1 := by
  unfold idxOf
  rw [if_neg]
  intro h
  obtain ⟨i, hi, he⟩ := List.getElem_of_mem (List.contains_iff_mem.1 h)
  exact hno i hi (by rw [List.getElem?_eq_getElem hi, he])
theorem idxOf_nonneg {l : List Int} {k : Int} : (0 ≤ idxOf l k) ↔ l.contains k = true := by
  unfold idxOf
  split <;> simp_all
section
variable {w : World}
theorem index_ok {A : Option Addr} {c : Nat} {l : List Int} (hr : RowAt w A l.length 1 (l.map I)) (hl : (l.length : Int) ≤ 9223372036854775806) (k : Int) : Rets Try.prog 90 [.slice A l.length c, I k] w fun v w' => v = I (idxOf l k) ∧ w = w' := by
  refine rets2 Try.func90 rfl rfl rfl rfl ?_
  refine FW_seq ?_
  refine FW_region ?_
  refine FL_assign (h := ?_)
  refine FL_nil (Qseq_normal ?_)
  refine FW_seq ?_
  refine FW_seq ?_
  refine FW_region ?_
  refine FL_move (h := ?_)
  refine FL_val (Gives.lenSlice rfl) rfl ?_
  refine FL_move (h := ?_)
  refine FL_nil (Qseq_normal ?_)
  refine FW_block ?_
  refine FW_loop' (fun i : Nat => [(0, .slice A l.length c), (1, I k), (7, I l.length), (8, I i)]) (fun i w' => w = w' ∧ i ≤ l.length ∧ ∀ j, j < i → l[j]? ≠ some k) (fun i _ => l.length - i) 0 ⟨rfl, rfl, rfl, rfl, trivial⟩ ⟨rfl, Nat.zero_le _, fun j hj => absurd hj (Nat.not_lt_zero j)⟩ (fun x τ w1 hI => ?_)
  obtain ⟨rfl, hx, hno⟩ := hI
  try simp only [upds, like, upd_ds, und_ds]
  refine FW_seq ?_
  refine FW_region ?_
  refine FL_val (Gives.lss rfl rfl) rfl ?_
  refine FL_nil (Qseq_normal ?_)
  refine FW_seq ?_
  first | refine FW_condP rfl (fun hc7 => ?_) (fun hc7 => ?_) | refine FW_cond rfl (fun hc7 => ?_) (fun hc7 => ?_)
  · skip
    have hlt : x < l.length := by omega
    obtain ⟨ad, hA, hcell⟩ := hr.at_ (by omega)
    subst hA
    refine FW_skip (Qseq_normal ?_)
    refine FW_seq ?_
    refine FW_block ?_
    refine FW_seq ?_
    refine FW_region ?_
    refine FL_move (h := ?_)
    refine FL_assign (h := ?_)
    refine FL_nil (Qseq_normal ?_)
    refine FW_seq ?_
    refine FW_region ?_
    refine FL_move (h := ?_)
    refine FL_move (h := ?_)
    refine FL_move (h := ?_)
    refine FL_val (Gives.idx rfl rfl hlt) rfl ?_
    refine FL_loadC (hcell _ _ (show (l.map I)[x * 1]? = some (I l[x]) by simp [hlt])) (h := ?_)
    refine FL_val (Gives.eql rfl rfl) rfl ?_
    refine FL_nil (Qseq_normal ?_)
    first | refine FW_condP rfl (fun hc17 => ?_) (fun hc17 => ?_) | refine FW_cond rfl (fun hc17 => ?_) (fun hc17 => ?_)
    · skip
      have hkx := hc17
      refine FW_seq ?_
      refine FW_region ?_
      refine FL_move (h := ?_)
      refine FL_assign (h := ?_)
      refine FL_nil (Qseq_normal ?_)
      refine FW_ret (Qblk_ret (Qseq_ret (Qround_ret (Qblk_ret (Qseq_ret (Qfn_ret (hR := ?_)))))))
      exact ⟨by rw [idxOf_some hlt hkx hno]; rfl, rfl⟩
    · skip
      refine FW_skip (Qblk_normal (Qseq_normal ?_))
      refine FW_region ?_
      first | refine FL_val (Gives.addI rfl rfl rfl (by omega)) rfl ?_ | refine FL_val (Gives.add rfl rfl) rfl ?_
      refine FL_move (h := ?_)
      refine FL_nil ?_
      exact Qround_normal (x + 1) ⟨rfl, rfl, rfl, rfl, trivial⟩ ⟨rfl, by omega, fun j hj => by
      rcases Nat.lt_succ_iff_lt_or_eq.1 hj with h | h
      · exact hno j h
      · subst h; simp [hlt]; omega⟩ (by omega)
  · skip
    have hx : x = l.length := by omega
    subst hx
    refine FW_exit (Qseq_exit (Qround_exit (Qblk_exit (Qseq_normal ?_))))
    refine FW_seq ?_
    refine FW_region ?_
    refine FL_assign (h := ?_)
    refine FL_nil (Qseq_normal ?_)
    refine FW_ret (Qfn_ret (hR := ?_))
    exact ⟨by rw [idxOf_none hno]; rfl, rfl⟩
theorem contains_ok {A : Option Addr} {c : Nat} {l : List Int} (hr : RowAt w A l.length 1 (l.map I)) (hl : (l.length : Int) ≤ 9223372036854775806) (k : Int) : Rets Try.prog 89 [.slice A l.length c, I k] w fun v w' => v = .bool (l.contains k) ∧ w = w' := by
  refine rets2 Try.func89 rfl rfl rfl rfl ?_
  refine FW_seq ?_
  refine FW_region ?_
  refine FL_assign (h := ?_)
  refine FL_nil (Qseq_normal ?_)
  refine FW_seq ?_
  refine FW_region ?_
  refine FL_move (h := ?_)
  refine FL_move (h := ?_)
  refine FL_callS (index_ok hr hl k) (h := ?_)
  refine FL_val (Gives.geq rfl rfl) rfl ?_
  refine FL_assign (h := ?_)
  refine FL_nil (Qseq_normal ?_)
  refine FW_ret (Qfn_ret (hR := ?_))
  exact ⟨by show Value.bool (decide _) = _; congr 1; rw [Bool.eq_iff_iff, decide_eq_true_iff]; exact idxOf_nonneg, rfl⟩
end
end Go.Proofs.Yteflbohpabdjkaa
