/-
  The statements' helpers on disks, walked.
-/
import Derived.Test.YteflbohpabdjkaaLawA
namespace Go.Proofs.Yteflbohpabdjkaa
open Go Go.Mw
set_option maxRecDepth 4000

section
variable {p : Nat} {d : DM} {F : Nat → Prop} {w w₀ : World} {S : Nat → Prop} {rs : List HP}
theorem read_cases (hwf : d.wf) (k : Int) : ((d.read k).2 ≠ 0 ∧ d.look k ≠ 0) ∨ ((d.read k).2 = 0 ∧ d.look k = 0 ∧ ((d.read k).1.getD []) = d.sec k ∧ ((d.read k).1.getD []).length = 128) := by
  unfold DM.read
  by_cases h : d.look k = 0
  · rw [if_neg (by simp [h])]
    exact .inr ⟨rfl, h, rfl, DM.sec_length hwf k⟩
  · rw [if_pos h]
    exact .inl ⟨h, h⟩
theorem sectors_ok (h : (diskH p d).ok F w) : Rets Try.prog 19 [.pointer (some ⟨p, 0, none⟩)] w fun v w' => ∃ v', v = v' ∧ True ∧ Turn noB (rowH 5 1 v' (secB d).length ((secB d).map B)) w w' := by
  obtain ⟨hwf, _⟩ := diskH_blk h
  have H := Sep.start0 w
  refine rets1 Try.func19 rfl rfl rfl rfl ?_
  refine FW_seq ?_
  refine FW_region ?_
  refine FL_assign (h := ?_)
  refine FL_nil (Qseq_normal ?_)
  refine FW_seq ?_
  refine FW_region ?_
  refine FL_assign (h := ?_)
  refine FL_nil (Qseq_normal ?_)
  refine FW_seq ?_
  refine FW_seq ?_
  refine FW_region ?_
  refine FL_assign (h := ?_)
  refine FL_nil (Qseq_normal ?_)
  refine FW_block ?_
  refine FW_loop' (fun x : Nat × Value => [(0, .pointer (some ⟨p, 0, none⟩)), (3, x.2), (4, I x.1)])
    (fun x w' => x.1 ≤ 5 ∧ (∀ k : Nat, k < x.1 → d.look k = 0) ∧ Sep w noB [rowH 5 1 x.2 (x.1 * 128) ((secsTo d x.1).map B)] w') (fun x _ => 5 - x.1) (0, .slice none 0 0) ⟨rfl, rfl, rfl, trivial⟩ ⟨Nat.zero_le _, fun k hk => absurd hk (Nat.not_lt_zero k), H.nilRow _ _⟩ (fun x τ w5 hI => ?_)
  obtain ⟨j, vo⟩ := x
  obtain ⟨hj, hlk, H5⟩ := hI
  simp only at hj hlk
  try simp only [upds, like, upd_ds, und_ds]
  refine FW_seq ?_
  refine FW_seq ?_
  refine FW_region ?_
  refine FL_move (h := ?_)
  refine FL_val (Gives.lss rfl rfl) rfl ?_
  refine FL_nil (Qseq_normal ?_)
  first | refine FW_condP rfl (fun hc8 => ?_) (fun hc8 => ?_) | refine FW_cond rfl (fun hc8 => ?_) (fun hc8 => ?_)
  · skip
    have hlt : j < 5 := by omega
    refine FW_skip (Qseq_normal ?_)
    refine FW_seq ?_
    refine FW_block ?_
    refine FW_seq ?_
    refine FW_region ?_
    refine FL_move (h := ?_)
    refine FL_move (h := ?_)
    refine FL_callN H5 (read_ok (HP.stay h H5.kept) (at_ := j)) rfl rfl (fun y w13 _ H13 _ => ?_)
    obtain ⟨As, cs, hs, _⟩ := Sep.rowForm H13 At0
    subst hs
    have hrc := read_cases hwf (j : Int)
    refine FL_move (h := ?_)
    refine FL_val (Gives.extract rfl rfl) rfl ?_
    refine FL_val (Gives.extract rfl rfl) rfl ?_
    refine FL_assign (h := ?_)
    refine FL_assign (h := ?_)
    refine FL_nil (Qseq_normal ?_)
    refine FW_seq ?_
    refine FW_seq ?_
    refine FW_region ?_
    refine FL_move (h := ?_)
    refine FL_val (Gives.neq rfl rfl) rfl ?_
    refine FL_move (h := ?_)
    first | refine FL_splitP (t := 19) rfl (fun hs22 => ?_) (fun hs22 => ?_) | refine FL_split (t := 19) rfl (fun hs22 => ?_) (fun hs22 => ?_)
    · skip
      have hne := hs22
      refine FL_off rfl rfl rfl ?_
      refine FL_off rfl rfl rfl ?_
      refine FL_off rfl rfl rfl ?_
      refine FL_pickT (h := ?_)
      refine FL_nil (Qseq_normal ?_)
      refine FW_cond_true rfl ?_
      refine FW_seq ?_
      refine FW_region ?_
      refine FL_assign (h := ?_)
      refine FL_nil (Qseq_normal ?_)
      refine FW_ret (Qseq_ret (Qblk_ret (Qseq_ret (Qround_ret (Qblk_ret (Qseq_ret (Qfn_ret (hR := ?_))))))))
      have hb : secB d = [] := by
        unfold secB
        rw [if_neg]
        rintro ⟨hd, h5⟩
        have h0 := look_lt hd (k := (j : Int)) (by omega) (by omega)
        rcases hrc with ⟨_, h2⟩ | ⟨h1, _, _, h4⟩
        · exact h2 h0
        · first | exact hne h1 | (apply hC; rw [h4]; rfl)
      rw [hb]
      exact ⟨_, rfl, trivial, ((H13.drop0.drop0).nilRow _ _).turn⟩
    · skip
      have hne := hs22
      refine FL_on rfl rfl ?_
      refine FL_move (h := ?_)
      refine FL_on rfl rfl ?_
      refine FL_val (Gives.lenSlice rfl) rfl ?_
      refine FL_on rfl rfl ?_
      refine FL_val (Gives.neq rfl rfl) rfl ?_
      refine FL_pickF (h := ?_)
      refine FL_nil (Qseq_normal ?_)
      first | refine FW_condP rfl (fun hc32 => ?_) (fun hc32 => ?_) | refine FW_cond rfl (fun hc32 => ?_) (fun hc32 => ?_)
      · skip
        have hC := hc32
        refine FW_seq ?_
        refine FW_region ?_
        refine FL_assign (h := ?_)
        refine FL_nil (Qseq_normal ?_)
        refine FW_ret (Qseq_ret (Qblk_ret (Qseq_ret (Qround_ret (Qblk_ret (Qseq_ret (Qfn_ret (hR := ?_))))))))
        have hb : secB d = [] := by
          unfold secB
          rw [if_neg]
          rintro ⟨hd, h5⟩
          have h0 := look_lt hd (k := (j : Int)) (by omega) (by omega)
          rcases hrc with ⟨_, h2⟩ | ⟨h1, _, _, h4⟩
          · exact h2 h0
          · first | exact hne h1 | (apply hC; rw [h4]; rfl)
        rw [hb]
        exact ⟨_, rfl, trivial, ((H13.drop0.drop0).nilRow _ _).turn⟩
      · skip
        have hrd : d.look j = 0 ∧ ((d.read j).1.getD []) = d.sec j ∧ ((d.read j).1.getD []).length = 128 := by
          rcases hrc with ⟨h1, _⟩ | ⟨_, h⟩
          · exact absurd (by simpa using hne) h1
          · exact h
        refine FW_skip (Qseq_normal ?_)
        refine FW_region ?_
        refine FL_move (h := ?_)
        refine FL_move (h := ?_)
        refine FL_append H13 (hx := by exact rfl) (hy := by exact rfl) (hat := At1) (H13.rowAt At0) (byte_one _) (h63 := by unfold maxLen; omega) (hbytes := by omega) (h := fun vv w40 H40 => ?_)
        refine FL_assign (h := ?_)
        refine FL_nil (Qblk_normal (Qseq_normal ?_))
        refine FW_region ?_
        refine FL_move (h := ?_)
        first | refine FL_val (Gives.addI rfl rfl rfl (by omega)) rfl ?_ | refine FL_val (Gives.add rfl rfl) rfl ?_
        refine FL_assign (h := ?_)
        refine FL_nil ?_
        refine Qround_normal (j + 1, vv) ⟨rfl, rfl, rfl, trivial⟩ ⟨by simp only; omega, fun k hk => ?_, ?_⟩ (by simp only; omega)
        · rcases Nat.lt_succ_iff_lt_or_eq.1 hk with h1 | h1
          · exact hlk k h1
          · subst h1; exact hrd.1
        · have e : (j + 1) * 128 = j * 128 + ((d.read j).1.getD []).length := by rw [hrd.2.2]; omega
          simp only [secsTo, List.map_append, e]
          rw [← hrd.2.1]
          exact H40.drop0
  · skip
    have hj5 : j = 5 := by omega
    subst hj5
    refine FW_exit (Qseq_exit (Qround_exit (Qblk_exit (Qseq_normal ?_))))
    refine FW_seq ?_
    refine FW_region ?_
    refine FL_move (h := ?_)
    refine FL_assign (h := ?_)
    refine FL_nil (Qseq_normal ?_)
    refine FW_ret (Qfn_ret (hR := ?_))
    have hb : secB d = secsTo d 5 := by
      unfold secB
      have h4 := look_zero (hlk 4 (by decide))
      rw [if_pos ⟨h4.1, by have := h4.2.2; omega⟩]
    rw [hb, secsTo_length hwf]
    exact ⟨_, rfl, trivial, H5.turn⟩
theorem begins_ne0 {b : List UInt8} {c : UInt8} (hl : b.length = 128) (h : b[0] ≠ c) : b ≠ c :: List.replicate 127 0 := by
  intro e
  apply h
  have : b[0]? = (c :: List.replicate 127 0)[0]? := by rw [e]
  rw [List.getElem?_eq_getElem (by omega)] at this
  injection this
theorem begins_ne1 {b : List UInt8} {c : UInt8} (hl : b.length = 128) {j : Nat} (h1 : 1 ≤ j) (hj : j < b.length) (h : b[j] ≠ 0) : b ≠ c :: List.replicate 127 0 := by
  intro e
  apply h
  have h0 : b[j]? = (c :: List.replicate 127 0)[j]? := by rw [e]
  rw [List.getElem?_eq_getElem hj] at h0
  obtain ⟨i, rfl⟩ : ∃ i, j = i + 1 := ⟨j - 1, by omega⟩
  rw [List.getElem?_cons_succ, List.getElem?_replicate, if_pos (by omega)] at h0
  injection h0
theorem beginsEq {b : List UInt8} {c : UInt8} (hl : b.length = 128) (h0 : b[0] = c) (h : ∀ k, 1 ≤ k → k < 128 → b[k]? = some 0) : b = c :: List.replicate 127 0 := by
  apply List.ext_getElem?
  intro i
  cases i with
  | zero => rw [List.getElem?_eq_getElem (by omega), h0]; rfl
  | succ i =>
    rw [List.getElem?_cons_succ, List.getElem?_replicate]
    split
    · exact h (i + 1) (by omega) (by omega)
    · rw [List.getElem?_eq_none (by omega)]
theorem begins_ok (h : (diskH p d).ok F w) (at_ : Int) (c : UInt8) : Rets Try.prog 61 [.pointer (some ⟨p, 0, none⟩), I at_, B c] w fun v w' => v = .bool (beginsM d at_ c) ∧ Kept noB w w' := by
  obtain ⟨hwf, _⟩ := diskH_blk h
  have H := Sep.start0 w
  have hrc := read_cases hwf at_
  refine rets3 Try.func61 rfl rfl rfl rfl ?_
  refine FW_seq ?_
  refine FW_region ?_
  refine FL_assign (h := ?_)
  refine FL_nil (Qseq_normal ?_)
  refine FW_seq ?_
  refine FW_region ?_
  refine FL_move (h := ?_)
  refine FL_move (h := ?_)
  refine FL_callN H (read_ok (HP.stay h H.kept)) rfl rfl (fun y w5 _ H5 _ => ?_)
  obtain ⟨As, cs, hs, _⟩ := Sep.rowForm H5 At0
  subst hs
  refine FL_move (h := ?_)
  refine FL_val (Gives.extract rfl rfl) rfl ?_
  refine FL_val (Gives.extract rfl rfl) rfl ?_
  refine FL_assign (h := ?_)
  refine FL_assign (h := ?_)
  refine FL_nil (Qseq_normal ?_)
  refine FW_seq ?_
  refine FW_seq ?_
  refine FW_region ?_
  refine FL_move (h := ?_)
  refine FL_val (Gives.neq rfl rfl) rfl ?_
  refine FL_move (h := ?_)
  first | refine FL_splitP (t := 18) rfl (fun hs14 => ?_) (fun hs14 => ?_) | refine FL_split (t := 18) rfl (fun hs14 => ?_) (fun hs14 => ?_)
  · skip
    have hL : d.look at_ ≠ 0 := by
      rcases hrc with ⟨_, h2⟩ | ⟨h1, _⟩
      · exact h2
      · exact absurd h1 hs14
    have hb : beginsM d at_ c = false := by unfold beginsM; rw [decide_eq_false hL]; rfl
    refine FL_off rfl rfl rfl ?_
    refine FL_off rfl rfl rfl ?_
    refine FL_off rfl rfl rfl ?_
    refine FL_pickT (h := ?_)
    refine FL_move (h := ?_)
    refine FL_off rfl rfl rfl ?_
    refine FL_off rfl rfl rfl ?_
    refine FL_off rfl rfl rfl ?_
    refine FL_off rfl rfl rfl ?_
    refine FL_off rfl rfl rfl ?_
    refine FL_pickT (h := ?_)
    refine FL_nil (Qseq_normal ?_)
    refine FW_cond_true rfl ?_
    refine FW_seq ?_
    refine FW_region ?_
    refine FL_assign (h := ?_)
    refine FL_nil (Qseq_normal ?_)
    refine FW_ret (Qseq_ret (Qfn_ret (hR := ?_)))
    refine ⟨?_, H5.kept⟩
    first
      | (rw [hb]; rfl)
      | (rw [hbe, beq_false_of_ne (begins_ne0 hlen fun e => hC (by rw [e]))]; rfl)
  · skip
    have hrd : d.look at_ = 0 ∧ ((d.read at_).1.getD []) = d.sec at_ ∧ ((d.read at_).1.getD []).length = 128 := by
      rcases hrc with ⟨h1, _⟩ | ⟨_, h⟩
      · exact absurd (by simpa using hs14) h1
      · exact h
    rw [hrd.2.1, DM.sec_length hwf] at H5
    have hr := Sep.rowAt H5 At0
    obtain ⟨ad, hA, hcell⟩ := hr.at_ (by omega)
    subst hA
    have hlen := DM.sec_length hwf at_
    have hbe : beginsM d at_ c = (d.sec at_ == c :: List.replicate 127 0) := by unfold beginsM; rw [decide_eq_true hrd.1]; rfl
    refine FL_on rfl rfl ?_
    refine FL_move (h := ?_)
    refine FL_on rfl rfl ?_
    refine FL_val (Gives.lenSlice rfl) rfl ?_
    refine FL_on rfl rfl ?_
    refine FL_val (Gives.neq rfl rfl) rfl ?_
    refine FL_pickF (h := ?_)
    refine FL_move (h := ?_)
    first | refine FL_splitP (t := 23) rfl (fun hs27 => ?_) (fun hs27 => ?_) | refine FL_split (t := 23) rfl (fun hs27 => ?_) (fun hs27 => ?_)
    · skip
      (first | (rw [hrd.2.2] at hs27; exact absurd rfl hs27) | (exfalso; exact hs27 (by rw [hrd.2.2]; rfl))) --done
    · skip
      refine FL_on rfl rfl ?_
      refine FL_move (h := ?_)
      refine FL_on rfl rfl ?_
      refine FL_val (Gives.idx (m := ((d.read at_).1.getD []).length) (i := 0) rfl rfl (by rw [hrd.2.2]; decide)) rfl ?_
      refine FL_on rfl rfl ?_
      refine FL_loadC (hcell (0 * 1) (B ((d.sec at_)[0]'(by omega))) (by simp [hlen])) (h := ?_)
      refine FL_on rfl rfl ?_
      refine FL_move (h := ?_)
      refine FL_on rfl rfl ?_
      refine FL_val (Gives.neq rfl rfl) rfl ?_
      refine FL_pickF (h := ?_)
      refine FL_nil (Qseq_normal ?_)
      first | refine FW_condP rfl (fun hc35 => ?_) (fun hc35 => ?_) | refine FW_cond rfl (fun hc35 => ?_) (fun hc35 => ?_)
      · skip
        have hC := hc35
        refine FW_seq ?_
        refine FW_region ?_
        refine FL_assign (h := ?_)
        refine FL_nil (Qseq_normal ?_)
        refine FW_ret (Qseq_ret (Qfn_ret (hR := ?_)))
        refine ⟨?_, H5.kept⟩
        first
          | (rw [hb]; rfl)
          | (rw [hbe, beq_false_of_ne (begins_ne0 hlen fun e => hC (by rw [e]))]; rfl)
      · skip
        have hC := hc35
        refine FW_skip (Qseq_normal ?_)
        refine FW_seq ?_
        refine FW_seq ?_
        refine FW_region ?_
        refine FL_assign (h := ?_)
        refine FL_nil (Qseq_normal ?_)
        refine FW_block ?_
        refine FW_loop' (fun i : Nat => [(7, .slice (some ad) ((d.read at_).1.getD []).length cs), (9, I i)])
          (fun i w' => 1 ≤ i ∧ i ≤ 128 ∧ (∀ k, 1 ≤ k → k < i → (d.sec at_)[k]? = some 0) ∧ w5 = w') (fun i _ => 128 - i) 1 ⟨rfl, rfl, trivial⟩ ⟨by decide, by decide, fun k h1 h2 => by omega, rfl⟩ (fun j τ wj hI => ?_)
        obtain ⟨hj1, hj, hz, rfl⟩ := hI
        try simp only [upds, like, upd_ds, und_ds]
        refine FW_seq ?_
        refine FW_seq ?_
        refine FW_region ?_
        refine FL_move (h := ?_)
        refine FL_val (Gives.lss rfl rfl) rfl ?_
        refine FL_nil (Qseq_normal ?_)
        first | refine FW_condP rfl (fun hc44 => ?_) (fun hc44 => ?_) | refine FW_cond rfl (fun hc44 => ?_) (fun hc44 => ?_)
        · skip
          have hlt : j < (d.sec at_).length := by omega
          refine FW_skip (Qseq_normal ?_)
          refine FW_seq ?_
          refine FW_block ?_
          refine FW_seq ?_
          refine FW_region ?_
          refine FL_move (h := ?_)
          refine FL_move (h := ?_)
          refine FL_val (Gives.idx (m := ((d.read at_).1.getD []).length) (i := j) rfl rfl (by rw [hrd.2.2]; omega)) rfl ?_
          refine FL_loadC (hcell (j * 1) (B ((d.sec at_)[j]'hlt)) (by simp [hlt])) (h := ?_)
          refine FL_val (Gives.neq rfl rfl) rfl ?_
          refine FL_nil (Qseq_normal ?_)
          first | refine FW_condP rfl (fun hc51 => ?_) (fun hc51 => ?_) | refine FW_cond rfl (fun hc51 => ?_) (fun hc51 => ?_)
          · skip
            have hz0 := hc51
            refine FW_seq ?_
            refine FW_region ?_
            refine FL_assign (h := ?_)
            refine FL_nil (Qseq_normal ?_)
            refine FW_ret (Qblk_ret (Qseq_ret (Qround_ret (Qblk_ret (Qseq_ret (Qfn_ret (hR := ?_)))))))
            refine ⟨?_, H5.kept⟩
            rw [hbe, beq_false_of_ne (begins_ne1 hlen hj1 hlt fun e => hz0 (by rw [e]; rfl))]; rfl
          · skip
            have hz0 := hc51
            refine FW_skip (Qblk_normal (Qseq_normal ?_))
            refine FW_region ?_
            refine FL_move (h := ?_)
            first | refine FL_val (Gives.addI rfl rfl rfl (by omega)) rfl ?_ | refine FL_val (Gives.add rfl rfl) rfl ?_
            refine FL_assign (h := ?_)
            refine FL_nil ?_
            refine Qround_normal (j + 1) ⟨rfl, rfl, trivial⟩ ⟨by omega, by omega, fun k h1 h2 => ?_, rfl⟩ (by omega)
            rcases Nat.lt_succ_iff_lt_or_eq.1 h2 with h3 | h3
            · exact hz k h1 h3
            · subst h3
              rw [List.getElem?_eq_getElem hlt]
              exact congrArg some (UInt8.toNat_inj.1 (by simpa using hz0))
        · skip
          have hj5 : j = 128 := by omega
          subst hj5
          refine FW_exit (Qseq_exit (Qround_exit (Qblk_exit (Qseq_normal ?_))))
          refine FW_seq ?_
          refine FW_region ?_
          refine FL_assign (h := ?_)
          refine FL_nil (Qseq_normal ?_)
          refine FW_ret (Qfn_ret (hR := ?_))
          refine ⟨?_, H5.kept⟩
          rw [hbe, beginsEq hlen (UInt8.toNat_inj.1 (show ((d.sec at_)[0]'(by omega)).toNat = c.toNat by omega)) hz]; simp [resPack]
theorem writes_ok {A : Option Addr} {c : Nat} {l : List PutM} (hg : d.good) (hsm : d.small 100000) (hl : ∀ x ∈ l, x.fit) (hr : RowAt w A l.length 3 (putCells l)) (hA : Off A l.length F) (h : (diskH p d).ok F w) :
    Rets Try.prog 23 [.pointer (some ⟨p, 0, none⟩), .slice A l.length c] w fun v w' => v = .bool true ∧ Turn F (diskH p (d.puts (l.take 50))) w w' := by
  have H := Sep.start1 h
  refine rets2 Try.func23 rfl rfl rfl rfl ?_
  refine FW_seq ?_
  refine FW_region ?_
  refine FL_assign (h := ?_)
  refine FL_nil (Qseq_normal ?_)
  refine FW_seq ?_
  refine FW_seq ?_
  refine FW_region ?_
  refine FL_assign (h := ?_)
  refine FL_nil (Qseq_normal ?_)
  refine FW_block ?_
  refine FW_loop' (fun i : Nat => [(0, .pointer (some ⟨p, 0, none⟩)), (1, .slice A l.length c), (5, I i)])
    (fun i w' => i ≤ l.length ∧ i ≤ 50 ∧ Sep w F [diskH p (d.puts (l.take i))] w') (fun i _ => l.length - i) 0 ⟨rfl, rfl, rfl, trivial⟩ ⟨Nat.zero_le _, Nat.zero_le _, H⟩ (fun i τ w4 hI => ?_)
  obtain ⟨hi, hi50, H4⟩ := hI
  try simp only [upds, like, upd_ds, und_ds]
  refine FW_seq ?_
  refine FW_seq ?_
  refine FW_region ?_
  refine FL_move (h := ?_)
  refine FL_move (h := ?_)
  refine FL_val (Gives.lenSlice rfl) rfl ?_
  refine FL_val (Gives.lss rfl rfl) rfl ?_
  refine FL_move (h := ?_)
  first | refine FL_splitP (t := 10) rfl (fun hs10 => ?_) (fun hs10 => ?_) | refine FL_split (t := 10) rfl (fun hs10 => ?_) (fun hs10 => ?_)
  · skip
    have hc1 := hs10
    refine FL_on rfl rfl ?_
    refine FL_move (h := ?_)
    refine FL_on rfl rfl ?_
    refine FL_val (Gives.lss rfl rfl) rfl ?_
    refine FL_pickT (h := ?_)
    refine FL_nil (Qseq_normal ?_)
    first | refine FW_condP rfl (fun hc15 => ?_) (fun hc15 => ?_) | refine FW_cond rfl (fun hc15 => ?_) (fun hc15 => ?_)
    · skip
      have hlt : i < l.length := by omega
      have hlt50 : i < 50 := by omega
      have hrow := hr.keepS H4.kept hA
      obtain ⟨ad, hAd, _⟩ := hrow.at_ (by omega)
      subst hAd
      have hx := hl _ (List.getElem_mem hlt)
      refine FW_skip (Qseq_normal ?_)
      refine FW_seq ?_
      refine FW_block ?_
      refine FW_seq ?_
      refine FW_drawS rfl H4 (h := fun hok17 w19 H19 => ?_)
      refine FGmove hok17 0 (h := ?_)
      refine FGmove hok17 1 (h := ?_)
      refine FGmove hok17 2 (h := ?_)
      refine FGp hok17 3 rfl rfl (fun _ => (Gives.idx rfl rfl hlt)) (by kernel_rfl) ?_
      first | refine FGp hok17 4 rfl rfl (fun _ => (Gives.field0 rfl)) (by kernel_rfl) ?_ | refine FGp hok17 4 rfl rfl (fun _ => (Gives.field rfl)) (by kernel_rfl) ?_ | refine FGp hok17 4 rfl rfl (fun _ => (Gives.fieldA rfl)) (by kernel_rfl) ?_
      refine FGl hok17 5 rfl rfl (Gives.loadC rfl ((hr.keepS H19.kept hA).elemC rfl i hlt (us := [I l[i].at_, I l[i].byte, I l[i].many]) (putCells_get l i hlt) 0 _ rfl)) (by kernel_rfl) ?_
      refine FGmove hok17 7 (h := ?_)
      refine FGmove hok17 8 (h := ?_)
      refine FGp hok17 9 rfl rfl (fun _ => (Gives.idx rfl rfl hlt)) (by kernel_rfl) ?_
      refine FGl hok17 10 rfl rfl (Gives.loadCN rfl ((hr.keepS H19.kept hA).elem rfl i hlt (us := [I l[i].at_, I l[i].byte, I l[i].many]) (putCells_get l i hlt)) rfl) (by kernel_rfl) ?_
      refine FGcallS hok17 6 [(10, false), (9, true), (8, true), (7, true), (0, true)] H19 (bring_ok l[i].at_ 5 hx.1 (by omega)) (h := fun w26 H26 => ⟨(Stab_cons rfl rfl (Gives.loadCN rfl ((hr.keepS H26.kept hA).elem rfl i hlt (us := [I l[i].at_, I l[i].byte, I l[i].many]) (putCells_get l i hlt)) rfl) rfl (Stab_pure (Stab_pure (Stab_pure (Stab_pure (Stab_nil)))))), ?_⟩)
      refine FGcallN hok17 11 [(0, true)] H26 (bytes_ok l[i] hx) (h := fun y w28 _ H28 _ => ⟨Stab_pure (Stab_nil), ?_⟩)
      obtain ⟨Ay, cy, hy, _⟩ := Sep.rowForm H28 At0
      subst hy
      have hgi := good_puts hg (l.take i)
      have hsi := small_puts hsm (l.take i)
      have hw := write_good hgi (a := l[i].at_ % 5) (b := putB l[i]) (by omega) (putB_length _)
      have hll : (l.take i).length ≤ 50 := by rw [List.length_take]; omega
      refine FGcall1R hok17 12 [] H28 At0 (v := I 0) (q := diskH p (d.puts (l.take (i + 1)))) (fun F' hp hrr hoff => ?_) (h := fun w30 H30 => ⟨Stab_nil, ?_⟩)
      · have h1 := write_ok (c := cy) (at_ := l[i].at_ % 5) (by have := hsi.1; omega) (by have := hsi.2.1; omega) (by have := hsi.2.2; unfold fits; omega) hrr hoff hp
        rw [hw] at h1
        rw [List.take_succ_eq_append_getElem hlt, puts_snoc]
        exact h1
      refine FGp hok17 13 rfl rfl (fun _ => (Gives.neq rfl rfl)) (by kernel_rfl) ?_
      refine FG_end hok17 (by kernel_rfl) ?_
      refine Qseq_normal ?_
      first | refine FW_condP rfl (fun hc32 => ?_) (fun hc32 => ?_) | refine FW_cond rfl (fun hc32 => ?_) (fun hc32 => ?_)
      · skip
        exact absurd rfl hc32 --done
      · skip
        refine FW_skip (Qblk_normal (Qseq_normal ?_))
        refine FW_region ?_
        refine FL_move (h := ?_)
        first | refine FL_val (Gives.addI rfl rfl rfl (by omega)) rfl ?_ | refine FL_val (Gives.add rfl rfl) rfl ?_
        refine FL_assign (h := ?_)
        refine FL_nil ?_
        exact Qround_normal (i + 1) ⟨rfl, rfl, rfl, trivial⟩ ⟨by omega, by omega, H30.drop0⟩ (by omega)
    · skip
      first
        | (have htk : l.take 50 = l.take i := by (have : i = 50 := by omega); subst this; rfl)
        | skip
      refine FW_exit (Qseq_exit (Qround_exit (Qblk_exit (Qseq_normal ?_))))
      refine FW_seq ?_
      refine FW_region ?_
      refine FL_assign (h := ?_)
      refine FL_nil (Qseq_normal ?_)
      refine FW_ret (Qfn_ret (hR := ?_))
      exact ⟨rfl, by rw [htk]; exact H4.turn⟩
  · skip
    have htk : l.take 50 = l.take i := by rw [List.take_of_length_le (l := l) (i := i) (by omega), List.take_of_length_le (by omega)]
    refine FL_off rfl rfl rfl ?_
    refine FL_off rfl rfl rfl ?_
    refine FL_pickF (h := ?_)
    refine FL_nil (Qseq_normal ?_)
    refine FW_cond_false rfl ?_
    refine FW_exit (Qseq_exit (Qround_exit (Qblk_exit (Qseq_normal ?_))))
    refine FW_seq ?_
    refine FW_region ?_
    refine FL_assign (h := ?_)
    refine FL_nil (Qseq_normal ?_)
    refine FW_ret (Qfn_ret (hR := ?_))
    exact ⟨rfl, by rw [htk]; exact H4.turn⟩
theorem five_flush {e : DM} (hg : e.good) (hs : e.small 50) (h : (diskH p e).ok F w) : Rets Try.prog 28 [.pointer (some ⟨p, 0, none⟩)] w fun v w' => v = I 0 ∧ Turn F (diskH p e.flushed) w w' := by
  have h1 := flush_ok (by have := hs.1; omega) (by have := hs.2.1; omega) (by have := hs.2.2; unfold fits; omega) h
  rw [flush_good hg] at h1
  exact h1
theorem good_five (l : List PutM) : (fiveM l).good := good_flushed (good_puts good_new _)
theorem small_five (l : List PutM) : (fiveM l).small 60 := (small_flushed ((small_puts (small_new 5) (l.take 50)).mono (by rw [List.length_take]; omega : 0 + (l.take 50).length ≤ 59)))
theorem five_ok {A : Option Addr} {c : Nat} {l : List PutM} (hl : ∀ x ∈ l, x.fit) (hr : RowAt w A l.length 3 (putCells l)) :
    Rets Try.prog 18 [.slice A l.length c] w fun v w' => ∃ p, v = .pointer (some ⟨p, 0, none⟩) ∧ True ∧ Turn noB (diskH p (fiveM l)) w w' := by
  have H := Sep.start0 w
  have hps := good_puts good_new (l.take 50)
  have hsm := (small_puts (small_new 5) (l.take 50)).mono (by rw [List.length_take]; omega : 0 + (l.take 50).length ≤ 50)
  refine rets1 Try.func18 rfl rfl rfl rfl ?_
  refine FW_seq ?_
  refine FW_region ?_
  refine FL_assign (h := ?_)
  refine FL_nil (Qseq_normal ?_)
  refine FW_seq ?_
  refine FW_region ?_
  refine FL_callN H (new_ok 5 (by omega)) rfl rfl (fun p w3 _ H3 _ => ?_)
  refine FL_move (h := ?_)
  refine FL_val (Gives.extract rfl rfl) rfl ?_
  refine FL_val (Gives.extract rfl rfl) rfl ?_
  refine FL_assign (h := ?_)
  refine FL_assign (h := ?_)
  refine FL_nil (Qseq_normal ?_)
  refine FW_seq ?_
  refine FW_seq ?_
  refine FW_region ?_
  refine FL_move (h := ?_)
  refine FL_val (Gives.neq rfl rfl) rfl ?_
  refine FL_move (h := ?_)
  first | refine FL_splitP (t := 11) rfl (fun hs12 => ?_) (fun hs12 => ?_) | refine FL_split (t := 11) rfl (fun hs12 => ?_) (fun hs12 => ?_)
  · skip
    exact absurd hs12 (by decide) --done
  · skip
    refine FL_on rfl rfl ?_
    refine FL_move (h := ?_)
    refine FL_on rfl rfl ?_
    refine FL_move (h := ?_)
    refine FL_on rfl rfl ?_
    refine FL_call1 H3 At0 (fun F' hp hF' => writes_ok good_new ((small_new 5).mono (by omega)) hl (hr.keepS H3.kept fun _ _ _ => id) (Off.of (F := F') (S := noB) (fun _ _ _ => id) hr (fun b hb => hF' b hb) (by decide)) hp) (h := fun w17 H17 => ?_)
    refine FL_on rfl rfl ?_
    first | refine FL_val (Gives.notP rfl) rfl ?_ | refine FL_val (Gives.not rfl) rfl ?_
    refine FL_pickF (h := ?_)
    refine FL_move (h := ?_)
    first | refine FL_splitP (t := 17) rfl (fun hs21 => ?_) (fun hs21 => ?_) | refine FL_split (t := 17) rfl (fun hs21 => ?_) (fun hs21 => ?_)
    · skip
      exact absurd hs21 (by decide) --done
    · skip
      refine FL_on rfl rfl ?_
      refine FL_move (h := ?_)
      refine FL_on rfl rfl ?_
      refine FL_call1 H17 At0 (v := I 0) (q := diskH p (fiveM l)) (fun F' hp _ => five_flush hps hsm hp) (h := fun w25 H25 => ?_)
      refine FL_on rfl rfl ?_
      refine FL_val (Gives.neq rfl rfl) rfl ?_
      refine FL_pickF (h := ?_)
      refine FL_nil (Qseq_normal ?_)
      first | refine FW_condP rfl (fun hc28 => ?_) (fun hc28 => ?_) | refine FW_cond rfl (fun hc28 => ?_) (fun hc28 => ?_)
      · skip
        exact absurd hc28 (by decide) --done
      · skip
        refine FW_skip (Qseq_normal ?_)
        refine FW_seq ?_
        refine FW_region ?_
        refine FL_move (h := ?_)
        refine FL_assign (h := ?_)
        refine FL_nil (Qseq_normal ?_)
        refine FW_ret (Qfn_ret (hR := ?_))
        exact ⟨p, rfl, trivial, H25.turn⟩
end
end Go.Proofs.Yteflbohpabdjkaa
