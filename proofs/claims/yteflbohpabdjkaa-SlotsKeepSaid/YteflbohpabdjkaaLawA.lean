/-
  The statements' small helpers, walked.
-/
import Derived.Test.YteflbohpabdjkaaLawM
namespace Go.Proofs.Yteflbohpabdjkaa
open Go Go.Mw
set_option maxRecDepth 4000

theorem bring_val (i n : Int) (h : 0 < n) : (i.tmod n < 0 → i.tmod n + n = i % n) ∧ (¬ i.tmod n < 0 → i.tmod n = i % n) := by
  have h1 := Int.tmod_eq_emod (a := i) (b := n)
  have h2 := Int.emod_nonneg i (show n ≠ 0 by omega)
  have h3 := Int.emod_lt_of_pos i h
  have h4 : (n.natAbs : Int) = n := by omega
  split at h1
  · omega
  · rename_i hd
    have : i % n ≠ 0 := fun h0 => hd (.inr (Int.dvd_of_emod_eq_zero h0))
    omega
theorem wrap_u8 (u : UInt8) : IntKind.u8.wrap (u.toNat : Int) = u.toNat := by
  have := u.toNat_lt
  simp [IntKind.wrap, IntKind.bits, IntKind.signed]
  omega
theorem set_rep {j k : Nat} (h : j < k) (x y : Value) : (List.replicate j x ++ List.replicate (k - j) y).set j x = List.replicate (j + 1) x ++ List.replicate (k - (j + 1)) y := by
  obtain ⟨m, rfl⟩ : ∃ m, k = j + 1 + m := ⟨k - (j + 1), by omega⟩
  rw [show j + 1 + m - j = m + 1 from by omega, show j + 1 + m - (j + 1) = m from by omega, List.set_append_right _ _ (by simp), List.length_replicate, Nat.sub_self, List.replicate_succ, List.set_cons_zero, List.replicate_succ']
  simp
section
variable {p : Nat} {d : DM} {F : Nat → Prop} {w w₀ : World} {S : Nat → Prop} {rs : List HP}
theorem bring_ok (i n : Int) (_hi : fits i) (hn : 0 < n ∧ n ≤ 1000000) : Rets Try.prog 25 [I i, I n] w fun v w' => v = I (i % n) ∧ w = w' := by
  refine rets2 Try.func25 rfl rfl rfl rfl ?_
  have ht := bring_val i n hn.1
  have hb1 := Int.lt_tmod_of_pos i hn.1
  have hb2 := Int.tmod_lt_of_pos i hn.1
  refine FW_seq ?_
  refine FW_region ?_
  refine FL_assign (h := ?_)
  refine FL_nil (Qseq_normal ?_)
  refine FW_seq ?_
  refine FW_region ?_
  refine FL_move (h := ?_)
  refine FL_move (h := ?_)
  refine FL_val (Gives.rem rfl rfl (by omega)) rfl ?_
  refine FL_assign (h := ?_)
  refine FL_nil (Qseq_normal ?_)
  refine FW_seq ?_
  refine FW_seq ?_
  refine FW_region ?_
  refine FL_move (h := ?_)
  refine FL_val (Gives.lss rfl rfl) rfl ?_
  refine FL_nil (Qseq_normal ?_)
  first | refine FW_condP rfl (fun hc8 => ?_) (fun hc8 => ?_) | refine FW_cond rfl (fun hc8 => ?_) (fun hc8 => ?_)
  · skip
    have hC := hc8
    refine FW_region ?_
    refine FL_move (h := ?_)
    refine FL_move (h := ?_)
    first | refine FL_val (Gives.addI rfl rfl rfl (by omega)) rfl ?_ | refine FL_val (Gives.add rfl rfl) rfl ?_
    refine FL_assign (h := ?_)
    refine FL_nil (Qseq_normal ?_)
    refine FW_seq ?_
    refine FW_region ?_
    refine FL_move (h := ?_)
    refine FL_assign (h := ?_)
    refine FL_nil (Qseq_normal ?_)
    refine FW_ret (Qfn_ret (hR := ?_))
    first | exact ⟨by rw [← ht.1 hC]; rfl, rfl⟩ | exact ⟨by rw [← ht.2 hC]; rfl, rfl⟩
  · skip
    have hC := hc8
    refine FW_skip (Qseq_normal ?_)
    refine FW_seq ?_
    refine FW_region ?_
    refine FL_move (h := ?_)
    refine FL_assign (h := ?_)
    refine FL_nil (Qseq_normal ?_)
    refine FW_ret (Qfn_ret (hR := ?_))
    first | exact ⟨by rw [← ht.1 hC]; rfl, rfl⟩ | exact ⟨by rw [← ht.2 hC]; rfl, rfl⟩
theorem eqBytes_ok {A A' : Option Addr} {c c' : Nat} {a b : List UInt8} (ha : RowAt w A a.length 1 (a.map B)) (hb : RowAt w A' b.length 1 (b.map B)) : Rets Try.prog 22 [.slice A a.length c, .slice A' b.length c'] w fun v w' => v = .bool (a == b) ∧ w = w' := by
  refine rets2 Try.func22 rfl rfl rfl rfl ?_
  refine FW_seq ?_
  refine FW_region ?_
  refine FL_assign (h := ?_)
  refine FL_nil (Qseq_normal ?_)
  refine FW_seq ?_
  refine FW_region ?_
  refine FL_move (h := ?_)
  refine FL_val (Gives.bytesStr rfl ha) rfl ?_
  refine FL_move (h := ?_)
  refine FL_val (Gives.bytesStr rfl hb) rfl ?_
  refine FL_val (Gives.eqlS rfl rfl) rfl ?_
  refine FL_assign (h := ?_)
  refine FL_nil (Qseq_normal ?_)
  refine FW_ret (Qfn_ret (hR := ?_))
  exact ⟨by simp [resPack], rfl⟩
theorem copyBytes_ok {A : Option Addr} {n c : Nat} {xs : List Value} (hr : RowAt w A n 1 xs) (h1 : ∀ u ∈ xs, u.oneCell' = true) (hn : n ≤ 1000000000000) : Rets Try.prog 34 [.slice A n c] w fun v w' => ∃ v', v = v' ∧ True ∧ Turn noB (rowH 5 1 v' n xs) w w' := by
  have H := Sep.start0 w
  refine rets1 Try.func34 rfl rfl rfl rfl ?_
  refine FW_seq ?_
  refine FW_region ?_
  refine FL_assign (h := ?_)
  refine FL_nil (Qseq_normal ?_)
  refine FW_seq ?_
  refine FW_region ?_
  refine FL_assign (h := ?_)
  refine FL_nil (Qseq_normal ?_)
  refine FW_seq ?_
  refine FW_region ?_
  refine FL_move (h := ?_)
  refine FL_move (h := ?_)
  refine FL_append (H.nilRow 5 1) (hx := by exact rfl) (hy := by exact rfl) (hat := At0) hr h1 (h63 := by unfold maxLen; omega) (hbytes := by omega) (h := fun v5 w6 H6 => ?_)
  refine FL_assign (h := ?_)
  refine FL_nil (Qseq_normal ?_)
  refine FW_ret (Qfn_ret (hR := ?_))
  rw [Nat.zero_add] at H6
  exact ⟨_, rfl, trivial, H6.turn⟩
theorem copyInts_ok {A : Option Addr} {n c : Nat} {xs : List Value} (hr : RowAt w A n 1 xs) (h1 : ∀ u ∈ xs, u.oneCell' = true) (hn : n ≤ 1000000000000) : Rets Try.prog 35 [.slice A n c] w fun v w' => ∃ v', v = v' ∧ True ∧ Turn noB (rowH 3 1 v' n xs) w w' := by
  have H := Sep.start0 w
  refine rets1 Try.func35 rfl rfl rfl rfl ?_
  refine FW_seq ?_
  refine FW_region ?_
  refine FL_assign (h := ?_)
  refine FL_nil (Qseq_normal ?_)
  refine FW_seq ?_
  refine FW_region ?_
  refine FL_assign (h := ?_)
  refine FL_nil (Qseq_normal ?_)
  refine FW_seq ?_
  refine FW_region ?_
  refine FL_move (h := ?_)
  refine FL_move (h := ?_)
  refine FL_append (H.nilRow 3 1) (hx := by exact rfl) (hy := by exact rfl) (hat := At0) hr h1 (h63 := by unfold maxLen; omega) (hbytes := by omega) (h := fun v5 w6 H6 => ?_)
  refine FL_assign (h := ?_)
  refine FL_nil (Qseq_normal ?_)
  refine FW_ret (Qfn_ret (hR := ?_))
  rw [Nat.zero_add] at H6
  exact ⟨_, rfl, trivial, H6.turn⟩
theorem bytes_ok (x : PutM) (hx : x.fit) : Rets Try.prog 26 [.agg #[I x.at_, I x.byte, I x.many]] w fun v w' => ∃ v', v = v' ∧ True ∧ Turn noB (rowH 5 1 v' (putB x).length ((putB x).map B)) w w' := by
  have H := Sep.start0 w
  refine rets1 Try.func26 rfl rfl rfl rfl ?_
  obtain ⟨k, hk⟩ : ∃ k : Nat, x.many % 129 = k := ⟨(x.many % 129).toNat, by omega⟩
  obtain ⟨u, hu⟩ : ∃ u : UInt8, (x.byte % 256) = u.toNat := ⟨UInt8.ofNat (x.byte % 256).toNat, by rw [UInt8.toNat_ofNat']; omega⟩
  have hput : putB x = List.replicate k u := by
    unfold putB
    rw [hk, hu, Int.toNat_natCast, Int.toNat_natCast, UInt8.ofNat_toNat]
  have hk9 : k < 129 := by omega
  refine FW_seq ?_
  refine FW_region ?_
  refine FL_box H (h := ?_)
  intro b1 w2 H2 k1
  refine FL_assign (h := ?_)
  refine FL_nil (Qseq_normal ?_)
  refine FW_seq ?_
  refine FW_region ?_
  first | refine FL_val (Gives.field0 rfl) rfl ?_ | refine FL_val (Gives.field rfl) rfl ?_ | refine FL_val (Gives.fieldA rfl) rfl ?_
  refine FL_load H2 (h := ?_)
  refine FL_callS (bring_ok x.many 129 hx.2.2 (by omega)) (h := ?_)
  rw [hk]
  refine FL_make1 H2 (k := k) (by unfold maxLen; omega) (by omega) (h := ?_)
  intro bb w8 H8 _
  refine FL_assign (h := ?_)
  refine FL_nil (Qseq_normal ?_)
  refine FW_seq ?_
  refine FW_seq ?_
  refine FW_region ?_
  refine FL_assign (h := ?_)
  refine FL_nil (Qseq_normal ?_)
  refine FW_block ?_
  refine FW_loop' (fun i : Nat => [(1, .pointer (some ⟨b1, 0, none⟩)), (3, .slice (some ⟨bb, 0, none⟩) k k), (4, I i)])
    (fun i w' => i ≤ k ∧ Sep w noB [blk bb (List.replicate i (B u) ++ List.replicate (k - i) (Value.int .u8 0)) 5, blk b1 [I x.at_, I x.byte, I x.many] 37] w') (fun i _ => k - i) 0 ⟨rfl, rfl, rfl, trivial⟩ ⟨Nat.zero_le _, H8⟩ (fun j τ w12 hI => ?_)
  obtain ⟨hj, H12⟩ := hI
  try simp only [upds, like, upd_ds, und_ds]
  refine FW_seq ?_
  refine FW_seq ?_
  refine FW_region ?_
  refine FL_move (h := ?_)
  refine FL_move (h := ?_)
  refine FL_val (Gives.lenSlice rfl) rfl ?_
  refine FL_val (Gives.lss rfl rfl) rfl ?_
  refine FL_nil (Qseq_normal ?_)
  first | refine FW_condP rfl (fun hc17 => ?_) (fun hc17 => ?_) | refine FW_cond rfl (fun hc17 => ?_) (fun hc17 => ?_)
  · skip
    have hlt : j < k := by omega
    refine FW_skip (Qseq_normal ?_)
    refine FW_seq ?_
    refine FW_block ?_
    refine FW_region ?_
    refine FL_move (h := ?_)
    refine FL_move (h := ?_)
    first | refine FL_val (Gives.field0 rfl) rfl ?_ | refine FL_val (Gives.field rfl) rfl ?_ | refine FL_val (Gives.fieldA rfl) rfl ?_
    refine FL_load H12 (h := ?_)
    refine FL_callS (bring_ok x.byte 256 hx.2.1 (by omega)) (h := ?_)
    rw [hu]
    refine FL_val (Gives.conv rfl) rfl ?_
    rw [wrap_u8]
    refine FL_val (Gives.idxB rfl rfl hlt) rfl ?_
    refine FL_store H12 (hat := At0) (cs' := List.replicate (j + 1) (B u) ++ List.replicate (k - (j + 1)) (Value.int .u8 0)) (ho := by simp; omega) (hs := set_rep hlt _ _) (h := ?_)
    intro w27 H27
    refine FL_nil (Qblk_normal (Qseq_normal ?_))
    refine FW_region ?_
    refine FL_move (h := ?_)
    first | refine FL_val (Gives.addI rfl rfl rfl (by omega)) rfl ?_ | refine FL_val (Gives.add rfl rfl) rfl ?_
    refine FL_assign (h := ?_)
    refine FL_nil ?_
    exact Qround_normal (j + 1) ⟨rfl, rfl, rfl, trivial⟩ ⟨by omega, H27⟩ (by omega)
  · skip
    have hjk : j = k := by omega
    subst hjk
    refine FW_exit (Qseq_exit (Qround_exit (Qblk_exit (Qseq_normal ?_))))
    refine FW_seq ?_
    refine FW_region ?_
    refine FL_move (h := ?_)
    refine FL_assign (h := ?_)
    refine FL_nil (Qseq_normal ?_)
    refine FW_ret (Qfn_ret (hR := ?_))
    rw [Nat.sub_self, List.replicate_zero, List.append_nil] at H12
    have H2 := Sep.asRow H12 At0 (s := 1) (n := j) (by simp) (by unfold maxLen; omega)
    refine ⟨_, rfl, trivial, ?_⟩
    rw [hput, List.length_replicate, List.map_replicate]
    exact (Sep.first H2).turn
end
end Go.Proofs.Yteflbohpabdjkaa
