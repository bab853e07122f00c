/-
  The slots' small functions, walked.
-/
import Derived.Test.YteflbohpabdjkaaSlotM
namespace Go.Proofs.Yteflbohpabdjkaa
open Go Go.Mw
set_option maxRecDepth 4000

section
variable {p s : Nat} {d : DM} {m : SM} {F : Nat → Prop} {w w₀ : World} {S : Nat → Prop} {rs : List HP} {put : HP → List HP}
theorem put_ok {b o k c E : Nat} {cs : List Value} {n : Int} (hk : k ≤ 8) (ho : o + k ≤ cs.length) (h : (blk b cs E).ok F w) :
    Rets Try.prog 87 [.slice (some ⟨b, o, none⟩) k c, I n] w fun v w' => v = .tuple #[] ∧ Turn F (blk b (lay cs o ((be k n).map B)) E) w w' := by
  have H := Sep.start1 h
  refine rets2 Try.func87 rfl rfl rfl rfl ?_
  refine FW_seq ?_
  refine FW_region ?_
  refine FL_move (h := ?_)
  refine FL_val (Gives.lenSlice rfl) rfl ?_
  refine FL_move (h := ?_)
  refine FL_nil (Qseq_normal ?_)
  refine FW_block ?_
  refine FW_loop' (fun i : Nat => [(0, .slice (some ⟨b, o, none⟩) k c), (1, I n), (6, I k), (7, I i)])
    (fun i w' => i ≤ k ∧ Sep w F [blk b (lay cs o (((be k n).take i).map B)) E] w') (fun i _ => k - i) 0 ⟨rfl, rfl, rfl, rfl, trivial⟩ ⟨Nat.zero_le _, by rw [List.take_zero, List.map_nil, lay_nil]; exact H⟩ (fun i τ w5 hI => ?_)
  obtain ⟨hi, H5⟩ := hI
  try simp only [upds, like, upd_ds, und_ds]
  refine FW_seq ?_
  refine FW_region ?_
  refine FL_val (Gives.lss rfl rfl) rfl ?_
  refine FL_nil (Qseq_normal ?_)
  refine FW_seq ?_
  first | refine FW_condP rfl (fun hc7 => ?_) (fun hc7 => ?_) | refine FW_cond rfl (fun hc7 => ?_) (fun hc7 => ?_)
  · skip
    have hlt : i < k := by omega
    refine FW_skip (Qseq_normal ?_)
    refine FW_seq ?_
    refine FW_block ?_
    refine FW_seq ?_
    refine FW_region ?_
    refine FL_move (h := ?_)
    refine FL_assign (h := ?_)
    refine FL_nil (Qseq_normal ?_)
    refine FW_region ?_
    refine FL_move (h := ?_)
    refine FL_move (h := ?_)
    refine FL_move (h := ?_)
    refine FL_move (h := ?_)
    refine FL_val (Gives.lenSlice rfl) rfl ?_
    first | refine FL_val (Gives.subI rfl rfl rfl (by omega)) rfl ?_ | refine FL_val (Gives.sub rfl rfl) rfl ?_
    refine FL_move (h := ?_)
    first | refine FL_val (Gives.subI rfl rfl rfl (by omega)) rfl ?_ | refine FL_val (Gives.sub rfl rfl) rfl ?_
    first | refine FL_val (Gives.mulI rfl rfl rfl (by omega)) rfl ?_ | refine FL_val (Gives.mul rfl rfl) rfl ?_
    refine FL_val (Gives.shr rfl rfl (by omega)) rfl ?_
    rw [show min (8 * ((k : Int) - 1 - (i : Int))).toNat IntKind.i64.bits = 8 * (k - 1 - i) by show min _ 64 = _; omega]
    refine FL_val (Gives.conv rfl) rfl ?_
    rw [show IntKind.u8.wrap (n.fdiv (2 ^ (8 * (k - 1 - i)))) = ((byteAt n (k - 1 - i)).toNat : Int) by rw [byteAt_val]; rfl]
    refine FL_val (Gives.idxO rfl rfl hlt) rfl ?_
    have hll : ((be k n).take i |>.map B).length = i := by simp [be_length]; omega
    refine FL_store H5 (hy := by exact rfl) (hat := At0) (cs' := lay cs o (((be k n).take (i + 1)).map B)) (ho := by rw [lay_length (by omega)]; exact Nat.ble_eq_true_of_le (by omega)) (hs := by
      have e := lay_set (cs := cs) (us := ((be k n).take i).map B) (o := o) (v := B (byteAt n (k - 1 - i))) (by omega)
      rw [hll] at e
      rw [be_take_succ n hlt, List.map_append]
      exact e) (h := ?_)
    intro w24 H24
    refine FL_nil (Qblk_normal (Qseq_normal ?_))
    refine FW_region ?_
    first | refine FL_val (Gives.addI rfl rfl rfl (by omega)) rfl ?_ | refine FL_val (Gives.add rfl rfl) rfl ?_
    refine FL_move (h := ?_)
    refine FL_nil ?_
    exact Qround_normal (i + 1) ⟨rfl, rfl, rfl, rfl, trivial⟩ ⟨by omega, H24⟩ (by omega)
  · skip
    have hik : i = k := by omega
    subst hik
    refine FW_exit (Qseq_exit (Qround_exit (Qblk_exit (Qfn_normal (hR := ?_)))))
    rw [List.take_of_length_le (by rw [be_length]; omega)] at H5
    exact ⟨rfl, H5.turn⟩
theorem take_ok {A : Option Addr} {c : Nat} {l : List UInt8} (hl : l.length ≤ 1000) (hr : RowAt w A l.length 1 (l.map B)) :
    Rets Try.prog 80 [.slice A l.length c] w fun v w' => v = .int .u64 (takeN l) ∧ w = w' := by
  refine rets1 Try.func80 rfl rfl rfl rfl ?_
  refine FW_seq ?_
  refine FW_region ?_
  refine FL_assign (h := ?_)
  refine FL_nil (Qseq_normal ?_)
  refine FW_seq ?_
  refine FW_seq ?_
  refine FW_region ?_
  refine FL_move (h := ?_)
  refine FL_val (Gives.lenSlice rfl) rfl ?_
  refine FL_move (h := ?_)
  refine FL_nil (Qseq_normal ?_)
  refine FW_block ?_
  refine FW_loop' (fun i : Nat => [(2, .int .u64 (takeN (l.take i) : Nat)), (5, .slice A l.length c), (6, I l.length), (7, I i)])
    (fun i w' => i ≤ l.length ∧ w' = w) (fun i _ => l.length - i) 0 ⟨rfl, rfl, rfl, rfl, trivial⟩ ⟨Nat.zero_le _, rfl⟩ (fun i τ w2 hI => ?_)
  obtain ⟨hi, rfl⟩ := hI
  try simp only [upds, like, upd_ds, und_ds]
  refine FW_seq ?_
  refine FW_region ?_
  refine FL_val (Gives.lss rfl rfl) rfl ?_
  refine FL_nil (Qseq_normal ?_)
  refine FW_seq ?_
  first | refine FW_condP rfl (fun hc7 => ?_) (fun hc7 => ?_) | refine FW_cond rfl (fun hc7 => ?_) (fun hc7 => ?_)
  · skip
    have hlt : i < l.length := by omega
    obtain ⟨ad, hA, _⟩ := hr.at_ (by omega)
    subst hA
    have hcell : ∀ j u, [B l[i]][j]? = some u → (l.map B)[i * 1 + j]? = some u := by
      intro j u hj
      cases j with
      | zero => simpa [hlt] using hj
      | succ j => simp at hj
    refine FW_skip (Qseq_normal ?_)
    refine FW_seq ?_
    refine FW_block ?_
    refine FW_seq ?_
    refine FW_region ?_
    refine FL_val (Gives.idx rfl rfl hlt) rfl ?_
    refine FL_val (Gives.loadC rfl (hr.elemC rfl i hlt (us := [B l[i]]) hcell 0 _ rfl)) rfl ?_
    refine FL_assign (h := ?_)
    refine FL_nil (Qseq_normal ?_)
    refine FW_region ?_
    refine FL_move (h := ?_)
    refine FL_val (Gives.shl rfl rfl (by omega)) rfl ?_
    rw [show IntKind.u64.wrap ((takeN (l.take i) : Int) * 2 ^ min (8 : Int).toNat IntKind.u64.bits) = ((takeN (l.take i) * 256 % 18446744073709551616 : Nat) : Int) by
      show ((takeN (l.take i) : Int) * 256) % 18446744073709551616 = _
      omega]
    refine FL_move (h := ?_)
    refine FL_val (Gives.conv rfl) rfl ?_
    rw [show IntKind.u64.wrap ((l[i].toNat : Int)) = ((l[i].toNat : Nat) : Int) by
      show (l[i].toNat : Int) % 18446744073709551616 = _
      have := l[i].toNat_lt
      omega]
    refine FL_val (Gives.or rfl rfl) rfl ?_
    rw [show bits .or .u64 ((takeN (l.take i) * 256 % 18446744073709551616 : Nat) : Int) ((l[i].toNat : Nat) : Int) = ((takeN (l.take (i + 1)) : Nat) : Int) by
      have hb := l[i].toNat_lt
      have hq : takeN (l.take i) * 256 % 18446744073709551616 = (takeN (l.take i) % 72057594037927936) <<< 8 := by
        rw [Nat.shiftLeft_eq]
        omega
      rw [u64_or_nat _ _ (by omega) (by omega), hq, ← Nat.shiftLeft_add_eq_or_of_lt (by omega), List.take_succ_eq_append_getElem hlt, takeN_snoc, Nat.shiftLeft_eq]
      omega]
    refine FL_assign (h := ?_)
    refine FL_nil (Qblk_normal (Qseq_normal ?_))
    refine FW_region ?_
    first | refine FL_val (Gives.addI rfl rfl rfl (by omega)) rfl ?_ | refine FL_val (Gives.add rfl rfl) rfl ?_
    refine FL_move (h := ?_)
    refine FL_nil ?_
    exact Qround_normal (i + 1) ⟨rfl, rfl, rfl, rfl, trivial⟩ ⟨by omega, rfl⟩ (by omega)
  · skip
    have hik : i = l.length := by omega
    subst hik
    rw [List.take_length]
    refine FW_exit (Qseq_exit (Qround_exit (Qblk_exit (Qseq_normal ?_))))
    refine FW_seq ?_
    refine FW_region ?_
    refine FL_move (h := ?_)
    refine FL_assign (h := ?_)
    refine FL_nil (Qseq_normal ?_)
    refine FW_ret (Qfn_ret (hR := ?_))
    exact ⟨rfl, rfl⟩
theorem root_lay (n many : Int) : lay (lay (List.replicate 128 (Value.int .u8 0)) 0 ((be 8 n).map B)) 8 ((be 4 many).map B) = (rootB n many).map B := by
  have h8 : ((be 8 n).map B).length = 8 := by simp [be_length]
  have h4 : ((be 4 many).map B).length = 4 := by simp [be_length]
  have e1 : List.replicate 128 (Value.int .u8 0) = [] ++ (List.replicate 8 (Value.int .u8 0) ++ List.replicate 120 (Value.int .u8 0)) := rfl
  have e2 : ([] ++ (be 8 n).map B) ++ List.replicate 120 (Value.int .u8 0) = (be 8 n).map B ++ (List.replicate 4 (Value.int .u8 0) ++ List.replicate 116 (Value.int .u8 0)) := rfl
  rw [e1, lay_mid (a := []) (o := 0) rfl (by rw [h8]; rfl), e2, lay_mid h8 (by rw [h4]; rfl)]
  simp only [rootB, List.map_append, List.map_replicate]
  rfl
theorem of_ok (n many : Int) : Rets Try.prog 77 [I n, I many] w fun v w' => v = .agg ((rootB n many).map B).toArray ∧ Kept noB w w' := by
  have H := Sep.start0 w
  refine retsC2 Try.func77 rfl rfl rfl rfl ?_
  refine FW_seq ?_
  refine FW_region ?_
  refine FL_alloc H (h := ?_)
  intro b1 w2 H2 k1
  refine FL_nil (Qseq_normal ?_)
  refine FW_seq ?_
  refine FW_region ?_
  refine FL_val (Gives.sliceArrTo (h := 8) rfl rfl (by decide)) rfl ?_
  refine FL_move (h := ?_)
  refine FL_call1 H2 At0 (fun F' hp _ => put_ok (k := 8) (o := 0) (n := n) (by decide) (by decide) hp) (h := fun w6 H6 => ?_)
  refine FL_nil (Qseq_normal ?_)
  refine FW_seq ?_
  refine FW_region ?_
  refine FL_val (Gives.sliceArrBoth (l := 8) (h := 12) rfl rfl rfl (by decide) (by decide)) rfl ?_
  refine FL_move (h := ?_)
  refine FL_call1 H6 At0 (fun F' hp _ => put_ok (k := 4) (o := 8) (n := many) (by decide) (by rw [lay_length (by simp [be_length])]; decide) hp) (h := fun w10 H10 => ?_)
  refine FL_nil (Qseq_normal ?_)
  refine FW_seq ?_
  refine FW_region ?_
  rw [root_lay] at H10
  refine FL_loadN H10 (cs := (rootB n many).map B) (o := 0) (k := 128) (us := (rootB n many).map B) (hu := List.take_of_length_le (by simp [rootB_length])) (hk := by simp [rootB_length]) (h := ?_)
  refine FL_storeN (us := (rootB n many).map B) H10 (hk := by simp [rootB_length]) (hv := by intro u hu; obtain ⟨k, _, rfl⟩ := List.mem_map.1 hu; rfl) (ho := by omega) (hs := storeN_all rfl) (h := ?_)
  intro w13 H13
  refine FL_nil (Qseq_normal ?_)
  refine FW_ret (QfnC_ret (h := ?_))
  exact ⟨_, ⟨_, _, _, rfl, rfl, loadVar_blkN (cs := (rootB n many).map B) (o := 0) (k := 128) (H13.obj At0) (us := (rootB n many).map B) (List.take_of_length_le (by simp [rootB_length])) (by simp [rootB_length]), rfl⟩, rfl, H13.kept⟩
section small
variable {put' : HP → List HP}
theorem sizeS_at {k : Int} (H : Sep w₀ S rs w) (hat : At rs (diskH p d) put) (hb : d.size = k) : Rets Try.prog 45 [.pointer (some ⟨p, 0, none⟩)] w fun v w' => v = I k ∧ w = w' := by
  obtain ⟨F, hp, _⟩ := H.focus hat
  rw [← hb]
  exact size_ok hp
theorem noneS_at (H : Sep w₀ S rs w) (hat : At rs (slotH s p m) put) : Rets Try.prog 73 [.pointer (some ⟨s, 0, none⟩)] w fun v w' => v = .bool false ∧ w = w' := by
  have hb := H.obj hat
  refine rets1 Try.func73 rfl rfl rfl rfl ?_
  refine FW_seq ?_
  refine FW_region ?_
  refine FL_assign (h := ?_)
  refine FL_nil (Qseq_normal ?_)
  refine FW_seq ?_
  refine FW_region ?_
  refine FL_move (h := ?_)
  refine FL_val (Gives.eqlNil rfl rfl) rfl ?_
  refine FL_move (h := ?_)
  first | refine FL_splitP (t := 5) rfl (fun hs5 => ?_) (fun hs5 => ?_) | refine FL_split (t := 5) rfl (fun hs5 => ?_) (fun hs5 => ?_)
  · skip
    first | exact absurd rfl hs5 | exact (hs5 trivial).elim | exact absurd hs5 (by decide) | exact absurd hs5 (by simp) | omega --done
  · skip
    refine FL_on rfl rfl ?_
    refine FL_move (h := ?_)
    refine FL_on rfl rfl ?_
    refine FL_val (Gives.nilCheck rfl) rfl ?_
    refine FL_on rfl rfl ?_
    first | refine FL_val (Gives.field0 rfl) rfl ?_ | refine FL_val (Gives.field rfl) rfl ?_ | refine FL_val (Gives.fieldA rfl) rfl ?_
    refine FL_on rfl rfl ?_
    refine FL_loadB hb (h := ?_)
    refine FL_on rfl rfl ?_
    refine FL_val (Gives.eqlNil rfl rfl) rfl ?_
    refine FL_pickF (h := ?_)
    refine FL_assign (h := ?_)
    refine FL_nil (Qseq_normal ?_)
    refine FW_ret (Qfn_ret (hR := ?_))
    exact ⟨rfl, rfl⟩
theorem sectors_at' (H : Sep w₀ S rs w) (hat : At rs (slotH s p m) put) (hat' : At rs (diskH p d) put') : Rets Try.prog 84 [.pointer (some ⟨s, 0, none⟩)] w fun v w' => v = I (half d) ∧ w = w' := by
  have hb := H.obj hat
  obtain ⟨_, hp, _⟩ := H.focus hat'
  have hwf := (diskH_blk hp).1
  refine rets1 Try.func84 rfl rfl rfl rfl ?_
  refine FW_seq ?_
  refine FW_region ?_
  refine FL_assign (h := ?_)
  refine FL_nil (Qseq_normal ?_)
  refine FW_seq ?_
  refine FW_region ?_
  refine FL_move (h := ?_)
  refine FL_val (Gives.nilCheck rfl) rfl ?_
  first | refine FL_val (Gives.field0 rfl) rfl ?_ | refine FL_val (Gives.field rfl) rfl ?_ | refine FL_val (Gives.fieldA rfl) rfl ?_
  refine FL_loadB hb (h := ?_)
  refine FL_callS (sizeS_at H hat' rfl) (h := ?_)
  refine FL_val (Gives.subI rfl rfl rfl (by have := hwf.1; have := hwf.2.1; omega)) rfl ?_
  refine FL_val (Gives.quo rfl rfl (by decide)) rfl ?_
  rw [show IntKind.i64.wrap ((d.size - 1).tdiv 2) = half d by
    have := hwf.1
    have := hwf.2.1
    rw [Int.tdiv_eq_ediv_of_nonneg (by omega)]
    exact IntWalk.i64_in _ (by omega)]
  refine FL_assign (h := ?_)
  refine FL_nil (Qseq_normal ?_)
  refine FW_ret (Qfn_ret (hR := ?_))
  exact ⟨rfl, rfl⟩
theorem half_bd (hwf : d.wf) : 0 ≤ half d ∧ half d ≤ 32767 := by
  have := hwf.1
  have := hwf.2.1
  unfold half
  omega
theorem room_at (H : Sep w₀ S rs w) (hat : At rs (slotH s p m) put) (hat' : At rs (diskH p d) put') : Rets Try.prog 60 [.pointer (some ⟨s, 0, none⟩)] w fun v w' => v = I (room d) ∧ w = w' := by
  obtain ⟨_, hp, _⟩ := H.focus hat'
  have hh := half_bd (diskH_blk hp).1
  refine rets1 Try.func60 rfl rfl rfl rfl ?_
  refine FW_seq ?_
  refine FW_region ?_
  refine FL_assign (h := ?_)
  refine FL_nil (Qseq_normal ?_)
  refine FW_seq ?_
  refine FW_seq ?_
  refine FW_region ?_
  refine FL_move (h := ?_)
  refine FL_callS (noneS_at H hat) (h := ?_)
  refine FL_nil (Qseq_normal ?_)
  first | refine FW_condP rfl (fun hc4 => ?_) (fun hc4 => ?_) | refine FW_cond rfl (fun hc4 => ?_) (fun hc4 => ?_)
  · skip
    first | exact absurd rfl hc4 | exact (hc4 trivial).elim | exact absurd hc4 (by decide) | exact absurd hc4 (by simp) | omega --done
  · skip
    refine FW_skip (Qseq_normal ?_)
    refine FW_seq ?_
    refine FW_region ?_
    refine FL_move (h := ?_)
    refine FL_callS (sectors_at' H hat hat') (h := ?_)
    refine FL_val (Gives.mulI rfl rfl rfl (by omega)) rfl ?_
    refine FL_assign (h := ?_)
    refine FL_nil (Qseq_normal ?_)
    refine FW_ret (Qfn_ret (hR := ?_))
    exact ⟨rfl, rfl⟩
theorem number_at (H : Sep w₀ S rs w) (hat : At rs (slotH s p m) put) : Rets Try.prog 54 [.pointer (some ⟨s, 0, none⟩)] w fun v w' => v = I m.n ∧ w = w' := by
  have hb := H.obj hat
  refine rets1 Try.func54 rfl rfl rfl rfl ?_
  refine FW_seq ?_
  refine FW_region ?_
  refine FL_assign (h := ?_)
  refine FL_nil (Qseq_normal ?_)
  refine FW_seq ?_
  refine FW_seq ?_
  refine FW_region ?_
  refine FL_move (h := ?_)
  refine FL_callS (noneS_at H hat) (h := ?_)
  refine FL_nil (Qseq_normal ?_)
  first | refine FW_condP rfl (fun hc4 => ?_) (fun hc4 => ?_) | refine FW_cond rfl (fun hc4 => ?_) (fun hc4 => ?_)
  · skip
    first | exact absurd rfl hc4 | exact (hc4 trivial).elim | exact absurd hc4 (by decide) | exact absurd hc4 (by simp) | omega --done
  · skip
    refine FW_skip (Qseq_normal ?_)
    refine FW_seq ?_
    refine FW_region ?_
    refine FL_move (h := ?_)
    refine FL_val (Gives.nilCheck rfl) rfl ?_
    first | refine FL_val (Gives.field0 rfl) rfl ?_ | refine FL_val (Gives.field rfl) rfl ?_ | refine FL_val (Gives.fieldA rfl) rfl ?_
    refine FL_loadB hb (h := ?_)
    refine FL_assign (h := ?_)
    refine FL_nil (Qseq_normal ?_)
    refine FW_ret (Qfn_ret (hR := ?_))
    exact ⟨rfl, rfl⟩
theorem area_at {n : Int} (hn : 0 ≤ n) (H : Sep w₀ S rs w) (hat : At rs (slotH s p m) put) (hat' : At rs (diskH p d) put') : Rets Try.prog 75 [.pointer (some ⟨s, 0, none⟩), I n] w fun v w' => v = I (area d n) ∧ w = w' := by
  obtain ⟨_, hp, _⟩ := H.focus hat'
  have hh := half_bd (diskH_blk hp).1
  have hm : 0 ≤ n % 2 * half d ∧ n % 2 * half d ≤ 32767 := by
    rcases (show n % 2 = 0 ∨ n % 2 = 1 by omega) with h | h <;> rw [h] <;> omega
  refine rets2 Try.func75 rfl rfl rfl rfl ?_
  refine FW_seq ?_
  refine FW_region ?_
  refine FL_assign (h := ?_)
  refine FL_nil (Qseq_normal ?_)
  refine FW_seq ?_
  refine FW_region ?_
  refine FL_move (h := ?_)
  refine FL_val (Gives.rem rfl rfl (by decide)) rfl ?_
  rw [show n.tmod 2 = n % 2 from Int.tmod_eq_emod_of_nonneg hn]
  refine FL_move (h := ?_)
  refine FL_callS (sectors_at' H hat hat') (h := ?_)
  refine FL_val (Gives.mulI rfl rfl rfl (by omega)) rfl ?_
  refine FL_val (Gives.addI rfl rfl rfl (by omega)) rfl ?_
  refine FL_assign (h := ?_)
  refine FL_nil (Qseq_normal ?_)
  refine FW_ret (Qfn_ret (hR := ?_))
  exact ⟨rfl, rfl⟩
end small
end
end Go.Proofs.Yteflbohpabdjkaa
