/-
  The reference's small functions, walked.
-/
import Derived.Test.YteflbohpabdjkaaRefM
namespace Go.Proofs.Yteflbohpabdjkaa
open Go Go.Mw
set_option maxRecDepth 4000

theorem full_step {l : List UInt8} {i : Nat} (hi : i < l.length) (hl : l.length ≤ 128) : ((l.take i).map B ++ List.replicate (128 - i) (Value.int .u8 0)).set i (B l[i]) = (l.take (i + 1)).map B ++ List.replicate (128 - (i + 1)) (Value.int .u8 0) := by
  obtain ⟨k, hk⟩ : ∃ k, 128 - i = k + 1 := ⟨128 - (i + 1), by omega⟩
  have hk2 : 128 - (i + 1) = k := by omega
  have hlen : ((l.take i).map B).length = i := by simp; omega
  rw [hk, hk2, List.set_append_right _ _ (by omega), hlen, Nat.sub_self, List.replicate_succ, List.set_cons_zero, List.take_succ_eq_append_getElem hi, List.map_append, List.append_assoc]
  rfl
section
variable {w w₀ : World} {S : Nat → Prop} {rs : List HP}
theorem full_ok {A : Option Addr} {c : Nat} {l : List UInt8} (hr : RowAt w A l.length 1 (l.map B)) (hl : l.length ≤ 128) : Rets Try.prog 69 [.slice A l.length c] w fun v w' => ∃ b, v = secV b ∧ True ∧ Turn noB (blk b ((pad l).map B) 5) w w' := by
  have H := Sep.start0 w
  refine rets1 Try.func69 rfl rfl rfl rfl ?_
  refine FW_seq ?_
  refine FW_region ?_
  refine FL_assign (h := ?_)
  refine FL_nil (Qseq_normal ?_)
  refine FW_seq ?_
  refine FW_region ?_
  refine FL_make1 H (k := 128) (by decide) (by decide) (h := ?_)
  intro bb w3 H3 _
  refine FL_assign (h := ?_)
  refine FL_nil (Qseq_normal ?_)
  refine FW_seq ?_
  refine FW_seq ?_
  refine FW_region ?_
  refine FL_assign (h := ?_)
  refine FL_nil (Qseq_normal ?_)
  refine FW_block ?_
  refine FW_loop' (fun i : Nat => [(0, .slice A l.length c), (3, .slice (some ⟨bb, 0, none⟩) 128 128), (4, I i)])
    (fun i w' => i ≤ l.length ∧ Sep w noB [blk bb ((l.take i).map B ++ List.replicate (128 - i) (Value.int .u8 0)) 5] w') (fun i _ => l.length - i) 0 ⟨rfl, rfl, rfl, trivial⟩ ⟨Nat.zero_le _, H3⟩ (fun i τ w7 hI => ?_)
  obtain ⟨hi, H7⟩ := hI
  try simp only [upds, like, upd_ds, und_ds]
  refine FW_seq ?_
  refine FW_seq ?_
  refine FW_region ?_
  refine FL_move (h := ?_)
  refine FL_move (h := ?_)
  refine FL_val (Gives.lenSlice rfl) rfl ?_
  refine FL_val (Gives.lss rfl rfl) rfl ?_
  refine FL_nil (Qseq_normal ?_)
  first | refine FW_condP rfl (fun hc12 => ?_) (fun hc12 => ?_) | refine FW_cond rfl (fun hc12 => ?_) (fun hc12 => ?_)
  · skip
    have hlt : i < l.length := by omega
    obtain ⟨ad, hA, hcell⟩ := (hr.keep H7.kept).at_ (by omega)
    subst hA
    refine FW_skip (Qseq_normal ?_)
    refine FW_seq ?_
    refine FW_block ?_
    refine FW_region ?_
    refine FL_move (h := ?_)
    refine FL_move (h := ?_)
    refine FL_move (h := ?_)
    refine FL_move (h := ?_)
    refine FL_val (Gives.idx rfl rfl hlt) rfl ?_
    refine FL_loadC (hcell (i * 1) (B l[i]) (by simp [hlt])) (h := ?_)
    refine FL_val (Gives.idxB rfl rfl (by omega)) rfl ?_
    refine FL_store H7 (hy := by exact rfl) (hat := At0) (cs' := (l.take (i + 1)).map B ++ List.replicate (128 - (i + 1)) (Value.int .u8 0)) (ho := by simp; omega) (hs := full_step hlt hl) (h := ?_)
    intro w22 H22
    refine FL_nil (Qblk_normal (Qseq_normal ?_))
    refine FW_region ?_
    refine FL_move (h := ?_)
    first | refine FL_val (Gives.addI rfl rfl rfl (by omega)) rfl ?_ | refine FL_val (Gives.add rfl rfl) rfl ?_
    refine FL_assign (h := ?_)
    refine FL_nil ?_
    exact Qround_normal (i + 1) ⟨rfl, rfl, rfl, trivial⟩ ⟨by omega, H22⟩ (by omega)
  · skip
    have hie : i = l.length := by omega
    subst hie
    refine FW_exit (Qseq_exit (Qround_exit (Qblk_exit (Qseq_normal ?_))))
    refine FW_seq ?_
    refine FW_region ?_
    refine FL_move (h := ?_)
    refine FL_assign (h := ?_)
    refine FL_nil (Qseq_normal ?_)
    refine FW_ret (Qfn_ret (hR := ?_))
    refine ⟨bb, rfl, trivial, ?_⟩
    have e : (pad l).map B = (l.take l.length).map B ++ List.replicate (128 - l.length) (Value.int .u8 0) := by
      unfold pad
      rw [List.map_append, List.take_length, List.map_replicate]
      rfl
    rw [e]
    exact H7.turn
theorem set_ok {A : Option Addr} {c : Nat} {l : List (Nat × List UInt8)} {at_ b : Nat} (x : Nat × List UInt8) (hx : x.1 = b) (hr : RowAt w A l.length 1 (l.map fun x => secV x.1)) (hl : l.length ≤ 65536) (ha : at_ < 65536) :
    Rets Try.prog 72 [.slice A l.length c, I at_, secV b] w fun v w' => ∃ y : Value × List (Nat × List UInt8), v = y.1 ∧ (l.length + y.2.length = max l.length (at_ + 1) ∧ ∀ z ∈ y.2, z.2 = zeroSec) ∧
      Turn noB (star (rowH 27 1 y.1 (setK l y.2 at_ x).length ((setK l y.2 at_ x).map fun x => secV x.1)) (poolH 5 (poolOf y.2.reverse))) w w' := by
  have H := Sep.start0 w
  have hone : ∀ u ∈ l.map fun x => secV x.1, u.oneCell' = true := by
    intro u hu
    obtain ⟨y, _, rfl⟩ := List.mem_map.1 hu; rfl
  refine rets3 Try.func72 rfl rfl rfl rfl ?_
  refine FW_seq ?_
  refine FW_region ?_
  refine FL_assign (h := ?_)
  refine FL_nil (Qseq_normal ?_)
  refine FW_seq ?_
  refine FW_region ?_
  refine FL_assign (h := ?_)
  refine FL_nil (Qseq_normal ?_)
  refine FW_seq ?_
  refine FW_region ?_
  refine FL_move (h := ?_)
  refine FL_move (h := ?_)
  refine FL_append (H.nilRow 27 1) (hx := by exact rfl) (hy := by exact rfl) (hat := At0) hr hone (h63 := by unfold maxLen; omega) (hbytes := by omega) (h := fun v7 w6 H6 => ?_)
  refine FL_assign (h := ?_)
  refine FL_nil (Qseq_normal ?_)
  refine FW_seq ?_
  refine FW_block ?_
  rw [Nat.zero_add, List.nil_append] at H6
  refine FW_loop' (fun y : Value × List (Nat × List UInt8) => [(1, I at_), (2, secV b), (7, y.1)])
    (fun y w' => (l.length + y.2.length ≤ max l.length (at_ + 1) ∧ ∀ z ∈ y.2, z.2 = zeroSec) ∧ Sep w noB [rowH 27 1 y.1 (l ++ y.2).length ((l ++ y.2).map fun x => secV x.1), poolH 5 (poolOf y.2.reverse)] w') (fun y _ => at_ + 1 - (l.length + y.2.length)) (v7, []) ⟨rfl, rfl, rfl, trivial⟩ ⟨⟨by simp only [List.length_nil]; omega, fun _ h => by cases h⟩, by rw [List.append_nil]; exact ((H6.poolNil 5).front1)⟩ (fun y τ w9 hI => ?_)
  obtain ⟨v7, fills⟩ := y
  obtain ⟨⟨hf, hz⟩, H9⟩ := hI
  dsimp only at hf hz H9
  obtain ⟨A7, c7, h7, _⟩ := Sep.rowForm H9 At0
  subst h7
  try simp only [upds, like, upd_ds, und_ds]
  refine FW_seq ?_
  refine FW_seq ?_
  refine FW_region ?_
  refine FL_move (h := ?_)
  refine FL_val (Gives.lenSlice rfl) rfl ?_
  refine FL_move (h := ?_)
  refine FL_val (Gives.leq rfl rfl) rfl ?_
  refine FL_nil (Qseq_normal ?_)
  first | refine FW_condP rfl (fun hc14 => ?_) (fun hc14 => ?_) | refine FW_cond rfl (fun hc14 => ?_) (fun hc14 => ?_)
  · skip
    have hlt : l.length + fills.length ≤ at_ := by simp only [List.length_append] at hc14; omega
    refine FW_skip (Qseq_normal ?_)
    refine FW_block ?_
    refine FW_region ?_
    refine FL_move (h := ?_)
    refine FL_make1 H9 (k := 128) (by decide) (by decide) (h := ?_)
    intro bb w18 H18 _
    refine FL_buildSlice H18 (Elems.one (v := secV bb) rfl rfl Elems.nil) rfl rfl rfl (fun b19 w20 H20 _ => ?_)
    refine FL_append H20 (hx := by exact rfl) (hy := by exact rfl) (hat := At2) (H20.blkRow At0 (m := 1) (s := 1) rfl) (by intro u hu; rw [List.mem_singleton.1 hu]; rfl) (h63 := by simp only [List.length_append]; unfold maxLen; omega) (hbytes := by simp only [List.length_append]; omega) (h := fun vv w22 H22 => ?_)
    refine FL_assign (h := ?_)
    refine FL_nil (Qblk_normal ?_)
    have H2 := H22.drop0.front2.front1
    rw [← zero_map] at H2
    refine Qround_normal (vv, fills ++ [(bb, zeroSec)]) ⟨rfl, rfl, rfl, trivial⟩ ⟨⟨by simp only [List.length_append, List.length_singleton]; omega, fun z hz' => ?_⟩, ?_⟩ (by simp only [List.length_append, List.length_singleton]; omega)
    · rcases List.mem_append.1 hz' with h | h
      · exact hz z h
      · rw [List.mem_singleton.1 h]
    · have e1 : poolOf (fills ++ [(bb, zeroSec)]).reverse = (bb, zeroSec.map B) :: poolOf fills.reverse := by rw [List.reverse_append]; rfl
      have e2 : (l ++ (fills ++ [(bb, zeroSec)])).length = (l ++ fills).length + 1 := by simp only [List.length_append, List.length_singleton]; omega
      have e3 : (l ++ (fills ++ [(bb, zeroSec)])).map (fun x => secV x.1) = (l ++ fills).map (fun x => secV x.1) ++ [secV bb] := by simp only [List.map_append, List.map_cons, List.map_nil, List.append_assoc]
      dsimp only
      rw [e1, e2, e3]
      exact (Sep.poolCons H2).front1
  · skip
    have hge : at_ < l.length + fills.length := by simp only [List.length_append] at hc14; omega
    obtain ⟨g, cg, rest, hg, hcg, hlg, hle, hmx, HO⟩ := Sep.rowOpen H9 At0 (by simp only [List.length_append]; omega)
    injection hg with hg1 _ hg2
    subst hg1 hg2
    refine FW_exit (Qseq_exit (Qround_exit (Qblk_exit (Qseq_normal ?_))))
    refine FW_seq ?_
    refine FW_region ?_
    refine FL_move (h := ?_)
    refine FL_move (h := ?_)
    refine FL_move (h := ?_)
    refine FL_val (Gives.idxB rfl rfl (by simp only [List.length_append]; omega)) rfl ?_
    refine FL_store HO (hat := At0) (cs' := ((setK l fills at_ x).map fun x => secV x.1) ++ rest) (ho := by simp only [List.length_append, List.length_map]; exact Nat.ble_eq_true_of_le (by omega)) (hs := by unfold setK; rw [List.map_set, hx]; exact set_front (by simp only [List.length_map, List.length_append]; omega)) (h := ?_)
    intro w31 H31
    refine FL_nil (Qseq_normal ?_)
    refine FW_seq ?_
    refine FW_region ?_
    refine FL_move (h := ?_)
    refine FL_assign (h := ?_)
    refine FL_nil (Qseq_normal ?_)
    refine FW_ret (Qfn_ret (hR := ?_))
    refine ⟨(.slice (some ⟨g, 0, none⟩) (l ++ fills).length c7, fills), rfl, ⟨by simp only; omega, hz⟩, ?_⟩
    dsimp only at H31 ⊢
    have hsl : (setK l fills at_ x).length = (l ++ fills).length := by unfold setK; rw [List.length_set]
    rw [hsl]
    have H3 := Sep.rowShut H31 At0 (s := 1) (n := (l ++ fills).length) (c := c7) (by rw [List.length_append, List.length_map, hsl]; rw [List.length_append, List.length_map] at hcg; exact hcg) (by rw [List.length_map, hsl]; omega) hle hmx
    exact (Sep.join0 H3).turn
end
end Go.Proofs.Yteflbohpabdjkaa
