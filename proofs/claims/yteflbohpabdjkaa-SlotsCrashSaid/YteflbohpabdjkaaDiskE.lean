/-
  The disk falls; a count; a crash.
-/
import Derived.Test.YteflbohpabdjkaaDiskD
namespace Go.Proofs.Yteflbohpabdjkaa
open Go Go.Mw
set_option maxRecDepth 4000

section
variable {p : Nat} {d : DM} {F : Nat → Prop} {w w₀ : World} {S : Nat → Prop} {rs : List HP} {put : HP → List HP}
theorem cloneMap_at {b : Nat} {g : Int → Option Value} (H : Sep w₀ S rs w) (hat : At rs (mapI b g) put) : Rets Try.prog 67 [.map (some b)] w fun v w' => ∃ b', v = .map (some b') ∧ True ∧ Turn noB (mapI b' g) w w' := by
  obtain ⟨F, hp, _⟩ := H.focus hat
  exact cloneMap_ok hp
theorem keptBy_wf {keep : List Int} : ∀ {i : Nat} {l : List (Int × List UInt8)} {f : Int → Option (List UInt8)}, (∀ x ∈ l, x.2.length = 128) → (∀ k b, f k = some b → b.length = 128) → ∀ k b, keptBy keep i l f k = some b → b.length = 128
  | _, [], _, _, hf => hf
  | i, x :: l, f, hl, hf => by
    refine keptBy_wf (i := i + 1) (l := l) (fun y hy => hl y (List.mem_cons_of_mem _ hy)) fun k b hb => ?_
    split at hb
    · unfold setAt at hb
      split at hb
      · injection hb with hb; rw [← hb]; exact hl x List.mem_cons_self
      · exact hf k b hb
    · exact hf k b hb
theorem DM.wf.fall (h : d.wf) (keep : List Int) : (d.fall keep).wf :=
  ⟨h.1, h.2.1, keptBy_wf h.2.2.2.2 h.2.2.1, keptBy_wf h.2.2.2.2 h.2.2.1, fun _ hx => by cases hx⟩
theorem fall_ok {x : Nat × Nat × Value × Value} {A : Option Addr} {c : Nat} {keep : List Int} (hwf : d.wf) (hfit : d.opn.length ≤ 1000000000000) (hkl : keep.length ≤ 1000000000000) (h : (starL (diskParts p d x)).ok F w)
    (hst : ∀ w' l1 l2, Sep w F (l1 ++ rowH 3 1 x.2.2.2 d.keep.length (d.keep.map I) :: l2) w' → RowAt w' A keep.length 1 (keep.map I)) :
    Rets Try.prog 63 [.pointer (some ⟨p, 0, none⟩), .slice A keep.length c] w fun v w' => v = .tuple #[] ∧ Turn F (diskH p (d.fall keep)) w w' := by
  obtain ⟨bk, bn, vo, vk⟩ := x
  have H := (Sep.start1 h).parts
  unfold diskParts at H
  refine rets2 Try.func63 rfl rfl rfl rfl ?_
  refine FW_seq ?_
  refine FW_region ?_
  refine FL_box H (h := ?_)
  intro b1 w2 H2 k1
  refine FL_nil (Qseq_normal ?_)
  refine FW_seq ?_
  refine FW_seq ?_
  refine FW_region ?_
  refine FL_load H2 (h := ?_)
  refine FL_move (h := ?_)
  refine FL_callN H2 (stay_ok p (.slice A keep.length c)) rfl rfl (fun y w6 _ H6 hk5 => ?_)
  obtain ⟨b2, b3⟩ := y
  refine FL_nil (Qseq_normal ?_)
  refine FW_block ?_
  have HJ := Sep.parts H6
  refine FW_range (gf := 88) (lb := [.pointer (some ⟨b2, 0, none⟩), .pointer (some ⟨b3, 0, none⟩)]) opV (keptL keep 0 d.opn) (rangeJ p d bk bn vo vk b2 b3 _ (.slice A keep.length c)) HJ rfl rfl ?_ ?_ ?_
  · intro l D ro rb pre x W hpre HW
    have hlen : (oneOpen x).length = 129 := by
      have hm := keptL_mem (hpre.subset (List.mem_append_right pre (List.mem_singleton.2 rfl)))
      simp [oneOpen, hwf.2.2.2.2 _ hm]
    refine FW_region ?_
    refine FL_alloc HW (h := ?_)
    intro b9 w10 H10 k9
    refine FL_storeN (us := oneOpen x) H10 (hk := hlen) (hv := oneOpen_one _) (ho := by rw [hlen]; decide) (hs := storeN_all (by rw [hlen]; rfl)) (h := ?_)
    intro w12 H12
    refine FL_nil (Qassign_normal ?_)
    refine ⟨[blk _ (oneOpen x) 101], Sep.back2 H12, fun WB HB => ?_⟩
    refine FW_block ?_
    refine FW_drawS rfl HB (h := fun hok14 w16 H16 => ?_)
    refine FGload hok14 0 H16 (h := ?_)
    refine FGp hok14 1 rfl rfl (fun _ => (Gives.nilCheck rfl)) (by kernel_rfl) ?_
    first | refine FGp hok14 2 rfl rfl (fun _ => (Gives.field0 rfl)) (by kernel_rfl) ?_ | refine FGp hok14 2 rfl rfl (fun _ => (Gives.field rfl)) (by kernel_rfl) ?_ | refine FGp hok14 2 rfl rfl (fun _ => (Gives.fieldA rfl)) (by kernel_rfl) ?_
    refine FGload hok14 3 H16 (h := ?_)
    first | refine FGp hok14 4 rfl rfl (fun _ => (Gives.field0 rfl)) (by kernel_rfl) ?_ | refine FGp hok14 4 rfl rfl (fun _ => (Gives.field rfl)) (by kernel_rfl) ?_ | refine FGp hok14 4 rfl rfl (fun _ => (Gives.fieldA rfl)) (by kernel_rfl) ?_
    refine FGload hok14 5 H16 (h := ?_)
    first | refine FGp hok14 6 rfl rfl (fun _ => (Gives.field0 rfl)) (by kernel_rfl) ?_ | refine FGp hok14 6 rfl rfl (fun _ => (Gives.field rfl)) (by kernel_rfl) ?_ | refine FGp hok14 6 rfl rfl (fun _ => (Gives.fieldA rfl)) (by kernel_rfl) ?_
    refine FGloadN hok14 7 (cs := oneOpen x) (us := x.2.map B) (o := 1) (k := 128) H16 (hu := by rw [show (oneOpen x).drop 1 = x.2.map B from rfl]; exact List.take_of_length_le (by simp [oneOpen] at hlen ⊢; omega)) (hk := by simp [oneOpen] at hlen ⊢; omega) (h := ?_)
    refine FGmapUpdate hok14 8 [] H16 (h := fun w26 H26 => ⟨Stab_nil, ?_⟩)
    refine FG_end hok14 (by kernel_rfl) ?_
    refine Qblk_normal (Qassign_normal ?_)
    have e : (fun j => if j = x.1 then some (Value.agg (x.2.map B).toArray) else dmap (DM.keptAll pre d.kept) j) = dmap (DM.keptAll (pre ++ [x]) d.kept) := by rw [keptAll_append]; exact dmap_set _ _ _
    rw [e] at H26
    exact (Sep.front2 H26).drop0
  · intro l D ro W HW hy
    exact stay1_ok hwf hfit hkl hst l D ro HW hy
  intro D w29 H29 --on
  refine Qblk_normal (Qseq_normal ?_)
  refine FW_seq ?_
  refine FW_drawS rfl H29 (h := fun hok30 w32 H32 => ?_)
  refine FGload hok30 0 H32 (h := ?_)
  refine FGload hok30 1 H32 (h := ?_)
  refine FGp hok30 2 rfl rfl (fun _ => (Gives.nilCheck rfl)) (by kernel_rfl) ?_
  first | refine FGp hok30 3 rfl rfl (fun _ => (Gives.field0 rfl)) (by kernel_rfl) ?_ | refine FGp hok30 3 rfl rfl (fun _ => (Gives.field rfl)) (by kernel_rfl) ?_ | refine FGp hok30 3 rfl rfl (fun _ => (Gives.fieldA rfl)) (by kernel_rfl) ?_
  refine FGload hok30 4 H32 (h := ?_)
  refine FGcallN hok30 5 [(0, false)] H32 (cloneMap_at H32 At5) (h := fun y w39 _ H39 _ => ⟨Stab_load H39 (h := Stab_nil), ?_⟩)
  refine FGp hok30 6 rfl rfl (fun _ => (Gives.nilCheck rfl)) (by kernel_rfl) ?_
  first | refine FGp hok30 7 rfl rfl (fun _ => (Gives.field0 rfl)) (by kernel_rfl) ?_ | refine FGp hok30 7 rfl rfl (fun _ => (Gives.field rfl)) (by kernel_rfl) ?_ | refine FGp hok30 7 rfl rfl (fun _ => (Gives.fieldA rfl)) (by kernel_rfl) ?_
  refine FGstore hok30 8 [] H39 (h := fun w43 H43 => ⟨Stab_nil, ?_⟩)
  refine FG_end hok30 (by kernel_rfl) ?_
  refine Qseq_normal ?_
  refine FW_drawS rfl H43 (h := fun hok44 w46 H46 => ?_)
  refine FGload hok44 0 H46 (h := ?_)
  refine FGload hok44 1 H46 (h := ?_)
  refine FGload hok44 2 H46 (h := ?_)
  refine FGload hok44 3 H46 (h := ?_)
  refine FGp hok44 4 rfl rfl (fun _ => (Gives.nilCheck rfl)) (by kernel_rfl) ?_
  first | refine FGp hok44 5 rfl rfl (fun _ => (Gives.field0 rfl)) (by kernel_rfl) ?_ | refine FGp hok44 5 rfl rfl (fun _ => (Gives.field rfl)) (by kernel_rfl) ?_ | refine FGp hok44 5 rfl rfl (fun _ => (Gives.fieldA rfl)) (by kernel_rfl) ?_
  refine FGstore hok44 6 [(3, false), (2, false), (1, false)] H46 (h := fun w54 H54 => ⟨Stab_load H54 (h := Stab_load H54 (h := Stab_load H54 (h := Stab_nil))), ?_⟩)
  refine FGp hok44 7 rfl rfl (fun _ => (Gives.nilCheck rfl)) (by kernel_rfl) ?_
  first | refine FGp hok44 8 rfl rfl (fun _ => (Gives.field0 rfl)) (by kernel_rfl) ?_ | refine FGp hok44 8 rfl rfl (fun _ => (Gives.field rfl)) (by kernel_rfl) ?_ | refine FGp hok44 8 rfl rfl (fun _ => (Gives.fieldA rfl)) (by kernel_rfl) ?_
  refine FGstore hok44 9 [(3, false), (2, false)] H54 (h := fun w58 H58 => ⟨Stab_load H58 (h := Stab_load H58 (h := Stab_nil)), ?_⟩)
  refine FGp hok44 10 rfl rfl (fun _ => (Gives.nilCheck rfl)) (by kernel_rfl) ?_
  first | refine FGp hok44 11 rfl rfl (fun _ => (Gives.field0 rfl)) (by kernel_rfl) ?_ | refine FGp hok44 11 rfl rfl (fun _ => (Gives.field rfl)) (by kernel_rfl) ?_ | refine FGp hok44 11 rfl rfl (fun _ => (Gives.fieldA rfl)) (by kernel_rfl) ?_
  refine FGstore hok44 12 [(3, false)] H58 (h := fun w62 H62 => ⟨Stab_load H62 (h := Stab_nil), ?_⟩)
  refine FGp hok44 13 rfl rfl (fun _ => (Gives.nilCheck rfl)) (by kernel_rfl) ?_
  first | refine FGp hok44 14 rfl rfl (fun _ => (Gives.field0 rfl)) (by kernel_rfl) ?_ | refine FGp hok44 14 rfl rfl (fun _ => (Gives.field rfl)) (by kernel_rfl) ?_ | refine FGp hok44 14 rfl rfl (fun _ => (Gives.fieldA rfl)) (by kernel_rfl) ?_
  refine FGstore hok44 15 [] H62 (h := fun w66 H66 => ⟨Stab_nil, ?_⟩)
  refine FG_end hok44 (by kernel_rfl) ?_
  refine Qfn_normal1 H66 At1 (hR := fun w68 H68 => ?_)
  rw [← keptBy_eq] at H68
  exact ⟨rfl, (Sep.shutDisk (d := d.fall keep) (hwf.fall keep) (((H68.nilRow 3 1).nilRow 101 129).front2.front8.front8)).first.turn⟩
theorem count_ok (hfit : d.opn.length ≤ 1000000000000) (hkl : d.keep.length ≤ 1000000000000) (hops : fits (d.ops + 1)) (h : (diskH p d).ok F w) :
    Rets Try.prog 65 [.pointer (some ⟨p, 0, none⟩)] w fun v w' => v = .bool d.count.1 ∧ Turn F (diskH p d.count.2) w w' := by
  obtain ⟨hwf, bk, bn, vo, vk, H⟩ := Sep.openDisk (Sep.start1 h)
  obtain ⟨Ak, ck, hvk, _, _, _⟩ := H.rowForm At4
  subst hvk
  unfold fits at hops
  refine rets1 Try.func65 rfl rfl rfl rfl ?_
  refine FW_seq ?_
  refine FW_region ?_
  refine FL_assign (h := ?_)
  refine FL_nil (Qseq_normal ?_)
  refine FW_seq ?_
  refine FW_region ?_
  refine FL_move (h := ?_)
  refine FL_val (Gives.nilCheck rfl) rfl ?_
  first | refine FL_val (Gives.field0 rfl) rfl ?_ | refine FL_val (Gives.field rfl) rfl ?_ | refine FL_val (Gives.fieldA rfl) rfl ?_
  refine FL_load H (h := ?_)
  first | refine FL_val (Gives.addI rfl rfl rfl (by omega)) rfl ?_ | refine FL_val (Gives.add rfl rfl) rfl ?_
  refine FL_val (Gives.nilCheck rfl) rfl ?_
  first | refine FL_val (Gives.field0 rfl) rfl ?_ | refine FL_val (Gives.field rfl) rfl ?_ | refine FL_val (Gives.fieldA rfl) rfl ?_
  refine FL_store H (h := ?_)
  intro w10 H10
  refine FL_nil (Qseq_normal ?_)
  refine FW_seq ?_
  refine FW_seq ?_
  refine FW_drawS rfl H10 (h := fun hok11 w13 H13 => ?_)
  refine FGmove hok11 0 (h := ?_)
  refine FGp hok11 1 rfl rfl (fun _ => (Gives.nilCheck rfl)) (by kernel_rfl) ?_
  first | refine FGp hok11 2 rfl rfl (fun _ => (Gives.field0 rfl)) (by kernel_rfl) ?_ | refine FGp hok11 2 rfl rfl (fun _ => (Gives.field rfl)) (by kernel_rfl) ?_ | refine FGp hok11 2 rfl rfl (fun _ => (Gives.fieldA rfl)) (by kernel_rfl) ?_
  refine FGload hok11 3 H13 (h := ?_)
  refine FGmove hok11 4 (h := ?_)
  refine FGp hok11 5 rfl rfl (fun _ => (Gives.nilCheck rfl)) (by kernel_rfl) ?_
  first | refine FGp hok11 6 rfl rfl (fun _ => (Gives.field0 rfl)) (by kernel_rfl) ?_ | refine FGp hok11 6 rfl rfl (fun _ => (Gives.field rfl)) (by kernel_rfl) ?_ | refine FGp hok11 6 rfl rfl (fun _ => (Gives.fieldA rfl)) (by kernel_rfl) ?_
  refine FGload hok11 7 H13 (h := ?_)
  refine FGp hok11 8 rfl rfl (fun _ => (Gives.eql rfl rfl)) (by kernel_rfl) ?_
  refine FG_end hok11 (by kernel_rfl) ?_
  refine Qseq_normal ?_
  first | refine FW_condP rfl (fun hc21 => ?_) (fun hc21 => ?_) | refine FW_cond rfl (fun hc21 => ?_) (fun hc21 => ?_)
  · skip
    have hC := hc21
    refine FW_seq ?_
    refine FW_region ?_
    refine FL_move (h := ?_)
    refine FL_move (h := ?_)
    refine FL_val (Gives.nilCheck rfl) rfl ?_
    first | refine FL_val (Gives.field0 rfl) rfl ?_ | refine FL_val (Gives.field rfl) rfl ?_ | refine FL_val (Gives.fieldA rfl) rfl ?_
    refine FL_load H13 (h := ?_)
    have HB : Sep w F [starL (diskParts p { d with ops := d.ops + 1 } (bk, bn, vo, .slice Ak d.keep.length ck))] w13 := Sep.bundle (l := diskParts p { d with ops := d.ops + 1 } (bk, bn, vo, .slice Ak d.keep.length ck)) H13
    refine FL_call1 HB At0 (fun F' hp _ => fall_ok (d := { d with ops := d.ops + 1 }) (x := (bk, bn, vo, .slice Ak d.keep.length ck)) (keep := d.keep) (A := Ak) (c := ck) hwf hfit hkl hp fun w' l1 l2 Hw => Sep.rowAt Hw ⟨l1, l2, rfl, fun q => rfl⟩) (h := fun w29 H29 => ?_)
    refine FL_nil (Qseq_normal ?_)
    refine FW_seq ?_
    refine FW_region ?_
    refine FL_assign (h := ?_)
    refine FL_nil (Qseq_normal ?_)
    refine FW_ret (Qseq_ret (Qfn_ret (hR := ?_)))
    rw [DM.count, if_pos hC]
    exact ⟨rfl, H29.turn⟩
  · skip
    have hC := hc21
    refine FW_skip (Qseq_normal ?_)
    refine FW_seq ?_
    refine FW_region ?_
    refine FL_assign (h := ?_)
    refine FL_nil (Qseq_normal ?_)
    refine FW_ret (Qfn_ret (hR := ?_))
    rw [DM.count, if_neg hC]
    exact ⟨rfl, (Sep.shutDisk (d := { d with ops := d.ops + 1 }) hwf H13).turn⟩
theorem crash_ok {A : Option Addr} {c : Nat} {keep : List Int} (hfit : d.opn.length ≤ 1000000000000) (hkl : keep.length ≤ 1000000000000) (hr : RowAt w A keep.length 1 (keep.map I)) (hA : Off A keep.length F) (h : (diskH p d).ok F w) :
    Rets Try.prog 20 [.pointer (some ⟨p, 0, none⟩), .slice A keep.length c] w fun v w' => v = .tuple #[] ∧ Turn F (diskH p (d.crash keep)) w w' := by
  obtain ⟨hwf, bk, bn, vo, vk, H⟩ := Sep.openDisk (Sep.start1 h)
  refine rets2 Try.func20 rfl rfl rfl rfl ?_
  refine FW_seq ?_
  refine FW_region ?_
  refine FL_move (h := ?_)
  refine FL_callS (none_ok h) (h := ?_)
  first | refine FL_val (Gives.notP rfl) rfl ?_ | refine FL_val (Gives.not rfl) rfl ?_
  refine FL_move (h := ?_)
  first | refine FL_splitP (t := 7) rfl (fun hs5 => ?_) (fun hs5 => ?_) | refine FL_split (t := 7) rfl (fun hs5 => ?_) (fun hs5 => ?_)
  · skip
    refine FL_on rfl rfl ?_
    refine FL_move (h := ?_)
    refine FL_on rfl rfl ?_
    refine FL_val (Gives.nilCheck rfl) rfl ?_
    refine FL_on rfl rfl ?_
    first | refine FL_val (Gives.field0 rfl) rfl ?_ | refine FL_val (Gives.field rfl) rfl ?_ | refine FL_val (Gives.fieldA rfl) rfl ?_
    refine FL_on rfl rfl ?_
    refine FL_load H (h := ?_)
    refine FL_on rfl rfl ?_
    first | refine FL_val (Gives.notP rfl) rfl ?_ | refine FL_val (Gives.not rfl) rfl ?_
    refine FL_pickT (h := ?_)
    refine FL_nil (Qseq_normal ?_)
    first | refine FW_condP rfl (fun hc12 => ?_) (fun hc12 => ?_) | refine FW_cond rfl (fun hc12 => ?_) (fun hc12 => ?_)
    · skip
      have hC := hc12
      refine FW_region ?_
      refine FL_move (h := ?_)
      refine FL_move (h := ?_)
      have HB : Sep w F [starL (diskParts p d (bk, bn, vo, vk))] w := Sep.bundle (l := diskParts p d (bk, bn, vo, vk)) H
      refine FL_call1 HB At0 (fun F' hp hF' => fall_ok (d := d) (x := (bk, bn, vo, vk)) (keep := keep) (A := A) (c := c) hwf hfit hkl hp fun w' l1 l2 Hw => hr.keepS (HB.kept.trans Hw.kept hF') hA) (h := fun w17 H17 => ?_)
      refine FL_nil (Qfn_normal (hR := ?_))
      unfold DM.crash
      first | exact ⟨rfl, by rw [if_neg (by simpa using hC)]; exact H17.turn⟩ | exact ⟨rfl, by rw [if_pos (by simpa using hC)]; exact Turn.refl h⟩
    · skip
      have hC := hc12
      refine FW_skip (Qfn_normal (hR := ?_))
      unfold DM.crash
      first | exact ⟨rfl, by rw [if_neg (by simpa using hC)]; exact H.turn⟩ | exact ⟨rfl, by rw [if_pos (by simpa using hC)]; exact Turn.refl h⟩
  · skip
    cases hs5 --done
end
end Go.Proofs.Yteflbohpabdjkaa
