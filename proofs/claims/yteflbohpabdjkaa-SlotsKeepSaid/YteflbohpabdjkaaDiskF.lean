/-
  The disk's Write and Read, walked.
-/
import Derived.Test.YteflbohpabdjkaaDiskE
namespace Go.Proofs.Yteflbohpabdjkaa
open Go Go.Mw
set_option maxRecDepth 4000

section
variable {p : Nat} {d : DM} {F : Nat → Prop} {w w₀ : World} {S : Nat → Prop} {rs : List HP}
theorem byte_one (l : List UInt8) : ∀ u ∈ l.map B, u.oneCell' = true := by
  intro u hu
  obtain ⟨b, _, rfl⟩ := List.mem_map.1 hu; rfl
theorem pad_length {b : List UInt8} (h : b.length ≤ 128) : (pad b).length = 128 := by simp [pad]; omega
theorem setAt_wf {f : Int → Option (List UInt8)} {k : Int} {b : List UInt8} (hb : b.length = 128) (hf : ∀ k b, f k = some b → b.length = 128) : ∀ j x, setAt f k b j = some x → x.length = 128 := by
  intro j x h
  unfold setAt at h
  split at h
  · injection h with h; rw [← h]; exact hb
  · exact hf j x h
theorem DM.wf.put (h : d.wf) {at_ : Int} {b : List UInt8} (hb : b.length ≤ 128) : (d.put at_ b).wf :=
  ⟨h.1, h.2.1, h.2.2.1, setAt_wf (pad_length hb) h.2.2.2.1, fun x hx => by
    rcases List.mem_append.1 hx with hx | hx
    · exact h.2.2.2.2 x hx
    · rw [List.mem_singleton.1 hx]; exact pad_length hb⟩
theorem openCells_snoc (l : List (Int × List UInt8)) (x : Int × List UInt8) : openCells (l ++ [x]) = openCells l ++ oneOpen x := by simp [openCells, oneOpen]
theorem copy_pad (at_ : Int) {b : List UInt8} (hb : b.length ≤ 128) : (I at_ :: List.replicate 128 (Value.int .u8 0)).take 1 ++ (b.map B).take (min b.length 128) ++ (I at_ :: List.replicate 128 (Value.int .u8 0)).drop (1 + min b.length 128) = oneOpen (at_, pad b) := by
  rw [Nat.min_eq_left hb, Nat.add_comm 1, List.drop_succ_cons, List.drop_replicate, List.take_of_length_le (l := b.map B) (by simp)]
  unfold oneOpen pad
  rw [List.map_append, List.map_replicate]
  rfl
theorem dmap_setV (f : Int → Option (List UInt8)) (k : Int) (b : List UInt8) : (fun j => if j = k then some (Value.agg (b.map B).toArray) else dmap f j) = dmap (setAt f k b) := dmap_set f k b
theorem write_ok {at_ : Int} {b : List UInt8} {A : Option Addr} {c : Nat} (hfit : d.opn.length < 1000000000000) (hkl : d.keep.length ≤ 1000000000000) (hops : fits (d.ops + 1)) (hr : RowAt w A b.length 1 (b.map B)) (hA : Off A b.length F) (h : (diskH p d).ok F w) :
    Rets Try.prog 24 [.pointer (some ⟨p, 0, none⟩), I at_, .slice A b.length c] w fun v w' => v = I (d.write at_ b).1 ∧ Turn F (diskH p (d.write at_ b).2) w w' := by
  obtain ⟨hwf, bk, bn, vo, vk, H⟩ := Sep.openDisk (Sep.start1 h)
  refine rets3 Try.func24 rfl rfl rfl rfl ?_
  refine FW_seq ?_
  refine FW_region ?_
  refine FL_assign (h := ?_)
  refine FL_nil (Qseq_normal ?_)
  refine FW_seq ?_
  refine FW_seq ?_
  refine FW_region ?_
  refine FL_move (h := ?_)
  refine FL_move (h := ?_)
  refine FL_callS (look_ok at_ h) (h := ?_)
  refine FL_assign (h := ?_)
  refine FL_nil (Qseq_normal ?_)
  refine FW_seq ?_
  refine FW_region ?_
  refine FL_move (h := ?_)
  refine FL_val (Gives.neq rfl rfl) rfl ?_
  refine FL_nil (Qseq_normal ?_)
  first | refine FW_condP rfl (fun hc8 => ?_) (fun hc8 => ?_) | refine FW_cond rfl (fun hc8 => ?_) (fun hc8 => ?_)
  · skip
    have hL : d.look at_ ≠ 0 := hc8
    have hwr : d.write at_ b = (d.look at_, d) := by unfold DM.write; rw [if_pos hL]
    rw [hwr]
    refine FW_seq ?_
    refine FW_region ?_
    refine FL_move (h := ?_)
    refine FL_assign (h := ?_)
    refine FL_nil (Qseq_normal ?_)
    refine FW_ret (Qseq_ret (Qfn_ret (hR := ?_)))
    exact ⟨rfl, Turn.refl h⟩
  · skip
    have hL : ¬ d.look at_ ≠ 0 := hc8
    refine FW_skip (Qseq_normal ?_)
    refine FW_seq ?_
    refine FW_seq ?_
    refine FW_region ?_
    refine FL_move (h := ?_)
    refine FL_val (Gives.lenSlice rfl) rfl ?_
    refine FL_val (Gives.gtr rfl rfl) rfl ?_
    refine FL_nil (Qseq_normal ?_)
    first | refine FW_condP rfl (fun hc17 => ?_) (fun hc17 => ?_) | refine FW_cond rfl (fun hc17 => ?_) (fun hc17 => ?_)
    · skip
      have hwr : d.write at_ b = (5, d) := by unfold DM.write; rw [if_neg hL, if_pos (by omega)]
      rw [hwr]
      refine FW_seq ?_
      refine FW_region ?_
      refine FL_assign (h := ?_)
      refine FL_nil (Qseq_normal ?_)
      refine FW_ret (Qseq_ret (Qfn_ret (hR := ?_)))
      exact ⟨rfl, Turn.refl h⟩
    · skip
      have hb : b.length ≤ 128 := by omega
      have hwr : d.write at_ b = ((if (d.put at_ b).count.1 then 0 else 290), (d.put at_ b).count.2) := by unfold DM.write; rw [if_neg hL, if_neg (by omega)]
      rw [hwr]
      refine FW_skip (Qseq_normal ?_)
      refine FW_seq ?_
      refine FW_region ?_
      refine FL_move (h := ?_)
      refine FL_val (Gives.build (Fills.one rfl rfl rfl (by decide) rfl Fills.nil)) rfl ?_
      refine FL_alloc H (h := ?_)
      intro b24 w25 H25 k24
      refine FL_storeN (us := I at_ :: List.replicate 128 (Value.int .u8 0)) (cs := [Value.int .i64 0] ++ List.replicate 128 (Value.int .u8 0)) H25 (hk := rfl) (hv := fun u hu => by rcases List.mem_cons.1 hu with rfl | h; rfl; rw [List.eq_of_mem_replicate h]; rfl) (ho := by simp) (hs := storeN_all (by simp)) (h := ?_)
      intro w27 H27
      refine FL_nil (Qseq_normal ?_)
      refine FW_seq ?_
      refine FW_region ?_
      first | refine FL_val (Gives.field0 rfl) rfl ?_ | refine FL_val (Gives.field rfl) rfl ?_ | refine FL_val (Gives.fieldA rfl) rfl ?_
      refine FL_val (Gives.sliceArr rfl) rfl ?_
      refine FL_move (h := ?_)
      refine FL_copy (cs' := oneOpen (at_, pad b)) (o := 1) (dl := 128) (m := b.length) (cs := I at_ :: List.replicate 128 (Value.int .u8 0)) H27 (hr.keepS H27.kept hA) (byte_one b) (by simp; omega) (copy_pad at_ hb) (h := fun w32 H32 => ?_)
      have hlen : (oneOpen (at_, pad b)).length = 129 := by simp [oneOpen, pad_length hb]
      refine FL_nil (Qseq_normal ?_)
      refine FW_seq ?_
      refine FW_drawS rfl H32 (h := fun hok33 w35 H35 => ?_)
      refine FGmove hok33 0 (h := ?_)
      refine FGmove hok33 1 (h := ?_)
      refine FGp hok33 2 rfl rfl (fun _ => (Gives.nilCheck rfl)) (by kernel_rfl) ?_
      first | refine FGp hok33 3 rfl rfl (fun _ => (Gives.field0 rfl)) (by kernel_rfl) ?_ | refine FGp hok33 3 rfl rfl (fun _ => (Gives.field rfl)) (by kernel_rfl) ?_ | refine FGp hok33 3 rfl rfl (fun _ => (Gives.fieldA rfl)) (by kernel_rfl) ?_
      refine FGload hok33 4 H35 (h := ?_)
      refine FGloadN hok33 5 (cs := oneOpen (at_, pad b)) (us := oneOpen (at_, pad b)) (o := 0) (k := 129) H35 (hu := by rw [List.drop_zero]; exact List.take_of_length_le (Nat.le_of_eq hlen)) (hk := hlen) (h := ?_)
      refine FGbuildSlice hok33 6 [(4, false), (3, true), (2, true), (1, true), (0, true)] H35 (Elems.many rfl hlen Elems.nil) (h := fun b40 w41 H41 => ⟨Stab_load H41 (h := Stab_pure (Stab_pure (Stab_pure (Stab_pure (Stab_nil))))), ?_⟩)
      rw [List.append_nil] at H41
      refine FGappend hok33 7 [(0, true)] (t := 62) (e := 101) (v := vo) (k := d.opn.length) (xs := openCells d.opn) H41 (H41.blkRow At0 (m := 1) (s := 129) hlen) (oneOpen_one _) (by unfold maxLen; omega) (by omega) (hat := At5) (h := fun v42 w43 H43 => ⟨Stab_pure (Stab_nil), ?_⟩)
      rw [← openCells_snoc, show d.opn.length + 1 = (d.opn ++ [(at_, pad b)]).length from by simp] at H43
      obtain ⟨Av, cv, hv42, _, _, _⟩ := Sep.rowForm H43 At5
      subst hv42
      refine FGp hok33 8 rfl rfl (fun _ => (Gives.nilCheck rfl)) (by kernel_rfl) ?_
      first | refine FGp hok33 9 rfl rfl (fun _ => (Gives.field0 rfl)) (by kernel_rfl) ?_ | refine FGp hok33 9 rfl rfl (fun _ => (Gives.field rfl)) (by kernel_rfl) ?_ | refine FGp hok33 9 rfl rfl (fun _ => (Gives.fieldA rfl)) (by kernel_rfl) ?_
      refine FGstore hok33 10 [] H43 (h := fun w47 H47 => ⟨Stab_nil, ?_⟩)
      refine FG_end hok33 (by kernel_rfl) ?_
      refine Qseq_normal ?_
      refine FW_seq ?_
      refine FW_drawS rfl H47 (h := fun hok48 w50 H50 => ?_)
      refine FGmove hok48 0 (h := ?_)
      refine FGp hok48 1 rfl rfl (fun _ => (Gives.nilCheck rfl)) (by kernel_rfl) ?_
      first | refine FGp hok48 2 rfl rfl (fun _ => (Gives.field0 rfl)) (by kernel_rfl) ?_ | refine FGp hok48 2 rfl rfl (fun _ => (Gives.field rfl)) (by kernel_rfl) ?_ | refine FGp hok48 2 rfl rfl (fun _ => (Gives.fieldA rfl)) (by kernel_rfl) ?_
      refine FGload hok48 3 H50 (h := ?_)
      refine FGmove hok48 4 (h := ?_)
      first | refine FGp hok48 5 rfl rfl (fun _ => (Gives.field0 rfl)) (by kernel_rfl) ?_ | refine FGp hok48 5 rfl rfl (fun _ => (Gives.field rfl)) (by kernel_rfl) ?_ | refine FGp hok48 5 rfl rfl (fun _ => (Gives.fieldA rfl)) (by kernel_rfl) ?_
      refine FGloadN hok48 6 (cs := oneOpen (at_, pad b)) (us := (pad b).map B) (o := 1) (k := 128) H50 (hu := by rw [show (oneOpen (at_, pad b)).drop 1 = (pad b).map B from rfl]; exact List.take_of_length_le (by simp [pad_length hb])) (hk := by simp [pad_length hb]) (h := ?_)
      refine FGmapUpdate hok48 7 [] H50 (h := fun w57 H57 => ⟨Stab_nil, ?_⟩)
      refine FG_end hok48 (by kernel_rfl) ?_
      refine Qseq_normal ?_
      refine FW_seq ?_
      refine FW_seq ?_
      refine FW_region ?_
      refine FL_move (h := ?_)
      rw [dmap_setV] at H57
      have HD := Sep.shutDisk (d := d.put at_ b) (hwf.put hb) H57.drop0.drop0
      refine FL_call1 HD At0 (fun F' hp _ => count_ok (d := d.put at_ b) (by simp [DM.put]; omega) hkl hops hp) (h := fun w60 H60 => ?_)
      first | refine FL_val (Gives.notP rfl) rfl ?_ | refine FL_val (Gives.not rfl) rfl ?_
      refine FL_nil (Qseq_normal ?_)
      first | refine FW_condP rfl (fun hc62 => ?_) (fun hc62 => ?_) | refine FW_cond rfl (fun hc62 => ?_) (fun hc62 => ?_)
      · skip
        have hC := hc62
        refine FW_seq ?_
        refine FW_region ?_
        refine FL_assign (h := ?_)
        refine FL_nil (Qseq_normal ?_)
        refine FW_ret (Qseq_ret (Qfn_ret (hR := ?_)))
        exact ⟨by rw [if_neg (by simpa using hC)]; rfl, H60.turn⟩
      · skip
        have hC := hc62
        refine FW_skip (Qseq_normal ?_)
        refine FW_seq ?_
        refine FW_region ?_
        refine FL_assign (h := ?_)
        refine FL_nil (Qseq_normal ?_)
        refine FW_ret (Qfn_ret (hR := ?_))
        exact ⟨by rw [if_pos (by simpa using hC)]; rfl, H60.turn⟩
theorem read_ok {at_ : Int} (h : (diskH p d).ok F w) :
    Rets Try.prog 37 [.pointer (some ⟨p, 0, none⟩), I at_] w fun v w' => ∃ s, v = .tuple #[s, I (d.read at_).2] ∧ True ∧ Turn noB (rowH 99 1 s ((d.read at_).1.getD []).length (((d.read at_).1.getD []).map B)) w w' := by
  obtain ⟨hwf, bk, bn, vo, vk, hb, es, c, hm, hkeys, hf⟩ := diskH_now h
  have H := Sep.start0 w
  refine rets2 Try.func37 rfl rfl rfl rfl ?_
  refine FW_seq ?_
  refine FW_region ?_
  refine FL_assign (h := ?_)
  refine FL_assign (h := ?_)
  refine FL_nil (Qseq_normal ?_)
  refine FW_seq ?_
  refine FW_seq ?_
  refine FW_region ?_
  refine FL_move (h := ?_)
  refine FL_move (h := ?_)
  refine FL_callS (look_ok at_ h) (h := ?_)
  refine FL_assign (h := ?_)
  refine FL_nil (Qseq_normal ?_)
  refine FW_seq ?_
  refine FW_region ?_
  refine FL_move (h := ?_)
  refine FL_val (Gives.neq rfl rfl) rfl ?_
  refine FL_nil (Qseq_normal ?_)
  first | refine FW_condP rfl (fun hc9 => ?_) (fun hc9 => ?_) | refine FW_cond rfl (fun hc9 => ?_) (fun hc9 => ?_)
  · skip
    have hL : d.look at_ ≠ 0 := hc9
    have hrd : d.read at_ = (none, d.look at_) := by unfold DM.read; rw [if_pos hL]
    rw [hrd]
    refine FW_seq ?_
    refine FW_region ?_
    refine FL_move (h := ?_)
    refine FL_assign (h := ?_)
    refine FL_assign (h := ?_)
    refine FL_nil (Qseq_normal ?_)
    refine FW_ret (Qseq_ret (Qfn_ret (hR := ?_)))
    exact ⟨_, rfl, trivial, (H.nilRow _ _).turn⟩
  · skip
    have hL : ¬ d.look at_ ≠ 0 := hc9
    have hrd : d.read at_ = (some (d.sec at_), 0) := by unfold DM.read; rw [if_neg hL]
    rw [hrd]
    have hlen := DM.sec_length hwf at_
    have hz : (dmap d.now at_).getD (Value.agg (List.replicate 128 (Value.int .u8 0)).toArray) = Value.agg ((d.sec at_).map B).toArray := by
      unfold dmap DM.sec
      cases hq : d.now at_ with
      | none => rw [Option.map_none, Option.getD_none, Option.getD_none, List.map_replicate]; rfl
      | some b => rfl
    refine FW_skip (Qseq_normal ?_)
    refine FW_seq ?_
    refine FW_region ?_
    refine FL_move (h := ?_)
    refine FL_val (Gives.nilCheck rfl) rfl ?_
    first | refine FL_val (Gives.field0 rfl) rfl ?_ | refine FL_val (Gives.field rfl) rfl ?_ | refine FL_val (Gives.fieldA rfl) rfl ?_
    refine FL_loadB hb (h := ?_)
    refine FL_move (h := ?_)
    refine FL_val (gives_lookupB hm hkeys hf rfl rfl) rfl ?_
    rw [hz]
    refine FL_alloc H (h := ?_)
    intro b22 w23 H23 k22
    refine FL_storeN (us := (d.sec at_).map B) (cs := List.replicate 128 (Value.int .u8 0)) H23 (hk := by simp [hlen]) (hv := byte_one _) (ho := by simp [hlen]) (hs := storeN_all (by simp [hlen])) (h := ?_)
    intro w25 H25
    refine FL_nil (Qseq_normal ?_)
    refine FW_seq ?_
    refine FW_region ?_
    refine FL_val (Gives.sliceArr rfl) rfl ?_
    refine FL_assign (h := ?_)
    refine FL_assign (h := ?_)
    refine FL_nil (Qseq_normal ?_)
    refine FW_ret (Qfn_ret (hR := ?_))
    have H2 := Sep.asRow H25 At0 (s := 1) (n := 128) (by simp [hlen]) (by unfold maxLen; decide)
    refine ⟨_, rfl, trivial, ?_⟩
    simp only [Option.getD_some, hlen]
    exact H2.turn
end
end Go.Proofs.Yteflbohpabdjkaa
