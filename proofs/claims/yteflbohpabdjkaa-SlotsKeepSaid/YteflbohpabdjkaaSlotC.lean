/-
  Save, walked.
-/
import Derived.Test.YteflbohpabdjkaaSlotB
namespace Go.Proofs.Yteflbohpabdjkaa
open Go Go.Mw
set_option maxRecDepth 8000

theorem chunk_length (b : List UInt8) (k : Nat) : (chunk b k).length = min (b.length - 128 * k) 128 := by
  unfold chunk
  rw [List.length_take, List.length_drop]
  omega
theorem ones_B (l : List UInt8) : ∀ u ∈ l.map B, u.oneCell' = true := by
  intro u hu
  obtain ⟨k, _, rfl⟩ := List.mem_map.1 hu
  rfl
section
variable {p s : Nat} {d : DM} {m : SM} {F : Nat → Prop} {w w₀ : World} {S : Nat → Prop} {rs : List HP} {put : HP → List HP}
set_option maxHeartbeats 8000000 in
theorem saveS_ok {A : Option Addr} {c : Nat} {b : List UInt8} (hm : m.ok d) (hs : d.small 100000) (hc : b.length ≤ c) (hr : RowAt w A b.length 1 (b.map B)) (hA : Off A b.length F) (h : (star (slotH s p m) (diskH p d)).ok F w) :
    Rets Try.prog 48 [.pointer (some ⟨s, 0, none⟩), .slice A b.length c] w fun v w' => v = I (save m d b).1 ∧ Turn F (star (slotH s p (save m d b).2.1) (diskH p (save m d b).2.2)) w w' := by
  have H := (Sep.start1 h).star0
  have hwf : d.wf := by
    obtain ⟨_, hp, _⟩ := H.focus At1
    exact (diskH_blk hp).1
  have hh := half_bd hwf
  have hn0 := hm.n0
  have hn1 := hm.n
  unfold mostNum at hn1
  have har : 1 ≤ area d (m.n + 1) ∧ area d (m.n + 1) ≤ 32768 := by
    unfold area
    rcases (show (m.n + 1) % 2 = 0 ∨ (m.n + 1) % 2 = 1 by omega) with h | h <;> rw [h] <;> omega
  refine rets2 Try.func48 rfl rfl rfl rfl ?_
  refine FW_seq ?_
  refine FW_region ?_
  refine FL_box H (h := ?_)
  intro b2 w2 H2 _
  refine FL_assign (h := ?_)
  refine FL_nil (Qseq_normal ?_)
  refine FW_seq ?_
  refine FW_block ?_
  refine FW_seq ?_
  refine FW_region ?_
  refine FL_load H2 (h := ?_)
  refine FL_callS (noneS_at H2 At1) (h := ?_)
  refine FL_assign (h := ?_)
  refine FL_nil (Qseq_normal ?_)
  first | refine FW_condP rfl (fun hc7 => ?_) (fun hc7 => ?_) | refine FW_cond rfl (fun hc7 => ?_) (fun hc7 => ?_)
  · skip
    first | exact absurd rfl hc7 | exact (hc7 trivial).elim | exact absurd hc7 (by decide) | exact absurd hc7 (by simp) | omega --done
  · skip
    refine FW_seq ?_
    refine FW_region ?_
    refine FL_load H2 (h := ?_)
    refine FL_val (Gives.nilCheck rfl) rfl ?_
    first | refine FL_val (Gives.field0 rfl) rfl ?_ | refine FL_val (Gives.field rfl) rfl ?_ | refine FL_val (Gives.fieldA rfl) rfl ?_
    refine FL_load H2 (h := ?_)
    refine FL_assign (h := ?_)
    refine FL_nil (Qseq_normal ?_)
    first | refine FW_condP rfl (fun hc14 => ?_) (fun hc14 => ?_) | refine FW_cond rfl (fun hc14 => ?_) (fun hc14 => ?_)
    · skip
      have hbad : m.bad = true := hc14
      have hsv : save m d b = (290, m, d) := by unfold save; rw [if_pos hbad]
      refine FW_seq ?_
      refine FW_region ?_
      refine FL_assign (h := ?_)
      refine FL_nil (Qseq_normal ?_)
      refine FW_ret (Qblk_ret (Qseq_ret (Qfn_ret (hR := ?_))))
      exact ⟨by rw [hsv]; rfl, by rw [hsv]; exact H2.drop0.join0.turn⟩
    · skip
      have hbad : m.bad = false := hc14
      refine FW_seq ?_
      refine FW_region ?_
      refine FL_move (h := ?_)
      refine FL_val (Gives.lenSlice rfl) rfl ?_
      refine FL_load H2 (h := ?_)
      refine FL_callS (room_at H2 At1 At2) (h := ?_)
      refine FL_val (Gives.gtr rfl rfl) rfl ?_
      refine FL_move (h := ?_)
      first | refine FL_splitP (t := 26) rfl (fun hs25 => ?_) (fun hs25 => ?_) | refine FL_split (t := 26) rfl (fun hs25 => ?_) (fun hs25 => ?_)
      · skip
        have hcase : room d < b.length ∨ m.n = mostNum := .inl hs25
        refine FL_off rfl rfl rfl ?_
        refine FL_off rfl rfl rfl ?_
        refine FL_off rfl rfl rfl ?_
        refine FL_off rfl rfl rfl ?_
        refine FL_off rfl rfl rfl ?_
        refine FL_pickT (h := ?_)
        refine FL_assign (h := ?_)
        refine FL_nil (Qseq_normal ?_)
        refine FW_cond_true rfl ?_
        refine FW_seq ?_
        refine FW_region ?_
        refine FL_assign (h := ?_)
        refine FL_nil (Qseq_normal ?_)
        refine FW_ret (Qblk_ret (Qseq_ret (Qfn_ret (hR := ?_))))
        have hsv : save m d b = (5, m, d) := by unfold save; rw [if_neg (by rw [hbad]; simp), if_pos hcase]
        exact ⟨by rw [hsv]; rfl, by rw [hsv]; exact H2.drop0.join0.turn⟩
      · skip
        have hshort := hs25
        refine FL_on rfl rfl ?_
        refine FL_load H2 (h := ?_)
        refine FL_on rfl rfl ?_
        refine FL_val (Gives.nilCheck rfl) rfl ?_
        refine FL_on rfl rfl ?_
        first | refine FL_val (Gives.field0 rfl) rfl ?_ | refine FL_val (Gives.field rfl) rfl ?_ | refine FL_val (Gives.fieldA rfl) rfl ?_
        refine FL_on rfl rfl ?_
        refine FL_load H2 (h := ?_)
        refine FL_on rfl rfl ?_
        refine FL_val (Gives.eql rfl rfl) rfl ?_
        refine FL_pickF (h := ?_)
        refine FL_assign (h := ?_)
        refine FL_nil (Qseq_normal ?_)
        first | refine FW_condP rfl (fun hc39 => ?_) (fun hc39 => ?_) | refine FW_cond rfl (fun hc39 => ?_) (fun hc39 => ?_)
        · skip
          have hcase : room d < b.length ∨ m.n = mostNum := .inr hc39
          refine FW_seq ?_
          refine FW_region ?_
          refine FL_assign (h := ?_)
          refine FL_nil (Qseq_normal ?_)
          refine FW_ret (Qblk_ret (Qseq_ret (Qfn_ret (hR := ?_))))
          have hsv : save m d b = (5, m, d) := by unfold save; rw [if_neg (by rw [hbad]; simp), if_pos hcase]
          exact ⟨by rw [hsv]; rfl, by rw [hsv]; exact H2.drop0.join0.turn⟩
        · skip
          have hncase : ¬ (room d < b.length ∨ m.n = mostNum) := by
            rintro (h | h)
            · exact hshort h
            · exact hc39 h
          have hlen : (b.length : Int) ≤ room d := by omega
          have hnch : (nch b : Int) ≤ 32767 := by
            unfold room at hlen
            unfold nch
            omega
          have hsv : save m d b = if (save1 (m.n + 1) b d).1 ≠ 0 then ((save1 (m.n + 1) b d).1, { m with bad := true }, (save1 (m.n + 1) b d).2) else (0, ⟨m.n + 1, b.length, false⟩, (save1 (m.n + 1) b d).2) := by
            unfold save
            rw [if_neg (by rw [hbad]; simp), if_neg hncase]
          refine FW_skip (Qblk_normal (Qseq_normal ?_))
          refine FW_seq ?_
          refine FW_region ?_
          refine FL_alloc H2 (h := ?_)
          intro be w45 H45 _
          refine FL_store H45 (h := ?_)
          intro w47 H47
          refine FL_nil (Qseq_normal ?_)
          refine FW_seq ?_
          refine FW_region ?_
          refine FL_val (Gives.makeFunc rfl rfl) rfl ?_
          refine FL_assign (h := ?_)
          refine FL_nil (Qseq_normal ?_)
          refine FW_seq ?_
          refine FW_region ?_
          refine FL_load H47 (h := ?_)
          refine FL_val (Gives.nilCheck rfl) rfl ?_
          first | refine FL_val (Gives.field0 rfl) rfl ?_ | refine FL_val (Gives.field rfl) rfl ?_ | refine FL_val (Gives.fieldA rfl) rfl ?_
          refine FL_load H47 (h := ?_)
          refine FL_val (Gives.addI rfl rfl rfl (by omega)) rfl ?_
          refine FL_assign (h := ?_)
          refine FL_nil (Qseq_normal ?_)
          refine FW_seq ?_
          refine FW_region ?_
          refine FL_load H47 (h := ?_)
          refine FL_move (h := ?_)
          refine FL_callS (area_at (n := m.n + 1) (by omega) H47 At2 At3) (h := ?_)
          refine FL_alloc H47 (h := ?_)
          intro b8 w60 H60 _
          refine FL_store H60 (h := ?_)
          intro w62 H62
          refine FL_nil (Qseq_normal ?_)
          refine FW_seq ?_
          refine FW_seq ?_
          refine FW_region ?_
          refine FL_move (h := ?_)
          refine FL_assign (h := ?_)
          refine FL_nil (Qseq_normal ?_)
          refine FW_block ?_
          refine FW_loop' (fun x : Nat × Option Addr × Nat => [(1, .slice A b.length c), (2, .pointer (some ⟨b2, 0, none⟩)), (5, .pointer (some ⟨be, 0, none⟩)), (6, .func (.func 74) ([] : List Value).toArray [.pointer (some ⟨be, 0, none⟩)].toArray), (7, I (m.n + 1)), (8, .pointer (some ⟨b8, 0, none⟩)), (9, .slice x.2.1 (b.length - 128 * x.1) x.2.2)])
            (fun x w' => x.1 ≤ nch b ∧ b.length - 128 * x.1 ≤ x.2.2 ∧ RowAt w x.2.1 (b.length - 128 * x.1) 1 ((b.drop (128 * x.1)).map B) ∧ Off x.2.1 (b.length - 128 * x.1) F ∧
              Sep w F [blk b8 [I (area d (m.n + 1) + x.1)] 3, blk be [I (wr (area d (m.n + 1)) b x.1 (0, d)).1] 33, blk b2 [.pointer (some ⟨s, 0, none⟩)] 70, slotH s p m, diskH p (wr (area d (m.n + 1)) b x.1 (0, d)).2] w') (fun x _ => nch b - x.1) (0, A, c)
            ⟨rfl, rfl, rfl, rfl, rfl, rfl, rfl, trivial⟩ ⟨Nat.zero_le _, hc, hr, hA, by rw [show area d (m.n + 1) + ((0 : Nat) : Int) = area d (m.n + 1) by omega]; exact H62⟩ (fun x τ w66 hI => ?_)
          obtain ⟨k, Ak, ck⟩ := x
          obtain ⟨hk, hck, hrk, hAk, H66⟩ := hI
          dsimp only at hk hck hrk hAk H66
          try simp only [upds, like, upd_ds, und_ds]
          refine FW_seq ?_
          refine FW_seq ?_
          refine FW_region ?_
          refine FL_move (h := ?_)
          refine FL_val (Gives.lenSlice rfl) rfl ?_
          refine FL_val (Gives.gtr rfl rfl) rfl ?_
          refine FL_nil (Qseq_normal ?_)
          first | refine FW_condP rfl (fun hc70 => ?_) (fun hc70 => ?_) | refine FW_cond rfl (fun hc70 => ?_) (fun hc70 => ?_)
          · skip
            have hpos : 0 < b.length - 128 * k := by omega
            have hk1 : k < nch b := by unfold nch; omega
            have hcl := chunk_length b k
            refine FW_skip (Qseq_normal ?_)
            refine FW_seq ?_
            refine FW_block ?_
            refine FW_seq ?_
            refine FW_region ?_
            refine FL_move (h := ?_)
            refine FL_move (h := ?_)
            refine FL_val (Gives.lenSlice rfl) rfl ?_
            refine FL_val (gives_minN (k := 128) (m := (chunk b k).length) hcl.symm rfl rfl rfl) rfl ?_
            refine FL_val (Gives.sliceTo rfl rfl (by omega)) rfl ?_
            refine FL_alloc H66 (h := ?_)
            intro b10 w78 H78 _
            refine FL_store H78 (h := ?_)
            intro w80 H80
            refine FL_nil (Qseq_normal ?_)
            refine FW_seq ?_
            refine FW_region ?_
            refine FL_move (h := ?_)
            refine FL_load H80 (h := ?_)
            refine FL_val (Gives.lenSlice rfl) rfl ?_
            refine FL_val (Gives.sliceFrom rfl rfl (by omega)) rfl ?_
            refine FL_assign (h := ?_)
            refine FL_nil (Qseq_normal ?_)
            refine FW_region ?_
            refine FL_move (h := ?_)
            refine FL_val (Gives.makeFunc rfl rfl) rfl ?_
            refine FL_callV (fs := []) (cs := [.pointer (some ⟨be, 0, none⟩)]) (vals := [.func (.func 76) ([] : List Value).toArray [.pointer (some ⟨b2, 0, none⟩), .pointer (some ⟨b8, 0, none⟩), .pointer (some ⟨b10, 0, none⟩)].toArray]) rfl
              (do_ok (g := 76) (fs := []) (x := wr (area d (m.n + 1)) b k (0, d)) (f := fun d' => d'.write (area d (m.n + 1) + k) (chunk b k)) H80.front4.front4.front3.front3.front5.front5 (fun he => writeV (l := chunk b k) he ((small_wr (x := (0, d)) hs k).mono (by omega)) (by
                have h1 := hrk.take (k := (chunk b k).length) (by omega)
                rw [Nat.mul_one, ← List.map_take] at h1
                have e : (b.drop (128 * k)).take (chunk b k).length = chunk b k := by
                  rw [hcl]
                  unfold chunk
                  rcases Nat.le_total (b.length - 128 * k) 128 with h | h
                  · rw [Nat.min_eq_left h, List.take_of_length_le (by simp), List.take_of_length_le (by simp; omega)]
                  · rw [Nat.min_eq_right h]
                rw [e] at h1
                exact h1) (off_le hAk (by omega)) H80.front4.front4.front3.front3.front5.front5)) rfl rfl (fun v w89 hv => ?_)
            obtain ⟨rfl, H89⟩ := hv
            refine FL_nil (Qblk_normal (Qseq_normal ?_))
            refine FW_region ?_
            refine FL_load H89 (h := ?_)
            refine FL_val (Gives.addI rfl rfl (show _ = area d (m.n + 1) + ((k + 1 : Nat) : Int) by omega) (by omega)) rfl ?_
            refine FL_store H89 (h := ?_)
            intro w93 H93
            refine FL_nil ?_
            have h2 := H93.front2
            have h3 := h2.drop0
            have hnl : b.length - 128 * k - (chunk b k).length = b.length - 128 * (k + 1) := by omega
            have hdr : (b.drop (128 * k)).drop (chunk b k).length = b.drop (128 * (k + 1)) := by
              rw [List.drop_drop, hcl]
              rcases Nat.le_total (b.length - 128 * k) 128 with h | h
              · rw [Nat.min_eq_left h, List.drop_of_length_le (by omega), List.drop_of_length_le (by omega)]
              · rw [Nat.min_eq_right h]; rfl
            refine Qround_normal (k + 1, if ck = (chunk b k).length then Ak else Ak.map (·.add ((chunk b k).length * 1)), ck - (chunk b k).length) ⟨rfl, rfl, rfl, rfl, rfl, rfl, by rw [← hnl]; rfl, trivial⟩ ⟨by dsimp only; omega, by dsimp only; omega, ?_, ?_, h3.front4.front4.front2.front4⟩ (by dsimp only; omega)
            · have h1 := hrk.cut (k := (chunk b k).length) (cap := ck) (by omega) (by omega)
              rw [hnl, Nat.mul_one, ← List.map_drop, hdr] at h1
              dsimp only
              rw [Nat.mul_one]
              exact h1
            · have h1 := off_cut (k := (chunk b k).length) (cap := ck) hAk ((chunk b k).length * 1)
              rw [hnl] at h1
              exact h1
          · skip
            have hkn : k = nch b := by unfold nch at hk ⊢; omega
            subst hkn
            have hsm0 := small_wr (a := area d (m.n + 1)) (b := b) (x := (0, d)) hs (nch b)
            have hsm1 := small_go hsm0 (fun d hd => small_flush hd)
            have hsm2 := small_go hsm1 (fun d hd => small_write hd 0 (rootB (m.n + 1) b.length))
            refine FW_exit (Qseq_exit (Qround_exit (Qblk_exit (Qseq_normal ?_))))
            refine FW_seq ?_
            refine FW_region ?_
            refine FL_move (h := ?_)
            refine FL_load H66 (h := ?_)
            refine FL_val (Gives.nilCheck rfl) rfl ?_
            first | refine FL_val (Gives.field0 rfl) rfl ?_ | refine FL_val (Gives.field rfl) rfl ?_ | refine FL_val (Gives.fieldA rfl) rfl ?_
            refine FL_load H66 (h := ?_)
            refine FL_val (Gives.makeFunc rfl rfl) rfl ?_
            refine FL_callV (fs := []) (cs := [.pointer (some ⟨be, 0, none⟩)]) (vals := [.func (.func 28) [.pointer (some ⟨p, 0, none⟩)].toArray ([] : List Value).toArray]) rfl
              (do_ok (g := 28) (fs := [.pointer (some ⟨p, 0, none⟩)]) (cs := []) (x := wr (area d (m.n + 1)) b (nch b) (0, d)) (f := DM.flush) H66.front4.front2 (fun he => flushV he (hsm0.mono (by omega)) H66.front4.front2)) rfl rfl (fun v w103 hv => ?_)
            obtain ⟨rfl, H103⟩ := hv
            refine FL_nil (Qseq_normal ?_)
            refine FW_seq ?_
            refine FW_region ?_
            refine FL_move (h := ?_)
            refine FL_move (h := ?_)
            refine FL_val (Gives.lenSlice rfl) rfl ?_
            refine FL_callQ H103 (of_ok (m.n + 1) b.length) (h := fun w108 H108 _ => ?_)
            refine FL_alloc H108 (h := ?_)
            intro b11 w110 H110 _
            refine FL_storeN (us := (rootB (m.n + 1) b.length).map B) (cs := List.replicate 128 (Value.int .u8 0)) H110 (hk := by simp [rootB_length]) (hv := ones_B _) (ho := by simp [rootB_length]) (hs := storeN_all (by simp [rootB_length])) (h := ?_)
            intro w112 H112
            refine FL_nil (Qseq_normal ?_)
            refine FW_seq ?_
            refine FW_region ?_
            refine FL_move (h := ?_)
            refine FL_val (Gives.makeFunc rfl rfl) rfl ?_
            refine FL_callV (fs := []) (cs := [.pointer (some ⟨be, 0, none⟩)]) (vals := [.func (.func 78) ([] : List Value).toArray [.pointer (some ⟨b2, 0, none⟩), .pointer (some ⟨b11, 0, none⟩)].toArray]) rfl
              (do_ok (g := 78) (fs := []) (x := go (wr (area d (m.n + 1)) b (nch b) (0, d)) DM.flush) (f := fun d' => d'.write 0 (rootB (m.n + 1) b.length)) H112.front3.front5.front5.front3.front5.front5 (fun he => rootV he (rootB_length _ _) (hsm1.mono (by omega)) H112.front3.front5.front5.front3.front5.front5)) rfl rfl (fun v w116 hv => ?_)
            obtain ⟨rfl, H116⟩ := hv
            refine FL_nil (Qseq_normal ?_)
            refine FW_seq ?_
            refine FW_region ?_
            refine FL_move (h := ?_)
            refine FL_load H116 (h := ?_)
            refine FL_val (Gives.nilCheck rfl) rfl ?_
            first | refine FL_val (Gives.field0 rfl) rfl ?_ | refine FL_val (Gives.field rfl) rfl ?_ | refine FL_val (Gives.fieldA rfl) rfl ?_
            refine FL_load H116 (h := ?_)
            refine FL_val (Gives.makeFunc rfl rfl) rfl ?_
            refine FL_callV (fs := []) (cs := [.pointer (some ⟨be, 0, none⟩)]) (vals := [.func (.func 28) [.pointer (some ⟨p, 0, none⟩)].toArray ([] : List Value).toArray]) rfl
              (do_ok (g := 28) (fs := [.pointer (some ⟨p, 0, none⟩)]) (cs := []) (x := go (go (wr (area d (m.n + 1)) b (nch b) (0, d)) DM.flush) fun d' => d'.write 0 (rootB (m.n + 1) b.length)) (f := DM.flush) H116 (fun he => flushV he (hsm2.mono (by omega)) H116)) rfl rfl (fun v w124 hv => ?_)
            obtain ⟨rfl, H124⟩ := hv
            refine FL_nil (Qseq_normal ?_)
            refine FW_seq ?_
            refine FW_seq ?_
            refine FW_region ?_
            refine FL_load H124 (h := ?_)
            refine FL_val (Gives.neq rfl rfl) rfl ?_
            refine FL_nil (Qseq_normal ?_)
            first | refine FW_condP rfl (fun hc127 => ?_) (fun hc127 => ?_) | refine FW_cond rfl (fun hc127 => ?_) (fun hc127 => ?_)
            · skip
              have hne : (save1 (m.n + 1) b d).1 ≠ 0 := hc127
              rw [if_pos hne] at hsv
              refine FW_seq ?_
              refine FW_region ?_
              refine FL_load H124 (h := ?_)
              refine FL_val (Gives.nilCheck rfl) rfl ?_
              first | refine FL_val (Gives.field0 rfl) rfl ?_ | refine FL_val (Gives.field rfl) rfl ?_ | refine FL_val (Gives.fieldA rfl) rfl ?_
              refine FL_store H124 (b := s) (cs := slotCells p m) (cs' := slotCells p { m with bad := true }) (hat := At4) (hs := rfl) (h := ?_)
              intro w133 H133
              refine FL_nil (Qseq_normal ?_)
              refine FW_seq ?_
              refine FW_region ?_
              refine FL_load H133 (h := ?_)
              refine FL_assign (h := ?_)
              refine FL_nil (Qseq_normal ?_)
              refine FW_ret (Qseq_ret (Qfn_ret (hR := ?_)))
              exact ⟨by rw [hsv]; rfl, by rw [hsv]; exact (Sep.first (H133.front1.front4).join0).turn⟩
            · skip
              have heq : ¬ (save1 (m.n + 1) b d).1 ≠ 0 := hc127
              rw [if_neg heq] at hsv
              refine FW_skip (Qseq_normal ?_)
              refine FW_seq ?_
              refine FW_drawS rfl H124 (h := fun hok138 w140 H140 => ?_)
              refine FGload hok138 0 H140 (h := ?_)
              refine FGload hok138 1 H140 (h := ?_)
              refine FGmove hok138 2 (h := ?_)
              refine FGmove hok138 3 (h := ?_)
              refine FGp hok138 4 rfl rfl (fun _ => (Gives.lenSlice rfl)) (by kernel_rfl) ?_
              refine FGp hok138 5 rfl rfl (fun _ => (Gives.nilCheck rfl)) (by kernel_rfl) ?_
              first | refine FGp hok138 6 rfl rfl (fun _ => (Gives.field0 rfl)) (by kernel_rfl) ?_ | refine FGp hok138 6 rfl rfl (fun _ => (Gives.field rfl)) (by kernel_rfl) ?_ | refine FGp hok138 6 rfl rfl (fun _ => (Gives.fieldA rfl)) (by kernel_rfl) ?_
              refine FGstore hok138 7 [(4, true), (3, true), (1, false)] (b := s) (cs := slotCells p m) (cs' := slotCells p { m with n := m.n + 1 }) H140 (hat := At4) (hs := rfl) (h := fun w147 H147 => ⟨Stab_pure (Stab_pure (Stab_load H147 (h := Stab_nil))), ?_⟩)
              refine FGp hok138 8 rfl rfl (fun _ => (Gives.nilCheck rfl)) (by kernel_rfl) ?_
              first | refine FGp hok138 9 rfl rfl (fun _ => (Gives.field0 rfl)) (by kernel_rfl) ?_ | refine FGp hok138 9 rfl rfl (fun _ => (Gives.field rfl)) (by kernel_rfl) ?_ | refine FGp hok138 9 rfl rfl (fun _ => (Gives.fieldA rfl)) (by kernel_rfl) ?_
              refine FGstore hok138 10 [] (b := s) (cs := slotCells p { m with n := m.n + 1 }) (cs' := slotCells p ⟨m.n + 1, b.length, m.bad⟩) H147 (hat := At4) (hs := rfl) (h := fun w151 H151 => ⟨Stab_nil, ?_⟩)
              refine FG_end hok138 (by kernel_rfl) ?_
              refine Qseq_normal ?_
              refine FW_seq ?_
              refine FW_region ?_
              refine FL_assign (h := ?_)
              refine FL_nil (Qseq_normal ?_)
              refine FW_ret (Qfn_ret (hR := ?_))
              rw [hbad] at H151
              exact ⟨by rw [hsv]; rfl, by rw [hsv]; exact (Sep.first (H151.front1.front4).join0).turn⟩
end
end Go.Proofs.Yteflbohpabdjkaa
