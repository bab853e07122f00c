/-
  SlotsCrash, walked.
-/
import Derived.Test.YteflbohpabdjkaaSlotP
namespace Go.Proofs.Yteflbohpabdjkaa
open Go Go.Mw
set_option maxRecDepth 8000

/-- What may have become of a disk behind a Save. -/
structure Came (e : DM) (y : Int) (c b : List UInt8) (n : Int) (bb : List UInt8) (nn : Int) : Prop where
  set : Set13 e bb nn
  small : e.small 1000
  is : (y = 0 ∧ bb = b ∧ nn = n + 1) ∨ (y = 290 ∧ ((bb = c ∧ nn = n) ∨ (bb = b ∧ nn = n + 1)))
theorem came_of {d : DM} {c b : List UInt8} {n t : Int} {kp : List Int} {y : Int × SM × DM} (hS : SS 100 d c n) (hb : (b.length : Int) ≤ 768) (hn : n ≤ 1000) (ht : 1 ≤ t ∧ t ≤ 1000) (hkp : kp.length ≤ 100) (hy : save ⟨n, c.length, false⟩ (d.failAt t kp) b = y) :
    ∃ bb nn, Came y.2.2 y.1 c b n bb nn := by
  obtain ⟨h1, h2⟩ := run_cases hS hb hn ht (by decide) hkp hy
  rcases h1 with ⟨_, h3, _, h4, _⟩ | ⟨_, h3, _, _, h4 | ⟨_, h4⟩⟩
  · exact ⟨b, n + 1, h4, h2.mono (by decide), .inl ⟨h3, rfl, rfl⟩⟩
  · exact ⟨c, n, h4, h2.mono (by decide), .inr ⟨h3, .inl ⟨rfl, rfl⟩⟩⟩
  · exact ⟨b, n + 1, h4, h2.mono (by decide), .inr ⟨h3, .inr ⟨rfl, rfl⟩⟩⟩
theorem Came.crash {e : DM} {y : Int} {c b : List UInt8} {n : Int} {bb : List UInt8} {nn : Int} (h : Came e y c b n bb nn) (kp : List Int) : Came (e.crash kp) y c b n bb nn := ⟨h.set.crash kp, small_crash h.small kp, h.is⟩
theorem min30 (n : Nat) : min (n : Int) 30 = ((min n 30 : Nat) : Int) := by omega
section
variable {w : World}
set_option maxHeartbeats 16000000 in
theorem slotsCrash_ok {A K : Option Addr} {ca ck : Nat} {l : List PutS} {keep : List Int} {X : PutS} {at_ more : Int} (hl : ∀ x ∈ l, x.fit) (hr : RowAt w A l.length 2 (putsCells l)) (hX : X.fit) (hat : fits at_) (hk : RowAt w K keep.length 1 (keep.map I)) (hck : keep.length ≤ ck) :
    Rets Try.prog 12 [.slice A l.length ca, .agg #[I X.from_, I X.many, I at_, I more], .slice K keep.length ck] w fun v w' => v = .bool true ∧ Kept noB w w' := by
  have H := Sep.start0 w
  refine rets3 Try.func12 rfl rfl rfl rfl ?_
  obtain ⟨kp, hkp⟩ : ∃ kp, kp = keep.take (min keep.length 30) := ⟨_, rfl⟩
  have hkl : min keep.length 30 = kp.length := by rw [hkp, List.length_take]; omega
  have hkr : RowAt w K kp.length 1 (kp.map I) := by
    have h1 := hk.take (k := kp.length) (by omega)
    rwa [Nat.mul_one, ← List.map_take, ← hkl, ← hkp, hkl] at h1
  obtain ⟨t, ht⟩ : ∃ t, 1 + at_ % 12 = t := ⟨_, rfl⟩
  have htb : 1 ≤ t ∧ t ≤ 12 := by omega
  refine FW_seq ?_
  refine FW_region ?_
  refine FL_box H (h := ?_)
  intro b4 w2 H2 _
  refine FL_assign (h := ?_)
  refine FL_nil (Qseq_normal ?_)
  refine FW_seq ?_
  refine FW_seq ?_
  refine FW_region ?_
  refine FL_callQ H2 worksS_ok (h := fun w5 H5 _ => ?_)
  first | refine FL_val (Gives.notP rfl) rfl ?_ | refine FL_val (Gives.not rfl) rfl ?_
  refine FL_nil (Qseq_normal ?_)
  first | refine FW_condP rfl (fun hc7 => ?_) (fun hc7 => ?_) | refine FW_cond rfl (fun hc7 => ?_) (fun hc7 => ?_)
  · skip
    first | exact absurd rfl hc7 | exact (hc7 trivial).elim | exact absurd hc7 (by decide) | exact absurd hc7 (by simp) | omega --done
  · skip
    refine FW_skip (Qseq_normal ?_)
    refine FW_seq ?_
    refine FW_region ?_
    refine FL_move (h := ?_)
    refine FL_callN H5 (saved_ok hl (hr.keepS H5.kept fun _ _ _ => id)) rfl rfl (fun x w11 hx H0 _ => ?_)
    obtain ⟨p, s, v, d, c, n⟩ := x
    obtain ⟨⟨hS, hcl, hn8⟩, _⟩ := hx
    dsimp only at hS hcl hn8
    have H11 : Sep w noB (rowH 5 1 v c.length (c.map B) :: star (slotH s p ⟨n, c.length, false⟩) (diskH p d) :: [blk b4 [I X.from_, I X.many, I at_, I more] 78]) w11 := Sep.star0 H0
    obtain ⟨Ac, cc, hvc, hcc, _⟩ := Sep.rowForm H11 At0
    subst hvc
    refine FL_move (h := ?_)
    refine FL_val (Gives.extract rfl rfl) rfl ?_
    refine FL_val (Gives.extract rfl rfl) rfl ?_
    refine FL_val (Gives.extract rfl rfl) rfl ?_
    refine FL_val (Gives.extract rfl rfl) rfl ?_
    refine FL_assign (h := ?_)
    refine FL_assign (h := ?_)
    refine FL_assign (h := ?_)
    refine FL_assign (h := ?_)
    refine FL_nil (Qseq_normal ?_)
    refine FW_seq ?_
    refine FW_seq ?_
    refine FW_region ?_
    refine FL_move (h := ?_)
    refine FL_val (Gives.eqlNil rfl rfl) rfl ?_
    refine FL_nil (Qseq_normal ?_)
    first | refine FW_condP rfl (fun hc23 => ?_) (fun hc23 => ?_) | refine FW_cond rfl (fun hc23 => ?_) (fun hc23 => ?_)
    · skip
      first | exact absurd rfl hc23 | exact (hc23 trivial).elim | exact absurd hc23 (by decide) | exact absurd hc23 (by simp) | omega --done
    · skip
      refine FW_skip (Qseq_normal ?_)
      refine FW_seq ?_
      refine FW_region ?_
      first | refine FL_val (Gives.field0 rfl) rfl ?_ | refine FL_val (Gives.field rfl) rfl ?_ | refine FL_val (Gives.fieldA rfl) rfl ?_
      refine FL_loadN H11 (us := [I X.from_, I X.many]) (hat := At2) (hu := rfl) (hk := rfl) (h := ?_)
      refine FL_callN H11 (putBytes_ok X hX (most := 768) (by decide)) rfl rfl (fun y w28 _ H28 _ => ?_)
      obtain ⟨Ab, cb, hvb, hcb, _⟩ := Sep.rowForm H28 At0
      subst hvb
      obtain ⟨b, hb⟩ : ∃ b, b = putS X ((768 : Nat) : Int) := ⟨_, rfl⟩
      have hbl : (b.length : Int) ≤ 768 := by rw [hb]; exact putS_length X (most := 768)
      rw [← hb] at H28 hcb ⊢
      refine FL_assign (h := ?_)
      refine FL_nil (Qseq_normal ?_)
      refine FW_seq ?_
      refine FW_drawS rfl H28 (h := fun hok30 w32 H32 => ?_)
      refine FGmove hok30 0 (h := ?_)
      first | refine FGp hok30 1 rfl rfl (fun _ => (Gives.field0 rfl)) (by kernel_rfl) ?_ | refine FGp hok30 1 rfl rfl (fun _ => (Gives.field rfl)) (by kernel_rfl) ?_ | refine FGp hok30 1 rfl rfl (fun _ => (Gives.fieldA rfl)) (by kernel_rfl) ?_
      refine FGload hok30 2 H32 (h := ?_)
      refine FGmove hok30 5 (h := ?_)
      refine FGmove hok30 6 (h := ?_)
      refine FGp hok30 7 rfl rfl (fun _ => (Gives.lenSlice rfl)) (by kernel_rfl) ?_
      refine FGp hok30 8 rfl rfl (fun _ => (gives_minN (k := 30) hkl rfl rfl rfl)) (by kernel_rfl) ?_
      refine FGp hok30 9 rfl rfl (fun _ => (Gives.sliceTo rfl rfl (by omega))) (by kernel_rfl) ?_
      refine FGcallS hok30 3 [(9, true), (8, true), (7, true), (6, true), (5, true), (0, true)] H32 (bring_ok at_ 12 hat (by decide)) (h := fun w39 H39 => ⟨Stab_pure (Stab_pure (Stab_pure (Stab_pure (Stab_pure (Stab_pure (Stab_nil)))))), ?_⟩)
      refine FGp hok30 4 rfl rfl (fun _ => (Gives.addI rfl rfl ht (by omega))) (by kernel_rfl) ?_
      have H5 := H39.front2.star0
      refine FGcall1 hok30 10 [] H5 At1 (fun F' hp hF' => fail_ok (keep := kp) (A := K) (c := ck) (by have := hS.small.2.2; omega) (by omega) (hkr.keepS H5.kept fun _ _ _ => id) (Off.of (F := F') (S := noB) (fun _ _ _ => id) hkr (fun b hb => hF' b hb) (by decide)) hp) (h := fun w42 H42 => ⟨Stab_nil, ?_⟩)
      refine FG_end hok30 (by kernel_rfl) ?_
      refine Qseq_normal ?_
      refine FW_seq ?_
      refine FW_region ?_
      refine FL_move (h := ?_)
      refine FL_move (h := ?_)
      obtain ⟨y, hy⟩ : ∃ y, save ⟨n, c.length, false⟩ (d.failAt t kp) b = y := ⟨_, rfl⟩
      obtain ⟨bb, nn, hcame⟩ := came_of hS hbl (by omega) ⟨htb.1, by omega⟩ (by omega) hy
      refine FL_call1R (H42.join0.front1) At0 (fun F' hp hrr hoff => saveS_ok (b := b) (hS.set.failAt t kp).ok (by
        have hs := hS.small
        have hf : (d.failAt t kp).small 100000 := by
          unfold DM.failAt
          split
          · exact hs.mono (by decide)
          · split
            · exact ⟨by have := hs.1; show d.opn.length ≤ _; omega, by show kp.length ≤ _; omega, hs.2.2.1, by have := hs.2.2.2; show d.ops ≤ _; omega⟩
            · exact ⟨by have := hs.1; show d.opn.length ≤ _; omega, Nat.zero_le _, hs.2.2.1, by have := hs.2.2.2; show d.ops ≤ _; omega⟩
        exact hf) hcb hrr hoff hp) (h := fun w46 H0 => ?_)
      rw [hy] at H0 ⊢
      have H46 := H0.front1.star0
      refine FL_assign (h := ?_)
      refine FL_nil (Qseq_normal ?_)
      refine FW_cut (fun x : DM × List UInt8 × Int => [(7, .pointer (some ⟨p, 0, none⟩)), (9, .slice Ac c.length cc), (10, I n), (11, .slice Ab b.length cb), (12, I y.1)]) (fun x w' => Came x.1 y.1 c b n x.2.1 x.2.2 ∧ Sep w noB [slotH s p y.2.1, diskH p x.1, rowH 5 1 (.slice Ab b.length cb) b.length (b.map B), rowH 5 1 (.slice Ac c.length cc) c.length (c.map B), blk b4 [I X.from_, I X.many, I at_, I more] 78] w') ?_ ?_
      · skip
        refine FW_seq ?_
        refine FW_region ?_
        refine FL_move (h := ?_)
        refine FL_val (Gives.eql rfl rfl) rfl ?_
        refine FL_move (h := ?_)
        first | refine FL_splitP (t := 44) rfl (fun hs52 => ?_) (fun hs52 => ?_) | refine FL_split (t := 44) rfl (fun hs52 => ?_) (fun hs52 => ?_)
        · skip
          refine FL_on rfl rfl ?_
          first | refine FL_val (Gives.field0 rfl) rfl ?_ | refine FL_val (Gives.field rfl) rfl ?_ | refine FL_val (Gives.fieldA rfl) rfl ?_
          refine FL_on rfl rfl ?_
          refine FL_load H46 (hat := At4) (h := ?_)
          refine FL_on rfl rfl ?_
          refine FL_val (Gives.rem rfl rfl (by omega)) rfl ?_
          refine FL_on rfl rfl ?_
          refine FL_val (Gives.eql rfl rfl) rfl ?_
          refine FL_pickT (h := ?_)
          refine FL_nil (Qseq_normal ?_)
          first | refine FW_condP rfl (fun hc58 => ?_) (fun hc58 => ?_) | refine FW_cond rfl (fun hc58 => ?_) (fun hc58 => ?_)
          · skip
            refine FW_region ?_
            refine FL_move (h := ?_)
            refine FL_move (h := ?_)
            refine FL_move (h := ?_)
            refine FL_val (Gives.lenSlice rfl) rfl ?_
            refine FL_val (gives_minN (k := 30) hkl rfl rfl rfl) rfl ?_
            refine FL_val (Gives.sliceTo rfl rfl (by omega)) rfl ?_
            refine FL_call1 H46 At1 (fun F' hp hF' => crash_at (A := K) (c := ck) (keep := kp) (hcame.small.mono (by decide)) H46 (by omega) hkr (fun _ _ _ => id) hp hF') (h := fun w66 H66 => ?_)
            refine FL_nil ?_
            exact Qcut_normal (y.2.2.crash kp, bb, nn) ⟨rfl, rfl, rfl, rfl, rfl, trivial⟩ ⟨hcame.crash kp, H66⟩
          · skip
            refine FW_skip ?_
            exact Qcut_normal (y.2.2, bb, nn) ⟨rfl, rfl, rfl, rfl, rfl, trivial⟩ ⟨hcame, H46⟩
        · skip
          refine FL_off rfl rfl rfl ?_
          refine FL_off rfl rfl rfl ?_
          refine FL_off rfl rfl rfl ?_
          refine FL_off rfl rfl rfl ?_
          refine FL_pickF (h := ?_)
          refine FL_nil (Qseq_normal ?_)
          refine FW_cond_false rfl ?_
          refine FW_skip ?_
          exact Qcut_normal (y.2.2, bb, nn) ⟨rfl, rfl, rfl, rfl, rfl, trivial⟩ ⟨hcame, H46⟩
      · skip
        intro ⟨e, bb2, nn2⟩ τ w72 hI
        obtain ⟨hcm, H72⟩ := hI
        dsimp only at hcm H72
        have hse := (hcm.set.failAt 0 []).boot
        have hopen := hse.open rfl
        simp only [upds, like, upd_ds, und_ds]
        refine FW_seq ?_
        refine FW_region ?_
        refine FL_move (h := ?_)
        refine FL_call1 H72 At1 (fun F' hp hF' => fail_ok (keep := []) (A := none) (c := 0) (by have := hcm.small.2.2; omega) (by decide) (RowAt.nil _ _ _) (fun h => absurd h (Nat.lt_irrefl 0)) hp) (h := fun w75 H75 => ?_)
        refine FL_nil (Qseq_normal ?_)
        refine FW_seq ?_
        refine FW_region ?_
        refine FL_move (h := ?_)
        refine FL_callT H75 At1 (fun F' hp _ => opened_ok (by rw [hopen]) hp) rfl rfl (fun s2 w78 _ H78 => ?_)
        rw [hopen] at H78
        dsimp only at H78
        refine FL_assign (h := ?_)
        refine FL_nil (Qseq_normal ?_)
        refine FW_seq ?_
        refine FW_seq ?_
        refine FW_region ?_
        refine FL_move (h := ?_)
        refine FL_val (Gives.eql rfl rfl) rfl ?_
        refine FL_nil (Qseq_normal ?_)
        first | refine FW_condP rfl (fun hc82 => ?_) (fun hc82 => ?_) | refine FW_cond rfl (fun hc82 => ?_) (fun hc82 => ?_)
        · skip
          have h0 : y.1 = 0 := hc82
          obtain ⟨rfl, rfl⟩ : bb2 = b ∧ nn2 = n + 1 := by
            rcases hcm.is with ⟨_, h1, h2⟩ | ⟨h1, _⟩
            · exact ⟨h1, h2⟩
            · omega
          refine FW_seq ?_
          refine FW_region ?_
          refine FL_move (h := ?_)
          refine FL_move (h := ?_)
          refine FL_move (h := ?_)
          first | refine FL_val (Gives.addI rfl rfl rfl (by omega)) rfl ?_ | refine FL_val (Gives.add rfl rfl) rfl ?_
          refine FL_call1R H78.front2 At1 (fun F' hp hrr hoff => keeps_ok' (n := (n : Int) + 1) hse.ok hrr hoff hp) (h := fun w89 H89 => ?_)
          rw [(hse.keeps rfl).1]
          refine FL_assign (h := ?_)
          refine FL_nil (Qseq_normal ?_)
          refine FW_ret (Qseq_ret (Qfn_ret (hR := ?_)))
          exact ⟨rfl, H89.kept⟩
        · skip
          have h0 : ¬ y.1 = 0 := hc82
          have h290 : y.1 = 290 ∧ ((bb2 = c ∧ nn2 = n) ∨ (bb2 = b ∧ nn2 = n + 1)) := by
            rcases hcm.is with ⟨h1, _⟩ | h1
            · exact absurd h1 h0
            · exact h1
          refine FW_skip (Qseq_normal ?_)
          refine FW_seq ?_
          refine FW_region ?_
          refine FL_move (h := ?_)
          refine FL_val (Gives.eql rfl rfl) rfl ?_
          refine FL_move (h := ?_)
          first | refine FL_splitP (t := 70) rfl (fun hs96 => ?_) (fun hs96 => ?_) | refine FL_split (t := 70) rfl (fun hs96 => ?_) (fun hs96 => ?_)
          · skip
            refine FL_on rfl rfl ?_
            refine FL_move (h := ?_)
            refine FL_on rfl rfl ?_
            refine FL_move (h := ?_)
            refine FL_on rfl rfl ?_
            refine FL_move (h := ?_)
            refine FL_on rfl rfl ?_
            refine FL_call1R H78.front3 At1 (fun F' hp hrr hoff => keeps_ok' (n := (n : Int)) hse.ok hrr hoff hp) (h := fun w101 H101 => ?_)
            refine FL_on rfl rfl ?_
            refine FL_move (h := ?_)
            first | refine FL_splitP (t := 75) rfl (fun hs103 => ?_) (fun hs103 => ?_) | refine FL_split (t := 75) rfl (fun hs103 => ?_) (fun hs103 => ?_)
            · skip
              refine FL_off rfl rfl rfl ?_
              refine FL_off rfl rfl rfl ?_
              refine FL_off rfl rfl rfl ?_
              refine FL_off rfl rfl rfl ?_
              refine FL_off rfl rfl rfl ?_
              refine FL_on rfl rfl ?_
              refine FL_pickT (h := ?_)
              refine FL_pickT (h := ?_)
              refine FL_assign (h := ?_)
              refine FL_nil (Qseq_normal ?_)
              refine FW_ret (Qfn_ret (hR := ?_))
              exact ⟨rfl, H101.kept⟩
            · skip
              obtain ⟨rfl, rfl⟩ : bb2 = b ∧ nn2 = n + 1 := by
                rcases h290.2 with ⟨rfl, rfl⟩ | h1
                · rw [(hse.keeps rfl).1] at hs103
                  cases hs103
                · exact h1
              rw [(keeps_other (d := (e.failAt 0 []).boot) (want := c) (n := (n : Int)) (show (SM.n ⟨(n : Int) + 1, bb2.length, false⟩) ≠ n by show (n : Int) + 1 ≠ n; omega)).2] at H101
              refine FL_on rfl rfl ?_
              refine FL_move (h := ?_)
              refine FL_on rfl rfl ?_
              refine FL_move (h := ?_)
              refine FL_on rfl rfl ?_
              refine FL_move (h := ?_)
              refine FL_on rfl rfl ?_
              first | refine FL_val (Gives.addI rfl rfl rfl (by omega)) rfl ?_ | refine FL_val (Gives.add rfl rfl) rfl ?_
              refine FL_on rfl rfl ?_
              refine FL_call1R H101.front3 At2 (fun F' hp hrr hoff => keeps_ok' (n := (n : Int) + 1) hse.ok hrr hoff hp) (h := fun w114 H114 => ?_)
              rw [(hse.keeps rfl).1]
              refine FL_on rfl rfl ?_
              refine FL_pickF (h := ?_)
              refine FL_pickT (h := ?_)
              refine FL_assign (h := ?_)
              refine FL_nil (Qseq_normal ?_)
              refine FW_ret (Qfn_ret (hR := ?_))
              exact ⟨rfl, H114.kept⟩
          · skip
            exact absurd h290.1 hs96 --done
end
end Go.Proofs.Yteflbohpabdjkaa
