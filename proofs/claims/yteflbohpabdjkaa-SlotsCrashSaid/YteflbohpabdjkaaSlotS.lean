/-
  SlotsKeep, SlotsOps, SlotsOther, walked.
-/
import Derived.Test.YteflbohpabdjkaaSlotR
namespace Go.Proofs.Yteflbohpabdjkaa
open Go Go.Mw
set_option maxRecDepth 8000

theorem secsFrom_prefix {d : DM} {a : Int} (hwf : d.wf) {L j : Nat} (hL : L ≤ 128 * j) : ∀ k, j ≤ k → (secsFrom d a k).take L = (secsFrom d a j).take L
  | 0, h => by have : j = 0 := by omega
               subst this; rfl
  | k + 1, h => by
    by_cases hk : j = k + 1
    · subst hk; rfl
    · show (secsFrom d a k ++ d.sec (a + (k : Int))).take L = _
      rw [List.take_append_of_le_length (by rw [secsFrom_length hwf]; omega), secsFrom_prefix hwf hL k (by omega)]
theorem load_dead {e : DM} {c : List UInt8} {n : Int} (hd : e.dead = true) (hz : n = 0 → c = []) (hn : 0 ≤ n) : (n = 0 ∧ (load ⟨n, c.length, false⟩ e).2.1 = 300) ∨ (0 < n ∧ 0 < c.length ∧ (load ⟨n, c.length, false⟩ e).2.1 = 290) ∨ (0 < n ∧ c.length = 0 ∧ (load ⟨n, c.length, false⟩ e).2.1 = 0) := by
  unfold load
  dsimp only
  rw [if_neg (by simp)]
  by_cases h0 : n = 0
  · rw [if_pos h0]
    exact .inl ⟨h0, rfl⟩
  · rw [if_neg h0]
    by_cases hc : 0 < c.length
    · rw [if_pos ⟨by omega, hd⟩]
      exact .inr (.inl ⟨by omega, hc, rfl⟩)
    · rw [if_neg (by rintro ⟨h, _⟩; omega)]
      exact .inr (.inr ⟨by omega, by omega, rfl⟩)
theorem open_dead {e : DM} {b : List UInt8} {n : Int} (h : Set13 e b n) (hd : e.dead = true) : openS e = (290, ⟨0, 0, false⟩) := by
  unfold openS
  rw [if_neg (by rw [h.size]; decide), if_pos hd]
section
variable {w : World}
set_option maxHeartbeats 16000000 in
theorem slotsKeep_ok {A K : Option Addr} {ca ck : Nat} {l : List PutS} {keep : List Int} (hl : ∀ x ∈ l, x.fit) (hr : RowAt w A l.length 2 (putsCells l)) (hk : RowAt w K keep.length 1 (keep.map I)) (hck : keep.length ≤ ck) :
    Rets Try.prog 13 [.slice A l.length ca, .slice K keep.length ck] w fun v w' => v = .bool true ∧ Kept noB w w' := by
  have H := Sep.start0 w
  refine rets2 Try.func13 rfl rfl rfl rfl ?_
  obtain ⟨kp, hkp⟩ : ∃ kp, kp = keep.take (min keep.length 30) := ⟨_, rfl⟩
  have hkl : min keep.length 30 = kp.length := by rw [hkp, List.length_take]; omega
  have hkr : RowAt w K kp.length 1 (kp.map I) := by
    have h1 := hk.take (k := kp.length) (by omega)
    rwa [Nat.mul_one, ← List.map_take, ← hkl, ← hkp, hkl] at h1
  refine FW_seq ?_
  refine FW_region ?_
  refine FL_assign (h := ?_)
  refine FL_nil (Qseq_normal ?_)
  refine FW_seq ?_
  refine FW_region ?_
  refine FL_move (h := ?_)
  refine FL_callN H (saved_ok hl (hr.keepS H.kept fun _ _ _ => id)) rfl rfl (fun x w4 hx H0 _ => ?_)
  obtain ⟨p, s, v, d, c, n⟩ := x
  obtain ⟨⟨hS, hcl, hn8⟩, _⟩ := hx
  dsimp only at hS hcl hn8
  have H4 : Sep w noB (rowH 5 1 v c.length (c.map B) :: star (slotH s p ⟨n, c.length, false⟩) (diskH p d) :: []) w4 := Sep.star0 H0
  obtain ⟨Ac, cc, hvc, hcc, _⟩ := Sep.rowForm H4 At0
  subst hvc
  have hopen := (hS.set.boot).open rfl
  have hdead : (d.boot.crash kp).dead = true := rfl
  have hset2 := hS.set.boot.crash kp
  have hopen2 := hset2.boot.open rfl
  have hodead := open_dead hset2 hdead
  have hsm2 : (d.boot.crash kp).small 1000 := small_crash (small_boot (hS.small.mono (by decide))) kp
  refine FL_move (h := ?_)
  refine FL_val (Gives.extract rfl rfl) rfl ?_
  refine FL_val (Gives.extract rfl rfl) rfl ?_
  refine FL_val (Gives.extract rfl rfl) rfl ?_
  refine FL_val (Gives.extract rfl rfl) rfl ?_
  refine FL_assign (h := ?_)
  refine FL_assign (h := ?_)
  refine FL_assign (h := ?_)
  refine FL_assign (h := ?_)
  refine FL_nil (Qseq_normal ?_)
  refine FW_seq ?_
  refine FW_seq ?_
  refine FW_region ?_
  refine FL_move (h := ?_)
  refine FL_val (Gives.eqlNil rfl rfl) rfl ?_
  refine FL_move (h := ?_)
  first | refine FL_splitP (t := 22) rfl (fun hs17 => ?_) (fun hs17 => ?_) | refine FL_split (t := 22) rfl (fun hs17 => ?_) (fun hs17 => ?_)
  · skip
    first | exact absurd rfl hs17 | exact (hs17 trivial).elim | exact absurd hs17 (by decide) | exact absurd hs17 (by simp) | omega --done
  · skip
    refine FL_on rfl rfl ?_
    refine FL_move (h := ?_)
    refine FL_on rfl rfl ?_
    refine FL_move (h := ?_)
    refine FL_on rfl rfl ?_
    refine FL_move (h := ?_)
    refine FL_on rfl rfl ?_
    refine FL_call1R H4 At0 (fun F' hp hrr hoff => keeps_ok' (n := (n : Int)) hS.set.ok hrr hoff hp) (h := fun w23 H23 => ?_)
    rw [(hS.set.keeps hS.alive).2] at H23
    rw [(hS.set.keeps hS.alive).1]
    refine FL_on rfl rfl ?_
    first | refine FL_val (Gives.notP rfl) rfl ?_ | refine FL_val (Gives.not rfl) rfl ?_
    refine FL_pickF (h := ?_)
    refine FL_move (h := ?_)
    first | refine FL_splitP (t := 29) rfl (fun hs27 => ?_) (fun hs27 => ?_) | refine FL_split (t := 29) rfl (fun hs27 => ?_) (fun hs27 => ?_)
    · skip
      first | exact absurd rfl hs27 | exact (hs27 trivial).elim | exact absurd hs27 (by decide) | exact absurd hs27 (by simp) | omega --done
    · skip
      refine FL_on rfl rfl ?_
      refine FL_move (h := ?_)
      refine FL_on rfl rfl ?_
      have H5 := H23.front1.star0
      refine FL_callT H5 At1 (fun F' hp _ => opened_ok (by rw [hopen]) hp) rfl rfl (fun s2 w31 _ H31 => ?_)
      rw [hopen] at H31
      dsimp only at H31
      refine FL_on rfl rfl ?_
      refine FL_move (h := ?_)
      refine FL_on rfl rfl ?_
      refine FL_move (h := ?_)
      refine FL_on rfl rfl ?_
      refine FL_call1R H31.front2 At1 (fun F' hp hrr hoff => keeps_ok' (n := (n : Int)) hS.set.boot.ok hrr hoff hp) (h := fun w35 H35 => ?_)
      rw [(hS.set.boot.keeps rfl).1]
      refine FL_on rfl rfl ?_
      first | refine FL_val (Gives.notP rfl) rfl ?_ | refine FL_val (Gives.not rfl) rfl ?_
      refine FL_pickF (h := ?_)
      refine FL_nil (Qseq_normal ?_)
      first | refine FW_condP rfl (fun hc38 => ?_) (fun hc38 => ?_) | refine FW_cond rfl (fun hc38 => ?_) (fun hc38 => ?_)
      · skip
        first | exact absurd rfl hc38 | exact (hc38 trivial).elim | exact absurd hc38 (by decide) | exact absurd hc38 (by simp) | omega --done
      · skip
        refine FW_skip (Qseq_normal ?_)
        refine FW_seq ?_
        refine FW_region ?_
        refine FL_move (h := ?_)
        refine FL_move (h := ?_)
        refine FL_move (h := ?_)
        refine FL_val (Gives.lenSlice rfl) rfl ?_
        refine FL_val (gives_minN (k := 30) hkl rfl rfl rfl) rfl ?_
        refine FL_val (Gives.sliceTo rfl rfl (by omega)) rfl ?_
        have H5 := H35.front2.star0
        refine FL_call1 H5 At1 (fun F' hp hF' => crash_at (A := K) (c := ck) (keep := kp) ((small_boot hS.small).mono (by decide)) H5 (by omega) hkr (fun _ _ _ => id) hp hF') (h := fun w47 H47 => ?_)
        refine FL_nil (Qseq_normal ?_)
        refine FW_seq ?_
        refine FW_region ?_
        refine FL_move (h := ?_)
        obtain ⟨F3, hp3, _⟩ := H47.focus At1
        refine FL_callN H47 (q := fun x => openH x p (openS (d.boot.crash kp)).2) (val := fun x : Option Nat => .tuple #[.pointer (x.map fun s => ⟨s, 0, none⟩), I (openS (d.boot.crash kp)).1]) (φ := fun x => x.isSome = decide ((openS (d.boot.crash kp)).1 = 0)) (openS_ok hp3) rfl rfl (fun x w50 hx H50 _ => ?_)
        rw [hodead] at hx H50 ⊢
        refine FL_move (h := ?_)
        refine FL_val (Gives.extract rfl rfl) rfl ?_
        refine FL_val (Gives.extract rfl rfl) rfl ?_
        refine FL_assign (h := ?_)
        refine FL_assign (h := ?_)
        refine FL_nil (Qseq_normal ?_)
        refine FW_seq ?_
        refine FW_region ?_
        refine FL_move (h := ?_)
        have hL := load_dead (e := d.boot.crash kp) (c := c) (n := n) hdead hS.set.holds.zero hS.set.holds.n0
        refine FL_callT (H50.front2.front4.join0) At0 (fun F' hp _ => loadS_ok hset2.ok hp) rfl rfl (fun z w58 _ H0 => ?_)
        have H58 := (H0.star0).front1.star0
        refine FL_move (h := ?_)
        refine FL_val (Gives.extract rfl rfl) rfl ?_
        refine FL_val (Gives.extract rfl rfl) rfl ?_
        refine FL_assign (h := ?_)
        refine FL_assign (h := ?_)
        refine FL_nil (Qseq_normal ?_)
        refine FW_seq ?_
        refine FW_region ?_
        refine FL_move (h := ?_)
        refine FL_val (Gives.eql rfl rfl) rfl ?_
        refine FL_move (h := ?_)
        first | refine FL_splitP (t := 56) rfl (fun hs67 => ?_) (fun hs67 => ?_) | refine FL_split (t := 56) rfl (fun hs67 => ?_) (fun hs67 => ?_)
        · skip
          refine FL_on rfl rfl ?_
          refine FL_move (h := ?_)
          refine FL_on rfl rfl ?_
          refine FL_val (Gives.eql rfl rfl) rfl ?_
          refine FL_on rfl rfl ?_
          refine FL_move (h := ?_)
          first | refine FL_splitP (t := 59) rfl (fun hs71 => ?_) (fun hs71 => ?_) | refine FL_split (t := 59) rfl (fun hs71 => ?_) (fun hs71 => ?_)
          · skip
            have h5 := hs71
            refine FL_on rfl rfl ?_
            refine FL_move (h := ?_)
            refine FL_on rfl rfl ?_
            refine FL_val (Gives.gtr rfl rfl) rfl ?_
            refine FL_on rfl rfl ?_
            refine FL_move (h := ?_)
            first | refine FL_splitP (t := 62) rfl (fun hs76 => ?_) (fun hs76 => ?_) | refine FL_split (t := 62) rfl (fun hs76 => ?_) (fun hs76 => ?_)
            · skip
              have h8 := hs76
              refine FL_on rfl rfl ?_
              refine FL_move (h := ?_)
              refine FL_on rfl rfl ?_
              refine FL_val (Gives.lenSlice rfl) rfl ?_
              refine FL_on rfl rfl ?_
              refine FL_val (Gives.gtr rfl rfl) rfl ?_
              refine FL_on rfl rfl ?_
              refine FL_pickT (h := ?_)
              refine FL_on rfl rfl ?_
              refine FL_pickT (h := ?_)
              refine FL_on rfl rfl ?_
              refine FL_move (h := ?_)
              first | refine FL_splitP (t := 68) rfl (fun hs84 => ?_) (fun hs84 => ?_) | refine FL_split (t := 68) rfl (fun hs84 => ?_) (fun hs84 => ?_)
              · skip
                have h14 := hs84
                refine FL_off rfl rfl rfl ?_
                refine FL_off rfl rfl rfl ?_
                refine FL_off rfl rfl rfl ?_
                refine FL_offU rfl rfl rfl ?_
                refine FL_offU rfl rfl rfl ?_
                refine FL_off rfl rfl rfl ?_
                refine FL_on rfl rfl ?_
                refine FL_pickT (h := ?_)
                refine FL_on rfl rfl ?_
                refine FL_move (h := ?_)
                refine FL_off rfl rfl rfl ?_
                refine FL_off rfl rfl rfl ?_
                refine FL_off rfl rfl rfl ?_
                refine FL_offU rfl rfl rfl ?_
                refine FL_offU rfl rfl rfl ?_
                refine FL_offU rfl rfl rfl ?_
                refine FL_off rfl rfl rfl ?_
                refine FL_off rfl rfl rfl ?_
                refine FL_offU rfl rfl rfl ?_
                refine FL_offU rfl rfl rfl ?_
                refine FL_off rfl rfl rfl ?_
                refine FL_on rfl rfl ?_
                refine FL_pickT (h := ?_)
                refine FL_pickT (h := ?_)
                refine FL_move (h := ?_)
                refine FL_on rfl rfl ?_
                refine FL_move (h := ?_)
                refine FL_on rfl rfl ?_
                refine FL_callT H58 At1 (fun F' hp _ => opened_ok (by rw [hopen2]) hp) rfl rfl (fun s3 w93 _ H93 => ?_)
                rw [hopen2] at H93
                dsimp only at H93
                refine FL_on rfl rfl ?_
                refine FL_move (h := ?_)
                refine FL_on rfl rfl ?_
                refine FL_move (h := ?_)
                refine FL_on rfl rfl ?_
                refine FL_call1R H93.front5 At1 (fun F' hp hrr hoff => keeps_ok' (n := (n : Int)) hset2.boot.ok hrr hoff hp) (h := fun w97 H97 => ?_)
                rw [(hset2.boot.keeps rfl).1]
                refine FL_pickT (h := ?_)
                refine FL_move (h := ?_)
                first | refine FL_splitP (t := 97) rfl (fun hs100 => ?_) (fun hs100 => ?_) | refine FL_split (t := 97) rfl (fun hs100 => ?_) (fun hs100 => ?_)
                · skip
                  refine FL_on rfl rfl ?_
                  refine FL_callQ H97 worksS_ok (h := fun w102 H102 _ => ?_)
                  refine FL_pickT (h := ?_)
                  refine FL_assign (h := ?_)
                  refine FL_nil (Qseq_normal ?_)
                  refine FW_ret (Qfn_ret (hR := ?_))
                  first
                    | exact ⟨rfl, H102.kept⟩
                    | (exfalso; omega)
                · skip
                  first | exact absurd rfl hs100 | exact (hs100 trivial).elim | exact absurd hs100 (by decide) | exact absurd hs100 (by simp) | omega --done
              · skip
                have h14 := hs84
                refine FL_on rfl rfl ?_
                refine FL_move (h := ?_)
                refine FL_on rfl rfl ?_
                refine FL_val (Gives.eql rfl rfl) rfl ?_
                refine FL_on rfl rfl ?_
                refine FL_move (h := ?_)
                first | refine FL_splitP (t := 71) rfl (fun hs111 => ?_) (fun hs111 => ?_) | refine FL_split (t := 71) rfl (fun hs111 => ?_) (fun hs111 => ?_)
                · skip
                  have h17 := hs111
                  refine FL_on rfl rfl ?_
                  refine FL_move (h := ?_)
                  refine FL_on rfl rfl ?_
                  refine FL_val (Gives.eql rfl rfl) rfl ?_
                  refine FL_on rfl rfl ?_
                  refine FL_pickT (h := ?_)
                  refine FL_on rfl rfl ?_
                  refine FL_pickF (h := ?_)
                  refine FL_on rfl rfl ?_
                  refine FL_move (h := ?_)
                  first | refine FL_splitP (t := 76) rfl (fun hs118 => ?_) (fun hs118 => ?_) | refine FL_split (t := 76) rfl (fun hs118 => ?_) (fun hs118 => ?_)
                  · skip
                    have h22 := hs118
                    refine FL_off rfl rfl rfl ?_
                    refine FL_off rfl rfl rfl ?_
                    refine FL_off rfl rfl rfl ?_
                    refine FL_offU rfl rfl rfl ?_
                    refine FL_offU rfl rfl rfl ?_
                    refine FL_offU rfl rfl rfl ?_
                    refine FL_off rfl rfl rfl ?_
                    refine FL_off rfl rfl rfl ?_
                    refine FL_offU rfl rfl rfl ?_
                    refine FL_offU rfl rfl rfl ?_
                    refine FL_off rfl rfl rfl ?_
                    refine FL_on rfl rfl ?_
                    refine FL_pickT (h := ?_)
                    refine FL_pickT (h := ?_)
                    refine FL_move (h := ?_)
                    refine FL_on rfl rfl ?_
                    refine FL_move (h := ?_)
                    refine FL_on rfl rfl ?_
                    refine FL_callT H58 At1 (fun F' hp _ => opened_ok (by rw [hopen2]) hp) rfl rfl (fun s3 w125 _ H125 => ?_)
                    rw [hopen2] at H125
                    dsimp only at H125
                    refine FL_on rfl rfl ?_
                    refine FL_move (h := ?_)
                    refine FL_on rfl rfl ?_
                    refine FL_move (h := ?_)
                    refine FL_on rfl rfl ?_
                    refine FL_call1R H125.front5 At1 (fun F' hp hrr hoff => keeps_ok' (n := (n : Int)) hset2.boot.ok hrr hoff hp) (h := fun w129 H129 => ?_)
                    rw [(hset2.boot.keeps rfl).1]
                    refine FL_pickT (h := ?_)
                    refine FL_move (h := ?_)
                    first | refine FL_splitP (t := 97) rfl (fun hs132 => ?_) (fun hs132 => ?_) | refine FL_split (t := 97) rfl (fun hs132 => ?_) (fun hs132 => ?_)
                    · skip
                      refine FL_on rfl rfl ?_
                      refine FL_callQ H129 worksS_ok (h := fun w134 H134 _ => ?_)
                      refine FL_pickT (h := ?_)
                      refine FL_assign (h := ?_)
                      refine FL_nil (Qseq_normal ?_)
                      refine FW_ret (Qfn_ret (hR := ?_))
                      first
                        | exact ⟨rfl, H134.kept⟩
                        | (exfalso; omega)
                    · skip
                      first | exact absurd rfl hs132 | exact (hs132 trivial).elim | exact absurd hs132 (by decide) | exact absurd hs132 (by simp) | omega --done
                  · skip
                    have h22 := hs118
                    refine FL_on rfl rfl ?_
                    refine FL_move (h := ?_)
                    refine FL_on rfl rfl ?_
                    refine FL_val (Gives.gtr rfl rfl) rfl ?_
                    refine FL_on rfl rfl ?_
                    refine FL_move (h := ?_)
                    first | refine FL_splitP (t := 79) rfl (fun hs143 => ?_) (fun hs143 => ?_) | refine FL_split (t := 79) rfl (fun hs143 => ?_) (fun hs143 => ?_)
                    · skip
                      have h25 := hs143
                      refine FL_on rfl rfl ?_
                      refine FL_move (h := ?_)
                      refine FL_on rfl rfl ?_
                      refine FL_val (Gives.lenSlice rfl) rfl ?_
                      refine FL_on rfl rfl ?_
                      refine FL_val (Gives.eql rfl rfl) rfl ?_
                      refine FL_on rfl rfl ?_
                      refine FL_pickT (h := ?_)
                      refine FL_on rfl rfl ?_
                      refine FL_move (h := ?_)
                      first | refine FL_splitP (t := 84) rfl (fun hs150 => ?_) (fun hs150 => ?_) | refine FL_split (t := 84) rfl (fun hs150 => ?_) (fun hs150 => ?_)
                      · skip
                        have h30 := hs150
                        refine FL_on rfl rfl ?_
                        refine FL_move (h := ?_)
                        refine FL_on rfl rfl ?_
                        refine FL_val (Gives.eql rfl rfl) rfl ?_
                        refine FL_on rfl rfl ?_
                        refine FL_pickT (h := ?_)
                        refine FL_on rfl rfl ?_
                        refine FL_pickF (h := ?_)
                        refine FL_pickT (h := ?_)
                        refine FL_move (h := ?_)
                        first | refine FL_splitP (t := 90) rfl (fun hs158 => ?_) (fun hs158 => ?_) | refine FL_split (t := 90) rfl (fun hs158 => ?_) (fun hs158 => ?_)
                        · skip
                          refine FL_on rfl rfl ?_
                          refine FL_move (h := ?_)
                          refine FL_on rfl rfl ?_
                          refine FL_callT H58 At1 (fun F' hp _ => opened_ok (by rw [hopen2]) hp) rfl rfl (fun s3 w161 _ H161 => ?_)
                          rw [hopen2] at H161
                          dsimp only at H161
                          refine FL_on rfl rfl ?_
                          refine FL_move (h := ?_)
                          refine FL_on rfl rfl ?_
                          refine FL_move (h := ?_)
                          refine FL_on rfl rfl ?_
                          refine FL_call1R H161.front5 At1 (fun F' hp hrr hoff => keeps_ok' (n := (n : Int)) hset2.boot.ok hrr hoff hp) (h := fun w165 H165 => ?_)
                          rw [(hset2.boot.keeps rfl).1]
                          refine FL_pickT (h := ?_)
                          refine FL_move (h := ?_)
                          first | refine FL_splitP (t := 97) rfl (fun hs168 => ?_) (fun hs168 => ?_) | refine FL_split (t := 97) rfl (fun hs168 => ?_) (fun hs168 => ?_)
                          · skip
                            refine FL_on rfl rfl ?_
                            refine FL_callQ H165 worksS_ok (h := fun w170 H170 _ => ?_)
                            refine FL_pickT (h := ?_)
                            refine FL_assign (h := ?_)
                            refine FL_nil (Qseq_normal ?_)
                            refine FW_ret (Qfn_ret (hR := ?_))
                            first
                              | exact ⟨rfl, H170.kept⟩
                              | (exfalso; omega)
                          · skip
                            first | exact absurd rfl hs168 | exact (hs168 trivial).elim | exact absurd hs168 (by decide) | exact absurd hs168 (by simp) | omega --done
                        · skip
                          omega --done
                      · skip
                        have h30 := hs150
                        refine FL_off rfl rfl rfl ?_
                        refine FL_off rfl rfl rfl ?_
                        refine FL_on rfl rfl ?_
                        refine FL_pickF (h := ?_)
                        refine FL_on rfl rfl ?_
                        refine FL_pickF (h := ?_)
                        refine FL_pickT (h := ?_)
                        refine FL_move (h := ?_)
                        refine FL_off rfl rfl rfl ?_
                        refine FL_off rfl rfl rfl ?_
                        refine FL_off rfl rfl rfl ?_
                        refine FL_off rfl rfl rfl ?_
                        refine FL_off rfl rfl rfl ?_
                        refine FL_pickF (h := ?_)
                        refine FL_move (h := ?_)
                        refine FL_off rfl rfl rfl ?_
                        refine FL_pickF (h := ?_)
                        refine FL_assign (h := ?_)
                        refine FL_nil (Qseq_normal ?_)
                        refine FW_ret (Qfn_ret (hR := ?_))
                        first
                          | exact ⟨rfl, H58.kept⟩
                          | (exfalso; omega)
                    · skip
                      have h25 := hs143
                      refine FL_off rfl rfl rfl ?_
                      refine FL_off rfl rfl rfl ?_
                      refine FL_off rfl rfl rfl ?_
                      refine FL_on rfl rfl ?_
                      refine FL_pickF (h := ?_)
                      refine FL_on rfl rfl ?_
                      refine FL_move (h := ?_)
                      refine FL_off rfl rfl rfl ?_
                      refine FL_off rfl rfl rfl ?_
                      refine FL_on rfl rfl ?_
                      refine FL_pickF (h := ?_)
                      refine FL_on rfl rfl ?_
                      refine FL_pickF (h := ?_)
                      refine FL_pickT (h := ?_)
                      refine FL_move (h := ?_)
                      refine FL_off rfl rfl rfl ?_
                      refine FL_off rfl rfl rfl ?_
                      refine FL_off rfl rfl rfl ?_
                      refine FL_off rfl rfl rfl ?_
                      refine FL_off rfl rfl rfl ?_
                      refine FL_pickF (h := ?_)
                      refine FL_move (h := ?_)
                      refine FL_off rfl rfl rfl ?_
                      refine FL_pickF (h := ?_)
                      refine FL_assign (h := ?_)
                      refine FL_nil (Qseq_normal ?_)
                      refine FW_ret (Qfn_ret (hR := ?_))
                      first
                        | exact ⟨rfl, H58.kept⟩
                        | (exfalso; omega)
                · skip
                  have h17 := hs111
                  refine FL_off rfl rfl rfl ?_
                  refine FL_off rfl rfl rfl ?_
                  refine FL_on rfl rfl ?_
                  refine FL_pickF (h := ?_)
                  refine FL_on rfl rfl ?_
                  refine FL_pickF (h := ?_)
                  refine FL_on rfl rfl ?_
                  refine FL_move (h := ?_)
                  refine FL_on rfl rfl ?_
                  refine FL_move (h := ?_)
                  refine FL_on rfl rfl ?_
                  refine FL_val (Gives.gtr rfl rfl) rfl ?_
                  refine FL_on rfl rfl ?_
                  refine FL_move (h := ?_)
                  first | refine FL_splitP (t := 79) rfl (fun hs205 => ?_) (fun hs205 => ?_) | refine FL_split (t := 79) rfl (fun hs205 => ?_) (fun hs205 => ?_)
                  · skip
                    have h25 := hs205
                    refine FL_on rfl rfl ?_
                    refine FL_move (h := ?_)
                    refine FL_on rfl rfl ?_
                    refine FL_val (Gives.lenSlice rfl) rfl ?_
                    refine FL_on rfl rfl ?_
                    refine FL_val (Gives.eql rfl rfl) rfl ?_
                    refine FL_on rfl rfl ?_
                    refine FL_pickT (h := ?_)
                    refine FL_on rfl rfl ?_
                    refine FL_move (h := ?_)
                    first | refine FL_splitP (t := 84) rfl (fun hs212 => ?_) (fun hs212 => ?_) | refine FL_split (t := 84) rfl (fun hs212 => ?_) (fun hs212 => ?_)
                    · skip
                      have h30 := hs212
                      refine FL_on rfl rfl ?_
                      refine FL_move (h := ?_)
                      refine FL_on rfl rfl ?_
                      refine FL_val (Gives.eql rfl rfl) rfl ?_
                      refine FL_on rfl rfl ?_
                      refine FL_pickT (h := ?_)
                      refine FL_on rfl rfl ?_
                      refine FL_pickF (h := ?_)
                      refine FL_pickT (h := ?_)
                      refine FL_move (h := ?_)
                      first | refine FL_splitP (t := 90) rfl (fun hs220 => ?_) (fun hs220 => ?_) | refine FL_split (t := 90) rfl (fun hs220 => ?_) (fun hs220 => ?_)
                      · skip
                        refine FL_on rfl rfl ?_
                        refine FL_move (h := ?_)
                        refine FL_on rfl rfl ?_
                        refine FL_callT H58 At1 (fun F' hp _ => opened_ok (by rw [hopen2]) hp) rfl rfl (fun s3 w223 _ H223 => ?_)
                        rw [hopen2] at H223
                        dsimp only at H223
                        refine FL_on rfl rfl ?_
                        refine FL_move (h := ?_)
                        refine FL_on rfl rfl ?_
                        refine FL_move (h := ?_)
                        refine FL_on rfl rfl ?_
                        refine FL_call1R H223.front5 At1 (fun F' hp hrr hoff => keeps_ok' (n := (n : Int)) hset2.boot.ok hrr hoff hp) (h := fun w227 H227 => ?_)
                        rw [(hset2.boot.keeps rfl).1]
                        refine FL_pickT (h := ?_)
                        refine FL_move (h := ?_)
                        first | refine FL_splitP (t := 97) rfl (fun hs230 => ?_) (fun hs230 => ?_) | refine FL_split (t := 97) rfl (fun hs230 => ?_) (fun hs230 => ?_)
                        · skip
                          refine FL_on rfl rfl ?_
                          refine FL_callQ H227 worksS_ok (h := fun w232 H232 _ => ?_)
                          refine FL_pickT (h := ?_)
                          refine FL_assign (h := ?_)
                          refine FL_nil (Qseq_normal ?_)
                          refine FW_ret (Qfn_ret (hR := ?_))
                          first
                            | exact ⟨rfl, H232.kept⟩
                            | (exfalso; omega)
                        · skip
                          first | exact absurd rfl hs230 | exact (hs230 trivial).elim | exact absurd hs230 (by decide) | exact absurd hs230 (by simp) | omega --done
                      · skip
                        omega --done
                    · skip
                      have h30 := hs212
                      refine FL_off rfl rfl rfl ?_
                      refine FL_off rfl rfl rfl ?_
                      refine FL_on rfl rfl ?_
                      refine FL_pickF (h := ?_)
                      refine FL_on rfl rfl ?_
                      refine FL_pickF (h := ?_)
                      refine FL_pickT (h := ?_)
                      refine FL_move (h := ?_)
                      refine FL_off rfl rfl rfl ?_
                      refine FL_off rfl rfl rfl ?_
                      refine FL_off rfl rfl rfl ?_
                      refine FL_off rfl rfl rfl ?_
                      refine FL_off rfl rfl rfl ?_
                      refine FL_pickF (h := ?_)
                      refine FL_move (h := ?_)
                      refine FL_off rfl rfl rfl ?_
                      refine FL_pickF (h := ?_)
                      refine FL_assign (h := ?_)
                      refine FL_nil (Qseq_normal ?_)
                      refine FW_ret (Qfn_ret (hR := ?_))
                      first
                        | exact ⟨rfl, H58.kept⟩
                        | (exfalso; omega)
                  · skip
                    have h25 := hs205
                    refine FL_off rfl rfl rfl ?_
                    refine FL_off rfl rfl rfl ?_
                    refine FL_off rfl rfl rfl ?_
                    refine FL_on rfl rfl ?_
                    refine FL_pickF (h := ?_)
                    refine FL_on rfl rfl ?_
                    refine FL_move (h := ?_)
                    refine FL_off rfl rfl rfl ?_
                    refine FL_off rfl rfl rfl ?_
                    refine FL_on rfl rfl ?_
                    refine FL_pickF (h := ?_)
                    refine FL_on rfl rfl ?_
                    refine FL_pickF (h := ?_)
                    refine FL_pickT (h := ?_)
                    refine FL_move (h := ?_)
                    refine FL_off rfl rfl rfl ?_
                    refine FL_off rfl rfl rfl ?_
                    refine FL_off rfl rfl rfl ?_
                    refine FL_off rfl rfl rfl ?_
                    refine FL_off rfl rfl rfl ?_
                    refine FL_pickF (h := ?_)
                    refine FL_move (h := ?_)
                    refine FL_off rfl rfl rfl ?_
                    refine FL_pickF (h := ?_)
                    refine FL_assign (h := ?_)
                    refine FL_nil (Qseq_normal ?_)
                    refine FW_ret (Qfn_ret (hR := ?_))
                    first
                      | exact ⟨rfl, H58.kept⟩
                      | (exfalso; omega)
            · skip
              have h8 := hs76
              refine FL_off rfl rfl rfl ?_
              refine FL_off rfl rfl rfl ?_
              refine FL_off rfl rfl rfl ?_
              refine FL_on rfl rfl ?_
              refine FL_pickF (h := ?_)
              refine FL_on rfl rfl ?_
              refine FL_pickT (h := ?_)
              refine FL_on rfl rfl ?_
              refine FL_move (h := ?_)
              refine FL_on rfl rfl ?_
              refine FL_move (h := ?_)
              refine FL_on rfl rfl ?_
              refine FL_val (Gives.eql rfl rfl) rfl ?_
              refine FL_on rfl rfl ?_
              refine FL_move (h := ?_)
              first | refine FL_splitP (t := 71) rfl (fun hs267 => ?_) (fun hs267 => ?_) | refine FL_split (t := 71) rfl (fun hs267 => ?_) (fun hs267 => ?_)
              · skip
                have h17 := hs267
                refine FL_on rfl rfl ?_
                refine FL_move (h := ?_)
                refine FL_on rfl rfl ?_
                refine FL_val (Gives.eql rfl rfl) rfl ?_
                refine FL_on rfl rfl ?_
                refine FL_pickT (h := ?_)
                refine FL_on rfl rfl ?_
                refine FL_pickF (h := ?_)
                refine FL_on rfl rfl ?_
                refine FL_move (h := ?_)
                first | refine FL_splitP (t := 76) rfl (fun hs274 => ?_) (fun hs274 => ?_) | refine FL_split (t := 76) rfl (fun hs274 => ?_) (fun hs274 => ?_)
                · skip
                  have h22 := hs274
                  refine FL_off rfl rfl rfl ?_
                  refine FL_off rfl rfl rfl ?_
                  refine FL_off rfl rfl rfl ?_
                  refine FL_offU rfl rfl rfl ?_
                  refine FL_offU rfl rfl rfl ?_
                  refine FL_offU rfl rfl rfl ?_
                  refine FL_off rfl rfl rfl ?_
                  refine FL_off rfl rfl rfl ?_
                  refine FL_offU rfl rfl rfl ?_
                  refine FL_offU rfl rfl rfl ?_
                  refine FL_off rfl rfl rfl ?_
                  refine FL_on rfl rfl ?_
                  refine FL_pickT (h := ?_)
                  refine FL_pickT (h := ?_)
                  refine FL_move (h := ?_)
                  refine FL_on rfl rfl ?_
                  refine FL_move (h := ?_)
                  refine FL_on rfl rfl ?_
                  refine FL_callT H58 At1 (fun F' hp _ => opened_ok (by rw [hopen2]) hp) rfl rfl (fun s3 w281 _ H281 => ?_)
                  rw [hopen2] at H281
                  dsimp only at H281
                  refine FL_on rfl rfl ?_
                  refine FL_move (h := ?_)
                  refine FL_on rfl rfl ?_
                  refine FL_move (h := ?_)
                  refine FL_on rfl rfl ?_
                  refine FL_call1R H281.front5 At1 (fun F' hp hrr hoff => keeps_ok' (n := (n : Int)) hset2.boot.ok hrr hoff hp) (h := fun w285 H285 => ?_)
                  rw [(hset2.boot.keeps rfl).1]
                  refine FL_pickT (h := ?_)
                  refine FL_move (h := ?_)
                  first | refine FL_splitP (t := 97) rfl (fun hs288 => ?_) (fun hs288 => ?_) | refine FL_split (t := 97) rfl (fun hs288 => ?_) (fun hs288 => ?_)
                  · skip
                    refine FL_on rfl rfl ?_
                    refine FL_callQ H285 worksS_ok (h := fun w290 H290 _ => ?_)
                    refine FL_pickT (h := ?_)
                    refine FL_assign (h := ?_)
                    refine FL_nil (Qseq_normal ?_)
                    refine FW_ret (Qfn_ret (hR := ?_))
                    first
                      | exact ⟨rfl, H290.kept⟩
                      | (exfalso; omega)
                  · skip
                    first | exact absurd rfl hs288 | exact (hs288 trivial).elim | exact absurd hs288 (by decide) | exact absurd hs288 (by simp) | omega --done
                · skip
                  have h22 := hs274
                  refine FL_on rfl rfl ?_
                  refine FL_move (h := ?_)
                  refine FL_on rfl rfl ?_
                  refine FL_val (Gives.gtr rfl rfl) rfl ?_
                  refine FL_on rfl rfl ?_
                  refine FL_move (h := ?_)
                  first | refine FL_splitP (t := 79) rfl (fun hs299 => ?_) (fun hs299 => ?_) | refine FL_split (t := 79) rfl (fun hs299 => ?_) (fun hs299 => ?_)
                  · skip
                    have h25 := hs299
                    refine FL_on rfl rfl ?_
                    refine FL_move (h := ?_)
                    refine FL_on rfl rfl ?_
                    refine FL_val (Gives.lenSlice rfl) rfl ?_
                    refine FL_on rfl rfl ?_
                    refine FL_val (Gives.eql rfl rfl) rfl ?_
                    refine FL_on rfl rfl ?_
                    refine FL_pickT (h := ?_)
                    refine FL_on rfl rfl ?_
                    refine FL_move (h := ?_)
                    first | refine FL_splitP (t := 84) rfl (fun hs306 => ?_) (fun hs306 => ?_) | refine FL_split (t := 84) rfl (fun hs306 => ?_) (fun hs306 => ?_)
                    · skip
                      have h30 := hs306
                      refine FL_on rfl rfl ?_
                      refine FL_move (h := ?_)
                      refine FL_on rfl rfl ?_
                      refine FL_val (Gives.eql rfl rfl) rfl ?_
                      refine FL_on rfl rfl ?_
                      refine FL_pickT (h := ?_)
                      refine FL_on rfl rfl ?_
                      refine FL_pickF (h := ?_)
                      refine FL_pickT (h := ?_)
                      refine FL_move (h := ?_)
                      first | refine FL_splitP (t := 90) rfl (fun hs314 => ?_) (fun hs314 => ?_) | refine FL_split (t := 90) rfl (fun hs314 => ?_) (fun hs314 => ?_)
                      · skip
                        refine FL_on rfl rfl ?_
                        refine FL_move (h := ?_)
                        refine FL_on rfl rfl ?_
                        refine FL_callT H58 At1 (fun F' hp _ => opened_ok (by rw [hopen2]) hp) rfl rfl (fun s3 w317 _ H317 => ?_)
                        rw [hopen2] at H317
                        dsimp only at H317
                        refine FL_on rfl rfl ?_
                        refine FL_move (h := ?_)
                        refine FL_on rfl rfl ?_
                        refine FL_move (h := ?_)
                        refine FL_on rfl rfl ?_
                        refine FL_call1R H317.front5 At1 (fun F' hp hrr hoff => keeps_ok' (n := (n : Int)) hset2.boot.ok hrr hoff hp) (h := fun w321 H321 => ?_)
                        rw [(hset2.boot.keeps rfl).1]
                        refine FL_pickT (h := ?_)
                        refine FL_move (h := ?_)
                        first | refine FL_splitP (t := 97) rfl (fun hs324 => ?_) (fun hs324 => ?_) | refine FL_split (t := 97) rfl (fun hs324 => ?_) (fun hs324 => ?_)
                        · skip
                          refine FL_on rfl rfl ?_
                          refine FL_callQ H321 worksS_ok (h := fun w326 H326 _ => ?_)
                          refine FL_pickT (h := ?_)
                          refine FL_assign (h := ?_)
                          refine FL_nil (Qseq_normal ?_)
                          refine FW_ret (Qfn_ret (hR := ?_))
                          first
                            | exact ⟨rfl, H326.kept⟩
                            | (exfalso; omega)
                        · skip
                          first | exact absurd rfl hs324 | exact (hs324 trivial).elim | exact absurd hs324 (by decide) | exact absurd hs324 (by simp) | omega --done
                      · skip
                        omega --done
                    · skip
                      have h30 := hs306
                      refine FL_off rfl rfl rfl ?_
                      refine FL_off rfl rfl rfl ?_
                      refine FL_on rfl rfl ?_
                      refine FL_pickF (h := ?_)
                      refine FL_on rfl rfl ?_
                      refine FL_pickF (h := ?_)
                      refine FL_pickT (h := ?_)
                      refine FL_move (h := ?_)
                      refine FL_off rfl rfl rfl ?_
                      refine FL_off rfl rfl rfl ?_
                      refine FL_off rfl rfl rfl ?_
                      refine FL_off rfl rfl rfl ?_
                      refine FL_off rfl rfl rfl ?_
                      refine FL_pickF (h := ?_)
                      refine FL_move (h := ?_)
                      refine FL_off rfl rfl rfl ?_
                      refine FL_pickF (h := ?_)
                      refine FL_assign (h := ?_)
                      refine FL_nil (Qseq_normal ?_)
                      refine FW_ret (Qfn_ret (hR := ?_))
                      first
                        | exact ⟨rfl, H58.kept⟩
                        | (exfalso; omega)
                  · skip
                    have h25 := hs299
                    refine FL_off rfl rfl rfl ?_
                    refine FL_off rfl rfl rfl ?_
                    refine FL_off rfl rfl rfl ?_
                    refine FL_on rfl rfl ?_
                    refine FL_pickF (h := ?_)
                    refine FL_on rfl rfl ?_
                    refine FL_move (h := ?_)
                    refine FL_off rfl rfl rfl ?_
                    refine FL_off rfl rfl rfl ?_
                    refine FL_on rfl rfl ?_
                    refine FL_pickF (h := ?_)
                    refine FL_on rfl rfl ?_
                    refine FL_pickF (h := ?_)
                    refine FL_pickT (h := ?_)
                    refine FL_move (h := ?_)
                    refine FL_off rfl rfl rfl ?_
                    refine FL_off rfl rfl rfl ?_
                    refine FL_off rfl rfl rfl ?_
                    refine FL_off rfl rfl rfl ?_
                    refine FL_off rfl rfl rfl ?_
                    refine FL_pickF (h := ?_)
                    refine FL_move (h := ?_)
                    refine FL_off rfl rfl rfl ?_
                    refine FL_pickF (h := ?_)
                    refine FL_assign (h := ?_)
                    refine FL_nil (Qseq_normal ?_)
                    refine FW_ret (Qfn_ret (hR := ?_))
                    first
                      | exact ⟨rfl, H58.kept⟩
                      | (exfalso; omega)
              · skip
                have h17 := hs267
                refine FL_off rfl rfl rfl ?_
                refine FL_off rfl rfl rfl ?_
                refine FL_on rfl rfl ?_
                refine FL_pickF (h := ?_)
                refine FL_on rfl rfl ?_
                refine FL_pickF (h := ?_)
                refine FL_on rfl rfl ?_
                refine FL_move (h := ?_)
                refine FL_on rfl rfl ?_
                refine FL_move (h := ?_)
                refine FL_on rfl rfl ?_
                refine FL_val (Gives.gtr rfl rfl) rfl ?_
                refine FL_on rfl rfl ?_
                refine FL_move (h := ?_)
                first | refine FL_splitP (t := 79) rfl (fun hs361 => ?_) (fun hs361 => ?_) | refine FL_split (t := 79) rfl (fun hs361 => ?_) (fun hs361 => ?_)
                · skip
                  have h25 := hs361
                  refine FL_on rfl rfl ?_
                  refine FL_move (h := ?_)
                  refine FL_on rfl rfl ?_
                  refine FL_val (Gives.lenSlice rfl) rfl ?_
                  refine FL_on rfl rfl ?_
                  refine FL_val (Gives.eql rfl rfl) rfl ?_
                  refine FL_on rfl rfl ?_
                  refine FL_pickT (h := ?_)
                  refine FL_on rfl rfl ?_
                  refine FL_move (h := ?_)
                  first | refine FL_splitP (t := 84) rfl (fun hs368 => ?_) (fun hs368 => ?_) | refine FL_split (t := 84) rfl (fun hs368 => ?_) (fun hs368 => ?_)
                  · skip
                    have h30 := hs368
                    refine FL_on rfl rfl ?_
                    refine FL_move (h := ?_)
                    refine FL_on rfl rfl ?_
                    refine FL_val (Gives.eql rfl rfl) rfl ?_
                    refine FL_on rfl rfl ?_
                    refine FL_pickT (h := ?_)
                    refine FL_on rfl rfl ?_
                    refine FL_pickF (h := ?_)
                    refine FL_pickT (h := ?_)
                    refine FL_move (h := ?_)
                    first | refine FL_splitP (t := 90) rfl (fun hs376 => ?_) (fun hs376 => ?_) | refine FL_split (t := 90) rfl (fun hs376 => ?_) (fun hs376 => ?_)
                    · skip
                      refine FL_on rfl rfl ?_
                      refine FL_move (h := ?_)
                      refine FL_on rfl rfl ?_
                      refine FL_callT H58 At1 (fun F' hp _ => opened_ok (by rw [hopen2]) hp) rfl rfl (fun s3 w379 _ H379 => ?_)
                      rw [hopen2] at H379
                      dsimp only at H379
                      refine FL_on rfl rfl ?_
                      refine FL_move (h := ?_)
                      refine FL_on rfl rfl ?_
                      refine FL_move (h := ?_)
                      refine FL_on rfl rfl ?_
                      refine FL_call1R H379.front5 At1 (fun F' hp hrr hoff => keeps_ok' (n := (n : Int)) hset2.boot.ok hrr hoff hp) (h := fun w383 H383 => ?_)
                      rw [(hset2.boot.keeps rfl).1]
                      refine FL_pickT (h := ?_)
                      refine FL_move (h := ?_)
                      first | refine FL_splitP (t := 97) rfl (fun hs386 => ?_) (fun hs386 => ?_) | refine FL_split (t := 97) rfl (fun hs386 => ?_) (fun hs386 => ?_)
                      · skip
                        refine FL_on rfl rfl ?_
                        refine FL_callQ H383 worksS_ok (h := fun w388 H388 _ => ?_)
                        refine FL_pickT (h := ?_)
                        refine FL_assign (h := ?_)
                        refine FL_nil (Qseq_normal ?_)
                        refine FW_ret (Qfn_ret (hR := ?_))
                        first
                          | exact ⟨rfl, H388.kept⟩
                          | (exfalso; omega)
                      · skip
                        first | exact absurd rfl hs386 | exact (hs386 trivial).elim | exact absurd hs386 (by decide) | exact absurd hs386 (by simp) | omega --done
                    · skip
                      omega --done
                  · skip
                    have h30 := hs368
                    refine FL_off rfl rfl rfl ?_
                    refine FL_off rfl rfl rfl ?_
                    refine FL_on rfl rfl ?_
                    refine FL_pickF (h := ?_)
                    refine FL_on rfl rfl ?_
                    refine FL_pickF (h := ?_)
                    refine FL_pickT (h := ?_)
                    refine FL_move (h := ?_)
                    refine FL_off rfl rfl rfl ?_
                    refine FL_off rfl rfl rfl ?_
                    refine FL_off rfl rfl rfl ?_
                    refine FL_off rfl rfl rfl ?_
                    refine FL_off rfl rfl rfl ?_
                    refine FL_pickF (h := ?_)
                    refine FL_move (h := ?_)
                    refine FL_off rfl rfl rfl ?_
                    refine FL_pickF (h := ?_)
                    refine FL_assign (h := ?_)
                    refine FL_nil (Qseq_normal ?_)
                    refine FW_ret (Qfn_ret (hR := ?_))
                    first
                      | exact ⟨rfl, H58.kept⟩
                      | (exfalso; omega)
                · skip
                  have h25 := hs361
                  refine FL_off rfl rfl rfl ?_
                  refine FL_off rfl rfl rfl ?_
                  refine FL_off rfl rfl rfl ?_
                  refine FL_on rfl rfl ?_
                  refine FL_pickF (h := ?_)
                  refine FL_on rfl rfl ?_
                  refine FL_move (h := ?_)
                  refine FL_off rfl rfl rfl ?_
                  refine FL_off rfl rfl rfl ?_
                  refine FL_on rfl rfl ?_
                  refine FL_pickF (h := ?_)
                  refine FL_on rfl rfl ?_
                  refine FL_pickF (h := ?_)
                  refine FL_pickT (h := ?_)
                  refine FL_move (h := ?_)
                  refine FL_off rfl rfl rfl ?_
                  refine FL_off rfl rfl rfl ?_
                  refine FL_off rfl rfl rfl ?_
                  refine FL_off rfl rfl rfl ?_
                  refine FL_off rfl rfl rfl ?_
                  refine FL_pickF (h := ?_)
                  refine FL_move (h := ?_)
                  refine FL_off rfl rfl rfl ?_
                  refine FL_pickF (h := ?_)
                  refine FL_assign (h := ?_)
                  refine FL_nil (Qseq_normal ?_)
                  refine FW_ret (Qfn_ret (hR := ?_))
                  first
                    | exact ⟨rfl, H58.kept⟩
                    | (exfalso; omega)
          · skip
            have h5 := hs71
            refine FL_off rfl rfl rfl ?_
            refine FL_off rfl rfl rfl ?_
            refine FL_off rfl rfl rfl ?_
            refine FL_offU rfl rfl rfl ?_
            refine FL_offU rfl rfl rfl ?_
            refine FL_offU rfl rfl rfl ?_
            refine FL_off rfl rfl rfl ?_
            refine FL_on rfl rfl ?_
            refine FL_pickF (h := ?_)
            refine FL_on rfl rfl ?_
            refine FL_move (h := ?_)
            refine FL_on rfl rfl ?_
            refine FL_move (h := ?_)
            refine FL_on rfl rfl ?_
            refine FL_val (Gives.eql rfl rfl) rfl ?_
            refine FL_on rfl rfl ?_
            refine FL_move (h := ?_)
            first | refine FL_splitP (t := 71) rfl (fun hs422 => ?_) (fun hs422 => ?_) | refine FL_split (t := 71) rfl (fun hs422 => ?_) (fun hs422 => ?_)
            · skip
              have h17 := hs422
              refine FL_on rfl rfl ?_
              refine FL_move (h := ?_)
              refine FL_on rfl rfl ?_
              refine FL_val (Gives.eql rfl rfl) rfl ?_
              refine FL_on rfl rfl ?_
              refine FL_pickT (h := ?_)
              refine FL_on rfl rfl ?_
              refine FL_pickF (h := ?_)
              refine FL_on rfl rfl ?_
              refine FL_move (h := ?_)
              first | refine FL_splitP (t := 76) rfl (fun hs429 => ?_) (fun hs429 => ?_) | refine FL_split (t := 76) rfl (fun hs429 => ?_) (fun hs429 => ?_)
              · skip
                have h22 := hs429
                refine FL_off rfl rfl rfl ?_
                refine FL_off rfl rfl rfl ?_
                refine FL_off rfl rfl rfl ?_
                refine FL_offU rfl rfl rfl ?_
                refine FL_offU rfl rfl rfl ?_
                refine FL_offU rfl rfl rfl ?_
                refine FL_off rfl rfl rfl ?_
                refine FL_off rfl rfl rfl ?_
                refine FL_offU rfl rfl rfl ?_
                refine FL_offU rfl rfl rfl ?_
                refine FL_off rfl rfl rfl ?_
                refine FL_on rfl rfl ?_
                refine FL_pickT (h := ?_)
                refine FL_pickT (h := ?_)
                refine FL_move (h := ?_)
                refine FL_on rfl rfl ?_
                refine FL_move (h := ?_)
                refine FL_on rfl rfl ?_
                refine FL_callT H58 At1 (fun F' hp _ => opened_ok (by rw [hopen2]) hp) rfl rfl (fun s3 w436 _ H436 => ?_)
                rw [hopen2] at H436
                dsimp only at H436
                refine FL_on rfl rfl ?_
                refine FL_move (h := ?_)
                refine FL_on rfl rfl ?_
                refine FL_move (h := ?_)
                refine FL_on rfl rfl ?_
                refine FL_call1R H436.front5 At1 (fun F' hp hrr hoff => keeps_ok' (n := (n : Int)) hset2.boot.ok hrr hoff hp) (h := fun w440 H440 => ?_)
                rw [(hset2.boot.keeps rfl).1]
                refine FL_pickT (h := ?_)
                refine FL_move (h := ?_)
                first | refine FL_splitP (t := 97) rfl (fun hs443 => ?_) (fun hs443 => ?_) | refine FL_split (t := 97) rfl (fun hs443 => ?_) (fun hs443 => ?_)
                · skip
                  refine FL_on rfl rfl ?_
                  refine FL_callQ H440 worksS_ok (h := fun w445 H445 _ => ?_)
                  refine FL_pickT (h := ?_)
                  refine FL_assign (h := ?_)
                  refine FL_nil (Qseq_normal ?_)
                  refine FW_ret (Qfn_ret (hR := ?_))
                  first
                    | exact ⟨rfl, H445.kept⟩
                    | (exfalso; omega)
                · skip
                  first | exact absurd rfl hs443 | exact (hs443 trivial).elim | exact absurd hs443 (by decide) | exact absurd hs443 (by simp) | omega --done
              · skip
                have h22 := hs429
                refine FL_on rfl rfl ?_
                refine FL_move (h := ?_)
                refine FL_on rfl rfl ?_
                refine FL_val (Gives.gtr rfl rfl) rfl ?_
                refine FL_on rfl rfl ?_
                refine FL_move (h := ?_)
                first | refine FL_splitP (t := 79) rfl (fun hs454 => ?_) (fun hs454 => ?_) | refine FL_split (t := 79) rfl (fun hs454 => ?_) (fun hs454 => ?_)
                · skip
                  have h25 := hs454
                  refine FL_on rfl rfl ?_
                  refine FL_move (h := ?_)
                  refine FL_on rfl rfl ?_
                  refine FL_val (Gives.lenSlice rfl) rfl ?_
                  refine FL_on rfl rfl ?_
                  refine FL_val (Gives.eql rfl rfl) rfl ?_
                  refine FL_on rfl rfl ?_
                  refine FL_pickT (h := ?_)
                  refine FL_on rfl rfl ?_
                  refine FL_move (h := ?_)
                  first | refine FL_splitP (t := 84) rfl (fun hs461 => ?_) (fun hs461 => ?_) | refine FL_split (t := 84) rfl (fun hs461 => ?_) (fun hs461 => ?_)
                  · skip
                    have h30 := hs461
                    refine FL_on rfl rfl ?_
                    refine FL_move (h := ?_)
                    refine FL_on rfl rfl ?_
                    refine FL_val (Gives.eql rfl rfl) rfl ?_
                    refine FL_on rfl rfl ?_
                    refine FL_pickT (h := ?_)
                    refine FL_on rfl rfl ?_
                    refine FL_pickF (h := ?_)
                    refine FL_pickT (h := ?_)
                    refine FL_move (h := ?_)
                    first | refine FL_splitP (t := 90) rfl (fun hs469 => ?_) (fun hs469 => ?_) | refine FL_split (t := 90) rfl (fun hs469 => ?_) (fun hs469 => ?_)
                    · skip
                      refine FL_on rfl rfl ?_
                      refine FL_move (h := ?_)
                      refine FL_on rfl rfl ?_
                      refine FL_callT H58 At1 (fun F' hp _ => opened_ok (by rw [hopen2]) hp) rfl rfl (fun s3 w472 _ H472 => ?_)
                      rw [hopen2] at H472
                      dsimp only at H472
                      refine FL_on rfl rfl ?_
                      refine FL_move (h := ?_)
                      refine FL_on rfl rfl ?_
                      refine FL_move (h := ?_)
                      refine FL_on rfl rfl ?_
                      refine FL_call1R H472.front5 At1 (fun F' hp hrr hoff => keeps_ok' (n := (n : Int)) hset2.boot.ok hrr hoff hp) (h := fun w476 H476 => ?_)
                      rw [(hset2.boot.keeps rfl).1]
                      refine FL_pickT (h := ?_)
                      refine FL_move (h := ?_)
                      first | refine FL_splitP (t := 97) rfl (fun hs479 => ?_) (fun hs479 => ?_) | refine FL_split (t := 97) rfl (fun hs479 => ?_) (fun hs479 => ?_)
                      · skip
                        refine FL_on rfl rfl ?_
                        refine FL_callQ H476 worksS_ok (h := fun w481 H481 _ => ?_)
                        refine FL_pickT (h := ?_)
                        refine FL_assign (h := ?_)
                        refine FL_nil (Qseq_normal ?_)
                        refine FW_ret (Qfn_ret (hR := ?_))
                        first
                          | exact ⟨rfl, H481.kept⟩
                          | (exfalso; omega)
                      · skip
                        first | exact absurd rfl hs479 | exact (hs479 trivial).elim | exact absurd hs479 (by decide) | exact absurd hs479 (by simp) | omega --done
                    · skip
                      omega --done
                  · skip
                    have h30 := hs461
                    refine FL_off rfl rfl rfl ?_
                    refine FL_off rfl rfl rfl ?_
                    refine FL_on rfl rfl ?_
                    refine FL_pickF (h := ?_)
                    refine FL_on rfl rfl ?_
                    refine FL_pickF (h := ?_)
                    refine FL_pickT (h := ?_)
                    refine FL_move (h := ?_)
                    refine FL_off rfl rfl rfl ?_
                    refine FL_off rfl rfl rfl ?_
                    refine FL_off rfl rfl rfl ?_
                    refine FL_off rfl rfl rfl ?_
                    refine FL_off rfl rfl rfl ?_
                    refine FL_pickF (h := ?_)
                    refine FL_move (h := ?_)
                    refine FL_off rfl rfl rfl ?_
                    refine FL_pickF (h := ?_)
                    refine FL_assign (h := ?_)
                    refine FL_nil (Qseq_normal ?_)
                    refine FW_ret (Qfn_ret (hR := ?_))
                    first
                      | exact ⟨rfl, H58.kept⟩
                      | (exfalso; omega)
                · skip
                  have h25 := hs454
                  refine FL_off rfl rfl rfl ?_
                  refine FL_off rfl rfl rfl ?_
                  refine FL_off rfl rfl rfl ?_
                  refine FL_on rfl rfl ?_
                  refine FL_pickF (h := ?_)
                  refine FL_on rfl rfl ?_
                  refine FL_move (h := ?_)
                  refine FL_off rfl rfl rfl ?_
                  refine FL_off rfl rfl rfl ?_
                  refine FL_on rfl rfl ?_
                  refine FL_pickF (h := ?_)
                  refine FL_on rfl rfl ?_
                  refine FL_pickF (h := ?_)
                  refine FL_pickT (h := ?_)
                  refine FL_move (h := ?_)
                  refine FL_off rfl rfl rfl ?_
                  refine FL_off rfl rfl rfl ?_
                  refine FL_off rfl rfl rfl ?_
                  refine FL_off rfl rfl rfl ?_
                  refine FL_off rfl rfl rfl ?_
                  refine FL_pickF (h := ?_)
                  refine FL_move (h := ?_)
                  refine FL_off rfl rfl rfl ?_
                  refine FL_pickF (h := ?_)
                  refine FL_assign (h := ?_)
                  refine FL_nil (Qseq_normal ?_)
                  refine FW_ret (Qfn_ret (hR := ?_))
                  first
                    | exact ⟨rfl, H58.kept⟩
                    | (exfalso; omega)
            · skip
              have h17 := hs422
              refine FL_off rfl rfl rfl ?_
              refine FL_off rfl rfl rfl ?_
              refine FL_on rfl rfl ?_
              refine FL_pickF (h := ?_)
              refine FL_on rfl rfl ?_
              refine FL_pickF (h := ?_)
              refine FL_on rfl rfl ?_
              refine FL_move (h := ?_)
              refine FL_on rfl rfl ?_
              refine FL_move (h := ?_)
              refine FL_on rfl rfl ?_
              refine FL_val (Gives.gtr rfl rfl) rfl ?_
              refine FL_on rfl rfl ?_
              refine FL_move (h := ?_)
              first | refine FL_splitP (t := 79) rfl (fun hs516 => ?_) (fun hs516 => ?_) | refine FL_split (t := 79) rfl (fun hs516 => ?_) (fun hs516 => ?_)
              · skip
                have h25 := hs516
                refine FL_on rfl rfl ?_
                refine FL_move (h := ?_)
                refine FL_on rfl rfl ?_
                refine FL_val (Gives.lenSlice rfl) rfl ?_
                refine FL_on rfl rfl ?_
                refine FL_val (Gives.eql rfl rfl) rfl ?_
                refine FL_on rfl rfl ?_
                refine FL_pickT (h := ?_)
                refine FL_on rfl rfl ?_
                refine FL_move (h := ?_)
                first | refine FL_splitP (t := 84) rfl (fun hs523 => ?_) (fun hs523 => ?_) | refine FL_split (t := 84) rfl (fun hs523 => ?_) (fun hs523 => ?_)
                · skip
                  have h30 := hs523
                  refine FL_on rfl rfl ?_
                  refine FL_move (h := ?_)
                  refine FL_on rfl rfl ?_
                  refine FL_val (Gives.eql rfl rfl) rfl ?_
                  refine FL_on rfl rfl ?_
                  refine FL_pickT (h := ?_)
                  refine FL_on rfl rfl ?_
                  refine FL_pickF (h := ?_)
                  refine FL_pickT (h := ?_)
                  refine FL_move (h := ?_)
                  first | refine FL_splitP (t := 90) rfl (fun hs531 => ?_) (fun hs531 => ?_) | refine FL_split (t := 90) rfl (fun hs531 => ?_) (fun hs531 => ?_)
                  · skip
                    refine FL_on rfl rfl ?_
                    refine FL_move (h := ?_)
                    refine FL_on rfl rfl ?_
                    refine FL_callT H58 At1 (fun F' hp _ => opened_ok (by rw [hopen2]) hp) rfl rfl (fun s3 w534 _ H534 => ?_)
                    rw [hopen2] at H534
                    dsimp only at H534
                    refine FL_on rfl rfl ?_
                    refine FL_move (h := ?_)
                    refine FL_on rfl rfl ?_
                    refine FL_move (h := ?_)
                    refine FL_on rfl rfl ?_
                    refine FL_call1R H534.front5 At1 (fun F' hp hrr hoff => keeps_ok' (n := (n : Int)) hset2.boot.ok hrr hoff hp) (h := fun w538 H538 => ?_)
                    rw [(hset2.boot.keeps rfl).1]
                    refine FL_pickT (h := ?_)
                    refine FL_move (h := ?_)
                    first | refine FL_splitP (t := 97) rfl (fun hs541 => ?_) (fun hs541 => ?_) | refine FL_split (t := 97) rfl (fun hs541 => ?_) (fun hs541 => ?_)
                    · skip
                      refine FL_on rfl rfl ?_
                      refine FL_callQ H538 worksS_ok (h := fun w543 H543 _ => ?_)
                      refine FL_pickT (h := ?_)
                      refine FL_assign (h := ?_)
                      refine FL_nil (Qseq_normal ?_)
                      refine FW_ret (Qfn_ret (hR := ?_))
                      first
                        | exact ⟨rfl, H543.kept⟩
                        | (exfalso; omega)
                    · skip
                      first | exact absurd rfl hs541 | exact (hs541 trivial).elim | exact absurd hs541 (by decide) | exact absurd hs541 (by simp) | omega --done
                  · skip
                    omega --done
                · skip
                  have h30 := hs523
                  refine FL_off rfl rfl rfl ?_
                  refine FL_off rfl rfl rfl ?_
                  refine FL_on rfl rfl ?_
                  refine FL_pickF (h := ?_)
                  refine FL_on rfl rfl ?_
                  refine FL_pickF (h := ?_)
                  refine FL_pickT (h := ?_)
                  refine FL_move (h := ?_)
                  refine FL_off rfl rfl rfl ?_
                  refine FL_off rfl rfl rfl ?_
                  refine FL_off rfl rfl rfl ?_
                  refine FL_off rfl rfl rfl ?_
                  refine FL_off rfl rfl rfl ?_
                  refine FL_pickF (h := ?_)
                  refine FL_move (h := ?_)
                  refine FL_off rfl rfl rfl ?_
                  refine FL_pickF (h := ?_)
                  refine FL_assign (h := ?_)
                  refine FL_nil (Qseq_normal ?_)
                  refine FW_ret (Qfn_ret (hR := ?_))
                  first
                    | exact ⟨rfl, H58.kept⟩
                    | (exfalso; omega)
              · skip
                have h25 := hs516
                refine FL_off rfl rfl rfl ?_
                refine FL_off rfl rfl rfl ?_
                refine FL_off rfl rfl rfl ?_
                refine FL_on rfl rfl ?_
                refine FL_pickF (h := ?_)
                refine FL_on rfl rfl ?_
                refine FL_move (h := ?_)
                refine FL_off rfl rfl rfl ?_
                refine FL_off rfl rfl rfl ?_
                refine FL_on rfl rfl ?_
                refine FL_pickF (h := ?_)
                refine FL_on rfl rfl ?_
                refine FL_pickF (h := ?_)
                refine FL_pickT (h := ?_)
                refine FL_move (h := ?_)
                refine FL_off rfl rfl rfl ?_
                refine FL_off rfl rfl rfl ?_
                refine FL_off rfl rfl rfl ?_
                refine FL_off rfl rfl rfl ?_
                refine FL_off rfl rfl rfl ?_
                refine FL_pickF (h := ?_)
                refine FL_move (h := ?_)
                refine FL_off rfl rfl rfl ?_
                refine FL_pickF (h := ?_)
                refine FL_assign (h := ?_)
                refine FL_nil (Qseq_normal ?_)
                refine FW_ret (Qfn_ret (hR := ?_))
                first
                  | exact ⟨rfl, H58.kept⟩
                  | (exfalso; omega)
        · skip
          first | exact absurd rfl hs67 | exact (hs67 trivial).elim | exact absurd hs67 (by decide) | exact absurd hs67 (by simp) | omega --done
set_option maxHeartbeats 16000000 in
theorem slotsOps_ok {A : Option Addr} {ca : Nat} {l : List PutS} {X : PutS} (hl : ∀ x ∈ l, x.fit) (hr : RowAt w A l.length 2 (putsCells l)) (hX : X.fit) :
    Rets Try.prog 14 [.slice A l.length ca, .agg #[I X.from_, I X.many]] w fun v w' => v = .bool true ∧ Kept noB w w' := by
  have H := Sep.start0 w
  refine rets2 Try.func14 rfl rfl rfl rfl ?_
  refine FW_seq ?_
  refine FW_region ?_
  refine FL_box H (h := ?_)
  intro b3 w2 H2 _
  refine FL_assign (h := ?_)
  refine FL_nil (Qseq_normal ?_)
  refine FW_seq ?_
  refine FW_region ?_
  refine FL_move (h := ?_)
  refine FL_callN H2 (saved_ok hl (hr.keepS H2.kept fun _ _ _ => id)) rfl rfl (fun x w6 hx H0 _ => ?_)
  obtain ⟨p, s, v, d, c, n⟩ := x
  obtain ⟨⟨hS, hcl, hn8⟩, _⟩ := hx
  dsimp only at hS hcl hn8
  have H6 : Sep w noB (rowH 5 1 v c.length (c.map B) :: star (slotH s p ⟨n, c.length, false⟩) (diskH p d) :: [_]) w6 := Sep.star0 H0
  refine FL_move (h := ?_)
  refine FL_val (Gives.extract rfl rfl) rfl ?_
  refine FL_val (Gives.extract rfl rfl) rfl ?_
  refine FL_val (Gives.extract rfl rfl) rfl ?_
  refine FL_val (Gives.extract rfl rfl) rfl ?_
  refine FL_assign (h := ?_)
  refine FL_assign (h := ?_)
  refine FL_assign (h := ?_)
  refine FL_assign (h := ?_)
  refine FL_nil (Qseq_normal ?_)
  refine FW_seq ?_
  refine FW_seq ?_
  refine FW_region ?_
  refine FL_move (h := ?_)
  refine FL_val (Gives.eqlNil rfl rfl) rfl ?_
  refine FL_nil (Qseq_normal ?_)
  first | refine FW_condP rfl (fun hc18 => ?_) (fun hc18 => ?_) | refine FW_cond rfl (fun hc18 => ?_) (fun hc18 => ?_)
  · skip
    first | exact absurd rfl hc18 | exact (hc18 trivial).elim | exact absurd hc18 (by decide) | exact absurd hc18 (by simp) | omega --done
  · skip
    refine FW_skip (Qseq_normal ?_)
    refine FW_seq ?_
    refine FW_region ?_
    refine FL_move (h := ?_)
    refine FL_callQ H6 (ops_at (H6.front1.star0) At1 rfl) (h := fun w22 H22 _ => ?_)
    refine FL_assign (h := ?_)
    refine FL_nil (Qseq_normal ?_)
    refine FW_seq ?_
    refine FW_region ?_
    refine FL_loadN H22 (us := [I X.from_, I X.many]) (hat := At2) (hu := rfl) (hk := rfl) (h := ?_)
    refine FL_callN H22 (putBytes_ok X hX (most := 769) (by decide)) rfl rfl (fun y w26 _ H26 _ => ?_)
    obtain ⟨Ab, cb, hvb, hcb, _⟩ := Sep.rowForm H26 At0
    subst hvb
    obtain ⟨b, hb⟩ : ∃ b, b = putS X ((769 : Nat) : Int) := ⟨_, rfl⟩
    have hbl : (b.length : Int) ≤ 769 := by rw [hb]; exact putS_length X (most := 769)
    rw [← hb] at H26 hcb ⊢
    refine FL_assign (h := ?_)
    refine FL_nil (Qseq_normal ?_)
    refine FW_seq ?_
    refine FW_region ?_
    refine FL_move (h := ?_)
    refine FL_move (h := ?_)
    obtain ⟨y, hy⟩ : ∃ y, save ⟨n, c.length, false⟩ d b = y := ⟨_, rfl⟩
    have hroom : room d = 768 := by unfold room; rw [hS.set.half]; decide
    have hyA : 768 < (b.length : Int) → y = (5, ⟨n, c.length, false⟩, d) := by
      intro h
      rw [← hy]
      unfold save
      rw [if_neg (by simp), if_pos (.inl (by rw [hroom]; exact h))]
    have H5 := H26.front2
    refine FL_call1R H5.front1 At0 (fun F' hp hrr hoff => saveS_ok (b := b) hS.set.ok (hS.small.mono (by decide)) hcb hrr hoff hp) (h := fun w31 H0 => ?_)
    rw [hy] at H0 ⊢
    have H31 := H0.front1.star0
    refine FL_assign (h := ?_)
    refine FL_nil (Qseq_normal ?_)
    refine FW_seq ?_
    refine FW_region ?_
    refine FL_move (h := ?_)
    refine FL_val (Gives.lenSlice rfl) rfl ?_
    refine FL_val (Gives.addI rfl rfl rfl (by omega)) rfl ?_
    have hnb : (nch b : Int) ≤ 7 := by unfold nch; omega
    refine FL_val (Gives.quo rfl rfl (by decide)) rfl ?_
    rw [show IntKind.i64.wrap (((b.length : Int) + 127).tdiv 128) = (nch b : Int) by
      rw [Int.tdiv_eq_ediv_of_nonneg (by omega)]
      unfold nch
      rw [IntWalk.i64_in _ (by omega)]
      omega]
    first | refine FL_val (Gives.addI rfl rfl rfl (by omega)) rfl ?_ | refine FL_val (Gives.add rfl rfl) rfl ?_
    refine FL_assign (h := ?_)
    refine FL_nil (Qseq_normal ?_)
    refine FW_seq ?_
    refine FW_seq ?_
    refine FW_region ?_
    refine FL_move (h := ?_)
    refine FL_val (Gives.lenSlice rfl) rfl ?_
    refine FL_val (Gives.gtr rfl rfl) rfl ?_
    refine FL_nil (Qseq_normal ?_)
    first | refine FW_condP rfl (fun hc42 => ?_) (fun hc42 => ?_) | refine FW_cond rfl (fun hc42 => ?_) (fun hc42 => ?_)
    · skip
      have hy5 := hyA (by omega)
      subst hy5
      refine FW_seq ?_
      refine FW_region ?_
      refine FL_move (h := ?_)
      refine FL_val (Gives.eql rfl rfl) rfl ?_
      refine FL_move (h := ?_)
      first | refine FL_splitP (t := 41) rfl (fun hs47 => ?_) (fun hs47 => ?_) | refine FL_split (t := 41) rfl (fun hs47 => ?_) (fun hs47 => ?_)
      · skip
        refine FL_on rfl rfl ?_
        refine FL_move (h := ?_)
        refine FL_on rfl rfl ?_
        refine FL_callQ H31 (ops_at H31 At1 rfl) (h := fun w50 H50 _ => ?_)
        refine FL_on rfl rfl ?_
        refine FL_move (h := ?_)
        refine FL_on rfl rfl ?_
        refine FL_val (Gives.eql rfl rfl) rfl ?_
        refine FL_pickT (h := ?_)
        refine FL_move (h := ?_)
        first | refine FL_splitP (t := 47) rfl (fun hs55 => ?_) (fun hs55 => ?_) | refine FL_split (t := 47) rfl (fun hs55 => ?_) (fun hs55 => ?_)
        · skip
          refine FL_on rfl rfl ?_
          refine FL_move (h := ?_)
          refine FL_on rfl rfl ?_
          refine FL_callS (number_at H50 At0) (h := ?_)
          refine FL_on rfl rfl ?_
          refine FL_move (h := ?_)
          refine FL_on rfl rfl ?_
          refine FL_val (Gives.eql rfl rfl) rfl ?_
          refine FL_pickT (h := ?_)
          refine FL_move (h := ?_)
          first | refine FL_splitP (t := 53) rfl (fun hs62 => ?_) (fun hs62 => ?_) | refine FL_split (t := 53) rfl (fun hs62 => ?_) (fun hs62 => ?_)
          · skip
            refine FL_on rfl rfl ?_
            refine FL_callQ H50 worksS_ok (h := fun w64 H64 _ => ?_)
            refine FL_pickT (h := ?_)
            refine FL_assign (h := ?_)
            refine FL_nil (Qseq_normal ?_)
            refine FW_ret (Qseq_ret (Qfn_ret (hR := ?_)))
            exact ⟨rfl, H64.kept⟩
          · skip
            first | exact absurd rfl hs62 | exact (hs62 trivial).elim | exact absurd hs62 (by decide) | exact absurd hs62 (by simp) | omega --done
        · skip
          first | exact absurd rfl hs55 | exact (hs55 trivial).elim | exact absurd hs55 (by decide) | exact absurd hs55 (by simp) | omega --done
      · skip
        first | exact absurd rfl hs47 | exact (hs47 trivial).elim | exact absurd hs47 (by decide) | exact absurd hs47 (by simp) | omega --done
    · skip
      obtain ⟨hy0, hy1, hS2, hops, _⟩ := hS.save (by omega) (by omega) hy
      have hopen := hS2.set.boot.open rfl
      have hsm := hS2.small
      have hsm1 := hS.small
      refine FW_skip (Qseq_normal ?_)
      refine FW_seq ?_
      refine FW_region ?_
      refine FL_move (h := ?_)
      refine FL_callQ H31 (ops_at H31 At1 rfl) (h := fun w74 H74 _ => ?_)
      refine FL_move (h := ?_)
      refine FL_val (Gives.subI rfl rfl rfl (by have := hsm.2.2; have := hsm1.2.2; omega)) rfl ?_
      refine FL_assign (h := ?_)
      refine FL_nil (Qseq_normal ?_)
      refine FW_seq ?_
      refine FW_region ?_
      refine FL_move (h := ?_)
      rw [hy1] at H74
      refine FL_callT H74.join0 At0 (fun F' hp _ => loadS_ok hS2.set.ok hp) rfl rfl (fun z w80 _ H0 => ?_)
      have H80 := (H0.star0).front1.star0
      refine FL_nil (Qseq_normal ?_)
      refine FW_seq ?_
      refine FW_region ?_
      refine FL_move (h := ?_)
      refine FL_callT H80 At1 (fun F' hp _ => opened_ok (by rw [hopen]) hp) rfl rfl (fun s2 w83 _ H83 => ?_)
      rw [hopen] at H83
      dsimp only at H83
      refine FL_assign (h := ?_)
      refine FL_nil (Qseq_normal ?_)
      refine FW_seq ?_
      refine FW_region ?_
      refine FL_move (h := ?_)
      refine FL_val (Gives.eql rfl rfl) rfl ?_
      refine FL_move (h := ?_)
      first | refine FL_splitP (t := 66) rfl (fun hs88 => ?_) (fun hs88 => ?_) | refine FL_split (t := 66) rfl (fun hs88 => ?_) (fun hs88 => ?_)
      · skip
        refine FL_on rfl rfl ?_
        refine FL_move (h := ?_)
        refine FL_on rfl rfl ?_
        refine FL_move (h := ?_)
        refine FL_on rfl rfl ?_
        refine FL_val (Gives.eql rfl rfl) rfl ?_
        refine FL_pickT (h := ?_)
        refine FL_move (h := ?_)
        first | refine FL_splitP (t := 71) rfl (fun hs94 => ?_) (fun hs94 => ?_) | refine FL_split (t := 71) rfl (fun hs94 => ?_) (fun hs94 => ?_)
        · skip
          refine FL_on rfl rfl ?_
          refine FL_move (h := ?_)
          refine FL_on rfl rfl ?_
          refine FL_callQ H83 (ops_at (H83.front1.star0) At1 (k := y.2.2.ops) rfl) (h := fun w97 H97 _ => ?_)
          refine FL_on rfl rfl ?_
          refine FL_move (h := ?_)
          refine FL_on rfl rfl ?_
          refine FL_move (h := ?_)
          refine FL_on rfl rfl ?_
          refine FL_val (Gives.addI rfl rfl rfl (by have := hsm1.2.2; omega)) rfl ?_
          refine FL_on rfl rfl ?_
          refine FL_val (Gives.eql rfl rfl) rfl ?_
          refine FL_pickT (h := ?_)
          refine FL_move (h := ?_)
          first | refine FL_splitP (t := 79) rfl (fun hs104 => ?_) (fun hs104 => ?_) | refine FL_split (t := 79) rfl (fun hs104 => ?_) (fun hs104 => ?_)
          · skip
            refine FL_on rfl rfl ?_
            refine FL_move (h := ?_)
            refine FL_on rfl rfl ?_
            refine FL_move (h := ?_)
            refine FL_on rfl rfl ?_
            refine FL_move (h := ?_)
            refine FL_on rfl rfl ?_
            first | refine FL_val (Gives.addI rfl rfl rfl (by omega)) rfl ?_ | refine FL_val (Gives.add rfl rfl) rfl ?_
            refine FL_on rfl rfl ?_
            refine FL_call1R H97.front3 At1 (fun F' hp hrr hoff => keeps_ok' (n := (n : Int) + 1) hS2.set.boot.ok hrr hoff hp) (h := fun w110 H110 => ?_)
            rw [(hS2.set.boot.keeps rfl).1]
            refine FL_pickT (h := ?_)
            refine FL_move (h := ?_)
            first | refine FL_splitP (t := 86) rfl (fun hs113 => ?_) (fun hs113 => ?_) | refine FL_split (t := 86) rfl (fun hs113 => ?_) (fun hs113 => ?_)
            · skip
              refine FL_on rfl rfl ?_
              refine FL_callQ H110 worksS_ok (h := fun w115 H115 _ => ?_)
              refine FL_pickT (h := ?_)
              refine FL_assign (h := ?_)
              refine FL_nil (Qseq_normal ?_)
              refine FW_ret (Qfn_ret (hR := ?_))
              exact ⟨rfl, H115.kept⟩
            · skip
              first | exact absurd rfl hs113 | exact (hs113 trivial).elim | exact absurd hs113 (by decide) | exact absurd hs113 (by simp) | omega --done
          · skip
            (exfalso; omega) --done
        · skip
          (exfalso; omega) --done
      · skip
        exact absurd hy0 hs88 --done
set_option maxHeartbeats 16000000 in
theorem slotsOther_ok {A : Option Addr} {ca : Nat} {l : List PutS} {X : PutS} (hl : ∀ x ∈ l, x.fit) (hr : RowAt w A l.length 2 (putsCells l)) (hX : X.fit) :
    Rets Try.prog 11 [.slice A l.length ca, .agg #[I X.from_, I X.many]] w fun v w' => v = .bool true ∧ Kept noB w w' := by
  have H := Sep.start0 w
  refine rets2 Try.func11 rfl rfl rfl rfl ?_
  refine FW_seq ?_
  refine FW_region ?_
  refine FL_box H (h := ?_)
  intro b3 w2 H2 _
  refine FL_assign (h := ?_)
  refine FL_nil (Qseq_normal ?_)
  refine FW_seq ?_
  refine FW_region ?_
  refine FL_move (h := ?_)
  refine FL_callN H2 (saved_ok hl (hr.keepS H2.kept fun _ _ _ => id)) rfl rfl (fun x w6 hx H0 _ => ?_)
  obtain ⟨p, s, v, d, c, n⟩ := x
  obtain ⟨⟨hS, hcl, hn8⟩, _⟩ := hx
  dsimp only at hS hcl hn8
  have H6 : Sep w noB (rowH 5 1 v c.length (c.map B) :: star (slotH s p ⟨n, c.length, false⟩) (diskH p d) :: [_]) w6 := Sep.star0 H0
  obtain ⟨Ac, cc, hvc, hcc, _⟩ := Sep.rowForm H6 At0
  subst hvc
  refine FL_move (h := ?_)
  refine FL_val (Gives.extract rfl rfl) rfl ?_
  refine FL_val (Gives.extract rfl rfl) rfl ?_
  refine FL_val (Gives.extract rfl rfl) rfl ?_
  refine FL_val (Gives.extract rfl rfl) rfl ?_
  refine FL_assign (h := ?_)
  refine FL_assign (h := ?_)
  refine FL_assign (h := ?_)
  refine FL_assign (h := ?_)
  refine FL_nil (Qseq_normal ?_)
  refine FW_seq ?_
  refine FW_seq ?_
  refine FW_region ?_
  refine FL_move (h := ?_)
  refine FL_val (Gives.eqlNil rfl rfl) rfl ?_
  refine FL_move (h := ?_)
  first | refine FL_splitP (t := 23) rfl (fun hs19 => ?_) (fun hs19 => ?_) | refine FL_split (t := 23) rfl (fun hs19 => ?_) (fun hs19 => ?_)
  · skip
    first | exact absurd rfl hs19 | exact (hs19 trivial).elim | exact absurd hs19 (by decide) | exact absurd hs19 (by simp) | omega --done
  · skip
    refine FL_on rfl rfl ?_
    refine FL_move (h := ?_)
    refine FL_on rfl rfl ?_
    refine FL_val (Gives.eql rfl rfl) rfl ?_
    refine FL_pickF (h := ?_)
    refine FL_move (h := ?_)
    first | refine FL_splitP (t := 27) rfl (fun hs25 => ?_) (fun hs25 => ?_) | refine FL_split (t := 27) rfl (fun hs25 => ?_) (fun hs25 => ?_)
    · skip
      refine FL_off rfl rfl rfl ?_
      refine FL_off rfl rfl rfl ?_
      refine FL_off rfl rfl rfl ?_
      refine FL_pickT (h := ?_)
      refine FL_nil (Qseq_normal ?_)
      refine FW_cond_true rfl ?_
      refine FW_seq ?_
      refine FW_region ?_
      refine FL_move (h := ?_)
      refine FL_val (Gives.neqNil rfl rfl) rfl ?_
      refine FL_move (h := ?_)
      first | refine FL_splitP (t := 34) rfl (fun hs30 => ?_) (fun hs30 => ?_) | refine FL_split (t := 34) rfl (fun hs30 => ?_) (fun hs30 => ?_)
      · skip
        refine FL_off rfl rfl rfl ?_
        refine FL_off rfl rfl rfl ?_
        refine FL_off rfl rfl rfl ?_
        refine FL_pickT (h := ?_)
        refine FL_move (h := ?_)
        refine FL_on rfl rfl ?_
        refine FL_callQ H6 worksS_ok (h := fun w34 H34 _ => ?_)
        refine FL_pickT (h := ?_)
        refine FL_assign (h := ?_)
        refine FL_nil (Qseq_normal ?_)
        refine FW_ret (Qseq_ret (Qfn_ret (hR := ?_)))
        exact ⟨rfl, H34.kept⟩
      · skip
        first | exact absurd rfl hs30 | exact (hs30 trivial).elim | exact absurd hs30 (by decide) | exact absurd hs30 (by simp) | omega --done
    · skip
      refine FL_on rfl rfl ?_
      refine FL_move (h := ?_)
      refine FL_on rfl rfl ?_
      refine FL_val (Gives.lenSlice rfl) rfl ?_
      refine FL_on rfl rfl ?_
      refine FL_val (Gives.eql rfl rfl) rfl ?_
      refine FL_pickF (h := ?_)
      refine FL_nil (Qseq_normal ?_)
      first | refine FW_condP rfl (fun hc43 => ?_) (fun hc43 => ?_) | refine FW_cond rfl (fun hc43 => ?_) (fun hc43 => ?_)
      · skip
        refine FW_seq ?_
        refine FW_region ?_
        refine FL_move (h := ?_)
        refine FL_val (Gives.neqNil rfl rfl) rfl ?_
        refine FL_move (h := ?_)
        first | refine FL_splitP (t := 34) rfl (fun hs47 => ?_) (fun hs47 => ?_) | refine FL_split (t := 34) rfl (fun hs47 => ?_) (fun hs47 => ?_)
        · skip
          refine FL_off rfl rfl rfl ?_
          refine FL_off rfl rfl rfl ?_
          refine FL_off rfl rfl rfl ?_
          refine FL_pickT (h := ?_)
          refine FL_move (h := ?_)
          refine FL_on rfl rfl ?_
          refine FL_callQ H6 worksS_ok (h := fun w51 H51 _ => ?_)
          refine FL_pickT (h := ?_)
          refine FL_assign (h := ?_)
          refine FL_nil (Qseq_normal ?_)
          refine FW_ret (Qseq_ret (Qfn_ret (hR := ?_)))
          exact ⟨rfl, H51.kept⟩
        · skip
          first | exact absurd rfl hs47 | exact (hs47 trivial).elim | exact absurd hs47 (by decide) | exact absurd hs47 (by simp) | omega --done
      · skip
        refine FW_skip (Qseq_normal ?_)
        refine FW_seq ?_
        refine FW_seq ?_
        refine FW_region ?_
        refine FL_move (h := ?_)
        refine FL_loadN H6 (us := [I X.from_, I X.many]) (hat := At2) (hu := rfl) (hk := rfl) (h := ?_)
        refine FL_callN H6 (putBytes_ok X hX (most := 768) (by decide)) rfl rfl (fun y w59 _ H59 _ => ?_)
        obtain ⟨Ab, cb, hvb, hcb, _⟩ := Sep.rowForm H59 At0
        subst hvb
        obtain ⟨b, hb⟩ : ∃ b, b = putS X ((768 : Nat) : Int) := ⟨_, rfl⟩
        have hbl : (b.length : Int) ≤ 768 := by rw [hb]; exact putS_length X (most := 768)
        rw [← hb] at H59 hcb ⊢
        obtain ⟨y, hy⟩ : ∃ y, save ⟨n, c.length, false⟩ d b = y := ⟨_, rfl⟩
        obtain ⟨hy0, hy1, hS2, _, hnew⟩ := hS.save hbl (by omega) hy
        have H5 := H59.front2
        refine FL_call1R H5.front1 At0 (fun F' hp hrr hoff => saveS_ok (b := b) hS.set.ok (hS.small.mono (by decide)) hcb hrr hoff hp) (h := fun w61 H0 => ?_)
        rw [hy] at H0 ⊢
        have H61 := H0.front1.star0
        obtain ⟨e, he⟩ : ∃ e, e = y.2.2 := ⟨_, rfl⟩
        rw [← he] at H61 hS2 hnew
        have hnb : (nch b : Int) ≤ 6 := by unfold nch; omega
        have hnc : (nch c : Int) ≤ 6 := by unfold nch; omega
        have hcat : (secsFrom e (1 + (n : Int) % 2 * 6) 6).take c.length = c := by
          have h1 := secs_concat (d := e) (a := 1 + (n : Int) % 2 * 6) (b := c) hS2.set.wf (fun k hk => by
            rw [sec_tot, hS2.set.now]
            have h2 := hS.set.holds.data k hk
            unfold totS at h2 ⊢
            rw [hnew.same _ (by omega) (fun i hi => by omega), h2]) (nch c) (Nat.le_refl _)
          rw [List.take_of_length_le (l := c) (by unfold nch; omega)] at h1
          rw [secsFrom_prefix hS2.set.wf (j := nch c) (by unfold nch; omega) 6 (by omega), h1]
        refine FL_val (Gives.neq rfl rfl) rfl ?_
        refine FL_nil (Qseq_normal ?_)
        first | refine FW_condP rfl (fun hc63 => ?_) (fun hc63 => ?_) | refine FW_cond rfl (fun hc63 => ?_) (fun hc63 => ?_)
        · skip
          exact absurd hy0 hc63 --done
        · skip
          refine FW_skip (Qseq_normal ?_)
          refine FW_seq ?_
          refine FW_region ?_
          refine FL_move (h := ?_)
          refine FL_val (Gives.rem rfl rfl (by decide)) rfl ?_
          rw [show (n : Int).tmod 2 = (n : Int) % 2 from Int.tmod_eq_emod_of_nonneg (by omega)]
          refine FL_val (Gives.mulI rfl rfl rfl (by omega)) rfl ?_
          refine FL_val (Gives.addI rfl rfl rfl (by omega)) rfl ?_
          refine FL_assign (h := ?_)
          refine FL_nil (Qseq_normal ?_)
          refine FW_seq ?_
          refine FW_region ?_
          refine FL_assign (h := ?_)
          refine FL_nil (Qseq_normal ?_)
          refine FW_seq ?_
          refine FW_seq ?_
          refine FW_region ?_
          refine FL_assign (h := ?_)
          refine FL_nil (Qseq_normal ?_)
          refine FW_block ?_
          refine FW_loop' (fun x : Nat × Value => [(5, .pointer (some ⟨p, 0, none⟩)), (7, .slice Ac c.length cc), (9, I (1 + (n : Int) % 2 * 6)), (10, x.2), (11, I x.1)])
            (fun x w' => x.1 ≤ 6 ∧ Sep w noB [rowH 5 1 x.2 (128 * x.1) ((secsFrom e (1 + (n : Int) % 2 * 6) x.1).map B), diskH p e, rowH 5 1 (.slice Ac c.length cc) c.length (c.map B)] w') (fun x _ => 6 - x.1) (0, .slice none 0 0)
            ⟨rfl, rfl, rfl, rfl, rfl, trivial⟩ ⟨by decide, (show Sep w noB ([_, _, _] ++ [_, _, _]) _ from (H61.front3.front2.nilRow 5 1)).firsts⟩ (fun x τ w73 hI => ?_)
          obtain ⟨k, vo⟩ := x
          obtain ⟨hk, H73⟩ := hI
          dsimp only at hk H73
          obtain ⟨Ao, co, hvo, hco, _⟩ := Sep.rowForm H73 At0
          subst hvo
          try simp only [upds, like, upd_ds, und_ds]
          refine FW_seq ?_
          refine FW_seq ?_
          refine FW_region ?_
          refine FL_move (h := ?_)
          refine FL_val (Gives.lss rfl rfl) rfl ?_
          refine FL_nil (Qseq_normal ?_)
          first | refine FW_condP rfl (fun hc76 => ?_) (fun hc76 => ?_) | refine FW_cond rfl (fun hc76 => ?_) (fun hc76 => ?_)
          · skip
            have hlt : k < 6 := by omega
            refine FW_skip (Qseq_normal ?_)
            refine FW_seq ?_
            refine FW_block ?_
            refine FW_seq ?_
            refine FW_region ?_
            refine FL_move (h := ?_)
            refine FL_move (h := ?_)
            refine FL_move (h := ?_)
            refine FL_val (Gives.addI rfl rfl rfl (by omega)) rfl ?_
            have hin := read_in (d := e) hS2.alive (k := 1 + (n : Int) % 2 * 6 + k) (by omega) (by rw [hS2.set.size]; omega)
            refine FL_callN H73 (read_at H73 At1 (1 + (n : Int) % 2 * 6 + k)) rfl rfl (fun y w83 _ H83 _ => ?_)
            obtain ⟨Ay, cy, hy', _⟩ := Sep.rowForm H83 At0
            subst hy'
            rw [hin] at H83 ⊢
            have hsl := DM.sec_length hS2.set.wf (1 + (n : Int) % 2 * 6 + k)
            have hrl : ((some (e.sec (1 + (n : Int) % 2 * 6 + (k : Int))), (0 : Int)).1.getD []).length = 128 := hsl
            rw [hrl] at H83 ⊢
            refine FL_move (h := ?_)
            refine FL_val (Gives.extract rfl rfl) rfl ?_
            refine FL_val (Gives.extract rfl rfl) rfl ?_
            refine FL_assign (h := ?_)
            refine FL_assign (h := ?_)
            refine FL_nil (Qseq_normal ?_)
            refine FW_seq ?_
            refine FW_seq ?_
            refine FW_region ?_
            refine FL_move (h := ?_)
            refine FL_val (Gives.neq rfl rfl) rfl ?_
            refine FL_nil (Qseq_normal ?_)
            first | refine FW_condP rfl (fun hc91 => ?_) (fun hc91 => ?_) | refine FW_cond rfl (fun hc91 => ?_) (fun hc91 => ?_)
            · skip
              first | exact absurd rfl hc91 | exact (hc91 trivial).elim | exact absurd hc91 (by decide) | exact absurd hc91 (by simp) | omega --done
            · skip
              refine FW_skip (Qseq_normal ?_)
              refine FW_region ?_
              refine FL_move (h := ?_)
              refine FL_move (h := ?_)
              refine FL_append (t := 27) (e := 5) H83 (v := .slice Ao (128 * k) co) (k := 128 * k) (xs := (secsFrom e (1 + (n : Int) % 2 * 6) k).map B) (by exact rfl) (by exact rfl) At1 (H83.rowAt At0) (ones_B _) (h63 := by unfold maxLen; omega) (hbytes := by omega) (h := fun vv w96 H96 => ?_)
              refine FL_assign (h := ?_)
              refine FL_nil (Qblk_normal (Qseq_normal ?_))
              refine FW_region ?_
              refine FL_move (h := ?_)
              first | refine FL_val (Gives.addI rfl rfl rfl (by omega)) rfl ?_ | refine FL_val (Gives.add rfl rfl) rfl ?_
              refine FL_assign (h := ?_)
              refine FL_nil ?_
              have e1 : (secsFrom e (1 + (n : Int) % 2 * 6) k).map B ++ ((some (e.sec (1 + (n : Int) % 2 * 6 + (k : Int))), (0 : Int)).1.getD []).map B = (secsFrom e (1 + (n : Int) % 2 * 6) (k + 1)).map B := by rw [← List.map_append]; rfl
              rw [e1] at H96
              exact Qround_normal (k + 1, vv) ⟨rfl, rfl, rfl, rfl, rfl, trivial⟩ ⟨by dsimp only; omega, H96.drop0⟩ (by dsimp only; omega)
          · skip
            have hk6 : k = 6 := by omega
            subst hk6
            refine FW_exit (Qseq_exit (Qround_exit (Qblk_exit (Qseq_normal ?_))))
            refine FW_seq ?_
            refine FW_region ?_
            refine FL_move (h := ?_)
            refine FL_val (Gives.lenSlice rfl) rfl ?_
            refine FL_val (Gives.eql rfl rfl) rfl ?_
            refine FL_move (h := ?_)
            first | refine FL_splitP (t := 71) rfl (fun hs107 => ?_) (fun hs107 => ?_) | refine FL_split (t := 71) rfl (fun hs107 => ?_) (fun hs107 => ?_)
            · skip
              refine FL_on rfl rfl ?_
              refine FL_move (h := ?_)
              refine FL_on rfl rfl ?_
              refine FL_move (h := ?_)
              refine FL_on rfl rfl ?_
              refine FL_val (Gives.lenSlice rfl) rfl ?_
              refine FL_on rfl rfl ?_
              refine FL_val (Gives.sliceTo rfl rfl (by omega)) rfl ?_
              refine FL_on rfl rfl ?_
              refine FL_move (h := ?_)
              refine FL_on rfl rfl ?_
              have hrt : RowAt w73 Ao c.length 1 (((secsFrom e (1 + (n : Int) % 2 * 6) 6).take c.length).map B) := by
                have h1 := (H73.rowAt At0).take (k := c.length) (by omega)
                rwa [Nat.mul_one, ← List.map_take] at h1
              rw [hcat] at hrt
              refine FL_callS (eqSame hrt (H73.rowAt At2)) (h := ?_)
              refine FL_pickT (h := ?_)
              refine FL_move (h := ?_)
              first | refine FL_splitP (t := 79) rfl (fun hs116 => ?_) (fun hs116 => ?_) | refine FL_split (t := 79) rfl (fun hs116 => ?_) (fun hs116 => ?_)
              · skip
                refine FL_on rfl rfl ?_
                refine FL_callQ H73 worksS_ok (h := fun w118 H118 _ => ?_)
                refine FL_pickT (h := ?_)
                refine FL_assign (h := ?_)
                refine FL_nil (Qseq_normal ?_)
                refine FW_ret (Qfn_ret (hR := ?_))
                exact ⟨rfl, H118.kept⟩
              · skip
                first | exact absurd rfl hs116 | exact (hs116 trivial).elim | exact absurd hs116 (by decide) | exact absurd hs116 (by simp) | omega --done
            · skip
              first | exact absurd rfl hs107 | exact (hs107 trivial).elim | exact absurd hs107 (by decide) | exact absurd hs107 (by simp) | omega --done
end
end Go.Proofs.Yteflbohpabdjkaa
