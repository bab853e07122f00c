/-
  Load and Open, walked.
-/
import Derived.Test.YteflbohpabdjkaaSlotD
namespace Go.Proofs.Yteflbohpabdjkaa
open Go Go.Mw
set_option maxRecDepth 8000

theorem secsFrom_length {d : DM} (h : d.wf) (a : Int) : ∀ k, (secsFrom d a k).length = 128 * k
  | 0 => rfl
  | k + 1 => by
    unfold secsFrom
    rw [List.length_append, secsFrom_length h a k, DM.sec_length h]
    omega
theorem read_in {d : DM} (hd : d.dead = false) {k : Int} (h0 : 0 ≤ k) (h1 : k < d.size) : d.read k = (some (d.sec k), 0) := by
  unfold DM.read
  have : d.look k = 0 := look_lt hd h0 h1
  rw [if_neg (by rw [this]; decide)]
theorem read_dead {d : DM} (hd : d.dead = true) (k : Int) : d.read k = (none, 290) := by
  have : d.look k = 290 := by unfold DM.look; rw [if_pos hd]
  unfold DM.read
  rw [if_pos (by rw [this]; decide), this]
def openH (x : Option Nat) (p : Nat) (m : SM) : HP := match x with
  | some s => slotH s p m
  | none => emp
section
variable {p s : Nat} {d : DM} {m : SM} {F : Nat → Prop} {w w₀ : World} {S : Nat → Prop} {rs : List HP} {put : HP → List HP}
theorem loadS_ok (hm : m.ok d) (h : (star (slotH s p m) (diskH p d)).ok F w) :
    Rets Try.prog 53 [.pointer (some ⟨s, 0, none⟩)] w fun v w' => ∃ v0, v = .tuple #[v0, I (load m d).2.1] ∧ True ∧ Turn F (star (preH 5 v0 (load m d).1.length ((load m d).1.map B)) (star (slotH s p (load m d).2.2) (diskH p d))) w w' := by
  have H := (Sep.start1 h).star0
  have hwf : d.wf := by
    obtain ⟨_, hp, _⟩ := H.focus At1
    exact (diskH_blk hp).1
  have hh := half_bd hwf
  have hm0 := hm.many0
  have hm1 := hm.many
  unfold room at hm1
  obtain ⟨mn, hmn⟩ : ∃ mn : Nat, m.many = mn := ⟨m.many.toNat, by omega⟩
  obtain ⟨a, ha⟩ : ∃ a, a = area d m.n := ⟨_, rfl⟩
  have har : 1 ≤ a ∧ a ≤ 1 + half d := by
    rw [ha]
    unfold area
    rcases (show m.n % 2 = 0 ∨ m.n % 2 = 1 by omega) with h | h <;> rw [h] <;> omega
  have hsz : 2 * half d + 1 ≤ d.size := by unfold half; omega
  refine rets1 Try.func53 rfl rfl rfl rfl ?_
  refine FW_seq ?_
  refine FW_region ?_
  refine FL_assign (h := ?_)
  refine FL_assign (h := ?_)
  refine FL_nil (Qseq_normal ?_)
  refine FW_seq ?_
  refine FW_block ?_
  refine FW_seq ?_
  refine FW_region ?_
  refine FL_move (h := ?_)
  refine FL_callS (noneS_at H At0) (h := ?_)
  refine FL_assign (h := ?_)
  refine FL_nil (Qseq_normal ?_)
  first | refine FW_condP rfl (fun hc6 => ?_) (fun hc6 => ?_) | refine FW_cond rfl (fun hc6 => ?_) (fun hc6 => ?_)
  · skip
    first | exact absurd rfl hc6 | exact (hc6 trivial).elim | exact absurd hc6 (by decide) | exact absurd hc6 (by simp) | omega --done
  · skip
    refine FW_seq ?_
    refine FW_region ?_
    refine FL_move (h := ?_)
    refine FL_val (Gives.nilCheck rfl) rfl ?_
    first | refine FL_val (Gives.field0 rfl) rfl ?_ | refine FL_val (Gives.field rfl) rfl ?_ | refine FL_val (Gives.fieldA rfl) rfl ?_
    refine FL_load H (h := ?_)
    refine FL_assign (h := ?_)
    refine FL_nil (Qseq_normal ?_)
    first | refine FW_condP rfl (fun hc13 => ?_) (fun hc13 => ?_) | refine FW_cond rfl (fun hc13 => ?_) (fun hc13 => ?_)
    · skip
      have hbad : m.bad = true := hc13
      have hld : load m d = ([], 290, m) := by unfold load; rw [if_pos hbad]
      refine FW_seq ?_
      refine FW_region ?_
      refine FL_assign (h := ?_)
      refine FL_assign (h := ?_)
      refine FL_nil (Qseq_normal ?_)
      refine FW_ret (Qblk_ret (Qseq_ret (Qfn_ret (hR := ?_))))
      exact ⟨_, by rw [hld]; rfl, trivial, by rw [hld]; exact ((H.join0).preNil.join0).turn⟩
    · skip
      have hbad : ¬ m.bad = true := by simpa using hc13
      refine FW_seq ?_
      refine FW_region ?_
      refine FL_move (h := ?_)
      refine FL_val (Gives.nilCheck rfl) rfl ?_
      first | refine FL_val (Gives.field0 rfl) rfl ?_ | refine FL_val (Gives.field rfl) rfl ?_ | refine FL_val (Gives.fieldA rfl) rfl ?_
      refine FL_load H (h := ?_)
      refine FL_val (Gives.eql rfl rfl) rfl ?_
      refine FL_assign (h := ?_)
      refine FL_nil (Qseq_normal ?_)
      first | refine FW_condP rfl (fun hc25 => ?_) (fun hc25 => ?_) | refine FW_cond rfl (fun hc25 => ?_) (fun hc25 => ?_)
      · skip
        have hz : m.n = 0 := hc25
        have hld : load m d = ([], 300, m) := by unfold load; rw [if_neg hbad, if_pos hz]
        refine FW_seq ?_
        refine FW_region ?_
        refine FL_assign (h := ?_)
        refine FL_assign (h := ?_)
        refine FL_nil (Qseq_normal ?_)
        refine FW_ret (Qblk_ret (Qseq_ret (Qfn_ret (hR := ?_))))
        exact ⟨_, by rw [hld]; rfl, trivial, by rw [hld]; exact ((H.join0).preNil.join0).turn⟩
      · skip
        have hz : ¬ m.n = 0 := hc25
        refine FW_skip (Qblk_normal (Qseq_normal ?_))
        refine FW_seq ?_
        refine FW_region ?_
        refine FL_assign (h := ?_)
        refine FL_nil (Qseq_normal ?_)
        refine FW_seq ?_
        refine FW_seq ?_
        refine FW_region ?_
        refine FL_move (h := ?_)
        refine FL_move (h := ?_)
        refine FL_val (Gives.nilCheck rfl) rfl ?_
        first | refine FL_val (Gives.field0 rfl) rfl ?_ | refine FL_val (Gives.field rfl) rfl ?_ | refine FL_val (Gives.fieldA rfl) rfl ?_
        refine FL_load H (h := ?_)
        refine FL_callS (area_at (n := m.n) hm.n0 H At0 At1) (h := ?_)
        rw [← ha]
        refine FL_assign (h := ?_)
        refine FL_nil (Qseq_normal ?_)
        refine FW_block ?_
        refine FW_loop' (fun x : Nat × Value => [(0, .pointer (some ⟨s, 0, none⟩)), (4, x.2), (5, I (a + x.1))])
          (fun x w' => x.1 ≤ (mn + 127) / 128 ∧ (0 < x.1 → d.dead = false) ∧ Sep w F [rowH 5 1 x.2 (128 * x.1) ((secsFrom d a x.1).map B), slotH s p m, diskH p d] w') (fun x _ => (mn + 127) / 128 - x.1) (0, .slice none 0 0)
          ⟨rfl, rfl, by rw [show a + (((0 : Nat), Value.slice none 0 0).1 : Int) = a by simp]; rfl, trivial⟩ ⟨Nat.zero_le _, fun h => absurd h (by decide), H.nilRow 5 1⟩ (fun x τ w40 hI => ?_)
        obtain ⟨k, vo⟩ := x
        obtain ⟨hk, hkd, H40⟩ := hI
        dsimp only at hk hkd H40
        obtain ⟨Ao, co, hvo, hco, _⟩ := Sep.rowForm H40 At0
        subst hvo
        try simp only [upds, like, upd_ds, und_ds]
        refine FW_seq ?_
        refine FW_seq ?_
        refine FW_region ?_
        refine FL_move (h := ?_)
        refine FL_val (Gives.lenSlice rfl) rfl ?_
        refine FL_move (h := ?_)
        refine FL_val (Gives.nilCheck rfl) rfl ?_
        first | refine FL_val (Gives.field0 rfl) rfl ?_ | refine FL_val (Gives.field rfl) rfl ?_ | refine FL_val (Gives.fieldA rfl) rfl ?_
        refine FL_loadB (b := s) (cs := slotCells p m) (H40.obj At1) (hv := rfl) (h := ?_)
        rw [hmn]
        refine FL_val (Gives.lss rfl rfl) rfl ?_
        refine FL_nil (Qseq_normal ?_)
        first | refine FW_condP rfl (fun hc48 => ?_) (fun hc48 => ?_) | refine FW_cond rfl (fun hc48 => ?_) (fun hc48 => ?_)
        · skip
          have hlt : 128 * k < mn := by omega
          have hin : 0 ≤ a + k ∧ a + k < d.size := by omega
          refine FW_skip (Qseq_normal ?_)
          refine FW_seq ?_
          refine FW_block ?_
          refine FW_seq ?_
          refine FW_region ?_
          refine FL_move (h := ?_)
          refine FL_val (Gives.nilCheck rfl) rfl ?_
          first | refine FL_val (Gives.field0 rfl) rfl ?_ | refine FL_val (Gives.field rfl) rfl ?_ | refine FL_val (Gives.fieldA rfl) rfl ?_
          refine FL_loadB (b := s) (cs := slotCells p m) (H40.obj At1) (hv := rfl) (h := ?_)
          refine FL_move (h := ?_)
          refine FL_callN H40 (read_at H40 At2 (a + k)) rfl rfl (fun y w56 _ H56 _ => ?_)
          obtain ⟨Ay, cy, hy, _⟩ := Sep.rowForm H56 At0
          subst hy
          refine FL_move (h := ?_)
          refine FL_val (Gives.extract rfl rfl) rfl ?_
          refine FL_val (Gives.extract rfl rfl) rfl ?_
          refine FL_assign (h := ?_)
          refine FL_assign (h := ?_)
          refine FL_nil (Qseq_normal ?_)
          refine FW_seq ?_
          refine FW_seq ?_
          refine FW_region ?_
          refine FL_move (h := ?_)
          refine FL_val (Gives.neq rfl rfl) rfl ?_
          refine FL_nil (Qseq_normal ?_)
          first | refine FW_condP rfl (fun hc64 => ?_) (fun hc64 => ?_) | refine FW_cond rfl (fun hc64 => ?_) (fun hc64 => ?_)
          · skip
            have hdd : d.dead = true := by
              cases hq : d.dead
              · rw [read_in hq hin.1 hin.2] at hc64
                exact absurd rfl hc64
              · rfl
            have hld : load m d = ([], 290, { m with bad := true }) := by unfold load; rw [if_neg hbad, if_neg hz, if_pos ⟨by omega, hdd⟩]
            refine FW_seq ?_
            refine FW_region ?_
            refine FL_move (h := ?_)
            refine FL_val (Gives.nilCheck rfl) rfl ?_
            first | refine FL_val (Gives.field0 rfl) rfl ?_ | refine FL_val (Gives.field rfl) rfl ?_ | refine FL_val (Gives.fieldA rfl) rfl ?_
            refine FL_store H56 (b := s) (cs := slotCells p m) (cs' := slotCells p { m with bad := true }) (hat := At2) (hs := rfl) (h := ?_)
            intro w70 H70
            refine FL_nil (Qseq_normal ?_)
            refine FW_seq ?_
            refine FW_region ?_
            refine FL_move (h := ?_)
            refine FL_assign (h := ?_)
            refine FL_assign (h := ?_)
            refine FL_nil (Qseq_normal ?_)
            refine FW_ret (Qseq_ret (Qblk_ret (Qseq_ret (Qround_ret (Qblk_ret (Qseq_ret (Qfn_ret (hR := ?_))))))))
            rw [read_dead hdd]
            exact ⟨_, by rw [hld]; rfl, trivial, by rw [hld]; exact ((H70.drop0.drop0.join0).preNil.join0).turn⟩
          · skip
            have hdd : d.dead = false := by
              cases hq : d.dead
              · rfl
              · rw [read_dead hq] at hc64
                exact absurd (show ((290 : Int) ≠ 0) by decide) hc64
            rw [read_in hdd hin.1 hin.2] at H56
            have hsl := DM.sec_length hwf (a + k)
            have hrl : ((some (d.sec (a + (k : Int))), (0 : Int)).1.getD []).length = 128 := hsl
            rw [read_in hdd hin.1 hin.2]
            refine FW_skip (Qseq_normal ?_)
            refine FW_region ?_
            refine FL_move (h := ?_)
            refine FL_move (h := ?_)
            rw [hrl] at H56 ⊢
            refine FL_append (t := 27) (e := 5) H56 (v := .slice Ao (128 * k) co) (k := 128 * k) (xs := (secsFrom d a k).map B) (by exact rfl) (by exact rfl) At1 (H56.rowAt At0) (ones_B _) (h63 := by unfold maxLen; omega) (hbytes := by omega) (h := fun vv w79 H79 => ?_)
            refine FL_assign (h := ?_)
            refine FL_nil (Qblk_normal (Qseq_normal ?_))
            refine FW_region ?_
            refine FL_move (h := ?_)
            first | refine FL_val (Gives.addI rfl rfl rfl (by omega)) rfl ?_ | refine FL_val (Gives.add rfl rfl) rfl ?_
            refine FL_assign (h := ?_)
            refine FL_nil ?_
            have e : (secsFrom d a k).map B ++ ((some (d.sec (a + (k : Int))), (0 : Int)).1.getD []).map B = (secsFrom d a (k + 1)).map B := by rw [← List.map_append]; rfl
            rw [e] at H79
            exact Qround_normal (k + 1, vv) ⟨rfl, rfl, by show I (a + k + 1) = I (a + ((k + 1 : Nat) : Int)); congr 1; omega, trivial⟩ ⟨by dsimp only; omega, fun _ => hdd, H79.drop0⟩ (by dsimp only; omega)
        · skip
          have hge : mn ≤ 128 * k := by omega
          refine FW_exit (Qseq_exit (Qround_exit (Qblk_exit (Qseq_normal ?_))))
          refine FW_seq ?_
          refine FW_drawS rfl H40 (h := fun hok86 w88 H88 => ?_)
          refine FGmove hok86 0 (h := ?_)
          refine FGmove hok86 1 (h := ?_)
          refine FGp hok86 2 rfl rfl (fun _ => (Gives.nilCheck rfl)) (by kernel_rfl) ?_
          first | refine FGp hok86 3 rfl rfl (fun _ => (Gives.field0 rfl)) (by kernel_rfl) ?_ | refine FGp hok86 3 rfl rfl (fun _ => (Gives.field rfl)) (by kernel_rfl) ?_ | refine FGp hok86 3 rfl rfl (fun _ => (Gives.fieldA rfl)) (by kernel_rfl) ?_
          refine FGl hok86 4 rfl rfl (Gives.load1 rfl (H88.obj (b := s) (o := .cells (slotCells p m).toArray _ (0, 0)) At1) (o := 2) rfl) (by kernel_rfl) ?_
          rw [hmn]
          refine FGmove hok86 5 (h := ?_)
          refine FGp hok86 6 rfl rfl (fun _ => (Gives.nilCheck rfl)) (by kernel_rfl) ?_
          first | refine FGp hok86 7 rfl rfl (fun _ => (Gives.field0 rfl)) (by kernel_rfl) ?_ | refine FGp hok86 7 rfl rfl (fun _ => (Gives.field rfl)) (by kernel_rfl) ?_ | refine FGp hok86 7 rfl rfl (fun _ => (Gives.fieldA rfl)) (by kernel_rfl) ?_
          refine FGl hok86 8 rfl rfl (Gives.load1 rfl (H88.obj (b := s) (o := .cells (slotCells p m).toArray _ (0, 0)) At1) (o := 2) rfl) (by kernel_rfl) ?_
          rw [hmn]
          refine FGp hok86 9 rfl rfl (fun _ => (Gives.slice3 (h := mn) (d := mn) rfl rfl rfl (Nat.le_refl _) (by omega))) (by kernel_rfl) ?_
          refine FGp hok86 10 rfl rfl (fun _ => Gives.assign rfl) (by kernel_rfl) ?_
          refine FGp hok86 11 rfl rfl (fun _ => Gives.assign rfl) (by kernel_rfl) ?_
          refine FG_end hok86 (by kernel_rfl) ?_
          refine Qseq_normal ?_
          refine FW_ret (Qfn_ret (hR := ?_))
          have hkk : k = (mn + 127) / 128 := by omega
          have hld : load m d = ((secsFrom d a ((mn + 127) / 128)).take mn, 0, m) := by
            unfold load
            rw [if_neg hbad, if_neg hz, if_neg (by
              rintro ⟨h1, h2⟩
              rw [hkd (by omega)] at h2
              cases h2), ← ha, hmn, Int.toNat_natCast]
          have hl2 : ((secsFrom d a ((mn + 127) / 128)).take mn).length = mn := by rw [List.length_take, secsFrom_length hwf]; omega
          have H2 := Sep.rowCut (m := mn) (d := mn) H88 (by omega) (Nat.le_refl _)
          rw [← List.map_take, hkk] at H2
          refine ⟨_, by rw [hld]; rfl, trivial, ?_⟩
          rw [hld]
          dsimp only
          rw [hl2]
          exact ((H2.front2.front2.join0).front1.join0).turn
end
end Go.Proofs.Yteflbohpabdjkaa
