/-
  DiskFails, walked; and the plain law under it.
-/
import Derived.Test.YteflbohpabdjkaaLawF
namespace Go.Proofs.Yteflbohpabdjkaa
open Go Go.Mw
set_option maxRecDepth 8000

/-- A disk that was asked to fail at its n-th operation from its first on. -/
def DM.arm (m : DM) (n : Int) (kp : List Int) : DM := { m with fail := 1 + n, keep := kp }
theorem arm_write {m : DM} (h : m.good) {n : Int} {kp : List Int} {a : Int} (ha : 0 ≤ a ∧ a < 5) {b : List UInt8} (hb : b.length ≤ 128) :
    (m.arm n kp).write a b = (if m.ops = n then 290 else 0, if m.ops = n then (m.put1 a b).fall kp else (m.put1 a b).arm n kp) := by
  obtain ⟨_, hd, hs, hf, ho⟩ := h
  have hl : (m.arm n kp).look a = 0 := look_lt (d := m.arm n kp) hd ha.1 (by show a < m.size; omega)
  have hc : ((m.arm n kp).put a b).count = if m.ops = n then (false, (m.put1 a b).fall kp) else (true, (m.put1 a b).arm n kp) := by
    unfold DM.count
    by_cases hn : m.ops = n
    · rw [if_pos (show ((m.arm n kp).put a b).ops + 1 = ((m.arm n kp).put a b).fail from (show m.ops + 1 = 1 + n by omega)), if_pos hn]
      rfl
    · rw [if_neg (show ¬ ((m.arm n kp).put a b).ops + 1 = ((m.arm n kp).put a b).fail from (show ¬ (m.ops + 1 = 1 + n) by omega)), if_neg hn]
      rfl
  unfold DM.write
  rw [if_neg (by rw [hl]; simp), if_neg (by omega), hc]
  by_cases hn : m.ops = n
  · simp only [if_pos hn]; rfl
  · simp only [if_neg hn]; rfl
theorem arm_flush {m : DM} (h : m.good) {n : Int} {kp : List Int} :
    (m.arm n kp).flush = (if m.ops = n then 290 else 0, if m.ops = n then { m.fall kp with ops := m.ops + 1 } else m.flushed.arm n kp) := by
  obtain ⟨_, hd, hs, hf, ho⟩ := h
  have hl : (m.arm n kp).look 0 = 0 := look_lt (d := m.arm n kp) hd (by omega) (by show 0 < m.size; omega)
  have hc : (m.arm n kp).count = if m.ops = n then (false, { m.fall kp with ops := m.ops + 1 }) else (true, ({ m with ops := m.ops + 1 } : DM).arm n kp) := by
    unfold DM.count
    by_cases hn : m.ops = n
    · rw [if_pos (show (m.arm n kp).ops + 1 = (m.arm n kp).fail from (show m.ops + 1 = 1 + n by omega)), if_pos hn]
      rfl
    · rw [if_neg (show ¬ (m.arm n kp).ops + 1 = (m.arm n kp).fail from (show ¬ (m.ops + 1 = 1 + n) by omega)), if_neg hn]
      rfl
  unfold DM.flush
  rw [if_neg (by rw [hl]; simp), hc]
  by_cases hn : m.ops = n
  · simp only [if_pos hn]; rfl
  · simp only [if_neg hn]; rfl
theorem secB_congr {d e : DM} (h1 : d.dead = e.dead) (h2 : d.size = e.size) (h3 : d.now = e.now) : secB d = secB e := by
  unfold secB
  rw [h1, h2, secsTo_congr h3]
/-- What is asked of two disks behind the operations. -/
def Met (n : Int) (x : Int × DM × DM) : Prop := secB x.2.1.boot = secB x.2.2.boot ∧ (secB x.2.1.boot).length = 640 ∧ x.2.1.ops = x.1 + 1 ∧ (!x.2.1.dead) = decide (x.1 < n) ∧ 0 ≤ x.1 ∧ x.1 ≤ 1000
theorem met_on {m : DM} (h : m.good) {n o : Int} {kp : List Int} (ho : m.ops = o + 1) (hn : o < n) (h0 : 0 ≤ o ∧ o ≤ 1000) : Met n (o, m.arm n kp, m) := by
  refine ⟨secB_congr rfl rfl rfl, ?_, ho, ?_, h0.1, h0.2⟩
  · rw [show secB (m.arm n kp).boot = secB m from secB_congr h.2.1.symm rfl rfl]
    exact secB_len h
  · rw [show (m.arm n kp).dead = false from h.2.1, decide_eq_true hn]; rfl
theorem met_fall {m e : DM} (h : m.good) {n o : Int} {kp : List Int} (he : e.crash kp = e.fall kp) (hm : m.kept = e.kept ∧ m.opn = e.opn ∧ m.size = e.size) (ho : m.ops = o + 1) (hn : o = n) (h0 : 0 ≤ o ∧ o ≤ 1000) : Met n (o, m.fall kp, e.crash kp) := by
  rw [he]
  have hb : secB (m.fall kp).boot = secB (e.fall kp).boot := secB_congr rfl hm.2.2 (by show keptBy kp 0 m.opn m.kept = keptBy kp 0 e.opn e.kept; rw [hm.1, hm.2.1])
  refine ⟨hb, secB_len (good_fall h kp), ho, ?_, h0.1, h0.2⟩
  rw [show (m.fall kp).dead = true from rfl, decide_eq_false (by omega)]; rfl
section
variable {p : Nat} {d : DM} {F : Nat → Prop} {w w₀ : World} {S : Nat → Prop} {rs : List HP} {put : HP → List HP}
set_option maxHeartbeats 8000000 in
theorem fails_ok {A K : Option Addr} {c ck : Nat} {l : List PutM} {keep : List Int} {at_ : Int} (hl : ∀ x ∈ l, x.fit) (hr : RowAt w A l.length 3 (putCells l)) (hat : fits at_) (hk : RowAt w K keep.length 1 (keep.map I)) (hck : keep.length ≤ ck) :
    Rets Try.prog 6 [.slice A l.length c, I at_, .slice K keep.length ck] w fun v w' => v = .bool true ∧ Kept noB w w' := by
  have H := Sep.start0 w
  refine rets3 Try.func6 rfl rfl rfl rfl ?_
  have hmn : min keep.length 100 = (keep.take (min keep.length 100)).length := by rw [List.length_take]; omega
  have hkr : RowAt w K (keep.take (min keep.length 100)).length 1 ((keep.take (min keep.length 100)).map I) := by rw [← hmn, ← take_map]; exact hk.take (by omega)
  have hkl : (keep.take (min keep.length 100)).length ≤ 100 := by omega
  have hg0 := good_five []
  have hs0 := small_five []
  obtain ⟨n, hn⟩ : ∃ n, n = 1 + at_ % 70 := ⟨_, rfl⟩
  have hnb : 1 ≤ n ∧ n ≤ 70 := by omega
  refine FW_seq ?_
  refine FW_region ?_
  refine FL_assign (h := ?_)
  refine FL_nil (Qseq_normal ?_)
  refine FW_seq ?_
  refine FW_region ?_
  refine FL_move (h := ?_)
  refine FL_move (h := ?_)
  refine FL_val (Gives.lenSlice rfl) rfl ?_
  refine FL_val (Gives.min rfl rfl) rfl ?_
  rw [min100]
  refine FL_val (Gives.sliceTo rfl rfl (by omega)) rfl ?_
  rw [hmn]
  generalize keep.take (min keep.length 100) = kp at hkr hkl
  refine FL_assign (h := ?_)
  refine FL_nil (Qseq_normal ?_)
  refine FW_seq ?_
  refine FW_region ?_
  refine FL_callN H (five_ok (l := []) (A := none) (c := 0) (fun _ h => by cases h) (RowAt.nil _ _ _)) rfl rfl (fun p w9 _ H9 _ => ?_)
  refine FL_callN H9 (five_ok (l := []) (A := none) (c := 0) (fun _ h => by cases h) (RowAt.nil _ _ _)) rfl rfl (fun q w11 _ H11 _ => ?_)
  refine FL_assign (h := ?_)
  refine FL_assign (h := ?_)
  refine FL_nil (Qseq_normal ?_)
  refine FW_seq ?_
  refine FW_seq ?_
  refine FW_region ?_
  refine FL_move (h := ?_)
  refine FL_val (Gives.eqlNil rfl rfl) rfl ?_
  refine FL_move (h := ?_)
  first | refine FL_splitP (t := 25) rfl (fun hs17 => ?_) (fun hs17 => ?_) | refine FL_split (t := 25) rfl (fun hs17 => ?_) (fun hs17 => ?_)
  · skip
    cases hs17 --done
  · skip
    refine FL_on rfl rfl ?_
    refine FL_move (h := ?_)
    refine FL_on rfl rfl ?_
    refine FL_val (Gives.eqlNil rfl rfl) rfl ?_
    refine FL_pickF (h := ?_)
    refine FL_nil (Qseq_normal ?_)
    first | refine FW_condP rfl (fun hc22 => ?_) (fun hc22 => ?_) | refine FW_cond rfl (fun hc22 => ?_) (fun hc22 => ?_)
    · skip
      cases hc22 --done
    · skip
      refine FW_skip (Qseq_normal ?_)
      refine FW_seq ?_
      refine FW_region ?_
      refine FL_move (h := ?_)
      refine FL_callS (bring_ok at_ 70 hat (by omega)) (h := ?_)
      refine FL_val (Gives.addI rfl rfl rfl (by omega)) rfl ?_
      rw [← hn]
      refine FL_assign (h := ?_)
      refine FL_nil (Qseq_normal ?_)
      refine FW_seq ?_
      refine FW_region ?_
      refine FL_move (h := ?_)
      refine FL_move (h := ?_)
      refine FL_move (h := ?_)
      have hfa : (fiveM []).failAt n kp = (fiveM []).arm n kp := by
        unfold DM.failAt
        rw [hg0.2.1, if_neg (by simp), if_pos ⟨by omega, by rw [show (fiveM []).ops = 1 from rfl]; omega⟩]
        rfl
      refine FL_call1 H11 At1 (fun F' hp hF' => fail_ok (keep := kp) (A := K) (c := ck) (by have := hs0.2.2; omega) (by omega) (hkr.keepS H11.kept fun _ _ _ => id) (Off.of (F := F') (S := noB) (fun _ _ _ => id) hkr (fun b hb => hF' b hb) (by decide)) hp) (h := fun w32 H0 => ?_)
      have H32 := H0
      rw [hfa] at H32
      refine FL_nil (Qseq_normal ?_)
      refine FW_seq ?_
      refine FW_region ?_
      refine FL_assign (h := ?_)
      refine FL_nil (Qseq_normal ?_)
      refine FW_cut (fun x : Int × DM × DM => [(7, .pointer (some ⟨p, 0, none⟩)), (8, .pointer (some ⟨q, 0, none⟩)), (9, I n), (10, I x.1)]) (fun x w' => Met n x ∧ Sep w noB [diskH q x.2.2, diskH p x.2.1] w') ?_ ?_
      · skip
        refine FW_seq ?_
        refine FW_region ?_
        refine FL_assign (h := ?_)
        refine FL_nil (Qseq_normal ?_)
        refine FW_block ?_
        refine FW_loop' (fun x : Nat × Int × DM => [(0, .slice A l.length c), (2, .slice K kp.length ck), (7, .pointer (some ⟨p, 0, none⟩)), (8, .pointer (some ⟨q, 0, none⟩)), (9, I n), (10, I x.2.1), (11, I x.1)])
          (fun x w' => x.1 ≤ l.length ∧ x.1 ≤ 50 ∧ 0 ≤ x.2.1 ∧ x.2.1 ≤ 2 * x.1 ∧ x.2.1 < n ∧ x.2.2.good ∧ x.2.2.small (60 + 2 * x.1) ∧ x.2.2.ops = x.2.1 + 1 ∧ Sep w noB [diskH q x.2.2, diskH p (x.2.2.arm n kp)] w') (fun x _ => l.length - x.1) (0, 0, fiveM []) ⟨rfl, rfl, rfl, rfl, rfl, rfl, rfl, trivial⟩ ⟨Nat.zero_le _, Nat.zero_le _, Int.le_refl _, Int.le_refl _, by simp only; omega, hg0, hs0.mono (by simp), rfl, H32⟩ (fun x τ w37 hI => ?_)
        obtain ⟨i, o, m⟩ := x
        obtain ⟨hi, hi50, ho0, ho2, hon, hmg, hms, hmo, H37⟩ := hI
        simp only at hi hi50 ho0 ho2 hon hmg hms hmo
        try simp only [upds, like, upd_ds, und_ds]
        refine FW_seq ?_
        refine FW_seq ?_
        refine FW_region ?_
        refine FL_move (h := ?_)
        refine FL_move (h := ?_)
        refine FL_val (Gives.lenSlice rfl) rfl ?_
        refine FL_val (Gives.lss rfl rfl) rfl ?_
        refine FL_move (h := ?_)
        first | refine FL_splitP (t := 40) rfl (fun hs43 => ?_) (fun hs43 => ?_) | refine FL_split (t := 40) rfl (fun hs43 => ?_) (fun hs43 => ?_)
        · skip
          have hc1 := hs43
          refine FL_on rfl rfl ?_
          refine FL_move (h := ?_)
          refine FL_on rfl rfl ?_
          refine FL_val (Gives.lss rfl rfl) rfl ?_
          refine FL_pickT (h := ?_)
          refine FL_nil (Qseq_normal ?_)
          first | refine FW_condP rfl (fun hc48 => ?_) (fun hc48 => ?_) | refine FW_cond rfl (fun hc48 => ?_) (fun hc48 => ?_)
          · skip
            have hlt : i < l.length := by omega
            have hlt50 : i < 50 := by omega
            obtain ⟨ad, hAd, _⟩ := hr.at_ (by omega)
            subst hAd
            have hx := hl _ (List.getElem_mem hlt)
            have hput := putB_length l[i]
            have hg1 := good_put1 hmg (a := l[i].at_ % 5) hput
            have hs1 := small_put1 hms (l[i].at_ % 5) (putB l[i])
            have ho1 : (m.put1 (l[i].at_ % 5) (putB l[i])).ops = o + 1 + 1 := by show m.ops + 1 = _; omega
            refine FW_skip (Qseq_normal ?_)
            refine FW_seq ?_
            refine FW_block ?_
            refine FW_seq ?_
            refine FW_region ?_
            refine FL_move (h := ?_)
            first | refine FL_val (Gives.addI rfl rfl rfl (by omega)) rfl ?_ | refine FL_val (Gives.add rfl rfl) rfl ?_
            refine FL_assign (h := ?_)
            refine FL_nil (Qseq_normal ?_)
            refine FW_seq ?_
            refine FW_drawS rfl H37 (h := fun hok53 w55 H55 => ?_)
            refine FGmove hok53 0 (h := ?_)
            refine FGmove hok53 1 (h := ?_)
            refine FGmove hok53 2 (h := ?_)
            refine FGp hok53 3 rfl rfl (fun _ => (Gives.idx rfl rfl hlt)) (by kernel_rfl) ?_
            first | refine FGp hok53 4 rfl rfl (fun _ => (Gives.field0 rfl)) (by kernel_rfl) ?_ | refine FGp hok53 4 rfl rfl (fun _ => (Gives.field rfl)) (by kernel_rfl) ?_ | refine FGp hok53 4 rfl rfl (fun _ => (Gives.fieldA rfl)) (by kernel_rfl) ?_
            refine FGl hok53 5 rfl rfl (Gives.loadC rfl ((hr.keepS H55.kept fun _ _ _ => id).elemC rfl i hlt (us := [I l[i].at_, I l[i].byte, I l[i].many]) (putCells_get l i hlt) 0 _ rfl)) (by kernel_rfl) ?_
            refine FGmove hok53 7 (h := ?_)
            refine FGmove hok53 8 (h := ?_)
            refine FGp hok53 9 rfl rfl (fun _ => (Gives.idx rfl rfl hlt)) (by kernel_rfl) ?_
            refine FGl hok53 10 rfl rfl (Gives.loadCN rfl ((hr.keepS H55.kept fun _ _ _ => id).elem rfl i hlt (us := [I l[i].at_, I l[i].byte, I l[i].many]) (putCells_get l i hlt)) rfl) (by kernel_rfl) ?_
            refine FGcallS hok53 6 [(10, false), (9, true), (8, true), (7, true), (0, true)] H55 (bring_ok l[i].at_ 5 hx.1 (by omega)) (h := fun w62 H62 => ⟨(Stab_cons rfl rfl (Gives.loadCN rfl ((hr.keepS H62.kept fun _ _ _ => id).elem rfl i hlt (us := [I l[i].at_, I l[i].byte, I l[i].many]) (putCells_get l i hlt)) rfl) rfl (Stab_pure (Stab_pure (Stab_pure (Stab_pure (Stab_nil)))))), ?_⟩)
            refine FGcallN hok53 11 [(0, true)] H62 (bytes_ok l[i] hx) (h := fun y w64 _ H64 _ => ⟨Stab_pure (Stab_nil), ?_⟩)
            obtain ⟨Ay, cy, hy, _⟩ := Sep.rowForm H64 At0
            subst hy
            refine FGcall1R hok53 12 [] H64 At1 (fun F' hp hrr hoff => write_at (c := cy) ((show (m.arm n kp).small (60 + 2 * i + 100) from ⟨by have := hms.1; show m.opn.length ≤ _; omega, by show kp.length ≤ _; omega, hms.2.2.1, by have := hms.2.2.2; show m.ops ≤ _; omega⟩).mono (by omega)) (arm_write hmg (a := l[i].at_ % 5) (b := putB l[i]) (by omega) hput) hrr hoff hp) (h := fun w66 H0 => ⟨Stab_nil, ?_⟩)
            have H66 := H0.drop0
            refine FGp hok53 13 rfl rfl (fun _ => Gives.assign rfl) (by kernel_rfl) ?_
            refine FG_end hok53 (by kernel_rfl) ?_
            refine Qseq_normal ?_
            refine FW_seq ?_
            refine FW_drawS rfl H66 (h := fun hok68 w70 H70 => ?_)
            refine FGmove hok68 0 (h := ?_)
            refine FGmove hok68 1 (h := ?_)
            refine FGmove hok68 2 (h := ?_)
            refine FGp hok68 3 rfl rfl (fun _ => (Gives.idx rfl rfl hlt)) (by kernel_rfl) ?_
            first | refine FGp hok68 4 rfl rfl (fun _ => (Gives.field0 rfl)) (by kernel_rfl) ?_ | refine FGp hok68 4 rfl rfl (fun _ => (Gives.field rfl)) (by kernel_rfl) ?_ | refine FGp hok68 4 rfl rfl (fun _ => (Gives.fieldA rfl)) (by kernel_rfl) ?_
            refine FGl hok68 5 rfl rfl (Gives.loadC rfl ((hr.keepS H70.kept fun _ _ _ => id).elemC rfl i hlt (us := [I l[i].at_, I l[i].byte, I l[i].many]) (putCells_get l i hlt) 0 _ rfl)) (by kernel_rfl) ?_
            refine FGmove hok68 7 (h := ?_)
            refine FGmove hok68 8 (h := ?_)
            refine FGp hok68 9 rfl rfl (fun _ => (Gives.idx rfl rfl hlt)) (by kernel_rfl) ?_
            refine FGl hok68 10 rfl rfl (Gives.loadCN rfl ((hr.keepS H70.kept fun _ _ _ => id).elem rfl i hlt (us := [I l[i].at_, I l[i].byte, I l[i].many]) (putCells_get l i hlt)) rfl) (by kernel_rfl) ?_
            refine FGcallS hok68 6 [(10, false), (9, true), (8, true), (7, true), (0, true)] H70 (bring_ok l[i].at_ 5 hx.1 (by omega)) (h := fun w77 H77 => ⟨(Stab_cons rfl rfl (Gives.loadCN rfl ((hr.keepS H77.kept fun _ _ _ => id).elem rfl i hlt (us := [I l[i].at_, I l[i].byte, I l[i].many]) (putCells_get l i hlt)) rfl) rfl (Stab_pure (Stab_pure (Stab_pure (Stab_pure (Stab_nil)))))), ?_⟩)
            refine FGcallN hok68 11 [(0, true)] H77 (bytes_ok l[i] hx) (h := fun y w79 _ H79 _ => ⟨Stab_pure (Stab_nil), ?_⟩)
            obtain ⟨Ay, cy, hy, _⟩ := Sep.rowForm H79 At0
            subst hy
            refine FGcall1R hok68 12 [] H79 At0 (fun F' hp hrr hoff => write_at (c := cy) (hms.mono (by omega)) (write_good hmg (a := l[i].at_ % 5) (b := putB l[i]) (by omega) hput) hrr hoff hp) (h := fun w81 H0 => ⟨Stab_nil, ?_⟩)
            have H81 := H0.drop0
            refine FG_end hok68 (by kernel_rfl) ?_
            refine Qseq_normal ?_
            refine FW_seq ?_
            refine FW_seq ?_
            refine FW_region ?_
            refine FL_move (h := ?_)
            refine FL_move (h := ?_)
            refine FL_val (Gives.eql rfl rfl) rfl ?_
            refine FL_nil (Qseq_normal ?_)
            first | refine FW_condP rfl (fun hc85 => ?_) (fun hc85 => ?_) | refine FW_cond rfl (fun hc85 => ?_) (fun hc85 => ?_)
            · skip
              have hfl : m.ops = n := by omega
              rw [if_pos hfl] at H81 ⊢
              refine FW_region ?_
              refine FL_move (h := ?_)
              refine FL_move (h := ?_)
              refine FL_call1 H81 At0 (fun F' hp hF' => crash_at (A := K) (c := ck) (keep := kp) (hs1.mono (by omega)) H81 (by omega) hkr (fun _ _ _ => id) hp hF') (h := fun w90 H90 => ?_)
              refine FL_nil (Qseq_normal ?_)
              refine FW_seq ?_
              refine FW_seq ?_
              refine FW_region ?_
              refine FL_move (h := ?_)
              refine FL_val (Gives.eql rfl rfl) rfl ?_
              refine FL_move (h := ?_)
              refine FL_move (h := ?_)
              refine FL_val (Gives.geq rfl rfl) rfl ?_
              refine FL_val (Gives.neqB rfl rfl) rfl ?_
              refine FL_move (h := ?_)
              first | refine FL_splitP (t := 86) rfl (fun hs98 => ?_) (fun hs98 => ?_) | refine FL_split (t := 86) rfl (fun hs98 => ?_) (fun hs98 => ?_)
              · skip
                (rw [decide_eq_true (show n ≤ o + 1 by omega)] at hs98; exact absurd hs98 (by decide)) --done
              · skip
                refine FL_on rfl rfl ?_
                refine FL_move (h := ?_)
                refine FL_on rfl rfl ?_
                refine FL_val (Gives.neq rfl rfl) rfl ?_
                refine FL_on rfl rfl ?_
                refine FL_move (h := ?_)
                first | refine FL_splitP (t := 89) rfl (fun hs103 => ?_) (fun hs103 => ?_) | refine FL_split (t := 89) rfl (fun hs103 => ?_) (fun hs103 => ?_)
                · skip
                  refine FL_on rfl rfl ?_
                  refine FL_move (h := ?_)
                  refine FL_on rfl rfl ?_
                  refine FL_val (Gives.neq rfl rfl) rfl ?_
                  refine FL_on rfl rfl ?_
                  refine FL_pickT (h := ?_)
                  refine FL_pickF (h := ?_)
                  refine FL_nil (Qseq_normal ?_)
                  first | refine FW_condP rfl (fun hc108 => ?_) (fun hc108 => ?_) | refine FW_cond rfl (fun hc108 => ?_) (fun hc108 => ?_)
                  · skip
                    exact absurd hc108 (by decide) --done
                  · skip
                    refine FW_skip (Qseq_normal ?_)
                    refine FW_seq ?_
                    refine FW_seq ?_
                    refine FW_region ?_
                    refine FL_move (h := ?_)
                    refine FL_move (h := ?_)
                    refine FL_val (Gives.geq rfl rfl) rfl ?_
                    refine FL_nil (Qseq_normal ?_)
                    first | refine FW_condP rfl (fun hc113 => ?_) (fun hc113 => ?_) | refine FW_cond rfl (fun hc113 => ?_) (fun hc113 => ?_)
                    · skip
                      refine FW_exit (Qseq_exit (Qblk_exit_ne rfl (Qseq_exit (Qround_exit (Qblk_exit ?_)))))
                      exact Qcut_normal (o + 1, (m.put1 (l[i].at_ % 5) (putB l[i])).fall kp, (m.put1 (l[i].at_ % 5) (putB l[i])).crash kp) ⟨rfl, rfl, rfl, rfl, trivial⟩ ⟨met_fall hg1 (crash_good hg1 kp) ⟨rfl, rfl, rfl⟩ ho1 (by omega) ⟨by omega, by omega⟩, H90⟩
                    · skip
                      exact absurd hc113 (by omega) --done
                · skip
                  exact absurd hs103 (by decide) --done
            · skip
              have hfl : ¬ m.ops = n := by omega
              rw [if_neg hfl] at H81 ⊢
              refine FW_skip (Qseq_normal ?_)
              refine FW_seq ?_
              refine FW_seq ?_
              refine FW_region ?_
              refine FL_move (h := ?_)
              refine FL_val (Gives.eql rfl rfl) rfl ?_
              refine FL_move (h := ?_)
              refine FL_move (h := ?_)
              refine FL_val (Gives.geq rfl rfl) rfl ?_
              refine FL_val (Gives.neqB rfl rfl) rfl ?_
              refine FL_move (h := ?_)
              first | refine FL_splitP (t := 86) rfl (fun hs125 => ?_) (fun hs125 => ?_) | refine FL_split (t := 86) rfl (fun hs125 => ?_) (fun hs125 => ?_)
              · skip
                (rw [decide_eq_false (show ¬ n ≤ o + 1 by omega)] at hs125; exact absurd hs125 (by decide)) --done
              · skip
                refine FL_on rfl rfl ?_
                refine FL_move (h := ?_)
                refine FL_on rfl rfl ?_
                refine FL_val (Gives.neq rfl rfl) rfl ?_
                refine FL_on rfl rfl ?_
                refine FL_move (h := ?_)
                first | refine FL_splitP (t := 89) rfl (fun hs130 => ?_) (fun hs130 => ?_) | refine FL_split (t := 89) rfl (fun hs130 => ?_) (fun hs130 => ?_)
                · skip
                  exact absurd hs130 (by decide) --done
                · skip
                  refine FL_off rfl rfl rfl ?_
                  refine FL_off rfl rfl rfl ?_
                  refine FL_on rfl rfl ?_
                  refine FL_pickF (h := ?_)
                  refine FL_pickF (h := ?_)
                  refine FL_nil (Qseq_normal ?_)
                  refine FW_cond_false rfl ?_
                  refine FW_skip (Qseq_normal ?_)
                  refine FW_seq ?_
                  refine FW_seq ?_
                  refine FW_region ?_
                  refine FL_move (h := ?_)
                  refine FL_move (h := ?_)
                  refine FL_val (Gives.geq rfl rfl) rfl ?_
                  refine FL_nil (Qseq_normal ?_)
                  first | refine FW_condP rfl (fun hc137 => ?_) (fun hc137 => ?_) | refine FW_cond rfl (fun hc137 => ?_) (fun hc137 => ?_)
                  · skip
                    exact absurd hc137 (by omega) --done
                  · skip
                    refine FW_skip (Qseq_normal ?_)
                    refine FW_seq ?_
                    refine FW_region ?_
                    refine FL_move (h := ?_)
                    refine FL_val (Gives.rem rfl rfl (by omega)) rfl ?_
                    refine FL_val (Gives.eql rfl rfl) rfl ?_
                    refine FL_nil (Qseq_normal ?_)
                    first | refine FW_condP rfl (fun hc142 => ?_) (fun hc142 => ?_) | refine FW_cond rfl (fun hc142 => ?_) (fun hc142 => ?_)
                    · skip
                      refine FW_seq ?_
                      refine FW_region ?_
                      refine FL_move (h := ?_)
                      first | refine FL_val (Gives.addI rfl rfl rfl (by omega)) rfl ?_ | refine FL_val (Gives.add rfl rfl) rfl ?_
                      refine FL_assign (h := ?_)
                      refine FL_nil (Qseq_normal ?_)
                      refine FW_seq ?_
                      refine FW_region ?_
                      refine FL_move (h := ?_)
                      have hsa : ((m.put1 (l[i].at_ % 5) (putB l[i])).arm n kp).small 1000 := ⟨by have := hs1.1; show (m.put1 (l[i].at_ % 5) (putB l[i])).opn.length ≤ _; omega, by show kp.length ≤ _; omega, hs1.2.2.1, by have := hs1.2.2.2; show (m.put1 (l[i].at_ % 5) (putB l[i])).ops ≤ _; omega⟩
                      refine FL_call1 H81 At1 (fun F' hp _ => flush_at (hsa.mono (by decide)) (arm_flush hg1) hp) (h := fun w148 H148 => ?_)
                      refine FL_assign (h := ?_)
                      refine FL_nil (Qseq_normal ?_)
                      refine FW_seq ?_
                      refine FW_seq ?_
                      refine FW_region ?_
                      refine FL_move (h := ?_)
                      refine FL_move (h := ?_)
                      refine FL_val (Gives.eql rfl rfl) rfl ?_
                      refine FL_nil (Qseq_normal ?_)
                      first | refine FW_condP rfl (fun hc153 => ?_) (fun hc153 => ?_) | refine FW_cond rfl (fun hc153 => ?_) (fun hc153 => ?_)
                      · skip
                        have hfl2 : (m.put1 (l[i].at_ % 5) (putB l[i])).ops = n := by omega
                        rw [if_pos hfl2] at H148 ⊢
                        refine FW_region ?_
                        refine FL_move (h := ?_)
                        refine FL_move (h := ?_)
                        refine FL_call1 H148 At0 (fun F' hp hF' => crash_at (A := K) (c := ck) (keep := kp) (hs1.mono (by omega)) H148 (by omega) hkr (fun _ _ _ => id) hp hF') (h := fun w158 H158 => ?_)
                        refine FL_nil (Qseq_normal ?_)
                        refine FW_seq ?_
                        refine FW_seq ?_
                        refine FW_region ?_
                        refine FL_move (h := ?_)
                        refine FL_val (Gives.eql rfl rfl) rfl ?_
                        refine FL_move (h := ?_)
                        refine FL_move (h := ?_)
                        refine FL_val (Gives.geq rfl rfl) rfl ?_
                        refine FL_val (Gives.neqB rfl rfl) rfl ?_
                        refine FL_move (h := ?_)
                        first | refine FL_splitP (t := 118) rfl (fun hs166 => ?_) (fun hs166 => ?_) | refine FL_split (t := 118) rfl (fun hs166 => ?_) (fun hs166 => ?_)
                        · skip
                          (rw [decide_eq_true (show n ≤ o + 1 + 1 by omega)] at hs166; exact absurd hs166 (by decide)) --done
                        · skip
                          refine FL_on rfl rfl ?_
                          refine FL_move (h := ?_)
                          refine FL_on rfl rfl ?_
                          refine FL_val (Gives.neq rfl rfl) rfl ?_
                          refine FL_on rfl rfl ?_
                          refine FL_move (h := ?_)
                          first | refine FL_splitP (t := 121) rfl (fun hs171 => ?_) (fun hs171 => ?_) | refine FL_split (t := 121) rfl (fun hs171 => ?_) (fun hs171 => ?_)
                          · skip
                            refine FL_on rfl rfl ?_
                            refine FL_move (h := ?_)
                            refine FL_on rfl rfl ?_
                            refine FL_val (Gives.neq rfl rfl) rfl ?_
                            refine FL_on rfl rfl ?_
                            refine FL_pickT (h := ?_)
                            refine FL_pickF (h := ?_)
                            refine FL_nil (Qseq_normal ?_)
                            first | refine FW_condP rfl (fun hc176 => ?_) (fun hc176 => ?_) | refine FW_cond rfl (fun hc176 => ?_) (fun hc176 => ?_)
                            · skip
                              exact absurd hc176 (by decide) --done
                            · skip
                              refine FW_skip (Qseq_normal ?_)
                              refine FW_seq ?_
                              refine FW_region ?_
                              refine FL_move (h := ?_)
                              refine FL_move (h := ?_)
                              refine FL_val (Gives.geq rfl rfl) rfl ?_
                              refine FL_nil (Qseq_normal ?_)
                              first | refine FW_condP rfl (fun hc181 => ?_) (fun hc181 => ?_) | refine FW_cond rfl (fun hc181 => ?_) (fun hc181 => ?_)
                              · skip
                                refine FW_exit (Qblk_exit_ne rfl (Qseq_exit (Qround_exit (Qblk_exit ?_))))
                                exact Qcut_normal (o + 1 + 1, { (m.put1 (l[i].at_ % 5) (putB l[i])).fall kp with ops := (m.put1 (l[i].at_ % 5) (putB l[i])).ops + 1 }, (m.put1 (l[i].at_ % 5) (putB l[i])).crash kp) ⟨rfl, rfl, rfl, rfl, trivial⟩ ⟨met_fall (m := { m.put1 (l[i].at_ % 5) (putB l[i]) with ops := (m.put1 (l[i].at_ % 5) (putB l[i])).ops + 1 }) ⟨hg1.1, hg1.2.1, hg1.2.2.1, hg1.2.2.2.1, by have := hg1.2.2.2.2; show 0 ≤ (m.put1 (l[i].at_ % 5) (putB l[i])).ops + 1; omega⟩ (crash_good hg1 kp) ⟨rfl, rfl, rfl⟩ (by show (m.put1 (l[i].at_ % 5) (putB l[i])).ops + 1 = _; omega) (by omega) ⟨by omega, by omega⟩, H158⟩
                              · skip
                                exact absurd hc181 (by omega) --done
                          · skip
                            exact absurd hs171 (by decide) --done
                      · skip
                        have hfl2 : ¬ (m.put1 (l[i].at_ % 5) (putB l[i])).ops = n := by omega
                        rw [if_neg hfl2] at H148 ⊢
                        refine FW_region ?_
                        refine FL_move (h := ?_)
                        refine FL_call1 H148 At0 (fun F' hp _ => flush_at (hs1.mono (by omega)) (flush_good hg1) hp) (h := fun w188 H188 => ?_)
                        refine FL_nil (Qseq_normal ?_)
                        refine FW_seq ?_
                        refine FW_seq ?_
                        refine FW_region ?_
                        refine FL_move (h := ?_)
                        refine FL_val (Gives.eql rfl rfl) rfl ?_
                        refine FL_move (h := ?_)
                        refine FL_move (h := ?_)
                        refine FL_val (Gives.geq rfl rfl) rfl ?_
                        refine FL_val (Gives.neqB rfl rfl) rfl ?_
                        refine FL_move (h := ?_)
                        first | refine FL_splitP (t := 118) rfl (fun hs196 => ?_) (fun hs196 => ?_) | refine FL_split (t := 118) rfl (fun hs196 => ?_) (fun hs196 => ?_)
                        · skip
                          (rw [decide_eq_false (show ¬ n ≤ o + 1 + 1 by omega)] at hs196; exact absurd hs196 (by decide)) --done
                        · skip
                          refine FL_on rfl rfl ?_
                          refine FL_move (h := ?_)
                          refine FL_on rfl rfl ?_
                          refine FL_val (Gives.neq rfl rfl) rfl ?_
                          refine FL_on rfl rfl ?_
                          refine FL_move (h := ?_)
                          first | refine FL_splitP (t := 121) rfl (fun hs201 => ?_) (fun hs201 => ?_) | refine FL_split (t := 121) rfl (fun hs201 => ?_) (fun hs201 => ?_)
                          · skip
                            exact absurd hs201 (by decide) --done
                          · skip
                            refine FL_off rfl rfl rfl ?_
                            refine FL_off rfl rfl rfl ?_
                            refine FL_on rfl rfl ?_
                            refine FL_pickF (h := ?_)
                            refine FL_pickF (h := ?_)
                            refine FL_nil (Qseq_normal ?_)
                            refine FW_cond_false rfl ?_
                            refine FW_skip (Qseq_normal ?_)
                            refine FW_seq ?_
                            refine FW_region ?_
                            refine FL_move (h := ?_)
                            refine FL_move (h := ?_)
                            refine FL_val (Gives.geq rfl rfl) rfl ?_
                            refine FL_nil (Qseq_normal ?_)
                            first | refine FW_condP rfl (fun hc208 => ?_) (fun hc208 => ?_) | refine FW_cond rfl (fun hc208 => ?_) (fun hc208 => ?_)
                            · skip
                              exact absurd hc208 (by omega) --done
                            · skip
                              refine FW_skip (Qblk_normal (Qseq_normal ?_))
                              refine FW_region ?_
                              refine FL_move (h := ?_)
                              first | refine FL_val (Gives.addI rfl rfl rfl (by omega)) rfl ?_ | refine FL_val (Gives.add rfl rfl) rfl ?_
                              refine FL_assign (h := ?_)
                              refine FL_nil ?_
                              exact Qround_normal (i + 1, o + 1 + 1, (m.put1 (l[i].at_ % 5) (putB l[i])).flushed) ⟨rfl, rfl, rfl, rfl, rfl, rfl, rfl, trivial⟩ ⟨by simp only; omega, by simp only; omega, by simp only; omega, by simp only; omega, by simp only; omega, good_flushed hg1, (small_flushed hs1).mono (by simp only; omega), by show (m.put1 (l[i].at_ % 5) (putB l[i])).ops + 1 = _; simp only; omega, H188⟩ (by simp only; omega)
                    · skip
                      refine FW_skip (Qblk_normal (Qseq_normal ?_))
                      refine FW_region ?_
                      refine FL_move (h := ?_)
                      first | refine FL_val (Gives.addI rfl rfl rfl (by omega)) rfl ?_ | refine FL_val (Gives.add rfl rfl) rfl ?_
                      refine FL_assign (h := ?_)
                      refine FL_nil ?_
                      exact Qround_normal (i + 1, o + 1, m.put1 (l[i].at_ % 5) (putB l[i])) ⟨rfl, rfl, rfl, rfl, rfl, rfl, rfl, trivial⟩ ⟨by simp only; omega, by simp only; omega, by simp only; omega, by simp only; omega, by simp only; omega, hg1, hs1.mono (by simp only; omega), ho1, H81⟩ (by simp only; omega)
          · skip
            refine FW_exit (Qseq_exit (Qround_exit (Qblk_exit ?_)))
            exact Qcut_normal (o, m.arm n kp, m) ⟨rfl, rfl, rfl, rfl, trivial⟩ ⟨met_on hmg hmo hon ⟨ho0, by omega⟩, H37⟩
        · skip
          refine FL_off rfl rfl rfl ?_
          refine FL_off rfl rfl rfl ?_
          refine FL_pickF (h := ?_)
          refine FL_nil (Qseq_normal ?_)
          refine FW_cond_false rfl ?_
          refine FW_exit (Qseq_exit (Qround_exit (Qblk_exit ?_)))
          exact Qcut_normal (o, m.arm n kp, m) ⟨rfl, rfl, rfl, rfl, trivial⟩ ⟨met_on hmg hmo hon ⟨ho0, by omega⟩, H37⟩
      · skip
        intro ⟨o, dd, mm⟩ τ w222 hI
        obtain ⟨hmet, H222⟩ := hI
        have hob : 0 ≤ o ∧ o ≤ 1000 := hmet.2.2.2.2
        simp only [upds, like, upd_ds, und_ds]
        refine FW_seq ?_
        refine FW_region ?_
        refine FL_move (h := ?_)
        refine FL_callQ H222 (alive_at H222 At1 (b := decide (o < n)) hmet.2.2.2.1) (h := fun w225 H225 _ => ?_)
        refine FL_assign (h := ?_)
        refine FL_nil (Qseq_normal ?_)
        refine FW_seq ?_
        refine FW_region ?_
        refine FL_move (h := ?_)
        refine FL_call1 H225 At1 (fun F' hp _ => boot_ok hp) (h := fun w229 H229 => ?_)
        refine FL_nil (Qseq_normal ?_)
        refine FW_seq ?_
        refine FW_region ?_
        refine FL_move (h := ?_)
        refine FL_call1 H229 At0 (fun F' hp _ => boot_ok hp) (h := fun w232 H232 => ?_)
        refine FL_nil (Qseq_normal ?_)
        refine FW_seq ?_
        refine FW_region ?_
        refine FL_move (h := ?_)
        refine FL_callN H232 (sectors_at H232 At1) rfl rfl (fun y w235 _ H235 _ => ?_)
        obtain ⟨Ay, cy, hy, _⟩ := Sep.rowForm H235 At0
        subst hy
        refine FL_move (h := ?_)
        refine FL_callN H235 (sectors_at H235 At1) rfl rfl (fun z w238 _ H238 _ => ?_)
        rw [← hmet.1] at H238
        obtain ⟨Az, cz, hz, _⟩ := Sep.rowForm H238 At0
        subst hz
        refine FL_assign (h := ?_)
        refine FL_assign (h := ?_)
        refine FL_nil (Qseq_normal ?_)
        refine FW_seq ?_
        refine FW_region ?_
        refine FL_move (h := ?_)
        refine FL_move (h := ?_)
        refine FL_move (h := ?_)
        refine FL_val (Gives.lss rfl rfl) rfl ?_
        refine FL_val (Gives.eqlB rfl rfl) rfl ?_
        refine FL_move (h := ?_)
        first | refine FL_splitP (t := 144) rfl (fun hs247 => ?_) (fun hs247 => ?_) | refine FL_split (t := 144) rfl (fun hs247 => ?_) (fun hs247 => ?_)
        · skip
          refine FL_on rfl rfl ?_
          refine FL_move (h := ?_)
          refine FL_on rfl rfl ?_
          refine FL_callQ H238 (ops_at H238 At3 (k := o + 1) hmet.2.2.1) (h := fun w250 H250 _ => ?_)
          refine FL_on rfl rfl ?_
          refine FL_move (h := ?_)
          refine FL_on rfl rfl ?_
          first | refine FL_val (Gives.addI rfl rfl rfl (by omega)) rfl ?_ | refine FL_val (Gives.add rfl rfl) rfl ?_
          refine FL_on rfl rfl ?_
          refine FL_val (Gives.eql rfl rfl) rfl ?_
          refine FL_pickT (h := ?_)
          refine FL_move (h := ?_)
          first | refine FL_splitP (t := 151) rfl (fun hs256 => ?_) (fun hs256 => ?_) | refine FL_split (t := 151) rfl (fun hs256 => ?_) (fun hs256 => ?_)
          · skip
            refine FL_on rfl rfl ?_
            refine FL_move (h := ?_)
            refine FL_on rfl rfl ?_
            refine FL_val (Gives.lenSlice rfl) rfl ?_
            refine FL_on rfl rfl ?_
            refine FL_val (Gives.eql rfl rfl) rfl ?_
            refine FL_pickT (h := ?_)
            refine FL_move (h := ?_)
            first | refine FL_splitP (t := 156) rfl (fun hs262 => ?_) (fun hs262 => ?_) | refine FL_split (t := 156) rfl (fun hs262 => ?_) (fun hs262 => ?_)
            · skip
              refine FL_on rfl rfl ?_
              refine FL_move (h := ?_)
              refine FL_on rfl rfl ?_
              refine FL_move (h := ?_)
              refine FL_on rfl rfl ?_
              refine FL_callS (eqSame (H250.rowAt At1) (H250.rowAt At0)) (h := ?_)
              refine FL_pickT (h := ?_)
              refine FL_move (h := ?_)
              first | refine FL_splitP (t := 161) rfl (fun hs268 => ?_) (fun hs268 => ?_) | refine FL_split (t := 161) rfl (fun hs268 => ?_) (fun hs268 => ?_)
              · skip
                refine FL_on rfl rfl ?_
                refine FL_callQ H250 works_ok (h := fun w270 H270 _ => ?_)
                refine FL_pickT (h := ?_)
                refine FL_assign (h := ?_)
                refine FL_nil (Qseq_normal ?_)
                refine FW_ret (Qfn_ret (hR := ?_))
                exact ⟨rfl, H270.kept⟩
              · skip
                exact absurd hs268 (by decide) --done
            · skip
              exact absurd (by rw [hmet.2.1]; rfl) hs262 --done
          · skip
            exact absurd trivial hs256 --done
        · skip
          exact absurd rfl hs247 --done
end
end Go.Proofs.Yteflbohpabdjkaa
