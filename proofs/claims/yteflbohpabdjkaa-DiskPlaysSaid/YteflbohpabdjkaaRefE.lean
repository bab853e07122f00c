/-
  The reference's disk: Read, walked.
-/
import Derived.Test.YteflbohpabdjkaaRefD
namespace Go.Proofs.Yteflbohpabdjkaa
open Go Go.Mw
set_option maxRecDepth 8000

theorem pad_full {b : List UInt8} (h : b.length = 128) : pad b = b := by unfold pad; rw [h]; simp
section
variable {q : Nat} {a : AM} {F : Nat → Prop} {w w₀ : World} {S : Nat → Prop} {rs : List HP}
theorem refFacts (h : (refA q a).ok F w) : ∃ m : RM, m.abs = a ∧ ∃ vk vo ve pool, m.ok pool ∧ w.heap[q]? = some (.cells (refCells m vk vo ve).toArray 106 (0, 0)) ∧
    (∃ A c, vk = .slice A m.kept.length c ∧ RowAt w A m.kept.length 1 (m.kept.map fun x => secV x.1)) ∧ (∃ A c, vo = .slice A m.opn.length c ∧ RowAt w A m.opn.length 2 (refOpen m.opn)) ∧
    ∀ x ∈ pool, w.heap[x.1]? = some (.cells (x.2.map B).toArray 5 (0, 0)) := by
  obtain ⟨m, hm, H⟩ := Sep.openA (Sep.start1 h)
  obtain ⟨vk, vo, ve, pool, hok, H⟩ := Sep.openRef H
  obtain ⟨Ak, ck, hk, _⟩ := Sep.rowForm H At1
  obtain ⟨Ao, co, ho, _⟩ := Sep.rowForm H At2
  subst hk ho
  exact ⟨m, hm, _, _, _, pool, hok, H.obj At0, ⟨Ak, ck, rfl, Sep.rowAt H At1⟩, ⟨Ao, co, rfl, Sep.rowAt H At2⟩, fun x hx => Sep.pool H At4 (poolOf_mem hx)⟩
theorem sec_row {pool : List (Nat × List UInt8)} {x : Nat × List UInt8} (hp : ∀ x ∈ pool, w.heap[x.1]? = some (.cells (x.2.map B).toArray 5 (0, 0))) (hx : x ∈ pool) (hl : x.2.length = 128) : RowAt w (some ⟨x.1, 0, none⟩) x.2.length 1 (x.2.map B) :=
  rowAt_of_block (hp x hx) (by simp)
theorem readR_ok {at_ : Int} (hs : a.small 100000) (h : (refA q a).ok F w) :
    Rets Try.prog 38 [.pointer (some ⟨q, 0, none⟩), I at_] w fun v w' => ∃ s, v = .tuple #[s, I (a.read at_).2] ∧ True ∧ Turn noB (rowH 5 1 s ((a.read at_).1.getD []).length (((a.read at_).1.getD []).map B)) w w' := by
  obtain ⟨m, rfl, vk, vo, ve, pool, hok, hb, ⟨Ak, ck, hvk, hkr⟩, ⟨Ao, co, hvo, hor⟩, hpool⟩ := refFacts h
  subst hvk hvo
  have H := Sep.start0 w
  have hol := hs.opn
  rw [opn_len] at hol
  refine rets2 Try.func38 rfl rfl rfl rfl ?_
  refine FW_seq ?_
  refine FW_region ?_
  refine FL_assign (h := ?_)
  refine FL_assign (h := ?_)
  refine FL_nil (Qseq_normal ?_)
  refine FW_seq ?_
  refine FW_block ?_
  refine FW_seq ?_
  refine FW_region ?_
  refine FL_move (h := ?_)
  refine FL_val (Gives.nilCheck rfl) rfl ?_
  first | refine FL_val (Gives.field0 rfl) rfl ?_ | refine FL_val (Gives.field rfl) rfl ?_ | refine FL_val (Gives.fieldA rfl) rfl ?_
  refine FL_loadB hb (h := ?_)
  refine FL_assign (h := ?_)
  refine FL_nil (Qseq_normal ?_)
  first | refine FW_condP rfl (fun hc8 => ?_) (fun hc8 => ?_) | refine FW_cond rfl (fun hc8 => ?_) (fun hc8 => ?_)
  · skip
    have hl : m.abs.look at_ = 290 := by unfold AM.look; rw [if_pos (show m.abs.dead = true from hc8)]
    refine FW_seq ?_
    refine FW_region ?_
    refine FL_assign (h := ?_)
    refine FL_assign (h := ?_)
    refine FL_nil (Qseq_normal ?_)
    refine FW_ret (Qblk_ret (Qseq_ret (Qfn_ret (hR := ?_))))
    have hrd : m.abs.read at_ = (none, 290) := by unfold AM.read; rw [hl, if_pos (by decide)]
    rw [hrd]
    exact ⟨_, rfl, trivial, (H.nilRow _ _).turn⟩
  · skip
    have hd : m.dead = false := hc8
    refine FW_seq ?_
    refine FW_region ?_
    refine FL_move (h := ?_)
    refine FL_val (Gives.lss rfl rfl) rfl ?_
    refine FL_move (h := ?_)
    first | refine FL_splitP (t := 15) rfl (fun hs17 => ?_) (fun hs17 => ?_) | refine FL_split (t := 15) rfl (fun hs17 => ?_) (fun hs17 => ?_)
    · skip
      have hr3 : at_ < 0 ∨ m.many ≤ at_ := .inl hs17
      refine FL_off rfl rfl rfl ?_
      refine FL_off rfl rfl rfl ?_
      refine FL_off rfl rfl rfl ?_
      refine FL_off rfl rfl rfl ?_
      refine FL_off rfl rfl rfl ?_
      refine FL_off rfl rfl rfl ?_
      refine FL_pickT (h := ?_)
      refine FL_assign (h := ?_)
      refine FL_nil (Qseq_normal ?_)
      refine FW_cond_true rfl ?_
      refine FW_seq ?_
      refine FW_region ?_
      refine FL_assign (h := ?_)
      refine FL_assign (h := ?_)
      refine FL_nil (Qseq_normal ?_)
      refine FW_ret (Qblk_ret (Qseq_ret (Qfn_ret (hR := ?_))))
      have hl : m.abs.look at_ = 6 := by unfold AM.look; rw [if_neg (show ¬ m.abs.dead = true by rw [show m.abs.dead = false from hd]; simp), if_pos (show at_ < 0 ∨ m.abs.many ≤ at_ from (by first | exact hr3 | exact hr4))]
      have hrd : m.abs.read at_ = (none, 6) := by unfold AM.read; rw [hl, if_pos (by decide)]
      rw [hrd]
      exact ⟨_, rfl, trivial, (H.nilRow _ _).turn⟩
    · skip
      have hn3 := hs17
      refine FL_on rfl rfl ?_
      refine FL_move (h := ?_)
      refine FL_on rfl rfl ?_
      refine FL_move (h := ?_)
      refine FL_on rfl rfl ?_
      refine FL_val (Gives.nilCheck rfl) rfl ?_
      refine FL_on rfl rfl ?_
      first | refine FL_val (Gives.field0 rfl) rfl ?_ | refine FL_val (Gives.field rfl) rfl ?_ | refine FL_val (Gives.fieldA rfl) rfl ?_
      refine FL_on rfl rfl ?_
      refine FL_loadB hb (h := ?_)
      refine FL_on rfl rfl ?_
      refine FL_val (Gives.geq rfl rfl) rfl ?_
      refine FL_pickF (h := ?_)
      refine FL_assign (h := ?_)
      refine FL_nil (Qseq_normal ?_)
      first | refine FW_condP rfl (fun hc33 => ?_) (fun hc33 => ?_) | refine FW_cond rfl (fun hc33 => ?_) (fun hc33 => ?_)
      · skip
        have hr4 : at_ < 0 ∨ m.many ≤ at_ := by first | exact hr3 | exact .inr hc33
        have hl : m.abs.look at_ = 6 := by unfold AM.look; rw [if_neg (show ¬ m.abs.dead = true by rw [show m.abs.dead = false from hd]; simp), if_pos (show at_ < 0 ∨ m.abs.many ≤ at_ from hr4)]
        refine FW_seq ?_
        refine FW_region ?_
        refine FL_assign (h := ?_)
        refine FL_assign (h := ?_)
        refine FL_nil (Qseq_normal ?_)
        refine FW_ret (Qblk_ret (Qseq_ret (Qfn_ret (hR := ?_))))
        have hl : m.abs.look at_ = 6 := by unfold AM.look; rw [if_neg (show ¬ m.abs.dead = true by rw [show m.abs.dead = false from hd]; simp), if_pos (show at_ < 0 ∨ m.abs.many ≤ at_ from (by first | exact hr3 | exact hr4))]
        have hrd : m.abs.read at_ = (none, 6) := by unfold AM.read; rw [hl, if_pos (by decide)]
        rw [hrd]
        exact ⟨_, rfl, trivial, (H.nilRow _ _).turn⟩
      · skip
        have hat : 0 ≤ at_ ∧ at_ < m.many := by omega
        have hl : m.abs.look at_ = 0 := by unfold AM.look; rw [if_neg (show ¬ m.abs.dead = true by rw [show m.abs.dead = false from hd]; simp), if_neg (show ¬ (at_ < 0 ∨ m.abs.many ≤ at_) from (show ¬ (at_ < 0 ∨ m.many ≤ at_) by omega))]
        have hrd : m.abs.read at_ = (some (m.abs.sec at_), 0) := by unfold AM.read; rw [hl, if_neg (by decide)]
        rw [hrd]
        have hsec : m.abs.sec at_ = allT (opsR m.opn) (kf m.kept) at_ := rfl
        refine FW_skip (Qblk_normal (Qseq_normal ?_))
        refine FW_seq ?_
        refine FW_seq ?_
        refine FW_region ?_
        refine FL_move (h := ?_)
        refine FL_val (Gives.nilCheck rfl) rfl ?_
        first | refine FL_val (Gives.field0 rfl) rfl ?_ | refine FL_val (Gives.field rfl) rfl ?_ | refine FL_val (Gives.fieldA rfl) rfl ?_
        refine FL_loadB hb (h := ?_)
        refine FL_val (Gives.lenSlice rfl) rfl ?_
        first | refine FL_val (Gives.subI rfl rfl rfl (by omega)) rfl ?_ | refine FL_val (Gives.sub rfl rfl) rfl ?_
        refine FL_assign (h := ?_)
        refine FL_nil (Qseq_normal ?_)
        refine FW_block ?_
        refine FW_loop' (fun n : Nat => [(0, .pointer (some ⟨q, 0, none⟩)), (1, I at_), (6, I ((n : Int) - 1))])
          (fun n w' => n ≤ m.opn.length ∧ m.abs.sec at_ = allT (opsR (m.opn.take n)) (kf m.kept) at_ ∧ w = w') (fun n _ => n) m.opn.length ⟨rfl, rfl, rfl, trivial⟩ ⟨Nat.le_refl _, by rw [List.take_length, hsec], rfl⟩ (fun n τ wl hI => ?_)
        obtain ⟨hn, hse, rfl⟩ := hI
        try simp only [upds, like, upd_ds, und_ds]
        refine FW_seq ?_
        refine FW_seq ?_
        refine FW_region ?_
        refine FL_move (h := ?_)
        refine FL_val (Gives.geq rfl rfl) rfl ?_
        refine FL_nil (Qseq_normal ?_)
        first | refine FW_condP rfl (fun hc49 => ?_) (fun hc49 => ?_) | refine FW_cond rfl (fun hc49 => ?_) (fun hc49 => ?_)
        · skip
          obtain ⟨i, rfl⟩ : ∃ i, n = i + 1 := ⟨n - 1, by omega⟩
          rw [show ((i + 1 : Nat) : Int) - 1 = (i : Int) from by omega]
          rw [allT_take (by omega)] at hse
          have hlt : i < m.opn.length := by omega
          obtain ⟨ad, hAd, _⟩ := hor.at_ (by omega)
          subst hAd
          refine FW_skip (Qseq_normal ?_)
          refine FW_seq ?_
          refine FW_block ?_
          refine FW_seq ?_
          refine FW_region ?_
          refine FL_move (h := ?_)
          refine FL_val (Gives.nilCheck rfl) rfl ?_
          first | refine FL_val (Gives.field0 rfl) rfl ?_ | refine FL_val (Gives.field rfl) rfl ?_ | refine FL_val (Gives.fieldA rfl) rfl ?_
          refine FL_loadB hb (h := ?_)
          refine FL_move (h := ?_)
          refine FL_val (Gives.idx rfl rfl hlt) rfl ?_
          first | refine FL_val (Gives.field0 rfl) rfl ?_ | refine FL_val (Gives.field rfl) rfl ?_ | refine FL_val (Gives.fieldA rfl) rfl ?_
          refine FL_val (Gives.loadC rfl (hor.elemC rfl i hlt (us := [I m.opn[i].1, secV m.opn[i].2.1]) (refOpen_get m.opn i hlt) 0 _ rfl)) rfl ?_
          refine FL_move (h := ?_)
          refine FL_val (Gives.eql rfl rfl) rfl ?_
          refine FL_nil (Qseq_normal ?_)
          first | refine FW_condP rfl (fun hc61 => ?_) (fun hc61 => ?_) | refine FW_cond rfl (fun hc61 => ?_) (fun hc61 => ?_)
          · skip
            have hC := hc61
            refine FW_seq ?_
            refine FW_region ?_
            refine FL_move (h := ?_)
            refine FL_val (Gives.nilCheck rfl) rfl ?_
            first | refine FL_val (Gives.field0 rfl) rfl ?_ | refine FL_val (Gives.field rfl) rfl ?_ | refine FL_val (Gives.fieldA rfl) rfl ?_
            refine FL_loadB hb (h := ?_)
            refine FL_move (h := ?_)
            refine FL_val (Gives.idx rfl rfl hlt) rfl ?_
            first | refine FL_val (Gives.field0 rfl) rfl ?_ | refine FL_val (Gives.field rfl) rfl ?_ | refine FL_val (Gives.fieldA rfl) rfl ?_
            refine FL_val (Gives.loadC rfl (hor.elemC rfl i hlt (us := [I m.opn[i].1, secV m.opn[i].2.1]) (refOpen_get m.opn i hlt) 1 _ rfl)) rfl ?_
            have hm := hok.opn _ (List.getElem_mem hlt)
            have hl8 := hok.len _ hm
            have hrow := sec_row hpool hm hl8
            rw [hl8] at hrow
            refine FL_callN H (full_ok (A := some ⟨m.opn[i].2.1, 0, none⟩) (c := 128) (l := m.opn[i].2.2) (by rw [hl8]; exact hrow) (by omega)) (by rw [hl8]; rfl) rfl (fun bf w72 _ H72 _ => ?_)
            rw [pad_full hl8] at H72
            refine FL_assign (h := ?_)
            refine FL_assign (h := ?_)
            refine FL_nil (Qseq_normal ?_)
            refine FW_ret (Qblk_ret (Qseq_ret (Qround_ret (Qblk_ret (Qseq_ret (Qfn_ret (hR := ?_)))))))
            have hv : m.abs.sec at_ = m.opn[i].2.2 := by
              rw [hse]
              unfold setT
              rw [if_pos (by omega)]
            exact ⟨_, rfl, trivial, by rw [Option.getD_some, hv, hl8]; exact (Sep.asRow H72 At0 (s := 1) (n := 128) (by rw [List.length_map, hl8]) (by unfold maxLen; decide)).turn⟩
          · skip
            have hC := hc61
            refine FW_skip (Qblk_normal (Qseq_normal ?_))
            refine FW_region ?_
            refine FL_move (h := ?_)
            first | refine FL_val (Gives.subI rfl rfl rfl (by omega)) rfl ?_ | refine FL_val (Gives.sub rfl rfl) rfl ?_
            refine FL_assign (h := ?_)
            refine FL_nil ?_
            refine Qround_normal i ⟨rfl, rfl, rfl, trivial⟩ ⟨by omega, ?_, rfl⟩ (by omega)
            rw [hse]
            unfold setT
            rw [if_neg (by omega)]
        · skip
          have hn0 : n = 0 := by omega
          subst hn0
          have hse0 : m.abs.sec at_ = kf m.kept at_ := hse
          refine FW_exit (Qseq_exit (Qround_exit (Qblk_exit (Qseq_normal ?_))))
          refine FW_seq ?_
          refine FW_seq ?_
          refine FW_region ?_
          refine FL_move (h := ?_)
          refine FL_move (h := ?_)
          refine FL_val (Gives.nilCheck rfl) rfl ?_
          first | refine FL_val (Gives.field0 rfl) rfl ?_ | refine FL_val (Gives.field rfl) rfl ?_ | refine FL_val (Gives.fieldA rfl) rfl ?_
          refine FL_loadB hb (h := ?_)
          refine FL_val (Gives.lenSlice rfl) rfl ?_
          refine FL_val (Gives.lss rfl rfl) rfl ?_
          refine FL_nil (Qseq_normal ?_)
          first | refine FW_condP rfl (fun hc89 => ?_) (fun hc89 => ?_) | refine FW_cond rfl (fun hc89 => ?_) (fun hc89 => ?_)
          · skip
            obtain ⟨an, han⟩ : ∃ an : Nat, at_ = an := ⟨at_.toNat, by omega⟩
            have hltk : an < m.kept.length := by omega
            obtain ⟨kd, hKd, hkc⟩ := hkr.at_ (by omega)
            subst hKd
            have hm := hok.kept _ (List.getElem_mem hltk)
            have hl8 := hok.len _ hm
            have hrow := sec_row hpool hm hl8
            rw [hl8] at hrow
            have hv : m.abs.sec at_ = m.kept[an].2 := by
              rw [hse0]
              unfold kf
              rw [if_pos hat.1, han, Int.toNat_natCast, List.getElem?_eq_getElem hltk]
              rfl
            refine FW_seq ?_
            refine FW_region ?_
            refine FL_move (h := ?_)
            refine FL_val (Gives.nilCheck rfl) rfl ?_
            first | refine FL_val (Gives.field0 rfl) rfl ?_ | refine FL_val (Gives.field rfl) rfl ?_ | refine FL_val (Gives.fieldA rfl) rfl ?_
            refine FL_loadB hb (h := ?_)
            refine FL_move (h := ?_)
            rw [han]
            refine FL_val (Gives.idx rfl rfl hltk) rfl ?_
            refine FL_loadC (hkc (an * 1) (secV m.kept[an].1) (by simp [hltk])) (h := ?_)
            refine FL_callN H (full_ok (A := some ⟨m.kept[an].1, 0, none⟩) (c := 128) (l := m.kept[an].2) (by rw [hl8]; exact hrow) (by omega)) (by rw [hl8]; rfl) rfl (fun bf w99 _ H99 _ => ?_)
            rw [pad_full hl8] at H99
            refine FL_assign (h := ?_)
            refine FL_assign (h := ?_)
            refine FL_nil (Qseq_normal ?_)
            refine FW_ret (Qseq_ret (Qfn_ret (hR := ?_)))
            exact ⟨_, rfl, trivial, by rw [Option.getD_some, ← han, hv, hl8]; exact (Sep.asRow H99 At0 (s := 1) (n := 128) (by rw [List.length_map, hl8]) (by unfold maxLen; decide)).turn⟩
          · skip
            have hv : m.abs.sec at_ = zeroSec := by
              rw [hse0]
              unfold kf
              rw [if_pos hat.1, List.getElem?_eq_none (by omega)]
              rfl
            refine FW_skip (Qseq_normal ?_)
            refine FW_seq ?_
            refine FW_region ?_
            refine FL_callN H (full_ok (A := none) (c := 0) (l := []) (RowAt.nil _ _ _) (by simp)) rfl rfl (fun bf w105 _ H105 _ => ?_)
            refine FL_assign (h := ?_)
            refine FL_assign (h := ?_)
            refine FL_nil (Qseq_normal ?_)
            refine FW_ret (Qfn_ret (hR := ?_))
            exact ⟨_, rfl, trivial, by rw [Option.getD_some, hv, zero_len]; exact (Sep.asRow H105 At0 (s := 1) (n := 128) (by rw [List.length_map]; rfl) (by unfold maxLen; decide)).turn⟩
end
end Go.Proofs.Yteflbohpabdjkaa
