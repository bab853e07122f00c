/-
  The reference's disk: Write and Flush, walked.
-/
import Derived.Test.YteflbohpabdjkaaRefC
namespace Go.Proofs.Yteflbohpabdjkaa
open Go Go.Mw
set_option maxRecDepth 8000

structure AM.small (k : Nat) (a : AM) : Prop where
  opn : (a.opn.length : Int) ≤ k
  keep : (a.keep.length : Int) ≤ k
  ops0 : 0 ≤ a.ops
  ops : a.ops ≤ k
  left0 : -(k : Int) ≤ a.left
  left : a.left ≤ 9223372036854775807
section
variable {q : Nat} {a : AM} {F : Nat → Prop} {w w₀ : World} {S : Nat → Prop} {rs : List HP}
theorem opn_len (m : RM) : m.abs.opn.length = m.opn.length := by simp [RM.abs]
/-- A fall by the numbers that the disk was asked to keep. -/
theorem fallOwn {m : RM} {vk vo ve : Value} {pool : List (Nat × List UInt8)} {A : Option Addr} {c : Nat} (hve : ve = .slice A m.keep.length c) (hok : m.ok pool) (hol : (m.opn.length : Int) ≤ 1000000) (hkl : (m.keep.length : Int) ≤ 1000000) (h : (starL (refParts q m (vk, vo, ve, pool))).ok F w) :
    Rets Try.prog 71 [.pointer (some ⟨q, 0, none⟩), .slice A m.keep.length c] w fun v w' => v = .tuple #[] ∧ Turn F (refA q (m.abs.fall m.keep)) w w' := by
  subst hve
  exact fallR_ok (y := (vk, vo, .slice A m.keep.length c, pool)) hok hkl hol h fun w' l1 l2 Hw => Sep.rowAt Hw ⟨l1, l2, rfl, fun _ => rfl⟩
set_option maxHeartbeats 4000000 in
theorem writeR_ok {at_ : Int} {b : List UInt8} {A : Option Addr} {c : Nat} (hs : a.small 100000) (hr : RowAt w A b.length 1 (b.map B)) (hA : Off A b.length F) (h : (refA q a).ok F w) :
    Rets Try.prog 36 [.pointer (some ⟨q, 0, none⟩), I at_, .slice A b.length c] w fun v w' => v = I (a.write at_ b).1 ∧ Turn F (refA q (a.write at_ b).2) w w' := by
  obtain ⟨m, rfl, H⟩ := Sep.openA (Sep.start1 h)
  obtain ⟨vk, vo, ve, pool, hok, H⟩ := Sep.openRef H
  have hol := hs.opn
  rw [opn_len] at hol
  have hs2 := hs
  obtain ⟨Ao, co, hvo, _⟩ := Sep.rowForm H At2
  subst hvo
  refine rets3 Try.func36 rfl rfl rfl rfl ?_
  refine FW_seq ?_
  refine FW_region ?_
  refine FL_assign (h := ?_)
  refine FL_nil (Qseq_normal ?_)
  refine FW_seq ?_
  refine FW_block ?_
  refine FW_seq ?_
  refine FW_region ?_
  refine FL_move (h := ?_)
  refine FL_val (Gives.nilCheck rfl) rfl ?_
  first | refine FL_val (Gives.field0 rfl) rfl ?_ | refine FL_val (Gives.field rfl) rfl ?_ | refine FL_val (Gives.fieldA rfl) rfl ?_
  refine FL_load H (h := ?_)
  refine FL_assign (h := ?_)
  refine FL_nil (Qseq_normal ?_)
  first | refine FW_condP rfl (fun hc7 => ?_) (fun hc7 => ?_) | refine FW_cond rfl (fun hc7 => ?_) (fun hc7 => ?_)
  · skip
    have hd : m.dead = true := hc7
    refine FW_seq ?_
    refine FW_region ?_
    refine FL_assign (h := ?_)
    refine FL_nil (Qseq_normal ?_)
    refine FW_ret (Qblk_ret (Qseq_ret (Qfn_ret (hR := ?_))))
    have hw : m.abs.write at_ b = (290, m.abs) := by
      have hl : m.abs.look at_ = 290 := by unfold AM.look; rw [if_pos (show m.abs.dead = true from hd)]
      unfold AM.write
      rw [hl, if_pos (by decide)]
    rw [hw]
    exact ⟨rfl, Turn.refl h⟩
  · skip
    have hd : m.dead = false := hc7
    refine FW_seq ?_
    refine FW_region ?_
    refine FL_move (h := ?_)
    refine FL_val (Gives.lss rfl rfl) rfl ?_
    refine FL_move (h := ?_)
    first | refine FL_splitP (t := 15) rfl (fun hs15 => ?_) (fun hs15 => ?_) | refine FL_split (t := 15) rfl (fun hs15 => ?_) (fun hs15 => ?_)
    · skip
      have hr3 : at_ < 0 ∨ m.many ≤ at_ := .inl hs15
      refine FL_off rfl rfl rfl ?_
      refine FL_off rfl rfl rfl ?_
      refine FL_off rfl rfl rfl ?_
      refine FL_off rfl rfl rfl ?_
      refine FL_off rfl rfl rfl ?_
      refine FL_off rfl rfl rfl ?_
      refine FL_pickT (h := ?_)
      refine FL_assign (h := ?_)
      refine FL_nil (Qseq_normal ?_)
      refine FW_cond_true rfl ?_
      refine FW_seq ?_
      refine FW_region ?_
      refine FL_assign (h := ?_)
      refine FL_nil (Qseq_normal ?_)
      refine FW_ret (Qblk_ret (Qseq_ret (Qfn_ret (hR := ?_))))
      have hw : m.abs.write at_ b = (6, m.abs) := by
        have hl : m.abs.look at_ = 6 := by unfold AM.look; rw [if_neg (show ¬ m.abs.dead = true by rw [show m.abs.dead = false from hd]; simp), if_pos (by first | exact hr3 | exact hr4)]
        unfold AM.write
        rw [hl, if_pos (by decide)]
      rw [hw]
      exact ⟨rfl, Turn.refl h⟩
    · skip
      have hn3 := hs15
      refine FL_on rfl rfl ?_
      refine FL_move (h := ?_)
      refine FL_on rfl rfl ?_
      refine FL_move (h := ?_)
      refine FL_on rfl rfl ?_
      refine FL_val (Gives.nilCheck rfl) rfl ?_
      refine FL_on rfl rfl ?_
      first | refine FL_val (Gives.field0 rfl) rfl ?_ | refine FL_val (Gives.field rfl) rfl ?_ | refine FL_val (Gives.fieldA rfl) rfl ?_
      refine FL_on rfl rfl ?_
      refine FL_load H (h := ?_)
      refine FL_on rfl rfl ?_
      refine FL_val (Gives.geq rfl rfl) rfl ?_
      refine FL_pickF (h := ?_)
      refine FL_assign (h := ?_)
      refine FL_nil (Qseq_normal ?_)
      first | refine FW_condP rfl (fun hc30 => ?_) (fun hc30 => ?_) | refine FW_cond rfl (fun hc30 => ?_) (fun hc30 => ?_)
      · skip
        have hr4 : at_ < 0 ∨ m.many ≤ at_ := by first | exact hr3 | exact .inr hc30
        refine FW_seq ?_
        refine FW_region ?_
        refine FL_assign (h := ?_)
        refine FL_nil (Qseq_normal ?_)
        refine FW_ret (Qblk_ret (Qseq_ret (Qfn_ret (hR := ?_))))
        have hw : m.abs.write at_ b = (6, m.abs) := by
          have hl : m.abs.look at_ = 6 := by unfold AM.look; rw [if_neg (show ¬ m.abs.dead = true by rw [show m.abs.dead = false from hd]; simp), if_pos (by first | exact hr3 | exact hr4)]
          unfold AM.write
          rw [hl, if_pos (by decide)]
        rw [hw]
        exact ⟨rfl, Turn.refl h⟩
      · skip
        have hl : m.abs.look at_ = 0 := by unfold AM.look; rw [if_neg (show ¬ m.abs.dead = true by rw [show m.abs.dead = false from hd]; simp), if_neg (show ¬ (at_ < 0 ∨ m.abs.many ≤ at_) from (show ¬ (at_ < 0 ∨ m.many ≤ at_) by omega))]
        refine FW_seq ?_
        refine FW_region ?_
        refine FL_move (h := ?_)
        refine FL_val (Gives.lenSlice rfl) rfl ?_
        refine FL_val (Gives.gtr rfl rfl) rfl ?_
        refine FL_assign (h := ?_)
        refine FL_nil (Qseq_normal ?_)
        first | refine FW_condP rfl (fun hc39 => ?_) (fun hc39 => ?_) | refine FW_cond rfl (fun hc39 => ?_) (fun hc39 => ?_)
        · skip
          have hw : m.abs.write at_ b = (5, m.abs) := by
            unfold AM.write
            rw [hl, if_neg (by decide), if_pos (by omega)]
          refine FW_seq ?_
          refine FW_region ?_
          refine FL_assign (h := ?_)
          refine FL_nil (Qseq_normal ?_)
          refine FW_ret (Qblk_ret (Qseq_ret (Qfn_ret (hR := ?_))))
          exact ⟨by rw [hw]; rfl, by rw [hw]; exact Turn.refl h⟩
        · skip
          have hb : b.length ≤ 128 := by omega
          have hw : m.abs.write at_ b = (m.abs.put at_ b).op := by
            unfold AM.write
            rw [hl, if_neg (by decide), if_neg (by omega)]
          rw [hw]
          refine FW_skip (Qblk_normal (Qseq_normal ?_))
          refine FW_seq ?_
          refine FW_drawS rfl H (h := fun hok44 w46 H46 => ?_)
          refine FGmove hok44 0 (h := ?_)
          refine FGmove hok44 1 (h := ?_)
          refine FGp hok44 2 rfl rfl (fun _ => (Gives.nilCheck rfl)) (by kernel_rfl) ?_
          first | refine FGp hok44 3 rfl rfl (fun _ => (Gives.field0 rfl)) (by kernel_rfl) ?_ | refine FGp hok44 3 rfl rfl (fun _ => (Gives.field rfl)) (by kernel_rfl) ?_ | refine FGp hok44 3 rfl rfl (fun _ => (Gives.fieldA rfl)) (by kernel_rfl) ?_
          refine FGload hok44 4 H46 (h := ?_)
          refine FGmove hok44 5 (h := ?_)
          refine FGmove hok44 6 (h := ?_)
          refine FGcallN hok44 7 [(5, true), (4, false), (3, true), (2, true), (1, true), (0, true)] H46 (full_ok (hr.keepS H46.kept hA) hb) (h := fun bf w51 _ H51 _ => ⟨Stab_pure (Stab_load H51 (h := Stab_pure (Stab_pure (Stab_pure (Stab_pure (Stab_nil)))))), ?_⟩)
          refine FGp hok44 8 rfl rfl (fun _ => (Gives.build (out := [I at_, secV bf]) (Fills.one rfl rfl rfl (by simp) rfl (Fills.one rfl rfl rfl (by simp) rfl Fills.nil)))) (by kernel_rfl) ?_
          refine FGbuildSlice hok44 9 [(4, false), (3, true), (2, true), (1, true), (0, true)] H51 (Elems.many (us := [I at_, secV bf]) rfl rfl Elems.nil) (h := fun b53 w54 H54 => ⟨Stab_load H54 (h := Stab_pure (Stab_pure (Stab_pure (Stab_pure (Stab_nil))))), ?_⟩)
          refine FGappend hok44 10 [(0, true)] (t := 104) (e := 108) (v := .slice Ao m.opn.length co) (k := m.opn.length) (xs := refOpen m.opn) H54 (H54.blkRow At0 (m := 1) (s := 2) rfl) (by intro u hu; simp at hu; rcases hu with rfl | rfl <;> rfl) (by unfold maxLen; omega) (by omega) (hat := At4) (h := fun vv w56 H56 => ⟨Stab_pure (Stab_nil), ?_⟩)
          obtain ⟨Av, cv, hv55, _⟩ := Sep.rowForm H56 At4
          subst hv55
          refine FGp hok44 11 rfl rfl (fun _ => (Gives.nilCheck rfl)) (by kernel_rfl) ?_
          first | refine FGp hok44 12 rfl rfl (fun _ => (Gives.field0 rfl)) (by kernel_rfl) ?_ | refine FGp hok44 12 rfl rfl (fun _ => (Gives.field rfl)) (by kernel_rfl) ?_ | refine FGp hok44 12 rfl rfl (fun _ => (Gives.fieldA rfl)) (by kernel_rfl) ?_
          refine FGstore hok44 13 [] H56 (h := fun w60 H60 => ⟨Stab_nil, ?_⟩)
          refine FG_end hok44 (by kernel_rfl) ?_
          refine Qseq_normal ?_
          refine FW_seq ?_
          refine FW_seq ?_
          refine FW_region ?_
          refine FL_move (h := ?_)
          have hro : refOpen m.opn ++ ([I at_, secV bf] ++ []) = refOpen (m.opn ++ [(at_, bf, pad b)]) := by simp [refOpen]
          have hln : m.opn.length + 1 = (m.opn ++ [(at_, bf, pad b)]).length := by simp
          rw [hro, hln] at H60
          have H2 := (Sep.poolCons H60.drop0.front5.front1).front4.front4.front4.front4
          have hat : 0 ≤ at_ ∧ at_ < m.many := by omega
          have hok1 : RM.ok { m with opn := m.opn ++ [(at_, bf, pad b)] } ((bf, pad b) :: pool) :=
            ⟨fun x hx => List.mem_cons_of_mem _ (hok.kept x hx), fun x hx => by
              rcases List.mem_append.1 hx with h | h
              · exact List.mem_cons_of_mem _ (hok.opn x h)
              · rw [List.mem_singleton.1 h]; exact List.mem_cons_self, fun x hx => by
              rcases List.mem_cons.1 hx with rfl | h
              · exact pad_length hb
              · exact hok.len x h, fun x hx => by
              rcases List.mem_append.1 hx with h | h
              · exact hok.at_ x h
              · rw [List.mem_singleton.1 h]; exact hat, hok.many, hok.klen⟩
          have H3 := Sep.shutA (Sep.shutRef (m := { m with opn := m.opn ++ [(at_, bf, pad b)] }) hok1 H2)
          have e : RM.abs { m with opn := m.opn ++ [(at_, bf, pad b)] } = m.abs.put at_ b := by
            unfold RM.abs AM.put
            dsimp only
            rw [List.map_append]
            rfl
          rw [e] at H3
          refine FL_call1 H3 At0 (fun F' hp _ => counts_ok (by have h1 := hs.ops0; have h2 := hs.ops; have h3 := hs.left0; have h4 := hs.left; exact ⟨by show fits (m.abs.ops + 1); unfold fits; omega, by show fits (m.abs.left - 1); unfold fits; omega⟩) hp) (h := fun w63 H63 => ?_)
          refine FL_nil (Qseq_normal ?_)
          first | refine FW_condP rfl (fun hc64 => ?_) (fun hc64 => ?_) | refine FW_cond rfl (fun hc64 => ?_) (fun hc64 => ?_)
          · skip
            have hf : (m.abs.put at_ b).fails = true := decide_eq_true hc64
            obtain ⟨m2, hm2, H0⟩ := Sep.openA H63
            obtain ⟨vk2, vo2, ve2, pool2, hok2, H66⟩ := Sep.openRef H0
            obtain ⟨Ae, ce, hve2, _⟩ := Sep.rowForm H66 At3
            have hol2 : (m2.opn.length : Int) ≤ 1000000 := by
              rw [← opn_len, hm2]
              show (((m.opn.map fun x => (x.1, x.2.2)) ++ [(at_, pad b)]).length : Int) ≤ _
              simp; omega
            have hkl2 : (m2.keep.length : Int) ≤ 1000000 := by
              have e1 : m2.keep = m.keep := show m2.abs.keep = m.keep by rw [hm2]; rfl
              rw [e1]
              have := hs.keep
              have e2 : m.abs.keep = m.keep := rfl
              rw [e2] at this
              omega
            refine FW_seq ?_
            refine FW_region ?_
            refine FL_move (h := ?_)
            refine FL_move (h := ?_)
            refine FL_val (Gives.nilCheck rfl) rfl ?_
            first | refine FL_val (Gives.field0 rfl) rfl ?_ | refine FL_val (Gives.field rfl) rfl ?_ | refine FL_val (Gives.fieldA rfl) rfl ?_
            refine FL_load H66 (h := ?_)
            have HB := Sep.bundle (l := refParts q m2 (vk2, vo2, ve2, pool2)) (rs := []) H66
            rw [hve2]
            refine FL_call1 HB At0 (fun F' hp _ => fallOwn hve2 hok2 hol2 hkl2 hp) (h := fun w73 H73 => ?_)
            refine FL_nil (Qseq_normal ?_)
            refine FW_seq ?_
            refine FW_region ?_
            refine FL_assign (h := ?_)
            refine FL_nil (Qseq_normal ?_)
            refine FW_ret (Qseq_ret (Qfn_ret (hR := ?_)))
            have e : (m.abs.put at_ b).op = (290, m2.abs.fall m2.keep) := by
              unfold AM.op
              rw [if_pos hf, hm2]
              have e1 : m2.keep = (m.abs.put at_ b).keep := show m2.abs.keep = _ by rw [hm2]; rfl
              rw [e1]
            rw [e]
            exact ⟨rfl, H73.turn⟩
          · skip
            have hf : (m.abs.put at_ b).fails = false := decide_eq_false hc64
            refine FW_skip (Qseq_normal ?_)
            refine FW_seq ?_
            refine FW_region ?_
            refine FL_assign (h := ?_)
            refine FL_nil (Qseq_normal ?_)
            refine FW_ret (Qfn_ret (hR := ?_))
            have e : (m.abs.put at_ b).op = (0, (m.abs.put at_ b).counts) := by
              unfold AM.op
              rw [if_neg (by rw [hf]; simp)]
            rw [e]
            exact ⟨rfl, H63.turn⟩
theorem allT_snoc : ∀ (l : List (Int × List UInt8)) (x : Int × List UInt8) (f : Int → List UInt8), allT (l ++ [x]) f = setT (allT l f) x.1 x.2
  | [], _, _ => rfl
  | y :: l, x, f => allT_snoc l x (setT f y.1 y.2)
theorem allT_take {l : List (Int × Nat × List UInt8)} {f : Int → List UInt8} {i : Nat} (h : i < l.length) : allT (opsR (l.take (i + 1))) f = setT (allT (opsR (l.take i)) f) l[i].1 l[i].2.2 := by
  have e : opsR (l.take (i + 1)) = opsR (l.take i) ++ [(l[i].1, l[i].2.2)] := by
    unfold opsR
    rw [List.take_succ_eq_append_getElem h, List.map_append]
    rfl
  rw [e, allT_snoc]
set_option maxHeartbeats 4000000 in
theorem flushR_ok (hs : a.small 100000) (h : (refA q a).ok F w) :
    Rets Try.prog 39 [.pointer (some ⟨q, 0, none⟩)] w fun v w' => v = I a.flush.1 ∧ Turn F (refA q a.flush.2) w w' := by
  obtain ⟨m, rfl, H⟩ := Sep.openA (Sep.start1 h)
  obtain ⟨vk, vo, ve, pool, hok, H⟩ := Sep.openRef H
  have hol := hs.opn
  rw [opn_len] at hol
  refine rets1 Try.func39 rfl rfl rfl rfl ?_
  refine FW_seq ?_
  refine FW_region ?_
  refine FL_assign (h := ?_)
  refine FL_nil (Qseq_normal ?_)
  refine FW_seq ?_
  refine FW_seq ?_
  refine FW_region ?_
  refine FL_move (h := ?_)
  refine FL_val (Gives.nilCheck rfl) rfl ?_
  first | refine FL_val (Gives.field0 rfl) rfl ?_ | refine FL_val (Gives.field rfl) rfl ?_ | refine FL_val (Gives.fieldA rfl) rfl ?_
  refine FL_load H (h := ?_)
  refine FL_nil (Qseq_normal ?_)
  first | refine FW_condP rfl (fun hc6 => ?_) (fun hc6 => ?_) | refine FW_cond rfl (fun hc6 => ?_) (fun hc6 => ?_)
  · skip
    have hd : m.dead = true := hc6
    refine FW_seq ?_
    refine FW_region ?_
    refine FL_assign (h := ?_)
    refine FL_nil (Qseq_normal ?_)
    refine FW_ret (Qseq_ret (Qfn_ret (hR := ?_)))
    have hw : m.abs.flush = (290, m.abs) := by
      unfold AM.flush
      rw [if_pos (show m.abs.dead = true from hd)]
    rw [hw]
    exact ⟨rfl, Turn.refl h⟩
  · skip
    have hd : m.dead = false := hc6
    refine FW_skip (Qseq_normal ?_)
    refine FW_seq ?_
    refine FW_seq ?_
    refine FW_region ?_
    refine FL_move (h := ?_)
    refine FL_call1 (Sep.shutA (Sep.shutRef hok H)) At0 (fun F' hp _ => counts_ok (by have h1 := hs.ops0; have h2 := hs.ops; have h3 := hs.left0; have h4 := hs.left; exact ⟨by unfold fits; omega, by unfold fits; omega⟩) hp) (h := fun w13 H13 => ?_)
    refine FL_nil (Qseq_normal ?_)
    first | refine FW_condP rfl (fun hc14 => ?_) (fun hc14 => ?_) | refine FW_cond rfl (fun hc14 => ?_) (fun hc14 => ?_)
    · skip
      have hf : m.abs.fails = true := decide_eq_true hc14
      obtain ⟨m2, hm2, H0⟩ := Sep.openA H13
      obtain ⟨vk2, vo2, ve2, pool2, hok2, H16⟩ := Sep.openRef H0
      obtain ⟨Ae, ce, hve2, _⟩ := Sep.rowForm H16 At3
      have hol2 : (m2.opn.length : Int) ≤ 1000000 := by
        rw [← opn_len, hm2]
        show ((m.opn.map fun x => (x.1, x.2.2)).length : Int) ≤ _
        simp; omega
      have hkl2 : (m2.keep.length : Int) ≤ 1000000 := by
        have e1 : m2.keep = m.keep := show m2.abs.keep = m.keep by rw [hm2]; rfl
        rw [e1]
        have := hs.keep
        have e2 : m.abs.keep = m.keep := rfl
        rw [e2] at this
        omega
      refine FW_seq ?_
      refine FW_region ?_
      refine FL_move (h := ?_)
      refine FL_move (h := ?_)
      refine FL_val (Gives.nilCheck rfl) rfl ?_
      first | refine FL_val (Gives.field0 rfl) rfl ?_ | refine FL_val (Gives.field rfl) rfl ?_ | refine FL_val (Gives.fieldA rfl) rfl ?_
      refine FL_load H16 (h := ?_)
      have HB := Sep.bundle (l := refParts q m2 (vk2, vo2, ve2, pool2)) (rs := []) H16
      rw [hve2]
      refine FL_call1 HB At0 (fun F' hp _ => fallOwn hve2 hok2 hol2 hkl2 hp) (h := fun w23 H23 => ?_)
      refine FL_nil (Qseq_normal ?_)
      refine FW_seq ?_
      refine FW_region ?_
      refine FL_assign (h := ?_)
      refine FL_nil (Qseq_normal ?_)
      refine FW_ret (Qseq_ret (Qfn_ret (hR := ?_)))
      have e : m.abs.flush = (290, m2.abs.fall m2.keep) := by
        unfold AM.flush AM.op
        rw [if_neg (show ¬ m.abs.dead = true by rw [show m.abs.dead = false from hd]; simp), if_pos hf, if_pos hf, hm2]
        have e1 : m2.keep = m.abs.keep := show m2.abs.keep = _ by rw [hm2]; rfl
        rw [e1]
      rw [e]
      exact ⟨rfl, H23.turn⟩
    · skip
      have hf : m.abs.fails = false := decide_eq_false hc14
      obtain ⟨m2, hm2, H0⟩ := Sep.openA H13
      obtain ⟨vk2, vo2, ve2, pool2, hok2, H27⟩ := Sep.openRef H0
      obtain ⟨Ao, co, hvo2, _⟩ := Sep.rowForm H27 At2
      subst hvo2
      have hol2 : (m2.opn.length : Int) ≤ 1000000 := by
        rw [← opn_len, hm2]
        show ((m.opn.map fun x => (x.1, x.2.2)).length : Int) ≤ _
        simp; omega
      refine FW_skip (Qseq_normal ?_)
      refine FW_seq ?_
      refine FW_seq ?_
      refine FW_region ?_
      refine FL_assign (h := ?_)
      refine FL_nil (Qseq_normal ?_)
      refine FW_block ?_
      refine FW_loop' (fun x : Nat × Value × List (Nat × List UInt8) × List (Nat × List UInt8) => [(0, .pointer (some ⟨q, 0, none⟩)), (3, I x.1)])
        (fun x w' => x.1 ≤ m2.opn.length ∧ RM.ok { m2 with kept := x.2.2.1 } x.2.2.2 ∧ kf x.2.2.1 = allT (opsR (m2.opn.take x.1)) (kf m2.kept) ∧ Sep w F (blk q (refCells m2 x.2.1 (.slice Ao m2.opn.length co) ve2) 106 :: rowH 27 1 x.2.1 x.2.2.1.length (x.2.2.1.map fun x => secV x.1) :: rowH 108 2 (.slice Ao m2.opn.length co) m2.opn.length (refOpen m2.opn) :: rowH 3 1 ve2 m2.keep.length (m2.keep.map I) :: poolH 5 (poolOf x.2.2.2) :: []) w') (fun x _ => m2.opn.length - x.1) (0, vk2, m2.kept, pool2) ⟨rfl, rfl, trivial⟩ ⟨Nat.zero_le _, hok2, rfl, H27⟩ (fun x τ w30 hI => ?_)
      obtain ⟨i, vk3, kept3, pool3⟩ := x
      obtain ⟨hi, hok3, hkf3, H30⟩ := hI
      dsimp only at hi hok3 hkf3 H30
      obtain ⟨Ak3, ck3, hvk3, _⟩ := Sep.rowForm H30 At1
      subst hvk3
      try simp only [upds, like, upd_ds, und_ds]
      refine FW_seq ?_
      refine FW_seq ?_
      refine FW_region ?_
      refine FL_move (h := ?_)
      refine FL_move (h := ?_)
      refine FL_val (Gives.nilCheck rfl) rfl ?_
      first | refine FL_val (Gives.field0 rfl) rfl ?_ | refine FL_val (Gives.field rfl) rfl ?_ | refine FL_val (Gives.fieldA rfl) rfl ?_
      refine FL_load H30 (h := ?_)
      refine FL_val (Gives.lenSlice rfl) rfl ?_
      refine FL_val (Gives.lss rfl rfl) rfl ?_
      refine FL_nil (Qseq_normal ?_)
      first | refine FW_condP rfl (fun hc38 => ?_) (fun hc38 => ?_) | refine FW_cond rfl (fun hc38 => ?_) (fun hc38 => ?_)
      · skip
        have hlt : i < m2.opn.length := by omega
        have hor := Sep.rowAt H30 At2
        obtain ⟨ad, hAd, _⟩ := hor.at_ (by omega)
        subst hAd
        have hmem := List.getElem_mem hlt
        obtain ⟨an, han⟩ : ∃ an : Nat, m2.opn[i].1 = an := ⟨m2.opn[i].1.toNat, by have := hok2.at_ _ hmem; omega⟩
        refine FW_skip (Qseq_normal ?_)
        refine FW_seq ?_
        refine FW_block ?_
        refine FW_drawS rfl H30 (h := fun hok40 w42 H42 => ?_)
        refine FGmove hok40 0 (h := ?_)
        refine FGmove hok40 1 (h := ?_)
        refine FGp hok40 2 rfl rfl (fun _ => (Gives.nilCheck rfl)) (by kernel_rfl) ?_
        first | refine FGp hok40 3 rfl rfl (fun _ => (Gives.field0 rfl)) (by kernel_rfl) ?_ | refine FGp hok40 3 rfl rfl (fun _ => (Gives.field rfl)) (by kernel_rfl) ?_ | refine FGp hok40 3 rfl rfl (fun _ => (Gives.fieldA rfl)) (by kernel_rfl) ?_
        refine FGload hok40 4 H42 (h := ?_)
        refine FGmove hok40 5 (h := ?_)
        refine FGp hok40 6 rfl rfl (fun _ => (Gives.nilCheck rfl)) (by kernel_rfl) ?_
        first | refine FGp hok40 7 rfl rfl (fun _ => (Gives.field0 rfl)) (by kernel_rfl) ?_ | refine FGp hok40 7 rfl rfl (fun _ => (Gives.field rfl)) (by kernel_rfl) ?_ | refine FGp hok40 7 rfl rfl (fun _ => (Gives.fieldA rfl)) (by kernel_rfl) ?_
        refine FGload hok40 8 H42 (h := ?_)
        refine FGmove hok40 9 (h := ?_)
        refine FGp hok40 10 rfl rfl (fun _ => (Gives.idx rfl rfl hlt)) (by kernel_rfl) ?_
        first | refine FGp hok40 11 rfl rfl (fun _ => (Gives.field0 rfl)) (by kernel_rfl) ?_ | refine FGp hok40 11 rfl rfl (fun _ => (Gives.field rfl)) (by kernel_rfl) ?_ | refine FGp hok40 11 rfl rfl (fun _ => (Gives.fieldA rfl)) (by kernel_rfl) ?_
        refine FGl hok40 12 rfl rfl (Gives.loadC rfl ((Sep.rowAt H42 At2).elemC rfl i hlt (us := [I m2.opn[i].1, secV m2.opn[i].2.1]) (refOpen_get m2.opn i hlt) 0 _ rfl)) (by kernel_rfl) ?_
        rw [han]
        refine FGmove hok40 13 (h := ?_)
        refine FGp hok40 14 rfl rfl (fun _ => (Gives.nilCheck rfl)) (by kernel_rfl) ?_
        first | refine FGp hok40 15 rfl rfl (fun _ => (Gives.field0 rfl)) (by kernel_rfl) ?_ | refine FGp hok40 15 rfl rfl (fun _ => (Gives.field rfl)) (by kernel_rfl) ?_ | refine FGp hok40 15 rfl rfl (fun _ => (Gives.fieldA rfl)) (by kernel_rfl) ?_
        refine FGload hok40 16 H42 (h := ?_)
        refine FGmove hok40 17 (h := ?_)
        refine FGp hok40 18 rfl rfl (fun _ => (Gives.idx rfl rfl hlt)) (by kernel_rfl) ?_
        first | refine FGp hok40 19 rfl rfl (fun _ => (Gives.field0 rfl)) (by kernel_rfl) ?_ | refine FGp hok40 19 rfl rfl (fun _ => (Gives.field rfl)) (by kernel_rfl) ?_ | refine FGp hok40 19 rfl rfl (fun _ => (Gives.fieldA rfl)) (by kernel_rfl) ?_
        refine FGl hok40 20 rfl rfl (Gives.loadC rfl ((Sep.rowAt H42 At2).elemC rfl i hlt (us := [I m2.opn[i].1, secV m2.opn[i].2.1]) (refOpen_get m2.opn i hlt) 1 _ rfl)) (by kernel_rfl) ?_
        have hkl3 : kept3.length ≤ 65536 ∧ an < 65536 := by
          have h1 := hok3.klen
          have h2 := hok3.many
          have h3 := hok2.at_ _ hmem
          dsimp only at h1 h2
          omega
        refine FGcallN hok40 21 [(0, true)] H42 (set_ok (b := m2.opn[i].2.1) m2.opn[i].2 rfl (Sep.rowAt H42 At1) hkl3.1 hkl3.2) (h := fun z w59 hz H59 _ => ⟨Stab_pure (Stab_nil), ?_⟩)
        obtain ⟨vz, fills⟩ := z
        dsimp only at hz H59 ⊢
        have H3 := H59.star0
        obtain ⟨Az, cz, hvz, _⟩ := Sep.rowForm H3 At0
        subst hvz
        refine FGp hok40 22 rfl rfl (fun _ => (Gives.nilCheck rfl)) (by kernel_rfl) ?_
        first | refine FGp hok40 23 rfl rfl (fun _ => (Gives.field0 rfl)) (by kernel_rfl) ?_ | refine FGp hok40 23 rfl rfl (fun _ => (Gives.field rfl)) (by kernel_rfl) ?_ | refine FGp hok40 23 rfl rfl (fun _ => (Gives.fieldA rfl)) (by kernel_rfl) ?_
        refine FGstore hok40 24 [] H3 (h := fun w63 H63 => ⟨Stab_nil, ?_⟩)
        refine FG_end hok40 (by kernel_rfl) ?_
        refine Qblk_normal (Qseq_normal ?_)
        refine FW_region ?_
        refine FL_move (h := ?_)
        first | refine FL_val (Gives.addI rfl rfl rfl (by omega)) rfl ?_ | refine FL_val (Gives.add rfl rfl) rfl ?_
        refine FL_assign (h := ?_)
        refine FL_nil ?_
        refine Qround_normal (i + 1, .slice Az (setK kept3 fills an m2.opn[i].2).length cz, setK kept3 fills an m2.opn[i].2, fills.reverse ++ pool3) ⟨rfl, rfl, trivial⟩ ⟨by dsimp only; omega, ok_set hok3 hmem han hz.1 hz.2, ?_, ?_⟩ (by dsimp only; omega)
        · dsimp only
          rw [kf_set hz.2 (by omega), ← han, hkf3, allT_take hlt]
        · have H4 := Sep.poolJoin H63.front6.front2
          have e : poolOf fills.reverse ++ poolOf pool3 = poolOf (fills.reverse ++ pool3) := (List.map_append).symm
          rw [e] at H4
          exact H4.front3.drop0.front4.front4.front3.front4
      · skip
        have hie : i = m2.opn.length := by omega
        subst hie
        rw [List.take_length] at hkf3
        refine FW_exit (Qseq_exit (Qround_exit (Qblk_exit (Qseq_normal ?_))))
        refine FW_seq ?_
        refine FW_region ?_
        refine FL_move (h := ?_)
        refine FL_val (Gives.nilCheck rfl) rfl ?_
        first | refine FL_val (Gives.field0 rfl) rfl ?_ | refine FL_val (Gives.field rfl) rfl ?_ | refine FL_val (Gives.fieldA rfl) rfl ?_
        refine FL_store H30 (h := ?_)
        intro w73 H73
        refine FL_nil (Qseq_normal ?_)
        refine FW_seq ?_
        refine FW_region ?_
        refine FL_assign (h := ?_)
        refine FL_nil (Qseq_normal ?_)
        refine FW_ret (Qfn_ret (hR := ?_))
        have H5 := (H73.nilRow 108 2).front3.drop0.front2.front2
        have e : m.abs.flush = (0, RM.abs { m2 with kept := kept3, opn := [] }) := by
          unfold AM.flush
          rw [if_neg (show ¬ m.abs.dead = true by rw [show m.abs.dead = false from hd]; simp), if_neg (by rw [hf]; simp), ← hm2]
          have e1 : m.abs.opn = m2.abs.opn := by rw [hm2]; rfl
          have e2 : m.abs.kf = m2.abs.kf := by rw [hm2]; rfl
          rw [e1, e2]
          unfold RM.abs
          dsimp only
          rw [hkf3]
          rfl
        have H6 := Sep.shutA (Sep.shutRef (m := { m2 with kept := kept3, opn := [] }) ⟨hok3.kept, fun _ h => (by cases h), hok3.len, fun _ h => (by cases h), hok3.many, hok3.klen⟩ H5)
        rw [e]
        exact ⟨rfl, H6.turn⟩
end
end Go.Proofs.Yteflbohpabdjkaa
