/-
  SlotsEvery, walked.
-/
import Derived.Test.YteflbohpabdjkaaSlotQ
namespace Go.Proofs.Yteflbohpabdjkaa
open Go Go.Mw
set_option maxRecDepth 8000

theorem puts_take {l : List PutS} {k : Nat} (hk : k ≤ l.length) : (putsCells l).take (k * 2) = putsCells (l.take k) := by
  induction l generalizing k with
  | nil =>
    have : k = 0 := by simpa using hk
    subst this
    rfl
  | cons x l ih =>
    cases k with
    | zero => rfl
    | succ k =>
      have e : putsCells (x :: l) = I x.from_ :: I x.many :: putsCells l := rfl
      rw [e, show (k + 1) * 2 = k * 2 + 1 + 1 by omega, List.take_succ_cons, List.take_succ_cons, ih (by simpa using hk)]
      rfl
theorem rowAt_puts_take {w : World} {A : Option Addr} {l : List PutS} {k : Nat} (hr : RowAt w A l.length 2 (putsCells l)) (hk : k ≤ l.length) : RowAt w A (l.take k).length 2 (putsCells (l.take k)) := by
  have h1 := hr.take (k := k) hk
  rw [puts_take hk] at h1
  rwa [List.length_take, Nat.min_eq_left hk]
/-- What may have become of a disk behind a Save, and at which operation it fell. -/
structure Came3 (e : DM) (y t : Int) (c b : List UInt8) (n : Int) (bb : List UInt8) (nn : Int) : Prop where
  set : Set13 e bb nn
  small : e.small 1000
  zero : y = 0 ↔ (nch b : Int) + 3 < t
  is : (bb = c ∧ nn = n ∧ ¬ (nch b : Int) + 3 < t) ∨ ((nch b : Int) + 2 ≤ t ∧ bb = b ∧ nn = n + 1)
theorem came3_of {d : DM} {c b : List UInt8} {n t : Int} {kp : List Int} {y : Int × SM × DM} (hS : SS 100 d c n) (hb : (b.length : Int) ≤ 768) (hn : n ≤ 1000) (ht : 1 ≤ t ∧ t ≤ 1000) (hkp : kp.length ≤ 100) (hy : save ⟨n, c.length, false⟩ (d.failAt t kp) b = y) :
    ∃ bb nn, Came3 y.2.2 y.1 t c b n bb nn := by
  obtain ⟨h1, h2⟩ := run_cases hS hb hn ht (by decide) hkp hy
  rcases h1 with ⟨h0, h3, _, h4, _⟩ | ⟨h0, h3, _, _, h4 | ⟨h5, h4⟩⟩
  · exact ⟨b, n + 1, h4, h2.mono (by decide), ⟨fun _ => h0, fun _ => h3⟩, .inr ⟨by omega, rfl, rfl⟩⟩
  · exact ⟨c, n, h4, h2.mono (by decide), ⟨fun h => by omega, fun h => by omega⟩, .inl ⟨rfl, rfl, by omega⟩⟩
  · exact ⟨b, n + 1, h4, h2.mono (by decide), ⟨fun h => by omega, fun h => by omega⟩, .inr ⟨h5, rfl, rfl⟩⟩
theorem came3_keeps {e : DM} {c b bb : List UInt8} {n nn : Int} (h : Set13 e bb nn) (hd : e.dead = false) (his : (bb = c ∧ nn = n) ∨ (bb = b ∧ nn = n + 1)) :
    ∃ o nw : Bool, keepsB ⟨nn, bb.length, false⟩ e c n = o ∧ keepsS ⟨nn, bb.length, false⟩ e n = ⟨nn, bb.length, false⟩ ∧ keepsB ⟨nn, bb.length, false⟩ e b (n + 1) = nw ∧ keepsS ⟨nn, bb.length, false⟩ e (n + 1) = ⟨nn, bb.length, false⟩ ∧
      (nn = n → o = true) ∧ (nn = n + 1 → nw = true) := by
  rcases his with ⟨rfl, rfl⟩ | ⟨rfl, rfl⟩
  · obtain ⟨h1, h2⟩ := h.keeps hd
    obtain ⟨h3, h4⟩ := keeps_other (d := e) (m := ⟨nn, bb.length, false⟩) (want := b) (n := nn + 1) (show nn ≠ nn + 1 by omega)
    exact ⟨true, false, h1, h2, h3, h4, fun _ => rfl, fun h => by omega⟩
  · obtain ⟨h1, h2⟩ := h.keeps hd
    obtain ⟨h3, h4⟩ := keeps_other (d := e) (m := ⟨n + 1, bb.length, false⟩) (want := c) (n := n) (show n + 1 ≠ n by omega)
    exact ⟨false, true, h3, h4, h1, h2, fun h => by omega, fun _ => rfl⟩
section
variable {w w' : World}
theorem rows3 {Fq F : Nat → Prop} {Aa Ae : Option Addr} {ca ce : Nat} {la le : List Int} {i : Nat} (hq : (star (rowH 3 1 (.slice Aa la.length ca) la.length (la.map I)) (rowH 3 1 (.slice Ae le.length ce) le.length (le.map I))).ok Fq w) (hd : ∀ b, Fq b → ¬ F b) :
    RowAt w (if i = 0 then Aa else if i = 1 then none else Ae) (if i = 0 then la else if i = 1 then [] else le).length 1 ((if i = 0 then la else if i = 1 then [] else le).map I) ∧ Off (if i = 0 then Aa else if i = 1 then none else Ae) (if i = 0 then la else if i = 1 then [] else le).length F := by
  obtain ⟨F1, F2, hF, _, h1, h2⟩ := hq
  split
  · exact ⟨rowAt_of_own h1.1, rowH_off h1 fun b hb => hd b ((hF b).2 (.inl hb))⟩
  · split
    · exact ⟨RowAt.nil _ _ _, fun h => absurd h (Nat.lt_irrefl 0)⟩
    · exact ⟨rowAt_of_own h2.1, rowH_off h2 fun b hb => hd b ((hF b).2 (.inr hb))⟩
set_option maxHeartbeats 16000000 in
theorem slotsEvery_ok {A : Option Addr} {ca : Nat} {l : List PutS} {X : PutS} (hl : ∀ x ∈ l, x.fit) (hca : l.length ≤ ca) (hr : RowAt w A l.length 2 (putsCells l)) (hX : X.fit) :
    Rets Try.prog 10 [.slice A l.length ca, .agg #[I X.from_, I X.many]] w fun v w' => v = .bool true ∧ Kept noB w w' := by
  have H := Sep.start0 w
  refine rets2 Try.func10 rfl rfl rfl rfl ?_
  refine FW_seq ?_
  refine FW_region ?_
  refine FL_box H (h := ?_)
  intro b3 w2 H2 _
  refine FL_assign (h := ?_)
  refine FL_nil (Qseq_normal ?_)
  refine FW_seq ?_
  refine FW_region ?_
  refine FL_assign (h := ?_)
  refine FL_assign (h := ?_)
  refine FL_nil (Qseq_normal ?_)
  refine FW_seq ?_
  refine FW_seq ?_
  refine FW_region ?_
  refine FL_assign (h := ?_)
  refine FL_nil (Qseq_normal ?_)
  refine FW_block ?_
  refine FW_loop' (fun x : Nat × (Value × List Int) × (Value × List Int) => [(0, .slice A l.length ca), (3, .pointer (some ⟨b3, 0, none⟩)), (5, x.2.1.1), (6, x.2.2.1), (7, I x.1)])
    (fun x w' => x.1 ≤ 20 ∧ x.2.1.2.length ≤ x.1 ∧ x.2.2.2.length ≤ x.1 ∧ Sep w noB [rowH 3 1 x.2.1.1 x.2.1.2.length (x.2.1.2.map I), rowH 3 1 x.2.2.1 x.2.2.2.length (x.2.2.2.map I), blk b3 [I X.from_, I X.many] 67] w') (fun x _ => 20 - x.1) (0, (.slice none 0 0, []), (.slice none 0 0, []))
    ⟨rfl, rfl, rfl, rfl, rfl, trivial⟩ ⟨by decide, by decide, by decide, (H2.nilRow 3 1).nilRow 3 1⟩ (fun x τ w8 hI => ?_)
  obtain ⟨i, ⟨va, la⟩, ve, le⟩ := x
  obtain ⟨hi, hla, hle, H8⟩ := hI
  dsimp only at hi hla hle H8
  obtain ⟨Aa, cla, hva, _⟩ := Sep.rowForm H8 At0
  obtain ⟨Ae, cle, hve, _⟩ := Sep.rowForm H8 At1
  subst hva hve
  try simp only [upds, like, upd_ds, und_ds]
  refine FW_seq ?_
  refine FW_seq ?_
  refine FW_region ?_
  refine FL_move (h := ?_)
  refine FL_val (Gives.lss rfl rfl) rfl ?_
  refine FL_nil (Qseq_normal ?_)
  first | refine FW_condP rfl (fun hc11 => ?_) (fun hc11 => ?_) | refine FW_cond rfl (fun hc11 => ?_) (fun hc11 => ?_)
  · skip
    have hlt : i < 20 := by omega
    refine FW_skip (Qseq_normal ?_)
    refine FW_seq ?_
    refine FW_block ?_
    refine FW_seq ?_
    refine FW_region ?_
    refine FL_move (h := ?_)
    refine FL_move (h := ?_)
    refine FL_buildSlice H8 (Elems.one rfl rfl Elems.nil) rfl rfl rfl (fun b15 w16 H16 _ => ?_)
    refine FL_append (t := 23) (e := 3) H16 (v := .slice Aa la.length cla) (k := la.length) (xs := la.map I) (by exact rfl) (by exact rfl) At1 (H16.blkRow At0 (m := 1) (s := 1) rfl) (by intro u hu; rw [List.mem_singleton.1 hu]; rfl) (h63 := by unfold maxLen; omega) (hbytes := by omega) (h := fun va2 w18 H18 => ?_)
    refine FL_assign (h := ?_)
    refine FL_nil (Qseq_normal ?_)
    refine FW_seq ?_
    refine FW_region ?_
    refine FL_move (h := ?_)
    refine FL_val (Gives.rem rfl rfl (by omega)) rfl ?_
    refine FL_val (Gives.eql rfl rfl) rfl ?_
    refine FL_nil (Qseq_normal ?_)
    first | refine FW_condP rfl (fun hc23 => ?_) (fun hc23 => ?_) | refine FW_cond rfl (fun hc23 => ?_) (fun hc23 => ?_)
    · skip
      refine FW_region ?_
      refine FL_move (h := ?_)
      refine FL_move (h := ?_)
      refine FL_buildSlice H18 (Elems.one rfl rfl Elems.nil) rfl rfl rfl (fun b26 w27 H27 _ => ?_)
      refine FL_append (t := 23) (e := 3) H27 (v := .slice Ae le.length cle) (k := le.length) (xs := le.map I) (by exact rfl) (by exact rfl) At3 (H27.blkRow At0 (m := 1) (s := 1) rfl) (by intro u hu; rw [List.mem_singleton.1 hu]; rfl) (h63 := by unfold maxLen; omega) (hbytes := by omega) (h := fun ve2 w29 H29 => ?_)
      refine FL_assign (h := ?_)
      refine FL_nil (Qblk_normal (Qseq_normal ?_))
      refine FW_region ?_
      refine FL_move (h := ?_)
      first | refine FL_val (Gives.addI rfl rfl rfl (by omega)) rfl ?_ | refine FL_val (Gives.add rfl rfl) rfl ?_
      refine FL_assign (h := ?_)
      refine FL_nil ?_
      have H5 := H29.drop0.drop0
      have e1 : la.map I ++ ([I (i : Int)] ++ []) = (la ++ [(i : Int)]).map I := by simp
      have e2 : le.map I ++ ([I (i : Int)] ++ []) = (le ++ [(i : Int)]).map I := by simp
      have e3 : ∀ (q : List Int), q.length + 1 = (q ++ [(i : Int)]).length := fun q => by simp
      exact Qround_normal (i + 1, (va2, la ++ [(i : Int)]), (ve2, le ++ [(i : Int)])) ⟨rfl, rfl, rfl, rfl, rfl, trivial⟩ ⟨by dsimp only; omega, by simp; omega, by simp; omega, by rw [← e1, ← e2, ← e3 la, ← e3 le]; exact H5⟩ (by dsimp only; omega)
    · skip
      refine FW_skip (Qblk_normal (Qseq_normal ?_))
      refine FW_region ?_
      refine FL_move (h := ?_)
      first | refine FL_val (Gives.addI rfl rfl rfl (by omega)) rfl ?_ | refine FL_val (Gives.add rfl rfl) rfl ?_
      refine FL_assign (h := ?_)
      refine FL_nil ?_
      have H5 := H18.drop0
      have e1 : la.map I ++ ([I (i : Int)] ++ []) = (la ++ [(i : Int)]).map I := by simp
      have e3 : ∀ (q : List Int), q.length + 1 = (q ++ [(i : Int)]).length := fun q => by simp
      exact Qround_normal (i + 1, (va2, la ++ [(i : Int)]), (.slice Ae le.length cle, le)) ⟨rfl, rfl, rfl, rfl, rfl, trivial⟩ ⟨by dsimp only; omega, by simp; omega, by dsimp only; omega, by rw [← e1, ← e3 la]; exact H5⟩ (by dsimp only; omega)
  · skip
    refine FW_exit (Qseq_exit (Qround_exit (Qblk_exit (Qseq_normal ?_))))
    refine FW_seq ?_
    refine FW_region ?_
    refine FL_move (h := ?_)
    refine FL_move (h := ?_)
    refine FL_buildSlice H8 (Elems.one (v := .slice Aa la.length cla) rfl rfl (Elems.one rfl rfl (Elems.one (v := .slice Ae le.length cle) rfl rfl Elems.nil))) rfl rfl rfl (fun b8 w42 H42 _ => ?_)
    refine FL_assign (h := ?_)
    refine FL_nil (Qseq_normal ?_)
    refine FW_seq ?_
    refine FW_region ?_
    refine FL_loadN H42 (us := [I X.from_, I X.many]) (hat := At3) (hu := rfl) (hk := rfl) (h := ?_)
    refine FL_callN H42 (putBytes_ok X hX (most := 768) (by decide)) rfl rfl (fun y w46 _ H46 _ => ?_)
    obtain ⟨Ab, cb, hvb, hcb, _⟩ := Sep.rowForm H46 At0
    subst hvb
    obtain ⟨b, hb⟩ : ∃ b, b = putS X ((768 : Nat) : Int) := ⟨_, rfl⟩
    have hbl : (b.length : Int) ≤ 768 := by rw [hb]; exact putS_length X (most := 768)
    rw [← hb] at H46 hcb ⊢
    have hnb : (nch b : Int) ≤ 6 := by unfold nch; omega
    refine FL_assign (h := ?_)
    refine FL_nil (Qseq_normal ?_)
    refine FW_seq ?_
    refine FW_region ?_
    refine FL_move (h := ?_)
    refine FL_val (Gives.lenSlice rfl) rfl ?_
    refine FL_val (Gives.addI rfl rfl rfl (by omega)) rfl ?_
    refine FL_val (Gives.quo rfl rfl (by decide)) rfl ?_
    rw [show IntKind.i64.wrap (((b.length : Int) + 127).tdiv 128) = (nch b : Int) by
      rw [Int.tdiv_eq_ediv_of_nonneg (by omega)]
      unfold nch
      rw [IntWalk.i64_in _ (by omega)]
      omega]
    first | refine FL_val (Gives.addI rfl rfl rfl (by omega)) rfl ?_ | refine FL_val (Gives.add rfl rfl) rfl ?_
    refine FL_assign (h := ?_)
    refine FL_nil (Qseq_normal ?_)
    refine FW_seq ?_
    refine FW_seq ?_
    refine FW_region ?_
    refine FL_assign (h := ?_)
    refine FL_nil (Qseq_normal ?_)
    refine FW_block ?_
    refine FW_loop' (fun k : Nat => [(0, .slice A l.length ca), (8, .slice (some ⟨b8, 0, none⟩) 3 3), (9, .slice Ab b.length cb), (10, I ((nch b : Int) + 3)), (11, I ((k : Int) + 1))])
      (fun k w' => k ≤ nch b + 4 ∧ Sep w noB [rowH 5 1 (.slice Ab b.length cb) b.length (b.map B), blk b8 [.slice Aa la.length cla, .slice none 0 0, .slice Ae le.length cle] 23, rowH 3 1 (.slice Aa la.length cla) la.length (la.map I), rowH 3 1 (.slice Ae le.length cle) le.length (le.map I)] w') (fun k _ => nch b + 4 - k) 0
      ⟨rfl, rfl, rfl, rfl, rfl, trivial⟩ ⟨Nat.zero_le _, (show Sep w noB ([_, _, _, _] ++ [_]) _ from H46).firsts⟩ (fun k τ w56 hI => ?_)
    obtain ⟨hk, H56⟩ := hI
    try simp only [upds, like, upd_ds]
    refine FW_seq ?_
    refine FW_seq ?_
    refine FW_region ?_
    refine FL_move (h := ?_)
    refine FL_move (h := ?_)
    first | refine FL_val (Gives.addI rfl rfl rfl (by omega)) rfl ?_ | refine FL_val (Gives.add rfl rfl) rfl ?_
    refine FL_val (Gives.leq rfl rfl) rfl ?_
    refine FL_nil (Qseq_normal ?_)
    first | refine FW_condP rfl (fun hc61 => ?_) (fun hc61 => ?_) | refine FW_cond rfl (fun hc61 => ?_) (fun hc61 => ?_)
    · skip
      have hkl : k < nch b + 4 := by omega
      refine FW_skip (Qseq_normal ?_)
      refine FW_seq ?_
      refine FW_block ?_
      refine FW_seq ?_
      refine FW_region ?_
      refine FL_assign (h := ?_)
      refine FL_nil (Qseq_normal ?_)
      refine FW_block ?_
      refine FW_loop' (fun i : Nat => [(0, .slice A l.length ca), (8, .slice (some ⟨b8, 0, none⟩) 3 3), (9, .slice Ab b.length cb), (10, I ((nch b : Int) + 3)), (11, I ((k : Int) + 1)), (12, I i)])
        (fun i w' => i ≤ 3 ∧ Sep w noB [rowH 5 1 (.slice Ab b.length cb) b.length (b.map B), blk b8 [.slice Aa la.length cla, .slice none 0 0, .slice Ae le.length cle] 23, rowH 3 1 (.slice Aa la.length cla) la.length (la.map I), rowH 3 1 (.slice Ae le.length cle) le.length (le.map I)] w') (fun i _ => 3 - i) 0
        ⟨rfl, rfl, rfl, rfl, rfl, rfl, trivial⟩ ⟨by decide, H56⟩ (fun i2 τ w65 hI => ?_)
      obtain ⟨hi2, H65⟩ := hI
      try simp only [upds, like, upd_ds]
      refine FW_seq ?_
      refine FW_seq ?_
      refine FW_region ?_
      refine FL_move (h := ?_)
      refine FL_val (Gives.lss rfl rfl) rfl ?_
      refine FL_nil (Qseq_normal ?_)
      first | refine FW_condP rfl (fun hc68 => ?_) (fun hc68 => ?_) | refine FW_cond rfl (fun hc68 => ?_) (fun hc68 => ?_)
      · skip
        have hi3 : i2 < 3 := by omega
        have hget : [Value.slice Aa la.length cla, .slice none 0 0, .slice Ae le.length cle][i2]? = some (.slice (if i2 = 0 then Aa else if i2 = 1 then none else Ae) (if i2 = 0 then la else if i2 = 1 then [] else le).length (if i2 = 0 then cla else if i2 = 1 then 0 else cle)) := by
          rcases (show i2 = 0 ∨ i2 = 1 ∨ i2 = 2 by omega) with rfl | rfl | rfl <;> rfl
        have hrll : (if i2 = 0 then la else if i2 = 1 then [] else le).length ≤ 20 := by
          rcases (show i2 = 0 ∨ i2 = 1 ∨ i2 = 2 by omega) with rfl | rfl | rfl <;> simp <;> omega
        have hm4 : min l.length 4 = (l.take (min l.length 4)).length := by rw [List.length_take]; omega
        have hr4 := rowAt_puts_take (k := min l.length 4) hr (by omega)
        have hl4 : ∀ x ∈ l.take (min l.length 4), x.fit := fun x hx => hl x (List.mem_of_mem_take hx)
        refine FW_skip (Qseq_normal ?_)
        refine FW_seq ?_
        refine FW_block ?_
        refine FW_seq ?_
        refine FW_region ?_
        refine FL_move (h := ?_)
        refine FL_move (h := ?_)
        refine FL_val (Gives.lenSlice rfl) rfl ?_
        refine FL_val (gives_minN (k := 4) hm4 rfl rfl rfl) rfl ?_
        refine FL_val (Gives.sliceTo rfl rfl (by omega)) rfl ?_
        refine FL_callN H65 (saved_ok hl4 (hr4.keepS H65.kept fun _ _ _ => id)) rfl rfl (fun x w76 hx H0 _ => ?_)
        obtain ⟨p, s, v, d, c, n⟩ := x
        obtain ⟨⟨hS, hcl, hn8⟩, _⟩ := hx
        dsimp only at hS hcl hn8
        have H76 : Sep w noB (rowH 5 1 v c.length (c.map B) :: star (slotH s p ⟨n, c.length, false⟩) (diskH p d) :: [_, _, _, _]) w76 := Sep.star0 H0
        obtain ⟨Ac, cc, hvc, hcc, _⟩ := Sep.rowForm H76 At0
        subst hvc
        refine FL_move (h := ?_)
        refine FL_val (Gives.extract rfl rfl) rfl ?_
        refine FL_val (Gives.extract rfl rfl) rfl ?_
        refine FL_val (Gives.extract rfl rfl) rfl ?_
        refine FL_val (Gives.extract rfl rfl) rfl ?_
        refine FL_assign (h := ?_)
        refine FL_assign (h := ?_)
        refine FL_assign (h := ?_)
        refine FL_assign (h := ?_)
        refine FL_nil (Qseq_normal ?_)
        refine FW_seq ?_
        refine FW_seq ?_
        refine FW_region ?_
        refine FL_move (h := ?_)
        refine FL_val (Gives.eqlNil rfl rfl) rfl ?_
        refine FL_nil (Qseq_normal ?_)
        first | refine FW_condP rfl (fun hc88 => ?_) (fun hc88 => ?_) | refine FW_cond rfl (fun hc88 => ?_) (fun hc88 => ?_)
        · skip
          first | exact absurd rfl hc88 | exact (hc88 trivial).elim | exact absurd hc88 (by decide) | exact absurd hc88 (by simp) | omega --done
        · skip
          refine FW_skip (Qseq_normal ?_)
          refine FW_seq ?_
          refine FW_region ?_
          refine FL_move (h := ?_)
          refine FL_move (h := ?_)
          refine FL_move (h := ?_)
          refine FL_move (h := ?_)
          refine FL_val (Gives.idxB rfl rfl hi3) rfl ?_
          refine FL_load H76 (hat := At3) (hv := hget) (h := ?_)
          have H5 := (H76.front1).star0
          refine FL_call1Q (H5.front6.front6.join0) At1 (fun F' Fq hp hq hdj => fail_ok (ops := (k : Int) + 1) (by have := hS.small.2.2; omega) (by omega) (rows3 (i := i2) hq hdj).1 (rows3 (i := i2) hq hdj).2 hp) (h := fun w97 H97 => ?_)
          refine FL_nil (Qseq_normal ?_)
          refine FW_seq ?_
          refine FW_region ?_
          refine FL_move (h := ?_)
          refine FL_move (h := ?_)
          obtain ⟨y, hy⟩ : ∃ y, save ⟨n, c.length, false⟩ (d.failAt ((k : Int) + 1) (if i2 = 0 then la else if i2 = 1 then [] else le)) b = y := ⟨_, rfl⟩
          obtain ⟨bb, nn, hcame⟩ := came3_of hS hbl (by omega) ⟨by omega, by omega⟩ (by omega) hy
          have H6 := (H97.front2.front2).join0
          refine FL_call1R H6.front3 At0 (fun F' hp hrr hoff => saveS_ok (b := b) (hS.set.failAt _ _).ok (by
            have hs := hS.small
            unfold DM.failAt
            split
            · exact hs.mono (by decide)
            · split
              · exact ⟨by have := hs.1; show d.opn.length ≤ _; omega, by show (if i2 = 0 then la else if i2 = 1 then [] else le).length ≤ _; omega, hs.2.2.1, by have := hs.2.2.2; show d.ops ≤ _; omega⟩
              · exact ⟨by have := hs.1; show d.opn.length ≤ _; omega, Nat.zero_le _, hs.2.2.1, by have := hs.2.2.2; show d.ops ≤ _; omega⟩) hcb hrr hoff hp) (h := fun w101 H0 => ?_)
          rw [hy] at H0 ⊢
          have H101 := H0.front1.star0
          have hse := (hcame.set.failAt 0 []).boot
          have hopen := hse.open rfl
          obtain ⟨o, nw, ho1, ho2, hn1, hn2, hoT, hnT⟩ := came3_keeps (e := (y.2.2.failAt 0 []).boot) (c := c) (b := b) (n := n) hse rfl (by rcases hcame.is with ⟨h1, h2, _⟩ | ⟨_, h1, h2⟩; exact .inl ⟨h1, h2⟩; exact .inr ⟨h1, h2⟩)
          have hor : o = true ∨ nw = true := by
            rcases hcame.is with ⟨_, h2, _⟩ | ⟨_, _, h2⟩
            · exact .inl (hoT h2)
            · exact .inr (hnT h2)
          refine FL_assign (h := ?_)
          refine FL_nil (Qseq_normal ?_)
          refine FW_seq ?_
          refine FW_seq ?_
          refine FW_region ?_
          refine FL_move (h := ?_)
          refine FL_val (Gives.eql rfl rfl) rfl ?_
          refine FL_move (h := ?_)
          refine FL_move (h := ?_)
          refine FL_val (Gives.gtr rfl rfl) rfl ?_
          refine FL_val (Gives.neqB rfl rfl) rfl ?_
          refine FL_nil (Qseq_normal ?_)
          first | refine FW_condP rfl (fun hc109 => ?_) (fun hc109 => ?_) | refine FW_cond rfl (fun hc109 => ?_) (fun hc109 => ?_)
          · skip
            have hz := hcame.zero
            have e1 : decide (y.1 = 0) = decide ((nch b : Int) + 3 < (k : Int) + 1) := by
              by_cases h1 : y.1 = 0
              · rw [decide_eq_true h1, decide_eq_true (hz.1 h1)]
              · rw [decide_eq_false h1, decide_eq_false (fun h2 => h1 (hz.2 h2))]
            rw [e1] at hc109
            simp at hc109 --done
          · skip
            refine FW_skip (Qseq_normal ?_)
            refine FW_seq ?_
            refine FW_region ?_
            refine FL_move (h := ?_)
            refine FL_call1 H101 At1 (fun F' hp hF' => fail_ok (keep := []) (A := none) (c := 0) (by have := hcame.small.2.2; omega) (by decide) (RowAt.nil _ _ _) (fun h => absurd h (Nat.lt_irrefl 0)) hp) (h := fun w113 H113 => ?_)
            refine FL_nil (Qseq_normal ?_)
            refine FW_seq ?_
            refine FW_region ?_
            refine FL_move (h := ?_)
            refine FL_callT H113 At1 (fun F' hp _ => opened_ok (by rw [hopen]) hp) rfl rfl (fun s2 w116 _ H116 => ?_)
            rw [hopen] at H116
            dsimp only at H116
            refine FL_assign (h := ?_)
            refine FL_nil (Qseq_normal ?_)
            refine FW_seq ?_
            refine FW_region ?_
            refine FL_move (h := ?_)
            refine FL_move (h := ?_)
            refine FL_move (h := ?_)
            refine FL_call1R H116.front4 At1 (fun F' hp hrr hoff => keeps_ok' (n := (n : Int)) hse.ok hrr hoff hp) (h := fun w122 H122 => ?_)
            rw [ho2] at H122
            rw [ho1]
            refine FL_move (h := ?_)
            refine FL_move (h := ?_)
            refine FL_move (h := ?_)
            first | refine FL_val (Gives.addI rfl rfl rfl (by omega)) rfl ?_ | refine FL_val (Gives.add rfl rfl) rfl ?_
            refine FL_call1R H122.front3 At2 (fun F' hp hrr hoff => keeps_ok' (n := (n : Int) + 1) hse.ok hrr hoff hp) (h := fun w128 H128 => ?_)
            rw [hn1]
            refine FL_assign (h := ?_)
            refine FL_assign (h := ?_)
            refine FL_nil (Qseq_normal ?_)
            refine FW_seq ?_
            refine FW_region ?_
            refine FL_move (h := ?_)
            refine FL_move (h := ?_)
            first | refine FL_val (Gives.subI rfl rfl rfl (by omega)) rfl ?_ | refine FL_val (Gives.sub rfl rfl) rfl ?_
            refine FL_val (Gives.lss rfl rfl) rfl ?_
            refine FL_move (h := ?_)
            first | refine FL_splitP (t := 102) rfl (fun hs136 => ?_) (fun hs136 => ?_) | refine FL_split (t := 102) rfl (fun hs136 => ?_) (fun hs136 => ?_)
            · skip
              have hA := hs136
              refine FL_on rfl rfl ?_
              refine FL_move (h := ?_)
              refine FL_on rfl rfl ?_
              first | refine FL_val (Gives.notP rfl) rfl ?_ | refine FL_val (Gives.not rfl) rfl ?_
              refine FL_pickT (h := ?_)
              refine FL_move (h := ?_)
              first | refine FL_splitP (t := 106) rfl (fun hs142 => ?_) (fun hs142 => ?_) | refine FL_split (t := 106) rfl (fun hs142 => ?_) (fun hs142 => ?_)
              · skip
                have hnn : nn = n := by
                  rcases hcame.is with ⟨_, h2, _⟩ | ⟨h1, _, _⟩
                  · exact h2
                  · omega
                rw [hoT hnn] at hs142
                cases hs142 --done
              · skip
                refine FL_on rfl rfl ?_
                refine FL_move (h := ?_)
                refine FL_on rfl rfl ?_
                refine FL_move (h := ?_)
                refine FL_on rfl rfl ?_
                refine FL_val (Gives.gtr rfl rfl) rfl ?_
                refine FL_on rfl rfl ?_
                refine FL_move (h := ?_)
                first | refine FL_splitP (t := 110) rfl (fun hs148 => ?_) (fun hs148 => ?_) | refine FL_split (t := 110) rfl (fun hs148 => ?_) (fun hs148 => ?_)
                · skip
                  have hB := hs148
                  refine FL_on rfl rfl ?_
                  refine FL_move (h := ?_)
                  refine FL_on rfl rfl ?_
                  first | refine FL_val (Gives.notP rfl) rfl ?_ | refine FL_val (Gives.not rfl) rfl ?_
                  refine FL_on rfl rfl ?_
                  refine FL_pickT (h := ?_)
                  refine FL_pickF (h := ?_)
                  refine FL_move (h := ?_)
                  first | refine FL_splitP (t := 115) rfl (fun hs155 => ?_) (fun hs155 => ?_) | refine FL_split (t := 115) rfl (fun hs155 => ?_) (fun hs155 => ?_)
                  · skip
                    have hnn : nn = n + 1 := by
                      rcases hcame.is with ⟨_, _, h2⟩ | ⟨_, _, h2⟩
                      · omega
                      · exact h2
                    rw [hnT hnn] at hs155
                    cases hs155 --done
                  · skip
                    refine FL_on rfl rfl ?_
                    refine FL_move (h := ?_)
                    refine FL_on rfl rfl ?_
                    first | refine FL_val (Gives.notP rfl) rfl ?_ | refine FL_val (Gives.not rfl) rfl ?_
                    refine FL_on rfl rfl ?_
                    refine FL_move (h := ?_)
                    first | refine FL_splitP (t := 118) rfl (fun hs160 => ?_) (fun hs160 => ?_) | refine FL_split (t := 118) rfl (fun hs160 => ?_) (fun hs160 => ?_)
                    · skip
                      have hO : (!o) = true := hs160
                      refine FL_on rfl rfl ?_
                      refine FL_move (h := ?_)
                      refine FL_on rfl rfl ?_
                      first | refine FL_val (Gives.notP rfl) rfl ?_ | refine FL_val (Gives.not rfl) rfl ?_
                      refine FL_on rfl rfl ?_
                      refine FL_pickT (h := ?_)
                      refine FL_pickF (h := ?_)
                      refine FL_nil (Qseq_normal ?_)
                      first | refine FW_condP rfl (fun hc166 => ?_) (fun hc166 => ?_) | refine FW_cond rfl (fun hc166 => ?_) (fun hc166 => ?_)
                      · skip
                        rcases hor with h | h
                        · rw [h] at hO
                          cases hO
                        · rw [h] at hc166
                          cases hc166 --done
                      · skip
                        refine FW_skip (Qblk_normal (Qseq_normal ?_))
                        refine FW_region ?_
                        refine FL_move (h := ?_)
                        first | refine FL_val (Gives.addI rfl rfl rfl (by omega)) rfl ?_ | refine FL_val (Gives.add rfl rfl) rfl ?_
                        refine FL_assign (h := ?_)
                        refine FL_nil ?_
                        have H7 := H128.front1.drop0
                        have H8 := H7.front3.star0
                        exact Qround_normal (i2 + 1) ⟨rfl, rfl, rfl, rfl, rfl, rfl, trivial⟩ ⟨by omega, (show Sep w noB ([_, _, _, _] ++ [_, _]) _ from H8.front1.front1.front5.front3).firsts⟩ (by omega)
                    · skip
                      refine FL_off rfl rfl rfl ?_
                      refine FL_off rfl rfl rfl ?_
                      refine FL_on rfl rfl ?_
                      refine FL_pickF (h := ?_)
                      refine FL_pickF (h := ?_)
                      refine FL_nil (Qseq_normal ?_)
                      refine FW_cond_false rfl ?_
                      refine FW_skip (Qblk_normal (Qseq_normal ?_))
                      refine FW_region ?_
                      refine FL_move (h := ?_)
                      first | refine FL_val (Gives.addI rfl rfl rfl (by omega)) rfl ?_ | refine FL_val (Gives.add rfl rfl) rfl ?_
                      refine FL_assign (h := ?_)
                      refine FL_nil ?_
                      have H7 := H128.front1.drop0
                      have H8 := H7.front3.star0
                      exact Qround_normal (i2 + 1) ⟨rfl, rfl, rfl, rfl, rfl, rfl, trivial⟩ ⟨by omega, (show Sep w noB ([_, _, _, _] ++ [_, _]) _ from H8.front1.front1.front5.front3).firsts⟩ (by omega)
                · skip
                  refine FL_off rfl rfl rfl ?_
                  refine FL_off rfl rfl rfl ?_
                  refine FL_on rfl rfl ?_
                  refine FL_pickF (h := ?_)
                  refine FL_pickF (h := ?_)
                  refine FL_move (h := ?_)
                  refine FL_on rfl rfl ?_
                  refine FL_move (h := ?_)
                  refine FL_on rfl rfl ?_
                  first | refine FL_val (Gives.notP rfl) rfl ?_ | refine FL_val (Gives.not rfl) rfl ?_
                  refine FL_on rfl rfl ?_
                  refine FL_move (h := ?_)
                  first | refine FL_splitP (t := 118) rfl (fun hs184 => ?_) (fun hs184 => ?_) | refine FL_split (t := 118) rfl (fun hs184 => ?_) (fun hs184 => ?_)
                  · skip
                    have hO : (!o) = true := hs184
                    refine FL_on rfl rfl ?_
                    refine FL_move (h := ?_)
                    refine FL_on rfl rfl ?_
                    first | refine FL_val (Gives.notP rfl) rfl ?_ | refine FL_val (Gives.not rfl) rfl ?_
                    refine FL_on rfl rfl ?_
                    refine FL_pickT (h := ?_)
                    refine FL_pickF (h := ?_)
                    refine FL_nil (Qseq_normal ?_)
                    first | refine FW_condP rfl (fun hc190 => ?_) (fun hc190 => ?_) | refine FW_cond rfl (fun hc190 => ?_) (fun hc190 => ?_)
                    · skip
                      rcases hor with h | h
                      · rw [h] at hO
                        cases hO
                      · rw [h] at hc190
                        cases hc190 --done
                    · skip
                      refine FW_skip (Qblk_normal (Qseq_normal ?_))
                      refine FW_region ?_
                      refine FL_move (h := ?_)
                      first | refine FL_val (Gives.addI rfl rfl rfl (by omega)) rfl ?_ | refine FL_val (Gives.add rfl rfl) rfl ?_
                      refine FL_assign (h := ?_)
                      refine FL_nil ?_
                      have H7 := H128.front1.drop0
                      have H8 := H7.front3.star0
                      exact Qround_normal (i2 + 1) ⟨rfl, rfl, rfl, rfl, rfl, rfl, trivial⟩ ⟨by omega, (show Sep w noB ([_, _, _, _] ++ [_, _]) _ from H8.front1.front1.front5.front3).firsts⟩ (by omega)
                  · skip
                    refine FL_off rfl rfl rfl ?_
                    refine FL_off rfl rfl rfl ?_
                    refine FL_on rfl rfl ?_
                    refine FL_pickF (h := ?_)
                    refine FL_pickF (h := ?_)
                    refine FL_nil (Qseq_normal ?_)
                    refine FW_cond_false rfl ?_
                    refine FW_skip (Qblk_normal (Qseq_normal ?_))
                    refine FW_region ?_
                    refine FL_move (h := ?_)
                    first | refine FL_val (Gives.addI rfl rfl rfl (by omega)) rfl ?_ | refine FL_val (Gives.add rfl rfl) rfl ?_
                    refine FL_assign (h := ?_)
                    refine FL_nil ?_
                    have H7 := H128.front1.drop0
                    have H8 := H7.front3.star0
                    exact Qround_normal (i2 + 1) ⟨rfl, rfl, rfl, rfl, rfl, rfl, trivial⟩ ⟨by omega, (show Sep w noB ([_, _, _, _] ++ [_, _]) _ from H8.front1.front1.front5.front3).firsts⟩ (by omega)
            · skip
              refine FL_off rfl rfl rfl ?_
              refine FL_off rfl rfl rfl ?_
              refine FL_pickF (h := ?_)
              refine FL_move (h := ?_)
              refine FL_on rfl rfl ?_
              refine FL_move (h := ?_)
              refine FL_on rfl rfl ?_
              refine FL_move (h := ?_)
              refine FL_on rfl rfl ?_
              refine FL_val (Gives.gtr rfl rfl) rfl ?_
              refine FL_on rfl rfl ?_
              refine FL_move (h := ?_)
              first | refine FL_splitP (t := 110) rfl (fun hs208 => ?_) (fun hs208 => ?_) | refine FL_split (t := 110) rfl (fun hs208 => ?_) (fun hs208 => ?_)
              · skip
                have hB := hs208
                refine FL_on rfl rfl ?_
                refine FL_move (h := ?_)
                refine FL_on rfl rfl ?_
                first | refine FL_val (Gives.notP rfl) rfl ?_ | refine FL_val (Gives.not rfl) rfl ?_
                refine FL_on rfl rfl ?_
                refine FL_pickT (h := ?_)
                refine FL_pickF (h := ?_)
                refine FL_move (h := ?_)
                first | refine FL_splitP (t := 115) rfl (fun hs215 => ?_) (fun hs215 => ?_) | refine FL_split (t := 115) rfl (fun hs215 => ?_) (fun hs215 => ?_)
                · skip
                  have hnn : nn = n + 1 := by
                    rcases hcame.is with ⟨_, _, h2⟩ | ⟨_, _, h2⟩
                    · omega
                    · exact h2
                  rw [hnT hnn] at hs215
                  cases hs215 --done
                · skip
                  refine FL_on rfl rfl ?_
                  refine FL_move (h := ?_)
                  refine FL_on rfl rfl ?_
                  first | refine FL_val (Gives.notP rfl) rfl ?_ | refine FL_val (Gives.not rfl) rfl ?_
                  refine FL_on rfl rfl ?_
                  refine FL_move (h := ?_)
                  first | refine FL_splitP (t := 118) rfl (fun hs220 => ?_) (fun hs220 => ?_) | refine FL_split (t := 118) rfl (fun hs220 => ?_) (fun hs220 => ?_)
                  · skip
                    have hO : (!o) = true := hs220
                    refine FL_on rfl rfl ?_
                    refine FL_move (h := ?_)
                    refine FL_on rfl rfl ?_
                    first | refine FL_val (Gives.notP rfl) rfl ?_ | refine FL_val (Gives.not rfl) rfl ?_
                    refine FL_on rfl rfl ?_
                    refine FL_pickT (h := ?_)
                    refine FL_pickF (h := ?_)
                    refine FL_nil (Qseq_normal ?_)
                    first | refine FW_condP rfl (fun hc226 => ?_) (fun hc226 => ?_) | refine FW_cond rfl (fun hc226 => ?_) (fun hc226 => ?_)
                    · skip
                      rcases hor with h | h
                      · rw [h] at hO
                        cases hO
                      · rw [h] at hc226
                        cases hc226 --done
                    · skip
                      refine FW_skip (Qblk_normal (Qseq_normal ?_))
                      refine FW_region ?_
                      refine FL_move (h := ?_)
                      first | refine FL_val (Gives.addI rfl rfl rfl (by omega)) rfl ?_ | refine FL_val (Gives.add rfl rfl) rfl ?_
                      refine FL_assign (h := ?_)
                      refine FL_nil ?_
                      have H7 := H128.front1.drop0
                      have H8 := H7.front3.star0
                      exact Qround_normal (i2 + 1) ⟨rfl, rfl, rfl, rfl, rfl, rfl, trivial⟩ ⟨by omega, (show Sep w noB ([_, _, _, _] ++ [_, _]) _ from H8.front1.front1.front5.front3).firsts⟩ (by omega)
                  · skip
                    refine FL_off rfl rfl rfl ?_
                    refine FL_off rfl rfl rfl ?_
                    refine FL_on rfl rfl ?_
                    refine FL_pickF (h := ?_)
                    refine FL_pickF (h := ?_)
                    refine FL_nil (Qseq_normal ?_)
                    refine FW_cond_false rfl ?_
                    refine FW_skip (Qblk_normal (Qseq_normal ?_))
                    refine FW_region ?_
                    refine FL_move (h := ?_)
                    first | refine FL_val (Gives.addI rfl rfl rfl (by omega)) rfl ?_ | refine FL_val (Gives.add rfl rfl) rfl ?_
                    refine FL_assign (h := ?_)
                    refine FL_nil ?_
                    have H7 := H128.front1.drop0
                    have H8 := H7.front3.star0
                    exact Qround_normal (i2 + 1) ⟨rfl, rfl, rfl, rfl, rfl, rfl, trivial⟩ ⟨by omega, (show Sep w noB ([_, _, _, _] ++ [_, _]) _ from H8.front1.front1.front5.front3).firsts⟩ (by omega)
              · skip
                refine FL_off rfl rfl rfl ?_
                refine FL_off rfl rfl rfl ?_
                refine FL_on rfl rfl ?_
                refine FL_pickF (h := ?_)
                refine FL_pickF (h := ?_)
                refine FL_move (h := ?_)
                refine FL_on rfl rfl ?_
                refine FL_move (h := ?_)
                refine FL_on rfl rfl ?_
                first | refine FL_val (Gives.notP rfl) rfl ?_ | refine FL_val (Gives.not rfl) rfl ?_
                refine FL_on rfl rfl ?_
                refine FL_move (h := ?_)
                first | refine FL_splitP (t := 118) rfl (fun hs244 => ?_) (fun hs244 => ?_) | refine FL_split (t := 118) rfl (fun hs244 => ?_) (fun hs244 => ?_)
                · skip
                  have hO : (!o) = true := hs244
                  refine FL_on rfl rfl ?_
                  refine FL_move (h := ?_)
                  refine FL_on rfl rfl ?_
                  first | refine FL_val (Gives.notP rfl) rfl ?_ | refine FL_val (Gives.not rfl) rfl ?_
                  refine FL_on rfl rfl ?_
                  refine FL_pickT (h := ?_)
                  refine FL_pickF (h := ?_)
                  refine FL_nil (Qseq_normal ?_)
                  first | refine FW_condP rfl (fun hc250 => ?_) (fun hc250 => ?_) | refine FW_cond rfl (fun hc250 => ?_) (fun hc250 => ?_)
                  · skip
                    rcases hor with h | h
                    · rw [h] at hO
                      cases hO
                    · rw [h] at hc250
                      cases hc250 --done
                  · skip
                    refine FW_skip (Qblk_normal (Qseq_normal ?_))
                    refine FW_region ?_
                    refine FL_move (h := ?_)
                    first | refine FL_val (Gives.addI rfl rfl rfl (by omega)) rfl ?_ | refine FL_val (Gives.add rfl rfl) rfl ?_
                    refine FL_assign (h := ?_)
                    refine FL_nil ?_
                    have H7 := H128.front1.drop0
                    have H8 := H7.front3.star0
                    exact Qround_normal (i2 + 1) ⟨rfl, rfl, rfl, rfl, rfl, rfl, trivial⟩ ⟨by omega, (show Sep w noB ([_, _, _, _] ++ [_, _]) _ from H8.front1.front1.front5.front3).firsts⟩ (by omega)
                · skip
                  refine FL_off rfl rfl rfl ?_
                  refine FL_off rfl rfl rfl ?_
                  refine FL_on rfl rfl ?_
                  refine FL_pickF (h := ?_)
                  refine FL_pickF (h := ?_)
                  refine FL_nil (Qseq_normal ?_)
                  refine FW_cond_false rfl ?_
                  refine FW_skip (Qblk_normal (Qseq_normal ?_))
                  refine FW_region ?_
                  refine FL_move (h := ?_)
                  first | refine FL_val (Gives.addI rfl rfl rfl (by omega)) rfl ?_ | refine FL_val (Gives.add rfl rfl) rfl ?_
                  refine FL_assign (h := ?_)
                  refine FL_nil ?_
                  have H7 := H128.front1.drop0
                  have H8 := H7.front3.star0
                  exact Qround_normal (i2 + 1) ⟨rfl, rfl, rfl, rfl, rfl, rfl, trivial⟩ ⟨by omega, (show Sep w noB ([_, _, _, _] ++ [_, _]) _ from H8.front1.front1.front5.front3).firsts⟩ (by omega)
      · skip
        refine FW_exit (Qseq_exit (Qround_exit (Qblk_exit (Qblk_normal (Qseq_normal ?_)))))
        refine FW_region ?_
        refine FL_move (h := ?_)
        first | refine FL_val (Gives.addI rfl rfl rfl (by omega)) rfl ?_ | refine FL_val (Gives.add rfl rfl) rfl ?_
        refine FL_assign (h := ?_)
        refine FL_nil ?_
        exact Qround_normal (k + 1) ⟨rfl, rfl, rfl, rfl, by show I ((k : Int) + 1 + 1) = I (((k + 1 : Nat) : Int) + 1); congr 1, trivial⟩ ⟨by omega, H65⟩ (by omega)
    · skip
      refine FW_exit (Qseq_exit (Qround_exit (Qblk_exit (Qseq_normal ?_))))
      refine FW_seq ?_
      refine FW_region ?_
      refine FL_callQ H56 worksS_ok (h := fun w267 H267 _ => ?_)
      refine FL_assign (h := ?_)
      refine FL_nil (Qseq_normal ?_)
      refine FW_ret (Qfn_ret (hR := ?_))
      exact ⟨rfl, H267.kept⟩
end
end Go.Proofs.Yteflbohpabdjkaa
