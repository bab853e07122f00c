/-
  Open, walked.
-/
import Derived.Test.YteflbohpabdjkaaSlotE
namespace Go.Proofs.Yteflbohpabdjkaa
open Go Go.Mw
set_option maxRecDepth 8000

section
variable {p s : Nat} {d : DM} {m : SM} {F : Nat → Prop} {w w₀ : World} {S : Nat → Prop} {rs : List HP} {put : HP → List HP}
instance : EqOk Try.prog 112 := ⟨by kernel_rfl⟩
theorem rowCells {w : World} {ad : Addr} {n k : Nat} {xs : List Value} (h : RowAt w (some ad) n k xs) (hn : 0 < n) : ∀ j u, xs[j]? = some u → w.cell? (ad.add j) = some u := by
  obtain ⟨a, h1, h2⟩ := h.at_ hn
  injection h1 with h1
  subst h1
  exact h2
theorem rooms_at (H : Sep w₀ S (slotH s p m :: rs) w) (h : (diskH p d).ok F w) : Rets Try.prog 60 [.pointer (some ⟨s, 0, none⟩)] w fun v w' => v = I (room d) ∧ w = w' := by
  have hb := H.obj At0
  have hh := half_bd (diskH_blk h).1
  have hwf := (diskH_blk h).1
  refine rets1 Try.func60 rfl rfl rfl rfl ?_
  refine FW_seq ?_
  refine FW_region ?_
  refine FL_assign (h := ?_)
  refine FL_nil (Qseq_normal ?_)
  refine FW_seq ?_
  refine FW_seq ?_
  refine FW_region ?_
  refine FL_move (h := ?_)
  refine FL_callS (noneS_at H At0) (h := ?_)
  refine FL_nil (Qseq_normal ?_)
  first | refine FW_condP rfl (fun hc4 => ?_) (fun hc4 => ?_) | refine FW_cond rfl (fun hc4 => ?_) (fun hc4 => ?_)
  · skip
    first | exact absurd rfl hc4 | exact (hc4 trivial).elim | exact absurd hc4 (by decide) | exact absurd hc4 (by simp) | omega --done
  · skip
    refine FW_skip (Qseq_normal ?_)
    refine FW_seq ?_
    refine FW_region ?_
    refine FL_move (h := ?_)
    refine FL_callS (v := I (half d)) ?_ (h := ?_)
    · refine rets1 Try.func84 rfl rfl rfl rfl ?_
      refine FW_seq ?_
      refine FW_region ?_
      refine FL_assign (h := ?_)
      refine FL_nil (Qseq_normal ?_)
      refine FW_seq ?_
      refine FW_region ?_
      refine FL_move (h := ?_)
      refine FL_val (Gives.nilCheck rfl) rfl ?_
      refine FL_val (Gives.field0 rfl) rfl ?_
      refine FL_loadB hb (h := ?_)
      refine FL_callS (size_ok h) (h := ?_)
      refine FL_val (Gives.subI rfl rfl rfl (by have := hwf.1; have := hwf.2.1; omega)) rfl ?_
      refine FL_val (Gives.quo rfl rfl (by decide)) rfl ?_
      rw [show IntKind.i64.wrap ((d.size - 1).tdiv 2) = half d by
        have := hwf.1
        have := hwf.2.1
        rw [Int.tdiv_eq_ediv_of_nonneg (by omega)]
        exact IntWalk.i64_in _ (by omega)]
      refine FL_assign (h := ?_)
      refine FL_nil (Qseq_normal ?_)
      refine FW_ret (Qfn_ret (hR := ?_))
      exact ⟨rfl, rfl⟩
    refine FL_val (Gives.mulI rfl rfl rfl (by omega)) rfl ?_
    refine FL_assign (h := ?_)
    refine FL_nil (Qseq_normal ?_)
    refine FW_ret (Qfn_ret (hR := ?_))
    exact ⟨rfl, rfl⟩
set_option maxHeartbeats 4000000 in
theorem openS_ok (h : (diskH p d).ok F w) :
    Rets Try.prog 52 [.pointer (some ⟨p, 0, none⟩)] w fun v w' => ∃ x : Option Nat, v = .tuple #[.pointer (x.map fun s => ⟨s, 0, none⟩), I (openS d).1] ∧ (x.isSome = decide ((openS d).1 = 0)) ∧ Turn noB (openH x p (openS d).2) w w' := by
  have H := Sep.start0 w
  have hwf := (diskH_blk h).1
  refine rets1 Try.func52 rfl rfl rfl rfl ?_
  refine FW_seq ?_
  refine FW_region ?_
  refine FL_assign (h := ?_)
  refine FL_assign (h := ?_)
  refine FL_nil (Qseq_normal ?_)
  refine FW_seq ?_
  refine FW_seq ?_
  refine FW_region ?_
  refine FL_move (h := ?_)
  refine FL_callS (size_ok h) (h := ?_)
  refine FL_val (Gives.eql rfl rfl) rfl ?_
  refine FL_nil (Qseq_normal ?_)
  first | refine FW_condP rfl (fun hc6 => ?_) (fun hc6 => ?_) | refine FW_cond rfl (fun hc6 => ?_) (fun hc6 => ?_)
  · skip
    have := hwf.1
    omega --done
  · skip
    refine FW_skip (Qseq_normal ?_)
    refine FW_seq ?_
    refine FW_seq ?_
    refine FW_region ?_
    refine FL_move (h := ?_)
    refine FL_callS (size_ok h) (h := ?_)
    refine FL_val (Gives.lss rfl rfl) rfl ?_
    refine FL_nil (Qseq_normal ?_)
    first | refine FW_condP rfl (fun hc11 => ?_) (fun hc11 => ?_) | refine FW_cond rfl (fun hc11 => ?_) (fun hc11 => ?_)
    · skip
      have ho : openS d = (5, ⟨0, 0, false⟩) := by unfold openS; rw [if_pos hc11]
      refine FW_seq ?_
      refine FW_region ?_
      refine FL_assign (h := ?_)
      refine FL_assign (h := ?_)
      refine FL_nil (Qseq_normal ?_)
      refine FW_ret (Qseq_ret (Qfn_ret (hR := ?_)))
      exact ⟨none, by rw [ho]; rfl, by rw [ho]; rfl, (Turn.refl (emp_ok (fun _ => id)))⟩
    · skip
      have h3 : ¬ d.size < 3 := hc11
      refine FW_skip (Qseq_normal ?_)
      refine FW_seq ?_
      refine FW_region ?_
      refine FL_move (h := ?_)
      refine FL_callN H (read_ok (HP.stay h H.kept) (at_ := 0)) rfl rfl (fun y w19 _ H19 _ => ?_)
      obtain ⟨Ay, cy, hy, hcy, _⟩ := Sep.rowForm H19 At0
      subst hy
      refine FL_move (h := ?_)
      refine FL_val (Gives.extract rfl rfl) rfl ?_
      refine FL_val (Gives.extract rfl rfl) rfl ?_
      refine FL_assign (h := ?_)
      refine FL_assign (h := ?_)
      refine FL_nil (Qseq_normal ?_)
      refine FW_seq ?_
      refine FW_seq ?_
      refine FW_region ?_
      refine FL_move (h := ?_)
      refine FL_val (Gives.neq rfl rfl) rfl ?_
      refine FL_nil (Qseq_normal ?_)
      first | refine FW_condP rfl (fun hc27 => ?_) (fun hc27 => ?_) | refine FW_cond rfl (fun hc27 => ?_) (fun hc27 => ?_)
      · skip
        have hdd : d.dead = true := by
          cases hq : d.dead
          · rw [read_in hq (by decide) (by omega)] at hc27
            exact absurd rfl hc27
          · rfl
        have ho : openS d = (290, ⟨0, 0, false⟩) := by unfold openS; rw [if_neg h3, if_pos hdd]
        refine FW_seq ?_
        refine FW_region ?_
        refine FL_move (h := ?_)
        refine FL_assign (h := ?_)
        refine FL_assign (h := ?_)
        refine FL_nil (Qseq_normal ?_)
        refine FW_ret (Qseq_ret (Qfn_ret (hR := ?_)))
        rw [read_dead hdd]
        exact ⟨none, by rw [ho]; rfl, by rw [ho]; rfl, (H19.drop0.kept.mono fun _ h => h), fun _ => False, emp_ok (fun _ => id), fun _ h => h.elim⟩
      · skip
        have hdd : d.dead = false := by
          cases hq : d.dead
          · rfl
          · rw [read_dead hq] at hc27
            exact absurd (show ((290 : Int) ≠ 0) by decide) hc27
        obtain ⟨b, hb⟩ : ∃ b, b = d.sec 0 := ⟨_, rfl⟩
        have hbl : b.length = 128 := by rw [hb]; exact DM.sec_length hwf 0
        rw [read_in hdd (by decide) (by omega)] at H19 hcy ⊢
        have hr0 : ((some (d.sec 0), (0 : Int)).1.getD []) = b := hb.symm
        rw [hr0, hbl] at H19
        rw [hr0, hbl] at hcy ⊢
        have ho : openS d = match rootOf d b with | some (n, m) => (0, ⟨n, m, false⟩) | none => (4, ⟨0, 0, false⟩) := by unfold openS; rw [if_neg h3, if_neg (by rw [hdd]; simp), ← hb]; rfl
        obtain ⟨ady, hady, _⟩ := (Sep.rowAt H19 At0).at_ (by decide)
        subst hady
        have hri := root_iff hbl
        obtain ⟨n8, hn8⟩ : ∃ n8, n8 = takeN (b.take 8) := ⟨_, rfl⟩
        obtain ⟨n4, hn4⟩ : ∃ n4, n4 = takeN ((b.drop 8).take 4) := ⟨_, rfl⟩
        rw [← hn8, ← hn4] at hri
        have hrf : rootOf d b = if b = rootB n8 n4 ∧ (n8 : Int) ≤ mostNum ∧ (n4 : Int) ≤ room d ∧ ¬ (n8 = 0 ∧ 0 < n4) then some ((n8 : Int), (n4 : Int)) else none := by rw [hn8, hn4]; rfl
        have hn4l : n4 < 4294967296 := by rw [hn4]; exact takeN4_lt (by rw [List.length_take, List.length_drop, hbl]; decide)
        have hn8l : n8 < 18446744073709551616 := by rw [hn8]; exact takeN_lt _
        refine FW_skip (Qseq_normal ?_)
        refine FW_seq ?_
        refine FW_drawS rfl H19 (h := fun hok34 w36 H36 => ?_)
        refine FGmove hok34 0 (h := ?_)
        refine FGp hok34 1 rfl rfl (fun _ => (Gives.sliceTo (h := 8) rfl rfl (by omega))) (by kernel_rfl) ?_
        refine FGmove hok34 3 (h := ?_)
        refine FGp hok34 4 rfl rfl (fun _ => (Gives.sliceBoth (l := 8) (h := 12) rfl rfl rfl (by decide) (by omega))) (by kernel_rfl) ?_
        refine FGcallS hok34 2 [(4, true), (3, true)] H36 (by
          have h1 := take_ok (A := some ady) (c := cy) (l := b.take 8) (by rw [List.length_take]; omega) (by
            have h2 := (H36.rowAt At0).take (k := 8) (by decide)
            rw [← List.map_take] at h2
            rw [List.length_take, hbl]
            exact h2)
          rw [List.length_take, hbl, ← hn8] at h1
          exact h1) (h := fun w40 H40 => ⟨Stab_pure (Stab_pure (Stab_nil)), ?_⟩)
        refine FGcallS hok34 5 [] H40 (by
          have h1 := take_ok (A := if cy = 8 then some ady else (some ady).map (·.add (8 * 1))) (c := cy - 8) (l := (b.drop 8).take 4) (by rw [List.length_take]; omega) (by
            have h2 := (H40.rowAt At0).mid (l := 8) (h := 12) (cap := cy) (by decide) (by decide) (by omega)
            rw [← List.map_drop, ← List.map_take] at h2
            rw [List.length_take, List.length_drop, hbl]
            exact h2)
          rw [List.length_take, List.length_drop, hbl, ← hn4] at h1
          exact h1) (h := fun w42 H42 => ⟨Stab_nil, ?_⟩)
        refine FGp hok34 6 rfl rfl (fun _ => (Gives.conv rfl)) (by kernel_rfl) ?_
        rw [show IntKind.i64.wrap (n4 : Int) = (n4 : Int) from IntWalk.i64_in _ (by omega)]
        refine FGp hok34 7 rfl rfl (fun _ => Gives.assign rfl) (by kernel_rfl) ?_
        refine FGp hok34 8 rfl rfl (fun _ => Gives.assign rfl) (by kernel_rfl) ?_
        refine FG_end hok34 (by kernel_rfl) ?_
        refine Qseq_normal ?_
        refine FW_seq ?_
        refine FW_region ?_
        refine FL_move (h := ?_)
        refine FL_move (h := ?_)
        refine FL_val (Gives.and rfl rfl) rfl ?_
        rw [show bits .and .u64 (n8 : Int) 9007199254740991 = ((n8 % 9007199254740992 : Nat) : Int) by
          rw [show (9007199254740991 : Int) = ((9007199254740991 : Nat) : Int) from rfl, u64_and_nat _ _ (by omega) (by omega)]
          congr 1
          exact Nat.and_two_pow_sub_one_eq_mod n8 53]
        refine FL_val (Gives.conv rfl) rfl ?_
        rw [show IntKind.i64.wrap ((n8 % 9007199254740992 : Nat) : Int) = ((n8 % 9007199254740992 : Nat) : Int) from IntWalk.i64_in _ (by omega)]
        refine FL_move (h := ?_)
        refine FL_val (Gives.build (out := slotCells p ⟨(n8 % 9007199254740992 : Nat), n4, false⟩) (Fills.one rfl rfl rfl (by simp) rfl (Fills.one rfl rfl rfl (by simp) rfl (Fills.one rfl rfl rfl (by simp) rfl Fills.nil)))) rfl ?_
        refine FL_box H42 (h := ?_)
        intro bs w53 H0 _
        have H53 : Sep w noB (slotH bs p ⟨(n8 % 9007199254740992 : Nat), n4, false⟩ :: rowH 99 1 (.slice (some ady) 128 cy) 128 (b.map B) :: []) w53 := H0
        refine FL_assign (h := ?_)
        refine FL_nil (Qseq_normal ?_)
        refine FW_seq ?_
        refine FW_seq ?_
        refine FW_drawS rfl H53 (h := fun hok55 w57 H57 => ?_)
        refine FGmove hok55 0 (h := ?_)
        refine FGp hok55 1 rfl rfl (fun _ => (Gives.nilCheck rfl)) (by kernel_rfl) ?_
        first | refine FGp hok55 2 rfl rfl (fun _ => (Gives.field0 rfl)) (by kernel_rfl) ?_ | refine FGp hok55 2 rfl rfl (fun _ => (Gives.field rfl)) (by kernel_rfl) ?_ | refine FGp hok55 2 rfl rfl (fun _ => (Gives.fieldA rfl)) (by kernel_rfl) ?_
        refine FGload hok55 3 (b := bs) (cs := slotCells p ⟨(n8 % 9007199254740992 : Nat), n4, false⟩) H57 (hat := At0) (h := ?_)
        refine FGmove hok55 4 (h := ?_)
        refine FGmove hok55 6 (h := ?_)
        refine FGp hok55 7 rfl rfl (fun _ => (Gives.arrayAt rfl (Nat.le_refl _))) (by kernel_rfl) ?_
        refine FGl hok55 8 rfl rfl (Gives.loadCN (us := b.map B) rfl (rowCells (H57.rowAt At1) (by decide)) (by rw [List.length_map, hbl])) (by kernel_rfl) ?_
        refine FGcallQ hok55 5 [(8, false), (7, true), (6, true)] H57 (of_ok (n8 % 9007199254740992 : Nat) n4) (h := fun w64 H64 _ => ⟨(Stab_cons rfl rfl (Gives.loadCN (us := b.map B) rfl (rowCells (H64.rowAt At1) (by decide)) (by rw [List.length_map, hbl])) rfl (Stab_pure (Stab_pure (Stab_nil)))), ?_⟩)
        refine FGp hok55 9 rfl rfl (fun _ => (Gives.neqBytes (rootB_length _ _) hbl rfl rfl)) (by kernel_rfl) ?_
        refine FGmove hok55 10 (h := ?_)
        first | refine FG_splitP (t := 47) rfl (fun hs66 => ?_) (fun hs66 => ?_) | refine FG_split (t := 47) rfl (fun hs66 => ?_) (fun hs66 => ?_)
        · skip
          have hno : rootOf d b = none := by
            rw [hrf, if_neg]
            rintro ⟨h1, h2, _⟩
            have := hri.2 ⟨h1, h2⟩
            rw [this] at hs66
            simp at hs66
          refine FGoff hok55 11 rfl rfl (by kernel_rfl) ?_
          refine FGoff hok55 12 rfl rfl (by kernel_rfl) ?_
          refine FGoff hok55 13 rfl rfl (by kernel_rfl) ?_
          refine FGoff hok55 14 rfl rfl (by kernel_rfl) ?_
          refine FGp hok55 15 rfl rfl (fun _ => Gives.pickT rfl rfl) (by kernel_rfl) ?_
          refine FGmove hok55 16 (h := ?_)
          refine FGoff hok55 17 rfl rfl (by kernel_rfl) ?_
          refine FGoff hok55 18 rfl rfl (by kernel_rfl) ?_
          refine FGoff hok55 19 rfl rfl (by kernel_rfl) ?_
          refine FGoff hok55 20 rfl rfl (by kernel_rfl) ?_
          refine FGoff hok55 21 rfl rfl (by kernel_rfl) ?_
          refine FGoff hok55 22 rfl rfl (by kernel_rfl) ?_
          refine FGp hok55 23 rfl rfl (fun _ => Gives.pickT rfl rfl) (by kernel_rfl) ?_
          refine FG_end hok55 (by kernel_rfl) ?_
          refine Qseq_normal ?_
          refine FW_cond_true rfl ?_
          refine FW_seq ?_
          refine FW_region ?_
          refine FL_assign (h := ?_)
          refine FL_assign (h := ?_)
          refine FL_nil (Qseq_normal ?_)
          refine FW_ret (Qseq_ret (Qfn_ret (hR := ?_)))
          rw [hno] at ho
          exact ⟨none, by rw [ho]; rfl, by rw [ho]; rfl, (H64.kept.mono fun _ h => h), fun _ => False, emp_ok (fun _ => id), fun _ h => h.elim⟩
        · skip
          have hyes : b = rootB n8 n4 ∧ (n8 : Int) ≤ mostNum := hri.1 (by simpa using hs66)
          refine FGmove hok55 11 (h := ?_)
          refine FGmove hok55 12 (h := ?_)
          refine FGcallS hok55 13 [(11, true)] H64 (rooms_at H64 (HP.stay h H64.kept)) (h := fun w75 H75 => ⟨Stab_pure (Stab_nil), ?_⟩)
          refine FGp hok55 14 rfl rfl (fun _ => (Gives.gtr rfl rfl)) (by kernel_rfl) ?_
          refine FGp hok55 15 rfl rfl (fun _ => Gives.pickF rfl rfl) (by kernel_rfl) ?_
          refine FGmove hok55 16 (h := ?_)
          first | refine FG_splitP (t := 53) rfl (fun hs78 => ?_) (fun hs78 => ?_) | refine FG_split (t := 53) rfl (fun hs78 => ?_) (fun hs78 => ?_)
          · skip
            have hno : rootOf d b = none := by
              rw [hrf, if_neg]
              rintro ⟨_, _, h3, _⟩
              omega
            refine FGoff hok55 17 rfl rfl (by kernel_rfl) ?_
            refine FGoff hok55 18 rfl rfl (by kernel_rfl) ?_
            refine FGoff hok55 19 rfl rfl (by kernel_rfl) ?_
            refine FGoff hok55 20 rfl rfl (by kernel_rfl) ?_
            refine FGoff hok55 21 rfl rfl (by kernel_rfl) ?_
            refine FGoff hok55 22 rfl rfl (by kernel_rfl) ?_
            refine FGp hok55 23 rfl rfl (fun _ => Gives.pickT rfl rfl) (by kernel_rfl) ?_
            refine FG_end hok55 (by kernel_rfl) ?_
            refine Qseq_normal ?_
            refine FW_cond_true rfl ?_
            refine FW_seq ?_
            refine FW_region ?_
            refine FL_assign (h := ?_)
            refine FL_assign (h := ?_)
            refine FL_nil (Qseq_normal ?_)
            refine FW_ret (Qseq_ret (Qfn_ret (hR := ?_)))
            rw [hno] at ho
            exact ⟨none, by rw [ho]; rfl, by rw [ho]; rfl, (H75.kept.mono fun _ h => h), fun _ => False, emp_ok (fun _ => id), fun _ h => h.elim⟩
          · skip
            have hroom := hs78
            refine FGmove hok55 17 (h := ?_)
            refine FGp hok55 18 rfl rfl (fun _ => (Gives.eql rfl rfl)) (by kernel_rfl) ?_
            refine FGmove hok55 19 (h := ?_)
            first | refine FG_splitP (t := 56) rfl (fun hs86 => ?_) (fun hs86 => ?_) | refine FG_split (t := 56) rfl (fun hs86 => ?_) (fun hs86 => ?_)
            · skip
              have hz8 := hs86
              refine FGmove hok55 20 (h := ?_)
              refine FGp hok55 21 rfl rfl (fun _ => (Gives.gtr rfl rfl)) (by kernel_rfl) ?_
              refine FGp hok55 22 rfl rfl (fun _ => Gives.pickT rfl rfl) (by kernel_rfl) ?_
              refine FGp hok55 23 rfl rfl (fun _ => Gives.pickF rfl rfl) (by kernel_rfl) ?_
              refine FG_end hok55 (by kernel_rfl) ?_
              refine Qseq_normal ?_
              first | refine FW_condP rfl (fun hc91 => ?_) (fun hc91 => ?_) | refine FW_cond rfl (fun hc91 => ?_) (fun hc91 => ?_)
              · skip
                have hno : rootOf d b = none := by
                  rw [hrf, if_neg]
                  rintro ⟨_, _, _, h4⟩
                  omega
                refine FW_seq ?_
                refine FW_region ?_
                refine FL_assign (h := ?_)
                refine FL_assign (h := ?_)
                refine FL_nil (Qseq_normal ?_)
                refine FW_ret (Qseq_ret (Qfn_ret (hR := ?_)))
                rw [hno] at ho
                exact ⟨none, by rw [ho]; rfl, by rw [ho]; rfl, (H75.kept.mono fun _ h => h), fun _ => False, emp_ok (fun _ => id), fun _ h => h.elim⟩
              · skip
                have hz4 := hc91
                refine FW_skip (Qseq_normal ?_)
                refine FW_seq ?_
                refine FW_region ?_
                refine FL_move (h := ?_)
                refine FL_assign (h := ?_)
                refine FL_assign (h := ?_)
                refine FL_nil (Qseq_normal ?_)
                refine FW_ret (Qfn_ret (hR := ?_))
                have hsome : rootOf d b = some ((n8 : Int), (n4 : Int)) := by
                  rw [hrf, if_pos ⟨hyes.1, hyes.2, by omega, by omega⟩]
                rw [hsome] at ho
                have hmod : ((n8 % 9007199254740992 : Nat) : Int) = (n8 : Int) := by
                  have := hyes.2
                  unfold mostNum at this
                  omega
                rw [hmod] at H75
                exact ⟨some bs, by rw [ho]; rfl, by rw [ho]; rfl, by rw [ho]; exact (Sep.first H75).turn⟩
            · skip
              have hz8 := hs86
              refine FGoff hok55 20 rfl rfl (by kernel_rfl) ?_
              refine FGoff hok55 21 rfl rfl (by kernel_rfl) ?_
              refine FGp hok55 22 rfl rfl (fun _ => Gives.pickF rfl rfl) (by kernel_rfl) ?_
              refine FGp hok55 23 rfl rfl (fun _ => Gives.pickF rfl rfl) (by kernel_rfl) ?_
              refine FG_end hok55 (by kernel_rfl) ?_
              refine Qseq_normal ?_
              refine FW_cond_false rfl ?_
              refine FW_skip (Qseq_normal ?_)
              refine FW_seq ?_
              refine FW_region ?_
              refine FL_move (h := ?_)
              refine FL_assign (h := ?_)
              refine FL_assign (h := ?_)
              refine FL_nil (Qseq_normal ?_)
              refine FW_ret (Qfn_ret (hR := ?_))
              have hsome : rootOf d b = some ((n8 : Int), (n4 : Int)) := by
                rw [hrf, if_pos ⟨hyes.1, hyes.2, by omega, by omega⟩]
              rw [hsome] at ho
              have hmod : ((n8 % 9007199254740992 : Nat) : Int) = (n8 : Int) := by
                have := hyes.2
                unfold mostNum at this
                omega
              rw [hmod] at H75
              exact ⟨some bs, by rw [ho]; rfl, by rw [ho]; rfl, by rw [ho]; exact (Sep.first H75).turn⟩
end
end Go.Proofs.Yteflbohpabdjkaa
