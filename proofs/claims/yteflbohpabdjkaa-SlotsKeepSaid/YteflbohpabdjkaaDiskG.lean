/-
  The disk's New, Flush, Fail and Copy, walked.
-/
import Derived.Test.YteflbohpabdjkaaDiskF
namespace Go.Proofs.Yteflbohpabdjkaa
open Go Go.Mw
set_option maxRecDepth 4000

def DM.new (n : Int) : DM := { size := n, kept := fun _ => none, now := fun _ => none, opn := [], dead := false, ops := 0, fail := 0, keep := [] }
section
variable {p : Nat} {d : DM} {F : Nat → Prop} {w w₀ : World} {S : Nat → Prop} {rs : List HP}
theorem keptAll_wf : ∀ {l : List (Int × List UInt8)} {f : Int → Option (List UInt8)}, (∀ x ∈ l, x.2.length = 128) → (∀ k b, f k = some b → b.length = 128) → ∀ k b, DM.keptAll l f k = some b → b.length = 128
  | [], _, _, hf => hf
  | x :: l, _, hl, hf => keptAll_wf (l := l) (fun y hy => hl y (List.mem_cons_of_mem _ hy)) (setAt_wf (hl x List.mem_cons_self) hf)
theorem openCells_one (l : List (Int × List UInt8)) : ∀ u ∈ openCells l, u.oneCell' = true := by
  intro u hu
  obtain ⟨x, _, hx⟩ := List.mem_flatMap.1 hu
  exact oneOpen_one x u hx
theorem new_ok (n : Int) (hn : 1 ≤ n ∧ n ≤ 65536) : Rets Try.prog 32 [I n] w fun v w' => ∃ p, v = .tuple #[.pointer (some ⟨p, 0, none⟩), I 0] ∧ True ∧ Turn noB (diskH p (DM.new n)) w w' := by
  have H := Sep.start0 w
  refine rets1 Try.func32 rfl rfl rfl rfl ?_
  refine FW_seq ?_
  refine FW_region ?_
  refine FL_assign (h := ?_)
  refine FL_assign (h := ?_)
  refine FL_nil (Qseq_normal ?_)
  refine FW_seq ?_
  refine FW_seq ?_
  refine FW_region ?_
  refine FL_move (h := ?_)
  refine FL_val (Gives.lss rfl rfl) rfl ?_
  refine FL_move (h := ?_)
  first | refine FL_splitP (t := 6) rfl (fun hs6 => ?_) (fun hs6 => ?_) | refine FL_split (t := 6) rfl (fun hs6 => ?_) (fun hs6 => ?_)
  · skip
    omega --done
  · skip
    refine FL_on rfl rfl ?_
    refine FL_move (h := ?_)
    refine FL_on rfl rfl ?_
    refine FL_val (Gives.gtr rfl rfl) rfl ?_
    refine FL_pickF (h := ?_)
    refine FL_nil (Qseq_normal ?_)
    first | refine FW_condP rfl (fun hc11 => ?_) (fun hc11 => ?_) | refine FW_cond rfl (fun hc11 => ?_) (fun hc11 => ?_)
    · skip
      omega --done
    · skip
      refine FW_skip (Qseq_normal ?_)
      refine FW_seq ?_
      refine FW_region ?_
      refine FL_move (h := ?_)
      refine FL_makeMap H (h := ?_)
      intro b14 w15 H15 k14
      refine FL_makeMap H15 (h := ?_)
      intro b16 w17 H17 k16
      refine FL_val (Gives.build (Fills.one rfl rfl rfl (by simp) rfl (Fills.one rfl rfl rfl (by simp) rfl (Fills.one rfl rfl rfl (by simp) rfl Fills.nil)))) rfl ?_
      refine FL_box H17 (h := ?_)
      intro b19 w20 H20 k19
      refine FL_assign (h := ?_)
      refine FL_assign (h := ?_)
      refine FL_nil (Qseq_normal ?_)
      refine FW_ret (Qfn_ret (hR := ?_))
      have h1 := (H20.front1.mapNew At0).front2.mapNew At0
      have h2 := ((h1.nilRow 3 1).nilRow 101 129).front3.front3.front4
      have hwf : (DM.new n).wf := ⟨hn.1, hn.2, fun _ _ h => (by cases h), fun _ _ h => (by cases h), fun _ h => (by cases h)⟩
      exact ⟨_, rfl, trivial, (Sep.shutDisk (d := DM.new n) hwf h2).turn⟩
theorem flush_ok (hfit : d.opn.length ≤ 1000000000000) (hkl : d.keep.length ≤ 1000000000000) (hops : fits (d.ops + 1)) (h : (diskH p d).ok F w) :
    Rets Try.prog 28 [.pointer (some ⟨p, 0, none⟩)] w fun v w' => v = I d.flush.1 ∧ Turn F (diskH p d.flush.2) w w' := by
  have H := Sep.start1 h
  refine rets1 Try.func28 rfl rfl rfl rfl ?_
  refine FW_seq ?_
  refine FW_region ?_
  refine FL_assign (h := ?_)
  refine FL_nil (Qseq_normal ?_)
  refine FW_seq ?_
  refine FW_seq ?_
  refine FW_region ?_
  refine FL_move (h := ?_)
  refine FL_callS (look_ok 0 h) (h := ?_)
  refine FL_assign (h := ?_)
  refine FL_nil (Qseq_normal ?_)
  refine FW_seq ?_
  refine FW_region ?_
  refine FL_move (h := ?_)
  refine FL_val (Gives.neq rfl rfl) rfl ?_
  refine FL_nil (Qseq_normal ?_)
  first | refine FW_condP rfl (fun hc7 => ?_) (fun hc7 => ?_) | refine FW_cond rfl (fun hc7 => ?_) (fun hc7 => ?_)
  · skip
    have hL : d.look 0 ≠ 0 := hc7
    have hfl : d.flush = (d.look 0, d) := by unfold DM.flush; rw [if_pos hL]
    rw [hfl]
    refine FW_seq ?_
    refine FW_region ?_
    refine FL_move (h := ?_)
    refine FL_assign (h := ?_)
    refine FL_nil (Qseq_normal ?_)
    refine FW_ret (Qseq_ret (Qfn_ret (hR := ?_)))
    exact ⟨rfl, Turn.refl h⟩
  · skip
    have hL : ¬ d.look 0 ≠ 0 := hc7
    refine FW_skip (Qseq_normal ?_)
    refine FW_seq ?_
    refine FW_seq ?_
    refine FW_region ?_
    refine FL_move (h := ?_)
    refine FL_call1 H At0 (fun F' hp _ => count_ok hfit hkl hops hp) (h := fun w15 H15 => ?_)
    first | refine FL_val (Gives.notP rfl) rfl ?_ | refine FL_val (Gives.not rfl) rfl ?_
    refine FL_nil (Qseq_normal ?_)
    first | refine FW_condP rfl (fun hc17 => ?_) (fun hc17 => ?_) | refine FW_cond rfl (fun hc17 => ?_) (fun hc17 => ?_)
    · skip
      have hC : d.count.1 = false := by simpa using hc17
      have hfl : d.flush = (290, d.count.2) := by unfold DM.flush; rw [if_neg hL, if_neg (by rw [hC]; simp)]
      rw [hfl]
      refine FW_seq ?_
      refine FW_region ?_
      refine FL_assign (h := ?_)
      refine FL_nil (Qseq_normal ?_)
      refine FW_ret (Qseq_ret (Qfn_ret (hR := ?_)))
      exact ⟨rfl, H15.turn⟩
    · skip
      have hC : d.count.1 = true := by simpa using hc17
      have hfl : d.flush = (0, { d.count.2 with kept := DM.keptAll d.opn d.kept, opn := [] }) := by unfold DM.flush; rw [if_neg hL, if_pos hC]
      have hcd : d.count.2 = { d with ops := d.ops + 1 } := by
        unfold DM.count at hC ⊢
        split <;> simp_all
      rw [hfl, hcd]
      rw [hcd] at H15
      obtain ⟨hwf, bk, bn, vo, vk, HO⟩ := Sep.openDisk H15
      obtain ⟨Ao, co, hvo, hco, hlo, hno⟩ := Sep.rowForm HO At3
      subst hvo
      refine FW_skip (Qseq_normal ?_)
      refine FW_seq ?_
      refine FW_seq ?_
      refine FW_region ?_
      refine FL_move (h := ?_)
      refine FL_val (Gives.nilCheck rfl) rfl ?_
      first | refine FL_val (Gives.field0 rfl) rfl ?_ | refine FL_val (Gives.field rfl) rfl ?_ | refine FL_val (Gives.fieldA rfl) rfl ?_
      refine FL_load HO (h := ?_)
      refine FL_val (Gives.lenSlice rfl) rfl ?_
      refine FL_move (h := ?_)
      refine FL_nil (Qseq_normal ?_)
      refine FW_block ?_
      refine FW_loop' (fun i : Nat => [(0, .pointer (some ⟨p, 0, none⟩)), (17, .slice Ao d.opn.length co), (18, I d.opn.length), (19, I i)])
        (fun i w' => i ≤ d.opn.length ∧ Sep w F (blk p (diskCells { d with ops := d.ops + 1 } bk bn (.slice Ao d.opn.length co) vk) 64 :: mapI bk (dmap (DM.keptAll (d.opn.take i) d.kept)) :: mapI bn (dmap d.now) :: rowH 101 129 (.slice Ao d.opn.length co) d.opn.length (openCells d.opn) :: rowH 3 1 vk d.keep.length (d.keep.map I) :: []) w') (fun i _ => d.opn.length - i) 0 ⟨rfl, rfl, rfl, rfl, trivial⟩ ⟨Nat.zero_le _, HO⟩ (fun x τ w29 hI => ?_)
      obtain ⟨hx, H29⟩ := hI
      try simp only [upds, like, upd_ds, und_ds]
      refine FW_seq ?_
      refine FW_region ?_
      refine FL_val (Gives.lss rfl rfl) rfl ?_
      refine FL_nil (Qseq_normal ?_)
      refine FW_seq ?_
      first | refine FW_condP rfl (fun hc31 => ?_) (fun hc31 => ?_) | refine FW_cond rfl (fun hc31 => ?_) (fun hc31 => ?_)
      · skip
        have hlt : x < d.opn.length := by omega
        have hr := Sep.rowAt H29 At3
        obtain ⟨ad, hA, hcell⟩ := hr.at_ (by omega)
        subst hA
        have hlen : (oneOpen d.opn[x]).length = 129 := by simp [oneOpen, hwf.2.2.2.2 _ (List.getElem_mem hlt)]
        refine FW_skip (Qseq_normal ?_)
        refine FW_seq ?_
        refine FW_block ?_
        refine FW_seq ?_
        refine FW_region ?_
        refine FL_val (Gives.idx rfl rfl hlt) rfl ?_
        refine FL_loadCN (us := oneOpen d.opn[x]) (fun j u hj => by rw [add_add]; exact hcell _ _ (openCells_get d.opn hwf.2.2.2.2 x hlt j u hj)) (hk := hlen) (h := ?_)
        refine FL_alloc H29 (h := ?_)
        intro b35 w36 H36 k35
        refine FL_storeN (us := oneOpen d.opn[x]) H36 (hk := hlen) (hv := oneOpen_one _) (ho := by rw [hlen]; decide) (hs := storeN_all (by rw [hlen]; rfl)) (h := ?_)
        intro w38 H38
        refine FL_nil (Qseq_normal ?_)
        refine FW_drawS rfl H38 (h := fun hok39 w41 H41 => ?_)
        refine FGmove hok39 0 (h := ?_)
        refine FGp hok39 1 rfl rfl (fun _ => (Gives.nilCheck rfl)) (by kernel_rfl) ?_
        first | refine FGp hok39 2 rfl rfl (fun _ => (Gives.field0 rfl)) (by kernel_rfl) ?_ | refine FGp hok39 2 rfl rfl (fun _ => (Gives.field rfl)) (by kernel_rfl) ?_ | refine FGp hok39 2 rfl rfl (fun _ => (Gives.fieldA rfl)) (by kernel_rfl) ?_
        refine FGload hok39 3 H41 (h := ?_)
        first | refine FGp hok39 4 rfl rfl (fun _ => (Gives.field0 rfl)) (by kernel_rfl) ?_ | refine FGp hok39 4 rfl rfl (fun _ => (Gives.field rfl)) (by kernel_rfl) ?_ | refine FGp hok39 4 rfl rfl (fun _ => (Gives.fieldA rfl)) (by kernel_rfl) ?_
        refine FGload hok39 5 H41 (h := ?_)
        first | refine FGp hok39 6 rfl rfl (fun _ => (Gives.field0 rfl)) (by kernel_rfl) ?_ | refine FGp hok39 6 rfl rfl (fun _ => (Gives.field rfl)) (by kernel_rfl) ?_ | refine FGp hok39 6 rfl rfl (fun _ => (Gives.fieldA rfl)) (by kernel_rfl) ?_
        refine FGloadN hok39 7 (cs := oneOpen d.opn[x]) (us := d.opn[x].2.map B) (o := 1) (k := 128) H41 (hu := by rw [show (oneOpen d.opn[x]).drop 1 = d.opn[x].2.map B from rfl]; exact List.take_of_length_le (by simp [oneOpen] at hlen ⊢; omega)) (hk := by simp [oneOpen] at hlen ⊢; omega) (h := ?_)
        refine FGmapUpdate hok39 8 [] H41 (h := fun w50 H50 => ⟨Stab_nil, ?_⟩)
        refine FG_end hok39 (by kernel_rfl) ?_
        refine Qblk_normal (Qseq_normal ?_)
        refine FW_region ?_
        first | refine FL_val (Gives.addI rfl rfl rfl (by omega)) rfl ?_ | refine FL_val (Gives.add rfl rfl) rfl ?_
        refine FL_move (h := ?_)
        refine FL_nil ?_
        refine Qround_normal (x + 1) ⟨rfl, rfl, rfl, rfl, trivial⟩ ⟨by omega, ?_⟩ (by omega)
        rw [List.take_succ_eq_append_getElem hlt, keptAll_append]
        have e : (fun j => if j = d.opn[x].1 then some (Value.agg (d.opn[x].2.map B).toArray) else dmap (DM.keptAll (d.opn.take x) d.kept) j) = dmap (DM.keptAll [d.opn[x]] (DM.keptAll (d.opn.take x) d.kept)) := dmap_set _ _ _
        rw [e] at H50
        exact H50.drop0
      · skip
        have hx : x = d.opn.length := by omega
        subst hx
        rw [List.take_length] at H29
        refine FW_exit (Qseq_exit (Qround_exit (Qblk_exit (Qseq_normal ?_))))
        refine FW_seq ?_
        refine FW_region ?_
        refine FL_move (h := ?_)
        refine FL_val (Gives.nilCheck rfl) rfl ?_
        first | refine FL_val (Gives.field0 rfl) rfl ?_ | refine FL_val (Gives.field rfl) rfl ?_ | refine FL_val (Gives.fieldA rfl) rfl ?_
        refine FL_store H29 (h := ?_)
        intro w59 H59
        refine FL_nil (Qseq_normal ?_)
        refine FW_seq ?_
        refine FW_region ?_
        refine FL_assign (h := ?_)
        refine FL_nil (Qseq_normal ?_)
        refine FW_ret (Qfn_ret (hR := ?_))
        have h1 := (H59.nilRow 101 129).front3.front3.front3.front4.drop0
        have hwf' : DM.wf { d with ops := d.ops + 1, kept := DM.keptAll d.opn d.kept, opn := [] } := ⟨hwf.1, hwf.2.1, keptAll_wf hwf.2.2.2.2 hwf.2.2.1, hwf.2.2.2.1, fun _ h => by cases h⟩
        exact ⟨rfl, (Sep.shutDisk (d := { d with ops := d.ops + 1, kept := DM.keptAll d.opn d.kept, opn := [] }) hwf' h1).turn⟩
theorem fail_ok {ops : Int} {keep : List Int} {A : Option Addr} {c : Nat} (hops : 0 ≤ d.ops ∧ d.ops ≤ 4611686018427387904) (hkl : keep.length ≤ 1000000000000) (hr : RowAt w A keep.length 1 (keep.map I)) (hA : Off A keep.length F) (h : (diskH p d).ok F w) :
    Rets Try.prog 27 [.pointer (some ⟨p, 0, none⟩), I ops, .slice A keep.length c] w fun v w' => v = .tuple #[] ∧ Turn F (diskH p (d.failAt ops keep)) w w' := by
  obtain ⟨hwf, bk, bn, vo, vk, H⟩ := Sep.openDisk (Sep.start1 h)
  refine rets3 Try.func27 rfl rfl rfl rfl ?_
  refine FW_seq ?_
  refine FW_seq ?_
  refine FW_region ?_
  refine FL_move (h := ?_)
  refine FL_callS (none_ok h) (h := ?_)
  refine FL_move (h := ?_)
  first | refine FL_splitP (t := 8) rfl (fun hs4 => ?_) (fun hs4 => ?_) | refine FL_split (t := 8) rfl (fun hs4 => ?_) (fun hs4 => ?_)
  · skip
    cases hs4 --done
  · skip
    refine FL_on rfl rfl ?_
    refine FL_move (h := ?_)
    refine FL_on rfl rfl ?_
    refine FL_val (Gives.nilCheck rfl) rfl ?_
    refine FL_on rfl rfl ?_
    first | refine FL_val (Gives.field0 rfl) rfl ?_ | refine FL_val (Gives.field rfl) rfl ?_ | refine FL_val (Gives.fieldA rfl) rfl ?_
    refine FL_on rfl rfl ?_
    refine FL_load H (h := ?_)
    refine FL_pickF (h := ?_)
    refine FL_nil (Qseq_normal ?_)
    first | refine FW_condP rfl (fun hc11 => ?_) (fun hc11 => ?_) | refine FW_cond rfl (fun hc11 => ?_) (fun hc11 => ?_)
    · skip
      have hD : d.dead = true := hc11
      refine FW_ret (Qseq_ret (Qfn_ret (hR := ?_)))
      exact ⟨rfl, by unfold DM.failAt; rw [if_pos hD]; exact Turn.refl h⟩
    · skip
      have hD : ¬ d.dead = true := by simpa using hc11
      unfold DM.failAt
      rw [if_neg hD]
      refine FW_skip (Qseq_normal ?_)
      refine FW_seq ?_
      refine FW_region ?_
      refine FL_move (h := ?_)
      refine FL_move (h := ?_)
      refine FL_val (Gives.nilCheck rfl) rfl ?_
      first | refine FL_val (Gives.field0 rfl) rfl ?_ | refine FL_val (Gives.field rfl) rfl ?_ | refine FL_val (Gives.fieldA rfl) rfl ?_
      refine FL_store H (h := ?_)
      intro w20 H20
      refine FL_val (Gives.nilCheck rfl) rfl ?_
      first | refine FL_val (Gives.field0 rfl) rfl ?_ | refine FL_val (Gives.field rfl) rfl ?_ | refine FL_val (Gives.fieldA rfl) rfl ?_
      refine FL_store H20 (h := ?_)
      intro w24 H24
      refine FL_nil (Qseq_normal ?_)
      refine FW_seq ?_
      refine FW_region ?_
      refine FL_move (h := ?_)
      refine FL_val (Gives.gtr rfl rfl) rfl ?_
      refine FL_move (h := ?_)
      first | refine FL_splitP (t := 22) rfl (fun hs28 => ?_) (fun hs28 => ?_) | refine FL_split (t := 22) rfl (fun hs28 => ?_) (fun hs28 => ?_)
      · skip
        have h0 := hs28
        refine FL_on rfl rfl ?_
        refine FL_move (h := ?_)
        refine FL_on rfl rfl ?_
        refine FL_move (h := ?_)
        refine FL_on rfl rfl ?_
        refine FL_val (Gives.nilCheck rfl) rfl ?_
        refine FL_on rfl rfl ?_
        first | refine FL_val (Gives.field0 rfl) rfl ?_ | refine FL_val (Gives.field rfl) rfl ?_ | refine FL_val (Gives.fieldA rfl) rfl ?_
        refine FL_on rfl rfl ?_
        refine FL_load H24 (h := ?_)
        refine FL_on rfl rfl ?_
        first | refine FL_val (Gives.subI rfl rfl rfl (by omega)) rfl ?_ | refine FL_val (Gives.sub rfl rfl) rfl ?_
        refine FL_on rfl rfl ?_
        refine FL_val (Gives.leq rfl rfl) rfl ?_
        refine FL_pickT (h := ?_)
        refine FL_nil (Qseq_normal ?_)
        first | refine FW_condP rfl (fun hc38 => ?_) (fun hc38 => ?_) | refine FW_cond rfl (fun hc38 => ?_) (fun hc38 => ?_)
        · skip
          have hC := hc38
          refine FW_drawS rfl H24 (h := fun hok40 w42 H42 => ?_)
          refine FGmove hok40 0 (h := ?_)
          refine FGmove hok40 1 (h := ?_)
          refine FGmove hok40 2 (h := ?_)
          refine FGp hok40 3 rfl rfl (fun _ => (Gives.nilCheck rfl)) (by kernel_rfl) ?_
          first | refine FGp hok40 4 rfl rfl (fun _ => (Gives.field0 rfl)) (by kernel_rfl) ?_ | refine FGp hok40 4 rfl rfl (fun _ => (Gives.field rfl)) (by kernel_rfl) ?_ | refine FGp hok40 4 rfl rfl (fun _ => (Gives.fieldA rfl)) (by kernel_rfl) ?_
          refine FGload hok40 5 H42 (h := ?_)
          refine FGmove hok40 6 (h := ?_)
          first | refine FGp hok40 7 rfl rfl (fun _ => (Gives.addI rfl rfl rfl (by omega))) (by kernel_rfl) ?_ | refine FGp hok40 7 rfl rfl (fun _ => (Gives.add rfl rfl)) (by kernel_rfl) ?_
          refine FGmove hok40 8 (h := ?_)
          refine FGcallN hok40 9 [(7, true), (6, true), (5, false), (4, true), (3, true), (2, true), (1, true), (0, true)] H42 (cloneInts_ok (hr.keepS H42.kept hA) (by intro u hu; obtain ⟨k, _, rfl⟩ := List.mem_map.1 hu; rfl) hkl) (h := fun y w48 _ H48 _ => ⟨Stab_pure (Stab_pure (Stab_load H48 (h := Stab_pure (Stab_pure (Stab_pure (Stab_pure (Stab_pure (Stab_nil)))))))), ?_⟩)
          obtain ⟨Ay, cy, hy, _⟩ := Sep.rowForm H48 At0
          subst hy
          refine FGp hok40 10 rfl rfl (fun _ => (Gives.nilCheck rfl)) (by kernel_rfl) ?_
          first | refine FGp hok40 11 rfl rfl (fun _ => (Gives.field0 rfl)) (by kernel_rfl) ?_ | refine FGp hok40 11 rfl rfl (fun _ => (Gives.field rfl)) (by kernel_rfl) ?_ | refine FGp hok40 11 rfl rfl (fun _ => (Gives.fieldA rfl)) (by kernel_rfl) ?_
          refine FGstore hok40 12 [(1, true)] H48 (h := fun w52 H52 => ⟨Stab_pure (Stab_nil), ?_⟩)
          refine FGp hok40 13 rfl rfl (fun _ => (Gives.nilCheck rfl)) (by kernel_rfl) ?_
          first | refine FGp hok40 14 rfl rfl (fun _ => (Gives.field0 rfl)) (by kernel_rfl) ?_ | refine FGp hok40 14 rfl rfl (fun _ => (Gives.field rfl)) (by kernel_rfl) ?_ | refine FGp hok40 14 rfl rfl (fun _ => (Gives.fieldA rfl)) (by kernel_rfl) ?_
          refine FGstore hok40 15 [] H52 (h := fun w56 H56 => ⟨Stab_nil, ?_⟩)
          refine FG_end hok40 (by kernel_rfl) ?_
          refine Qfn_normal (hR := ?_)
          first
            | (rw [if_pos ⟨by omega, by omega⟩]; exact ⟨rfl, (Sep.shutDisk (d := { d with fail := d.ops + ops, keep := keep }) hwf H56.front5.drop0.front4.front4.front4.front4).turn⟩)
            | (rw [if_neg (by omega)]; exact ⟨rfl, (Sep.shutDisk (d := { d with fail := 0, keep := [] }) hwf (H56.nilRow 3 1).front5.drop0.front4.front4.front4.front4).turn⟩)
        · skip
          have hC := hc38
          refine FW_skip (Qfn_normal (hR := ?_))
          first
            | (rw [if_pos ⟨by omega, by omega⟩]; exact ⟨rfl, (Sep.shutDisk (d := { d with fail := d.ops + ops, keep := keep }) hwf H24.front5.drop0.front4.front4.front4.front4).turn⟩)
            | (rw [if_neg (by omega)]; exact ⟨rfl, (Sep.shutDisk (d := { d with fail := 0, keep := [] }) hwf (H24.nilRow 3 1).front5.drop0.front4.front4.front4.front4).turn⟩)
      · skip
        have h0 := hs28
        refine FL_off rfl rfl rfl ?_
        refine FL_off rfl rfl rfl ?_
        refine FL_off rfl rfl rfl ?_
        refine FL_off rfl rfl rfl ?_
        refine FL_off rfl rfl rfl ?_
        refine FL_off rfl rfl rfl ?_
        refine FL_off rfl rfl rfl ?_
        refine FL_pickF (h := ?_)
        refine FL_nil (Qseq_normal ?_)
        refine FW_cond_false rfl ?_
        refine FW_skip (Qfn_normal (hR := ?_))
        first
          | (rw [if_pos ⟨by omega, by omega⟩]; exact ⟨rfl, (Sep.shutDisk (d := { d with fail := d.ops + ops, keep := keep }) hwf H24.front5.drop0.front4.front4.front4.front4).turn⟩)
          | (rw [if_neg (by omega)]; exact ⟨rfl, (Sep.shutDisk (d := { d with fail := 0, keep := [] }) hwf (H24.nilRow 3 1).front5.drop0.front4.front4.front4.front4).turn⟩)
theorem copy_ok (hfit : d.opn.length ≤ 1000000000000) (hkl : d.keep.length ≤ 1000000000000) (h : (diskH p d).ok F w) :
    Rets Try.prog 31 [.pointer (some ⟨p, 0, none⟩)] w fun v w' => ∃ q, v = .pointer (some ⟨q, 0, none⟩) ∧ True ∧ Turn F (star (diskH p d) (diskH q d)) w w' := by
  obtain ⟨hwf, bk, bn, vo, vk, H⟩ := Sep.openDisk (Sep.start1 h)
  obtain ⟨Ao, co, hvo, _⟩ := H.rowForm At3
  subst hvo
  obtain ⟨Ak, ck, hvk, _⟩ := H.rowForm At4
  subst hvk
  refine rets1 Try.func31 rfl rfl rfl rfl ?_
  refine FW_seq ?_
  refine FW_region ?_
  refine FL_assign (h := ?_)
  refine FL_nil (Qseq_normal ?_)
  refine FW_seq ?_
  refine FW_seq ?_
  refine FW_region ?_
  refine FL_move (h := ?_)
  refine FL_callS (none_ok h) (h := ?_)
  refine FL_nil (Qseq_normal ?_)
  first | refine FW_condP rfl (fun hc4 => ?_) (fun hc4 => ?_) | refine FW_cond rfl (fun hc4 => ?_) (fun hc4 => ?_)
  · skip
    cases hc4 --done
  · skip
    refine FW_skip (Qseq_normal ?_)
    refine FW_seq ?_
    refine FW_region ?_
    refine FL_move (h := ?_)
    refine FL_val (Gives.nilCheck rfl) rfl ?_
    refine FL_loadN H (us := diskCells d bk bn (.slice Ao d.opn.length co) (.slice Ak d.keep.length ck)) (hu := rfl) (hk := rfl) (h := ?_)
    refine FL_alloc H (h := ?_)
    intro b9 w10 H10 k9
    refine FL_storeN (us := diskCells d bk bn (.slice Ao d.opn.length co) (.slice Ak d.keep.length ck)) (cs := [Value.int .i64 0, Value.map none, Value.map none, Value.slice none 0 0, Value.bool false, Value.int .i64 0, Value.int .i64 0, Value.slice none 0 0]) H10 (hk := rfl) (hv := by intro u hu; simp [diskCells] at hu; rcases hu with rfl | rfl | rfl | rfl | rfl | rfl | rfl | rfl <;> rfl) (ho := Nat.le_refl 8) (hs := storeN_all rfl) (h := ?_)
    intro w12 H12
    refine FL_nil (Qseq_normal ?_)
    refine FW_seq ?_
    refine FW_drawS rfl H12 (h := fun hok13 w15 H15 => ?_)
    refine FGmove hok13 0 (h := ?_)
    refine FGp hok13 1 rfl rfl (fun _ => (Gives.nilCheck rfl)) (by kernel_rfl) ?_
    first | refine FGp hok13 2 rfl rfl (fun _ => (Gives.field0 rfl)) (by kernel_rfl) ?_ | refine FGp hok13 2 rfl rfl (fun _ => (Gives.field rfl)) (by kernel_rfl) ?_ | refine FGp hok13 2 rfl rfl (fun _ => (Gives.fieldA rfl)) (by kernel_rfl) ?_
    refine FGload hok13 3 H15 (h := ?_)
    refine FGmove hok13 5 (h := ?_)
    refine FGp hok13 6 rfl rfl (fun _ => (Gives.nilCheck rfl)) (by kernel_rfl) ?_
    first | refine FGp hok13 7 rfl rfl (fun _ => (Gives.field0 rfl)) (by kernel_rfl) ?_ | refine FGp hok13 7 rfl rfl (fun _ => (Gives.field rfl)) (by kernel_rfl) ?_ | refine FGp hok13 7 rfl rfl (fun _ => (Gives.fieldA rfl)) (by kernel_rfl) ?_
    refine FGload hok13 8 H15 (h := ?_)
    refine FGcallN hok13 4 [(8, false), (7, true), (6, true), (5, true)] H15 (cloneMap_at H15 At2) (h := fun y w23 _ H23 _ => ⟨Stab_load H23 (h := Stab_pure (Stab_pure (Stab_pure (Stab_nil)))), ?_⟩)
    refine FGcallN hok13 9 [] H23 (cloneMap_at H23 At4) (h := fun z w25 _ H25 _ => ⟨Stab_nil, ?_⟩)
    first | refine FGp hok13 10 rfl rfl (fun _ => (Gives.field0 rfl)) (by kernel_rfl) ?_ | refine FGp hok13 10 rfl rfl (fun _ => (Gives.field rfl)) (by kernel_rfl) ?_ | refine FGp hok13 10 rfl rfl (fun _ => (Gives.fieldA rfl)) (by kernel_rfl) ?_
    refine FGstore hok13 11 [] H25 (h := fun w28 H28 => ⟨Stab_nil, ?_⟩)
    first | refine FGp hok13 12 rfl rfl (fun _ => (Gives.field0 rfl)) (by kernel_rfl) ?_ | refine FGp hok13 12 rfl rfl (fun _ => (Gives.field rfl)) (by kernel_rfl) ?_ | refine FGp hok13 12 rfl rfl (fun _ => (Gives.fieldA rfl)) (by kernel_rfl) ?_
    refine FGstore hok13 13 [] H28 (h := fun w31 H31 => ⟨Stab_nil, ?_⟩)
    refine FG_end hok13 (by kernel_rfl) ?_
    refine Qseq_normal ?_
    refine FW_seq ?_
    refine FW_drawS rfl H31 (h := fun hok32 w34 H34 => ?_)
    refine FGmove hok32 0 (h := ?_)
    refine FGp hok32 1 rfl rfl (fun _ => (Gives.nilCheck rfl)) (by kernel_rfl) ?_
    first | refine FGp hok32 2 rfl rfl (fun _ => (Gives.field0 rfl)) (by kernel_rfl) ?_ | refine FGp hok32 2 rfl rfl (fun _ => (Gives.field rfl)) (by kernel_rfl) ?_ | refine FGp hok32 2 rfl rfl (fun _ => (Gives.fieldA rfl)) (by kernel_rfl) ?_
    refine FGload hok32 3 H34 (h := ?_)
    refine FGmove hok32 5 (h := ?_)
    refine FGp hok32 6 rfl rfl (fun _ => (Gives.nilCheck rfl)) (by kernel_rfl) ?_
    first | refine FGp hok32 7 rfl rfl (fun _ => (Gives.field0 rfl)) (by kernel_rfl) ?_ | refine FGp hok32 7 rfl rfl (fun _ => (Gives.field rfl)) (by kernel_rfl) ?_ | refine FGp hok32 7 rfl rfl (fun _ => (Gives.fieldA rfl)) (by kernel_rfl) ?_
    refine FGload hok32 8 H34 (h := ?_)
    refine FGcallN hok32 4 [(8, false), (7, true), (6, true), (5, true)] H34 (cloneOpens_ok (H34.rowAt At6) (openCells_one _) hfit) (h := fun y2 w42 _ H42 _ => ⟨Stab_load H42 (h := Stab_pure (Stab_pure (Stab_pure (Stab_nil)))), ?_⟩)
    obtain ⟨Ay, cy, hy, _⟩ := Sep.rowForm H42 At0
    subst hy
    refine FGcallN hok32 9 [] H42 (cloneInts_ok (H42.rowAt At8) (by intro u hu; obtain ⟨k, _, rfl⟩ := List.mem_map.1 hu; rfl) hkl) (h := fun z2 w44 _ H44 _ => ⟨Stab_nil, ?_⟩)
    obtain ⟨Az, cz, hz, _⟩ := Sep.rowForm H44 At0
    subst hz
    first | refine FGp hok32 10 rfl rfl (fun _ => (Gives.field0 rfl)) (by kernel_rfl) ?_ | refine FGp hok32 10 rfl rfl (fun _ => (Gives.field rfl)) (by kernel_rfl) ?_ | refine FGp hok32 10 rfl rfl (fun _ => (Gives.fieldA rfl)) (by kernel_rfl) ?_
    refine FGstore hok32 11 [] H44 (h := fun w47 H47 => ⟨Stab_nil, ?_⟩)
    first | refine FGp hok32 12 rfl rfl (fun _ => (Gives.field0 rfl)) (by kernel_rfl) ?_ | refine FGp hok32 12 rfl rfl (fun _ => (Gives.field rfl)) (by kernel_rfl) ?_ | refine FGp hok32 12 rfl rfl (fun _ => (Gives.fieldA rfl)) (by kernel_rfl) ?_
    refine FGstore hok32 13 [] H47 (h := fun w50 H50 => ⟨Stab_nil, ?_⟩)
    refine FG_end hok32 (by kernel_rfl) ?_
    refine Qseq_normal ?_
    refine FW_seq ?_
    refine FW_region ?_
    refine FL_assign (h := ?_)
    refine FL_nil (Qseq_normal ?_)
    refine FW_ret (Qfn_ret (hR := ?_))
    have h1 := Sep.shutDisk (d := d) hwf H50.front1.front2.front3.front4
    have h2 := Sep.shutDisk (d := d) hwf h1.front5.front5.front5.front5.front5
    exact ⟨_, rfl, trivial, h2.join0.turn⟩
end
end Go.Proofs.Yteflbohpabdjkaa
