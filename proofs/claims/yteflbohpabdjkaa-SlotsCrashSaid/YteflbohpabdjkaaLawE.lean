/-
  DiskAlone and DiskAll, walked; and the plain laws under them.
-/
import Derived.Test.YteflbohpabdjkaaLawD
namespace Go.Proofs.Yteflbohpabdjkaa
open Go Go.Mw
set_option maxRecDepth 8000

def twoPuts : List PutM := [⟨0, 9, 128⟩, ⟨1, 8, 3⟩]
theorem puts_kept (d : DM) (l : List PutM) : (d.puts l).kept = d.kept := by
  induction l generalizing d with
  | nil => rfl
  | cons x l ih => exact ih _
theorem puts_opn (d : DM) (l : List PutM) : (d.puts l).opn = d.opn ++ l.map fun x => (x.at_ % 5, pad (putB x)) := by
  induction l generalizing d with
  | nil => simp [DM.puts]
  | cons x l ih =>
    have h := ih (d.put1 (x.at_ % 5) (putB x))
    have e : (d.put1 (x.at_ % 5) (putB x)).opn = d.opn ++ [(x.at_ % 5, pad (putB x))] := rfl
    rw [e] at h
    show ((d.put1 (x.at_ % 5) (putB x)).puts l).opn = _
    rw [h]
    simp
theorem keptBy_all {keep : List Int} : ∀ {k : Nat} {l : List (Int × List UInt8)} {f : Int → Option (List UInt8)}, (∀ i, k ≤ i → i < k + l.length → keep.contains (i : Int) = true) → keptBy keep k l f = DM.keptAll l f
  | _, [], _, _ => rfl
  | k, x :: l, f, h => by
    unfold keptBy DM.keptAll
    rw [if_pos (h k (Nat.le_refl _) (by simp))]
    exact keptBy_all (k := k + 1) (l := l) fun i h1 h2 => h i (by omega) (by simp only [List.length_cons]; omega)
theorem keptBy_none : ∀ {k : Nat} {l : List (Int × List UInt8)} {f : Int → Option (List UInt8)}, keptBy [] k l f = f
  | _, [], _ => rfl
  | k, x :: l, f => by
    unfold keptBy
    rw [if_neg (by simp)]
    exact keptBy_none
/-- All numbers of fifty. -/
def downTo (k : Nat) : List Int := (List.range k).map fun i : Nat => 49 - (i : Int)
theorem downTo_all {i : Nat} (h : i < 50) : (downTo 50).contains (i : Int) = true := by
  rw [List.contains_iff_mem]
  exact List.mem_map.2 ⟨49 - i, List.mem_range.2 (by omega), by omega⟩
theorem downTo_succ (k : Nat) : downTo (k + 1) = downTo k ++ [49 - (k : Int)] := by
  unfold downTo
  rw [List.range_succ, List.map_append]
  rfl
theorem five_opn (l m : List PutM) : ((fiveM l).puts m).opn = m.map fun x => (x.at_ % 5, pad (putB x)) := by
  rw [puts_opn]; rfl
theorem five_sync' (l m : List PutM) : ((fiveM l).puts m).sync := sync_puts (d := fiveM l) (five_sync l).1 m
theorem all_law1 (l m : List PutM) : secB ((((fiveM l).puts (m.take 50)).crash (downTo 50)).boot) = secB ((fiveM l).puts (m.take 50)) := by
  have hg := good_puts (good_five l) (m.take 50)
  rw [secB_crash hg, secB_good hg]
  refine secsTo_congr ?_ 5
  show keptBy (downTo 50) 0 _ _ = _
  rw [keptBy_all fun i _ h => downTo_all (by rw [five_opn] at h; simp at h; omega)]
  exact five_sync' l _
theorem all_law2 (l m : List PutM) : secB ((((fiveM l).puts (m.take 50)).crash []).boot) = secB (fiveM l) := by
  have hg := good_puts (good_five l) (m.take 50)
  rw [secB_crash hg, secB_good (good_five l)]
  refine secsTo_congr ?_ 5
  show keptBy [] 0 _ _ = _
  rw [keptBy_none, puts_kept, (five_sync l).1]
section
variable {p : Nat} {d : DM} {F : Nat → Prop} {w w₀ : World} {S : Nat → Prop} {rs : List HP} {put : HP → List HP}
theorem writes_at {A : Option Addr} {c : Nat} {l : List PutM} (hg : d.good) (hs : d.small 100000) (hl : ∀ x ∈ l, x.fit) (H : Sep w₀ S rs w) (hr : RowAt w₀ A l.length 3 (putCells l)) (hA : Off A l.length S) (h : (diskH p d).ok F w) (hF : ∀ b, F b → S b ∨ w₀.heap.size ≤ b) :
    Rets Try.prog 23 [.pointer (some ⟨p, 0, none⟩), .slice A l.length c] w fun v w' => v = .bool true ∧ Turn F (diskH p (d.puts (l.take 50))) w w' :=
  writes_ok hg hs hl (hr.keepS H.kept hA) (hA.of hr hF (by decide)) h
theorem eqSame {A A' : Option Addr} {c c' n n' : Nat} {a : List UInt8} (ha : RowAt w A n 1 (a.map B)) (hb : RowAt w A' n' 1 (a.map B)) : Rets Try.prog 22 [.slice A n c, .slice A' n' c'] w fun v w' => v = .bool true ∧ w = w' :=
  Rets.mono (eqBytes_at ha hb) fun v w' ⟨h1, h2⟩ => ⟨by rw [h1, beq_self_eq_true], h2⟩
set_option maxHeartbeats 4000000 in
theorem alone_ok {A O K : Option Addr} {c co ck : Nat} {l m : List PutM} {keep : List Int} (hl : ∀ x ∈ l, x.fit) (hr : RowAt w A l.length 3 (putCells l)) (hm : ∀ x ∈ m, x.fit) (hro : RowAt w O m.length 3 (putCells m)) (hk : RowAt w K keep.length 1 (keep.map I)) (hck : keep.length ≤ ck) :
    Rets Try.prog 7 [.slice A l.length c, .slice O m.length co, .slice K keep.length ck] w fun v w' => v = .bool true ∧ Kept noB w w' := by
  have H := Sep.start0 w
  refine rets3 Try.func7 rfl rfl rfl rfl ?_
  have hmn : min keep.length 100 = (keep.take (min keep.length 100)).length := by rw [List.length_take]; omega
  have hg1 := good_five l
  have hs1 := small_five l
  have hg2 := good_puts hg1 (m.take 50)
  have hs2 : ((fiveM l).puts (m.take 50)).small 110 := (small_puts hs1 (m.take 50)).mono (by rw [List.length_take]; omega)
  have hs3 : (((fiveM l).puts (m.take 50)).puts twoPuts).small 112 := small_puts hs2 twoPuts
  have htwo : ∀ x ∈ twoPuts, x.fit := by
    intro x hx
    simp [twoPuts] at hx
    rcases hx with rfl | rfl <;> exact ⟨by unfold fits; decide, by unfold fits; decide, by unfold fits; decide⟩
  refine FW_seq ?_
  refine FW_region ?_
  refine FL_assign (h := ?_)
  refine FL_nil (Qseq_normal ?_)
  refine FW_seq ?_
  refine FW_region ?_
  refine FL_move (h := ?_)
  refine FL_callN H (five_ok hl (hr.keepS H.kept fun _ _ _ => id)) rfl rfl (fun p w4 _ H4 _ => ?_)
  refine FL_assign (h := ?_)
  refine FL_nil (Qseq_normal ?_)
  refine FW_seq ?_
  refine FW_seq ?_
  refine FW_region ?_
  refine FL_move (h := ?_)
  refine FL_val (Gives.eqlNil rfl rfl) rfl ?_
  refine FL_move (h := ?_)
  first | refine FL_splitP (t := 15) rfl (fun hs9 => ?_) (fun hs9 => ?_) | refine FL_split (t := 15) rfl (fun hs9 => ?_) (fun hs9 => ?_)
  · skip
    cases hs9 --done
  · skip
    refine FL_on rfl rfl ?_
    refine FL_move (h := ?_)
    refine FL_on rfl rfl ?_
    refine FL_move (h := ?_)
    refine FL_on rfl rfl ?_
    refine FL_call1 H4 At0 (fun F' hp hF' => writes_at (hg1) (hs1.mono (by decide)) hm H4 hro (fun _ _ _ => id) hp hF') (h := fun w14 H14 => ?_)
    refine FL_on rfl rfl ?_
    first | refine FL_val (Gives.notP rfl) rfl ?_ | refine FL_val (Gives.not rfl) rfl ?_
    refine FL_pickF (h := ?_)
    refine FL_nil (Qseq_normal ?_)
    first | refine FW_condP rfl (fun hc17 => ?_) (fun hc17 => ?_) | refine FW_cond rfl (fun hc17 => ?_) (fun hc17 => ?_)
    · skip
      exact absurd hc17 (by decide) --done
    · skip
      refine FW_skip (Qseq_normal ?_)
      refine FW_seq ?_
      refine FW_region ?_
      refine FL_move (h := ?_)
      refine FL_callN H14 (sectors_at H14 At0) rfl rfl (fun y w21 _ H21 _ => ?_)
      obtain ⟨Ay, cy, hy, _⟩ := Sep.rowForm H21 At0
      subst hy
      refine FL_assign (h := ?_)
      refine FL_nil (Qseq_normal ?_)
      refine FW_seq ?_
      refine FW_region ?_
      refine FL_move (h := ?_)
      refine FL_callT H21 At1 (fun F' hp _ => copy_ok (by have := hs2.1; omega) (by have := hs2.2.1; omega) hp) (h := fun q w25 _ H0 => ?_)
      have H25 := H0.front1.star0
      refine FL_assign (h := ?_)
      refine FL_nil (Qseq_normal ?_)
      refine FW_seq ?_
      refine FW_seq ?_
      refine FW_region ?_
      refine FL_move (h := ?_)
      refine FL_val (Gives.eqlNil rfl rfl) rfl ?_
      refine FL_move (h := ?_)
      first | refine FL_splitP (t := 27) rfl (fun hs30 => ?_) (fun hs30 => ?_) | refine FL_split (t := 27) rfl (fun hs30 => ?_) (fun hs30 => ?_)
      · skip
        cases hs30 --done
      · skip
        refine FL_on rfl rfl ?_
        refine FL_move (h := ?_)
        refine FL_on rfl rfl ?_
        refine FL_val (Gives.build (out := [I 0, I 9, I 128]) (Fills.one rfl rfl rfl (by simp) rfl (Fills.one rfl rfl rfl (by simp) rfl (Fills.one rfl rfl rfl (by simp) rfl Fills.nil)))) rfl ?_
        refine FL_on rfl rfl ?_
        refine FL_val (Gives.build (out := [I 1, I 8, I 3]) (Fills.one rfl rfl rfl (by simp) rfl (Fills.one rfl rfl rfl (by simp) rfl (Fills.one rfl rfl rfl (by simp) rfl Fills.nil)))) rfl ?_
        refine FL_on rfl rfl ?_
        refine FL_buildSlice H25 (Elems.many (us := [I 0, I 9, I 128]) rfl rfl (Elems.many (us := [I 1, I 8, I 3]) rfl rfl Elems.nil)) rfl rfl rfl (fun b35 w36 H36 _ => ?_)
        refine FL_on rfl rfl ?_
        refine FL_call1R (us := putCells twoPuts) (m := 2) (Sep.asRow H36 At0 (s := 3) (n := 2) rfl (by decide)) At0 (fun F' hp hrr hoff => writes_ok (l := twoPuts) (c := 2) hg2 (hs2.mono (by decide)) htwo hrr hoff hp) (h := fun w38 H0 => ?_)
        have H38 := H0.drop0
        refine FL_on rfl rfl ?_
        first | refine FL_val (Gives.notP rfl) rfl ?_ | refine FL_val (Gives.not rfl) rfl ?_
        refine FL_pickF (h := ?_)
        refine FL_nil (Qseq_normal ?_)
        first | refine FW_condP rfl (fun hc41 => ?_) (fun hc41 => ?_) | refine FW_cond rfl (fun hc41 => ?_) (fun hc41 => ?_)
        · skip
          exact absurd hc41 (by decide) --done
        · skip
          refine FW_skip (Qseq_normal ?_)
          refine FW_seq ?_
          refine FW_region ?_
          refine FL_move (h := ?_)
          refine FL_callN H38 (sectors_at H38 At1) rfl rfl (fun y2 w45 _ H45 _ => ?_)
          obtain ⟨Ay2, cy2, hy2, _⟩ := Sep.rowForm H45 At0
          subst hy2
          refine FL_move (h := ?_)
          refine FL_callS (eqSame (H45.rowAt At0) (H45.rowAt At3)) (h := ?_)
          refine FL_assign (h := ?_)
          refine FL_nil (Qseq_normal ?_)
          refine FW_seq ?_
          refine FW_region ?_
          refine FL_move (h := ?_)
          refine FL_move (h := ?_)
          refine FL_move (h := ?_)
          refine FL_val (Gives.lenSlice rfl) rfl ?_
          refine FL_val (Gives.min rfl rfl) rfl ?_
          rw [min100]
          refine FL_val (Gives.sliceTo rfl rfl (by omega)) rfl ?_
          rw [hmn]
          refine FL_call1 H45 At1 (fun F' hp hF' => crash_at (A := K) (c := ck) (keep := keep.take (min keep.length 100)) (hs3.mono (by decide)) H45 (by rw [List.length_take]; omega) (by rw [← hmn, ← take_map]; exact hk.take (by omega)) (fun _ _ _ => id) hp hF') (h := fun w56 H56 => ?_)
          refine FL_nil (Qseq_normal ?_)
          refine FW_seq ?_
          refine FW_region ?_
          refine FL_move (h := ?_)
          refine FL_move (h := ?_)
          first | refine FL_splitP (t := 47) rfl (fun hs59 => ?_) (fun hs59 => ?_) | refine FL_split (t := 47) rfl (fun hs59 => ?_) (fun hs59 => ?_)
          · skip
            refine FL_on rfl rfl ?_
            refine FL_move (h := ?_)
            refine FL_on rfl rfl ?_
            refine FL_callQ H56 (alive_at H56 At2 (b := true) (by rw [hg2.2.1]; rfl)) (h := fun w62 H62 _ => ?_)
            refine FL_pickT (h := ?_)
            refine FL_move (h := ?_)
            first | refine FL_splitP (t := 51) rfl (fun hs65 => ?_) (fun hs65 => ?_) | refine FL_split (t := 51) rfl (fun hs65 => ?_) (fun hs65 => ?_)
            · skip
              refine FL_on rfl rfl ?_
              refine FL_move (h := ?_)
              refine FL_on rfl rfl ?_
              refine FL_callN H62 (sectors_at H62 At2) rfl rfl (fun y3 w68 _ H68 _ => ?_)
              obtain ⟨Ay3, cy3, hy3, _⟩ := Sep.rowForm H68 At0
              subst hy3
              refine FL_on rfl rfl ?_
              refine FL_move (h := ?_)
              refine FL_on rfl rfl ?_
              refine FL_callS (eqSame (H68.rowAt At0) (H68.rowAt At4)) (h := ?_)
              refine FL_pickT (h := ?_)
              refine FL_move (h := ?_)
              first | refine FL_splitP (t := 57) rfl (fun hs73 => ?_) (fun hs73 => ?_) | refine FL_split (t := 57) rfl (fun hs73 => ?_) (fun hs73 => ?_)
              · skip
                refine FL_on rfl rfl ?_
                refine FL_move (h := ?_)
                refine FL_on rfl rfl ?_
                refine FL_val (Gives.lenSlice rfl) rfl ?_
                refine FL_on rfl rfl ?_
                refine FL_val (Gives.eql rfl rfl) rfl ?_
                refine FL_pickT (h := ?_)
                refine FL_move (h := ?_)
                first | refine FL_splitP (t := 62) rfl (fun hs79 => ?_) (fun hs79 => ?_) | refine FL_split (t := 62) rfl (fun hs79 => ?_) (fun hs79 => ?_)
                · skip
                  refine FL_on rfl rfl ?_
                  refine FL_callQ H68 works_ok (h := fun w81 H81 _ => ?_)
                  refine FL_pickT (h := ?_)
                  refine FL_assign (h := ?_)
                  refine FL_nil (Qseq_normal ?_)
                  refine FW_ret (Qfn_ret (hR := ?_))
                  exact ⟨rfl, H81.kept⟩
                · skip
                  exact absurd (by rw [secB_len hg2]; rfl) hs79 --done
              · skip
                exact absurd hs73 (by decide) --done
            · skip
              exact absurd hs65 (by decide) --done
          · skip
            exact absurd hs59 (by decide) --done
set_option maxHeartbeats 4000000 in
theorem all_ok {A O : Option Addr} {c co : Nat} {l m : List PutM} (hl : ∀ x ∈ l, x.fit) (hr : RowAt w A l.length 3 (putCells l)) (hm : ∀ x ∈ m, x.fit) (hro : RowAt w O m.length 3 (putCells m)) :
    Rets Try.prog 5 [.slice A l.length c, .slice O m.length co] w fun v w' => v = .bool true ∧ Kept noB w w' := by
  have H := Sep.start0 w
  refine rets2 Try.func5 rfl rfl rfl rfl ?_
  have hg1 := good_five l
  have hs1 := small_five l
  have hg2 := good_puts hg1 (m.take 50)
  have hs2 : ((fiveM l).puts (m.take 50)).small 110 := (small_puts hs1 (m.take 50)).mono (by rw [List.length_take]; omega)
  refine FW_seq ?_
  refine FW_region ?_
  refine FL_assign (h := ?_)
  refine FL_nil (Qseq_normal ?_)
  refine FW_seq ?_
  refine FW_region ?_
  refine FL_move (h := ?_)
  refine FL_callN H (five_ok hl (hr.keepS H.kept fun _ _ _ => id)) rfl rfl (fun p w4 _ H4 _ => ?_)
  refine FL_move (h := ?_)
  refine FL_callN H4 (five_ok hl (hr.keepS H4.kept fun _ _ _ => id)) rfl rfl (fun q w7 _ H7 _ => ?_)
  refine FL_assign (h := ?_)
  refine FL_assign (h := ?_)
  refine FL_nil (Qseq_normal ?_)
  refine FW_seq ?_
  refine FW_seq ?_
  refine FW_region ?_
  refine FL_move (h := ?_)
  refine FL_val (Gives.eqlNil rfl rfl) rfl ?_
  refine FL_move (h := ?_)
  first | refine FL_splitP (t := 17) rfl (fun hs13 => ?_) (fun hs13 => ?_) | refine FL_split (t := 17) rfl (fun hs13 => ?_) (fun hs13 => ?_)
  · skip
    cases hs13 --done
  · skip
    refine FL_on rfl rfl ?_
    refine FL_move (h := ?_)
    refine FL_on rfl rfl ?_
    refine FL_val (Gives.eqlNil rfl rfl) rfl ?_
    refine FL_pickF (h := ?_)
    refine FL_nil (Qseq_normal ?_)
    first | refine FW_condP rfl (fun hc18 => ?_) (fun hc18 => ?_) | refine FW_cond rfl (fun hc18 => ?_) (fun hc18 => ?_)
    · skip
      cases hc18 --done
    · skip
      refine FW_skip (Qseq_normal ?_)
      refine FW_seq ?_
      refine FW_region ?_
      refine FL_move (h := ?_)
      refine FL_callN H7 (sectors_at H7 At1) rfl rfl (fun y w22 _ H22 _ => ?_)
      obtain ⟨Ay, cy, hy, _⟩ := Sep.rowForm H22 At0
      subst hy
      refine FL_assign (h := ?_)
      refine FL_nil (Qseq_normal ?_)
      refine FW_seq ?_
      refine FW_seq ?_
      refine FW_region ?_
      refine FL_move (h := ?_)
      refine FL_move (h := ?_)
      refine FL_call1 H22 At2 (fun F' hp hF' => writes_at hg1 (hs1.mono (by decide)) hm H22 hro (fun _ _ _ => id) hp hF') (h := fun w27 H27 => ?_)
      first | refine FL_val (Gives.notP rfl) rfl ?_ | refine FL_val (Gives.not rfl) rfl ?_
      refine FL_move (h := ?_)
      first | refine FL_splitP (t := 27) rfl (fun hs30 => ?_) (fun hs30 => ?_) | refine FL_split (t := 27) rfl (fun hs30 => ?_) (fun hs30 => ?_)
      · skip
        exact absurd hs30 (by decide) --done
      · skip
        refine FL_on rfl rfl ?_
        refine FL_move (h := ?_)
        refine FL_on rfl rfl ?_
        refine FL_move (h := ?_)
        refine FL_on rfl rfl ?_
        refine FL_call1 H27 At1 (fun F' hp hF' => writes_at hg1 (hs1.mono (by decide)) hm H27 hro (fun _ _ _ => id) hp hF') (h := fun w35 H35 => ?_)
        refine FL_on rfl rfl ?_
        first | refine FL_val (Gives.notP rfl) rfl ?_ | refine FL_val (Gives.not rfl) rfl ?_
        refine FL_pickF (h := ?_)
        refine FL_nil (Qseq_normal ?_)
        first | refine FW_condP rfl (fun hc38 => ?_) (fun hc38 => ?_) | refine FW_cond rfl (fun hc38 => ?_) (fun hc38 => ?_)
        · skip
          exact absurd hc38 (by decide) --done
        · skip
          refine FW_skip (Qseq_normal ?_)
          refine FW_seq ?_
          refine FW_region ?_
          refine FL_move (h := ?_)
          refine FL_callN H35 (sectors_at H35 At2) rfl rfl (fun y2 w42 _ H42 _ => ?_)
          obtain ⟨Ay2, cy2, hy2, _⟩ := Sep.rowForm H42 At0
          subst hy2
          refine FL_assign (h := ?_)
          refine FL_nil (Qseq_normal ?_)
          refine FW_seq ?_
          refine FW_region ?_
          refine FL_assign (h := ?_)
          refine FL_nil (Qseq_normal ?_)
          refine FW_seq ?_
          refine FW_seq ?_
          refine FW_region ?_
          refine FL_assign (h := ?_)
          refine FL_nil (Qseq_normal ?_)
          refine FW_block ?_
          refine FW_loop' (fun x : Nat × Value => [(5, .pointer (some ⟨p, 0, none⟩)), (6, .pointer (some ⟨q, 0, none⟩)), (7, .slice Ay (secB (fiveM l)).length cy), (8, .slice Ay2 (secB ((fiveM l).puts (m.take 50))).length cy2), (9, x.2), (10, I x.1)])
            (fun x w' => x.1 ≤ 50 ∧ Sep w noB [rowH 3 1 x.2 x.1 ((downTo x.1).map I), rowH 5 1 (.slice Ay2 (secB ((fiveM l).puts (m.take 50))).length cy2) (secB ((fiveM l).puts (m.take 50))).length ((secB ((fiveM l).puts (m.take 50))).map B), rowH 5 1 (.slice Ay (secB (fiveM l)).length cy) (secB (fiveM l)).length ((secB (fiveM l)).map B), diskH q ((fiveM l).puts (m.take 50)), diskH p ((fiveM l).puts (m.take 50))] w') (fun x _ => 50 - x.1) (0, .slice none 0 0) ⟨rfl, rfl, rfl, rfl, rfl, rfl, trivial⟩ ⟨by decide, H42.nilRow _ _⟩ (fun x τ w47 hI => ?_)
          obtain ⟨j, va⟩ := x
          obtain ⟨hj, H47⟩ := hI
          simp only at hj
          try simp only [upds, like, upd_ds, und_ds]
          refine FW_seq ?_
          refine FW_seq ?_
          refine FW_region ?_
          refine FL_move (h := ?_)
          refine FL_val (Gives.lss rfl rfl) rfl ?_
          refine FL_nil (Qseq_normal ?_)
          first | refine FW_condP rfl (fun hc50 => ?_) (fun hc50 => ?_) | refine FW_cond rfl (fun hc50 => ?_) (fun hc50 => ?_)
          · skip
            have hlt : j < 50 := by omega
            refine FW_skip (Qseq_normal ?_)
            refine FW_seq ?_
            refine FW_block ?_
            refine FW_region ?_
            refine FL_move (h := ?_)
            refine FL_move (h := ?_)
            first | refine FL_val (Gives.subI rfl rfl rfl (by omega)) rfl ?_ | refine FL_val (Gives.sub rfl rfl) rfl ?_
            refine FL_buildSlice H47 (Elems.one (v := I (49 - j)) rfl rfl Elems.nil) rfl rfl rfl (fun b55 w56 H56 _ => ?_)
            refine FL_append H56 (hx := by exact rfl) (hy := by exact rfl) (hat := At1) (H56.blkRow At0 (m := 1) (s := 1) rfl) (by intro u hu; rw [List.mem_singleton.1 hu]; rfl) (h63 := by simp only; unfold maxLen; omega) (hbytes := by simp only; omega) (h := fun vv w58 H58 => ?_)
            refine FL_assign (h := ?_)
            refine FL_nil (Qblk_normal (Qseq_normal ?_))
            refine FW_region ?_
            refine FL_move (h := ?_)
            first | refine FL_val (Gives.addI rfl rfl rfl (by omega)) rfl ?_ | refine FL_val (Gives.add rfl rfl) rfl ?_
            refine FL_assign (h := ?_)
            refine FL_nil ?_
            refine Qround_normal (j + 1, vv) ⟨rfl, rfl, rfl, rfl, rfl, rfl, trivial⟩ ⟨by simp only; omega, ?_⟩ (by simp only; omega)
            simp only [downTo_succ, List.map_append]
            exact H58.drop0
          · skip
            have hj5 : j = 50 := by omega
            subst hj5
            obtain ⟨Aa, ca, ha, _⟩ := Sep.rowForm H47 At0
            simp only at ha
            subst ha
            refine FW_exit (Qseq_exit (Qround_exit (Qblk_exit (Qseq_normal ?_))))
            refine FW_seq ?_
            refine FW_region ?_
            refine FL_move (h := ?_)
            refine FL_move (h := ?_)
            refine FL_call1R (m := 50) (us := (downTo 50).map I) H47 At3 (fun F' hp hrr hoff => crash_ok (keep := downTo 50) (c := ca) (by have := hs2.1; omega) (by decide) hrr hoff hp) (h := fun w68 H68 => ?_)
            refine FL_nil (Qseq_normal ?_)
            refine FW_seq ?_
            refine FW_region ?_
            refine FL_move (h := ?_)
            refine FL_call1 H68 At3 (fun F' hp _ => crash_ok (A := none) (c := 0) (keep := []) (by have := hs2.1; omega) (by decide) (RowAt.nil _ _ _) (fun h => absurd h (by decide)) hp) (h := fun w71 H71 => ?_)
            refine FL_nil (Qseq_normal ?_)
            refine FW_seq ?_
            refine FW_region ?_
            refine FL_move (h := ?_)
            refine FL_call1 H71 At4 (fun F' hp _ => boot_ok hp) (h := fun w74 H74 => ?_)
            refine FL_nil (Qseq_normal ?_)
            refine FW_seq ?_
            refine FW_region ?_
            refine FL_move (h := ?_)
            refine FL_call1 H74 At3 (fun F' hp _ => boot_ok hp) (h := fun w77 H77 => ?_)
            refine FL_nil (Qseq_normal ?_)
            refine FW_seq ?_
            refine FW_region ?_
            refine FL_move (h := ?_)
            refine FL_callN H77 (sectors_at H77 At4) rfl rfl (fun y3 w80 _ H80 _ => ?_)
            rw [all_law1] at H80
            obtain ⟨Ay3, cy3, hy3, _⟩ := Sep.rowForm H80 At0
            subst hy3
            refine FL_move (h := ?_)
            refine FL_callS (eqSame (H80.rowAt At0) (H80.rowAt At2)) (h := ?_)
            refine FL_move (h := ?_)
            first | refine FL_splitP (t := 57) rfl (fun hs84 => ?_) (fun hs84 => ?_) | refine FL_split (t := 57) rfl (fun hs84 => ?_) (fun hs84 => ?_)
            · skip
              refine FL_on rfl rfl ?_
              refine FL_move (h := ?_)
              refine FL_on rfl rfl ?_
              refine FL_callN H80 (sectors_at H80 At4) rfl rfl (fun y4 w87 _ H87 _ => ?_)
              rw [all_law2] at H87
              obtain ⟨Ay4, cy4, hy4, _⟩ := Sep.rowForm H87 At0
              subst hy4
              refine FL_on rfl rfl ?_
              refine FL_move (h := ?_)
              refine FL_on rfl rfl ?_
              refine FL_callS (eqSame (H87.rowAt At0) (H87.rowAt At4)) (h := ?_)
              refine FL_pickT (h := ?_)
              refine FL_move (h := ?_)
              first | refine FL_splitP (t := 63) rfl (fun hs92 => ?_) (fun hs92 => ?_) | refine FL_split (t := 63) rfl (fun hs92 => ?_) (fun hs92 => ?_)
              · skip
                refine FL_on rfl rfl ?_
                refine FL_move (h := ?_)
                refine FL_on rfl rfl ?_
                refine FL_val (Gives.lenSlice rfl) rfl ?_
                refine FL_on rfl rfl ?_
                refine FL_val (Gives.eql rfl rfl) rfl ?_
                refine FL_pickT (h := ?_)
                refine FL_move (h := ?_)
                first | refine FL_splitP (t := 68) rfl (fun hs98 => ?_) (fun hs98 => ?_) | refine FL_split (t := 68) rfl (fun hs98 => ?_) (fun hs98 => ?_)
                · skip
                  refine FL_on rfl rfl ?_
                  refine FL_callQ H87 works_ok (h := fun w100 H100 _ => ?_)
                  refine FL_pickT (h := ?_)
                  refine FL_assign (h := ?_)
                  refine FL_nil (Qseq_normal ?_)
                  refine FW_ret (Qfn_ret (hR := ?_))
                  exact ⟨rfl, H100.kept⟩
                · skip
                  exact absurd (by rw [secB_len hg1]; rfl) hs98 --done
              · skip
                exact absurd hs92 (by decide) --done
            · skip
              exact absurd hs84 (by decide) --done
end
end Go.Proofs.Yteflbohpabdjkaa
