/-
  DiskStays, walked; and the plain law under it.
-/
import Derived.Test.YteflbohpabdjkaaLawE
namespace Go.Proofs.Yteflbohpabdjkaa
open Go Go.Mw
set_option maxRecDepth 8000

def opsOf (l : List PutM) : List (Int × List UInt8) := l.map fun x => (x.at_ % 5, pad (putB x))
theorem keptBy_snoc (keep : List Int) (k : Nat) (a : List (Int × List UInt8)) (x : Int × List UInt8) (f : Int → Option (List UInt8)) :
    keptBy keep k (a ++ [x]) f = if keep.contains ((k + a.length : Nat) : Int) then setAt (keptBy keep k a f) x.1 x.2 else keptBy keep k a f := by
  rw [keptBy_eq, keptBy_eq, keptL_append, keptAll_append]
  simp only [keptL]
  split <;> rfl
theorem setAt_same (f : Int → Option (List UInt8)) (a : Int) (b : List UInt8) : setAt (setAt f a b) a b = setAt f a b := by
  funext j
  unfold setAt
  split <;> rfl
/-- What stands behind the first i of the writes, those that are kept. -/
def stayTo (kp : List Int) (m : List PutM) (f : Int → Option (List UInt8)) (i : Nat) : Int → Option (List UInt8) := keptBy kp 0 (opsOf (m.take i)) f
theorem stayTo_succ {kp : List Int} {m : List PutM} {f : Int → Option (List UInt8)} {i : Nat} (h : i < m.length) :
    stayTo kp m f (i + 1) = if kp.contains (i : Int) then setAt (stayTo kp m f i) (m[i].at_ % 5) (pad (putB m[i])) else stayTo kp m f i := by
  unfold stayTo
  have e : opsOf (m.take (i + 1)) = opsOf (m.take i) ++ [(m[i].at_ % 5, pad (putB m[i]))] := by
    unfold opsOf
    rw [List.take_succ_eq_append_getElem h, List.map_append]
    rfl
  rw [e, keptBy_snoc]
  have hl : (opsOf (m.take i)).length = i := by
    unfold opsOf
    rw [List.length_map, List.length_take]
    omega
  rw [hl, Nat.zero_add]
theorem stays_law {l m : List PutM} {kp : List Int} {e : DM} (he : e.good) (hn : e.now = stayTo kp m (fiveM l).now 50) : secB ((((fiveM l).puts (m.take 50)).crash kp).boot) = secB e := by
  rw [secB_crash (good_puts (good_five l) _), secB_good he]
  refine secsTo_congr ?_ 5
  show keptBy kp 0 _ _ = _
  rw [hn, five_opn, puts_kept, (five_sync l).1]
  rfl
theorem contains_take {kp : List Int} {k : Nat} (h : k < kp.length) (i : Int) : (kp.take (k + 1)).contains i = ((kp.take k).contains i || kp[k] == i) := by
  rw [List.take_succ_eq_append_getElem h, Bool.eq_iff_iff]
  simp only [List.contains_iff_mem, List.mem_append, List.mem_singleton, Bool.or_eq_true, beq_iff_eq]
  constructor
  · rintro (h | h)
    · exact .inl h
    · exact .inr h.symm
  · rintro (h | h)
    · exact .inl h
    · exact .inr h.symm
section
variable {p : Nat} {d : DM} {F : Nat → Prop} {w w₀ : World} {S : Nat → Prop} {rs : List HP} {put : HP → List HP}
set_option maxHeartbeats 8000000 in
theorem stays_ok {A O K : Option Addr} {c co ck : Nat} {l m : List PutM} {keep : List Int} (hl : ∀ x ∈ l, x.fit) (hr : RowAt w A l.length 3 (putCells l)) (hm : ∀ x ∈ m, x.fit) (hro : RowAt w O m.length 3 (putCells m)) (hk : RowAt w K keep.length 1 (keep.map I)) (hck : keep.length ≤ ck) :
    Rets Try.prog 4 [.slice A l.length c, .slice O m.length co, .slice K keep.length ck] w fun v w' => v = .bool true ∧ Kept noB w w' := by
  have H := Sep.start0 w
  refine rets3 Try.func4 rfl rfl rfl rfl ?_
  have hmn : min keep.length 100 = (keep.take (min keep.length 100)).length := by rw [List.length_take]; omega
  have hkr : RowAt w K (keep.take (min keep.length 100)).length 1 ((keep.take (min keep.length 100)).map I) := by rw [← hmn, ← take_map]; exact hk.take (by omega)
  have hkl : (keep.take (min keep.length 100)).length ≤ 100 := by omega
  have hg1 := good_five l
  have hs1 := small_five l
  have hg2 := good_puts hg1 (m.take 50)
  have hs2 : ((fiveM l).puts (m.take 50)).small 110 := (small_puts hs1 (m.take 50)).mono (by rw [List.length_take]; omega)
  refine FW_seq ?_
  refine FW_region ?_
  refine FL_assign (h := ?_)
  refine FL_nil (Qseq_normal ?_)
  refine FW_seq ?_
  refine FW_region ?_
  refine FL_move (h := ?_)
  refine FL_move (h := ?_)
  refine FL_val (Gives.lenSlice rfl) rfl ?_
  refine FL_val (Gives.min rfl rfl) rfl ?_
  rw [min100]
  refine FL_val (Gives.sliceTo rfl rfl (by omega)) rfl ?_
  rw [hmn]
  generalize keep.take (min keep.length 100) = kp at hkr hkl
  refine FL_assign (h := ?_)
  refine FL_nil (Qseq_normal ?_)
  refine FW_seq ?_
  refine FW_region ?_
  refine FL_move (h := ?_)
  refine FL_callN H (five_ok hl (hr.keepS H.kept fun _ _ _ => id)) rfl rfl (fun p w10 _ H10 _ => ?_)
  refine FL_move (h := ?_)
  refine FL_callN H10 (five_ok hl (hr.keepS H10.kept fun _ _ _ => id)) rfl rfl (fun q w13 _ H13 _ => ?_)
  refine FL_assign (h := ?_)
  refine FL_assign (h := ?_)
  refine FL_nil (Qseq_normal ?_)
  refine FW_seq ?_
  refine FW_seq ?_
  refine FW_region ?_
  refine FL_move (h := ?_)
  refine FL_val (Gives.eqlNil rfl rfl) rfl ?_
  refine FL_move (h := ?_)
  first | refine FL_splitP (t := 24) rfl (fun hs19 => ?_) (fun hs19 => ?_) | refine FL_split (t := 24) rfl (fun hs19 => ?_) (fun hs19 => ?_)
  · skip
    cases hs19 --done
  · skip
    refine FL_on rfl rfl ?_
    refine FL_move (h := ?_)
    refine FL_on rfl rfl ?_
    refine FL_val (Gives.eqlNil rfl rfl) rfl ?_
    refine FL_pickF (h := ?_)
    refine FL_move (h := ?_)
    first | refine FL_splitP (t := 28) rfl (fun hs25 => ?_) (fun hs25 => ?_) | refine FL_split (t := 28) rfl (fun hs25 => ?_) (fun hs25 => ?_)
    · skip
      cases hs25 --done
    · skip
      refine FL_on rfl rfl ?_
      refine FL_move (h := ?_)
      refine FL_on rfl rfl ?_
      refine FL_move (h := ?_)
      refine FL_on rfl rfl ?_
      refine FL_call1 H13 At1 (fun F' hp hF' => writes_at hg1 (hs1.mono (by decide)) hm H13 hro (fun _ _ _ => id) hp hF') (h := fun w30 H30 => ?_)
      refine FL_on rfl rfl ?_
      first | refine FL_val (Gives.notP rfl) rfl ?_ | refine FL_val (Gives.not rfl) rfl ?_
      refine FL_pickF (h := ?_)
      refine FL_nil (Qseq_normal ?_)
      first | refine FW_condP rfl (fun hc33 => ?_) (fun hc33 => ?_) | refine FW_cond rfl (fun hc33 => ?_) (fun hc33 => ?_)
      · skip
        exact absurd hc33 (by decide) --done
      · skip
        refine FW_skip (Qseq_normal ?_)
        refine FW_seq ?_
        refine FW_region ?_
        refine FL_move (h := ?_)
        refine FL_move (h := ?_)
        refine FL_call1 H30 At1 (fun F' hp hF' => crash_at (A := K) (c := ck) (keep := kp) (hs2.mono (by decide)) H30 (by omega) hkr (fun _ _ _ => id) hp hF') (h := fun w38 H38 => ?_)
        refine FL_nil (Qseq_normal ?_)
        refine FW_seq ?_
        refine FW_region ?_
        refine FL_move (h := ?_)
        refine FL_call1 H38 At1 (fun F' hp _ => boot_ok hp) (h := fun w41 H41 => ?_)
        refine FL_nil (Qseq_normal ?_)
        refine FW_seq ?_
        refine FW_seq ?_
        refine FW_region ?_
        refine FL_assign (h := ?_)
        refine FL_nil (Qseq_normal ?_)
        refine FW_block ?_
        refine FW_loop' (fun x : Nat × DM => [(1, .slice O m.length co), (2, .slice K kp.length ck), (7, .pointer (some ⟨p, 0, none⟩)), (8, .pointer (some ⟨q, 0, none⟩)), (9, I x.1)])
          (fun x w' => x.1 ≤ m.length ∧ x.1 ≤ 50 ∧ x.2.good ∧ x.2.small (60 + 100 * x.1) ∧ x.2.now = stayTo kp m (fiveM l).now x.1 ∧ Sep w noB [diskH q x.2, diskH p (((fiveM l).puts (m.take 50)).crash kp).boot] w') (fun x _ => m.length - x.1) (0, fiveM l) ⟨rfl, rfl, rfl, rfl, rfl, trivial⟩ ⟨Nat.zero_le _, Nat.zero_le _, hg1, hs1.mono (by simp), rfl, H41⟩ (fun x τ w44 hI => ?_)
        obtain ⟨i, e⟩ := x
        obtain ⟨hi, hi50, heg, hes, hen, H44⟩ := hI
        simp only at hi hi50 heg hes hen
        try simp only [upds, like, upd_ds, und_ds]
        refine FW_seq ?_
        refine FW_seq ?_
        refine FW_region ?_
        refine FL_move (h := ?_)
        refine FL_move (h := ?_)
        refine FL_val (Gives.lenSlice rfl) rfl ?_
        refine FL_val (Gives.lss rfl rfl) rfl ?_
        refine FL_move (h := ?_)
        first | refine FL_splitP (t := 43) rfl (fun hs50 => ?_) (fun hs50 => ?_) | refine FL_split (t := 43) rfl (fun hs50 => ?_) (fun hs50 => ?_)
        · skip
          have hc1 := hs50
          refine FL_on rfl rfl ?_
          refine FL_move (h := ?_)
          refine FL_on rfl rfl ?_
          refine FL_val (Gives.lss rfl rfl) rfl ?_
          refine FL_pickT (h := ?_)
          refine FL_nil (Qseq_normal ?_)
          first | refine FW_condP rfl (fun hc55 => ?_) (fun hc55 => ?_) | refine FW_cond rfl (fun hc55 => ?_) (fun hc55 => ?_)
          · skip
            have hlt : i < m.length := by omega
            have hlt50 : i < 50 := by omega
            obtain ⟨ad, hAd, _⟩ := hro.at_ (by omega)
            subst hAd
            have hx := hm _ (List.getElem_mem hlt)
            refine FW_skip (Qseq_normal ?_)
            refine FW_seq ?_
            refine FW_block ?_
            refine FW_seq ?_
            refine FW_region ?_
            refine FL_assign (h := ?_)
            refine FL_nil (Qseq_normal ?_)
            refine FW_block ?_
            refine FW_loop' (fun y : Nat × DM => [(1, .slice (some ad) m.length co), (2, .slice K kp.length ck), (7, .pointer (some ⟨p, 0, none⟩)), (8, .pointer (some ⟨q, 0, none⟩)), (9, I i), (10, I y.1)])
              (fun y w' => y.1 ≤ kp.length ∧ y.2.good ∧ y.2.small (60 + 100 * i + y.1) ∧ y.2.now = (if (kp.take y.1).contains (i : Int) then setAt (stayTo kp m (fiveM l).now i) (m[i].at_ % 5) (pad (putB m[i])) else stayTo kp m (fiveM l).now i) ∧ Sep w noB [diskH q y.2, diskH p (((fiveM l).puts (m.take 50)).crash kp).boot] w') (fun y _ => kp.length - y.1) (0, e) ⟨rfl, rfl, rfl, rfl, rfl, rfl, trivial⟩ ⟨Nat.zero_le _, heg, hes, by rw [hen, List.take_zero, if_neg (by simp)], H44⟩ (fun y τ w59 hI => ?_)
            obtain ⟨k, g⟩ := y
            obtain ⟨hk1, hgg, hgs, hgn, H59⟩ := hI
            simp only at hk1 hgg hgs hgn
            try simp only [upds, like, upd_ds]
            refine FW_seq ?_
            refine FW_seq ?_
            refine FW_region ?_
            refine FL_move (h := ?_)
            refine FL_move (h := ?_)
            refine FL_val (Gives.lenSlice rfl) rfl ?_
            refine FL_val (Gives.lss rfl rfl) rfl ?_
            refine FL_nil (Qseq_normal ?_)
            first | refine FW_condP rfl (fun hc64 => ?_) (fun hc64 => ?_) | refine FW_cond rfl (fun hc64 => ?_) (fun hc64 => ?_)
            · skip
              have hkt : k < kp.length := by omega
              obtain ⟨kd, hKd, hkc⟩ := (hkr.keepS H59.kept fun _ _ _ => id).at_ (by omega)
              subst hKd
              refine FW_skip (Qseq_normal ?_)
              refine FW_seq ?_
              refine FW_block ?_
              refine FW_seq ?_
              refine FW_region ?_
              refine FL_move (h := ?_)
              refine FL_move (h := ?_)
              refine FL_val (Gives.idx rfl rfl hkt) rfl ?_
              refine FL_loadC (hkc (k * 1) (I kp[k]) (by simp [hkt])) (h := ?_)
              refine FL_move (h := ?_)
              refine FL_val (Gives.eql rfl rfl) rfl ?_
              refine FL_nil (Qseq_normal ?_)
              first | refine FW_condP rfl (fun hc72 => ?_) (fun hc72 => ?_) | refine FW_cond rfl (fun hc72 => ?_) (fun hc72 => ?_)
              · skip
                have hki := hc72
                refine FW_drawS rfl H59 (h := fun hok74 w76 H76 => ?_)
                refine FGmove hok74 0 (h := ?_)
                refine FGmove hok74 1 (h := ?_)
                refine FGmove hok74 2 (h := ?_)
                refine FGp hok74 3 rfl rfl (fun _ => (Gives.idx rfl rfl hlt)) (by kernel_rfl) ?_
                first | refine FGp hok74 4 rfl rfl (fun _ => (Gives.field0 rfl)) (by kernel_rfl) ?_ | refine FGp hok74 4 rfl rfl (fun _ => (Gives.field rfl)) (by kernel_rfl) ?_ | refine FGp hok74 4 rfl rfl (fun _ => (Gives.fieldA rfl)) (by kernel_rfl) ?_
                refine FGl hok74 5 rfl rfl (Gives.loadC rfl ((hro.keepS H76.kept fun _ _ _ => id).elemC rfl i hlt (us := [I m[i].at_, I m[i].byte, I m[i].many]) (putCells_get m i hlt) 0 _ rfl)) (by kernel_rfl) ?_
                refine FGmove hok74 7 (h := ?_)
                refine FGmove hok74 8 (h := ?_)
                refine FGp hok74 9 rfl rfl (fun _ => (Gives.idx rfl rfl hlt)) (by kernel_rfl) ?_
                refine FGl hok74 10 rfl rfl (Gives.loadCN rfl ((hro.keepS H76.kept fun _ _ _ => id).elem rfl i hlt (us := [I m[i].at_, I m[i].byte, I m[i].many]) (putCells_get m i hlt)) rfl) (by kernel_rfl) ?_
                refine FGcallS hok74 6 [(10, false), (9, true), (8, true), (7, true), (0, true)] H76 (bring_ok m[i].at_ 5 hx.1 (by omega)) (h := fun w83 H83 => ⟨(Stab_cons rfl rfl (Gives.loadCN rfl ((hro.keepS H83.kept fun _ _ _ => id).elem rfl i hlt (us := [I m[i].at_, I m[i].byte, I m[i].many]) (putCells_get m i hlt)) rfl) rfl (Stab_pure (Stab_pure (Stab_pure (Stab_pure (Stab_nil)))))), ?_⟩)
                refine FGcallN hok74 11 [(0, true)] H83 (bytes_ok m[i] hx) (h := fun y w85 _ H85 _ => ⟨Stab_pure (Stab_nil), ?_⟩)
                obtain ⟨Ay, cy, hy, _⟩ := Sep.rowForm H85 At0
                subst hy
                refine FGcall1R hok74 12 [] H85 At0 (fun F' hp hrr hoff => write_at (c := cy) (hgs.mono (by omega)) (write_good hgg (a := m[i].at_ % 5) (b := putB m[i]) (by omega) (putB_length _)) hrr hoff hp) (h := fun w87 H87 => ⟨Stab_nil, ?_⟩)
                refine FG_end hok74 (by kernel_rfl) ?_
                refine Qblk_normal (Qseq_normal ?_)
                refine FW_region ?_
                refine FL_move (h := ?_)
                first | refine FL_val (Gives.addI rfl rfl rfl (by omega)) rfl ?_ | refine FL_val (Gives.add rfl rfl) rfl ?_
                refine FL_assign (h := ?_)
                refine FL_nil ?_
                first
                  | exact Qround_normal (k + 1, g.put1 (m[i].at_ % 5) (putB m[i])) ⟨rfl, rfl, rfl, rfl, rfl, rfl, trivial⟩ ⟨by simp only; omega, good_put1 hgg (putB_length _), (small_put1 hgs _ _).mono (by simp only; omega), by
                      show setAt g.now _ _ = _
                      simp only
                      rw [contains_take hkt, hgn, show (kp[k] == (i : Int)) = true from by simpa using hki, Bool.or_true, if_pos rfl]
                      split
                      · exact setAt_same _ _ _
                      · rfl, H87.drop0⟩ (by simp only; omega)
                  | exact Qround_normal (k + 1, g) ⟨rfl, rfl, rfl, rfl, rfl, rfl, trivial⟩ ⟨by simp only; omega, hgg, hgs.mono (by simp only; omega), by
                      simp only
                      rw [contains_take hkt, show (kp[k] == (i : Int)) = false from by simpa using hki, Bool.or_false]
                      exact hgn, H87⟩ (by simp only; omega)
              · skip
                have hki := hc72
                refine FW_skip (Qblk_normal (Qseq_normal ?_))
                refine FW_region ?_
                refine FL_move (h := ?_)
                first | refine FL_val (Gives.addI rfl rfl rfl (by omega)) rfl ?_ | refine FL_val (Gives.add rfl rfl) rfl ?_
                refine FL_assign (h := ?_)
                refine FL_nil ?_
                first
                  | exact Qround_normal (k + 1, g.put1 (m[i].at_ % 5) (putB m[i])) ⟨rfl, rfl, rfl, rfl, rfl, rfl, trivial⟩ ⟨by simp only; omega, good_put1 hgg (putB_length _), (small_put1 hgs _ _).mono (by simp only; omega), by
                      show setAt g.now _ _ = _
                      simp only
                      rw [contains_take hkt, hgn, show (kp[k] == (i : Int)) = true from by simpa using hki, Bool.or_true, if_pos rfl]
                      split
                      · exact setAt_same _ _ _
                      · rfl, H59.drop0⟩ (by simp only; omega)
                  | exact Qround_normal (k + 1, g) ⟨rfl, rfl, rfl, rfl, rfl, rfl, trivial⟩ ⟨by simp only; omega, hgg, hgs.mono (by simp only; omega), by
                      simp only
                      rw [contains_take hkt, show (kp[k] == (i : Int)) = false from by simpa using hki, Bool.or_false]
                      exact hgn, H59⟩ (by simp only; omega)
            · skip
              have hke : k = kp.length := by omega
              subst hke
              rw [List.take_length, ← stayTo_succ hlt] at hgn
              refine FW_exit (Qseq_exit (Qround_exit (Qblk_exit (Qblk_normal (Qseq_normal ?_)))))
              refine FW_region ?_
              refine FL_move (h := ?_)
              first | refine FL_val (Gives.addI rfl rfl rfl (by omega)) rfl ?_ | refine FL_val (Gives.add rfl rfl) rfl ?_
              refine FL_assign (h := ?_)
              refine FL_nil ?_
              exact Qround_normal (i + 1, g) ⟨rfl, rfl, rfl, rfl, rfl, trivial⟩ ⟨by simp only; omega, by simp only; omega, hgg, hgs.mono (by simp only; omega), hgn, H59⟩ (by simp only; omega)
          · skip
            first
              | (have hen50 : e.now = stayTo kp m (fiveM l).now 50 := by (have hi5 : i = 50 := by omega); rw [hen, hi5])
              | skip
            refine FW_exit (Qseq_exit (Qround_exit (Qblk_exit (Qseq_normal ?_))))
            refine FW_seq ?_
            refine FW_region ?_
            refine FL_move (h := ?_)
            refine FL_callN H44 (sectors_at H44 At1) rfl rfl (fun y w105 _ H105 _ => ?_)
            rw [stays_law heg hen50] at H105
            obtain ⟨Ay, cy, hy, _⟩ := Sep.rowForm H105 At0
            subst hy
            refine FL_move (h := ?_)
            refine FL_callN H105 (sectors_at H105 At1) rfl rfl (fun z w108 _ H108 _ => ?_)
            obtain ⟨Az, cz, hz, _⟩ := Sep.rowForm H108 At0
            subst hz
            refine FL_assign (h := ?_)
            refine FL_assign (h := ?_)
            refine FL_nil (Qseq_normal ?_)
            refine FW_seq ?_
            refine FW_region ?_
            refine FL_move (h := ?_)
            refine FL_val (Gives.lenSlice rfl) rfl ?_
            refine FL_val (Gives.eql rfl rfl) rfl ?_
            refine FL_move (h := ?_)
            first | refine FL_splitP (t := 81) rfl (fun hs115 => ?_) (fun hs115 => ?_) | refine FL_split (t := 81) rfl (fun hs115 => ?_) (fun hs115 => ?_)
            · skip
              refine FL_on rfl rfl ?_
              refine FL_move (h := ?_)
              refine FL_on rfl rfl ?_
              refine FL_move (h := ?_)
              refine FL_on rfl rfl ?_
              refine FL_callS (eqSame (H108.rowAt At1) (H108.rowAt At0)) (h := ?_)
              refine FL_pickT (h := ?_)
              refine FL_move (h := ?_)
              first | refine FL_splitP (t := 86) rfl (fun hs121 => ?_) (fun hs121 => ?_) | refine FL_split (t := 86) rfl (fun hs121 => ?_) (fun hs121 => ?_)
              · skip
                refine FL_on rfl rfl ?_
                refine FL_callQ H108 works_ok (h := fun w123 H123 _ => ?_)
                refine FL_pickT (h := ?_)
                refine FL_assign (h := ?_)
                refine FL_nil (Qseq_normal ?_)
                refine FW_ret (Qfn_ret (hR := ?_))
                exact ⟨rfl, H123.kept⟩
              · skip
                exact absurd hs121 (by decide) --done
            · skip
              exact absurd (by rw [secB_len heg]; rfl) hs115 --done
        · skip
          have hen50 : e.now = stayTo kp m (fiveM l).now 50 := by rw [hen]; unfold stayTo; rw [List.take_of_length_le (l := m) (i := i) (by omega), List.take_of_length_le (l := m) (i := 50) (by omega)]
          refine FL_off rfl rfl rfl ?_
          refine FL_off rfl rfl rfl ?_
          refine FL_pickF (h := ?_)
          refine FL_nil (Qseq_normal ?_)
          refine FW_cond_false rfl ?_
          refine FW_exit (Qseq_exit (Qround_exit (Qblk_exit (Qseq_normal ?_))))
          refine FW_seq ?_
          refine FW_region ?_
          refine FL_move (h := ?_)
          refine FL_callN H44 (sectors_at H44 At1) rfl rfl (fun y w133 _ H133 _ => ?_)
          rw [stays_law heg hen50] at H133
          obtain ⟨Ay, cy, hy, _⟩ := Sep.rowForm H133 At0
          subst hy
          refine FL_move (h := ?_)
          refine FL_callN H133 (sectors_at H133 At1) rfl rfl (fun z w136 _ H136 _ => ?_)
          obtain ⟨Az, cz, hz, _⟩ := Sep.rowForm H136 At0
          subst hz
          refine FL_assign (h := ?_)
          refine FL_assign (h := ?_)
          refine FL_nil (Qseq_normal ?_)
          refine FW_seq ?_
          refine FW_region ?_
          refine FL_move (h := ?_)
          refine FL_val (Gives.lenSlice rfl) rfl ?_
          refine FL_val (Gives.eql rfl rfl) rfl ?_
          refine FL_move (h := ?_)
          first | refine FL_splitP (t := 81) rfl (fun hs143 => ?_) (fun hs143 => ?_) | refine FL_split (t := 81) rfl (fun hs143 => ?_) (fun hs143 => ?_)
          · skip
            refine FL_on rfl rfl ?_
            refine FL_move (h := ?_)
            refine FL_on rfl rfl ?_
            refine FL_move (h := ?_)
            refine FL_on rfl rfl ?_
            refine FL_callS (eqSame (H136.rowAt At1) (H136.rowAt At0)) (h := ?_)
            refine FL_pickT (h := ?_)
            refine FL_move (h := ?_)
            first | refine FL_splitP (t := 86) rfl (fun hs149 => ?_) (fun hs149 => ?_) | refine FL_split (t := 86) rfl (fun hs149 => ?_) (fun hs149 => ?_)
            · skip
              refine FL_on rfl rfl ?_
              refine FL_callQ H136 works_ok (h := fun w151 H151 _ => ?_)
              refine FL_pickT (h := ?_)
              refine FL_assign (h := ?_)
              refine FL_nil (Qseq_normal ?_)
              refine FW_ret (Qfn_ret (hR := ?_))
              exact ⟨rfl, H151.kept⟩
            · skip
              exact absurd hs149 (by decide) --done
          · skip
            exact absurd (by rw [secB_len heg]; rfl) hs143 --done
end
end Go.Proofs.Yteflbohpabdjkaa
