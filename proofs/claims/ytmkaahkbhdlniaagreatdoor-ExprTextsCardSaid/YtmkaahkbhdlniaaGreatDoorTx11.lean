/-
 The document's literals, walked: escapes.
-/
import Derived.Test.YtmkaahkbhdlniaaGreatDoorTx10
set_option linter.unusedVariables false
set_option linter.unusedSimpArgs false
namespace Go.Proofs.YtmkaahkbhdlniaaGreatDoor
open Go Go.Mw Go.Lib
set_option maxRecDepth 4000

theorem digitL_lt {c : UInt8} {d : Nat} (e : digitL c = some d) : d < 16 := by
 have := c.toNat_lt
 unfold digitL at e
 repeat' split at e
 all_goals first | (injection e with e; omega) | cases e
theorem half_val {s : List UInt8} {second : Bool} (h : (halfL s second).2 = 0) : (halfL s second).1 ≤ 65535 ∧ (second = true ↔ (56320 ≤ (halfL s second).1 ∧ (halfL s second).1 ≤ 57343)) := by
 unfold halfL at h ⊢
 cases h0 : s[0]? with
 | none => simp [h0] at h
 | some c0 => cases d0 : digitL c0 with
  | none => simp [h0, d0] at h
  | some a => cases h1 : s[1]? with
   | none => cases second <;> simp [h0, d0, h1] at h <;> (split at h <;> simp at h)
   | some c1 => cases d1 : digitL c1 with
    | none => cases second <;> simp [h0, d0, h1, d1] at h <;> (split at h <;> simp at h)
    | some b => cases h2 : s[2]? with
     | none => cases second <;> simp [h0, d0, h1, d1, h2] at h <;> (repeat' split at h) <;> simp at h
     | some c2 => cases d2 : digitL c2 with
      | none => cases second <;> simp [h0, d0, h1, d1, h2, d2] at h <;> (repeat' split at h) <;> simp at h
      | some c => cases h3 : s[3]? with
       | none => cases second <;> simp [h0, d0, h1, d1, h2, d2, h3] at h <;> (repeat' split at h) <;> simp at h
       | some c3 => cases d3 : digitL c3 with
        | none => cases second <;> simp [h0, d0, h1, d1, h2, d2, h3, d3] at h <;> (repeat' split at h) <;> simp at h
        | some d =>
         have k0 := digitL_lt d0
         have k1 := digitL_lt d1
         have k2 := digitL_lt d2
         have k3 := digitL_lt d3
         cases second
         ·simp only [h0, d0, h1, d1, h2, d2, h3, d3] at h ⊢
          rw [if_neg (by simp)] at h ⊢
          split at h
          ·simp at h
          ·rename_i hs
           rw [if_neg hs]
           simp at hs ⊢
           omega
         ·simp only [h0, d0, h1, d1, h2, d2, h3, d3] at h ⊢
          split at h
          ·simp at h
          ·rename_i hs0
           rw [if_neg hs0]
           split at h
           ·simp at h
           ·rename_i hs
            rw [if_neg hs]
            simp at hs hs0 ⊢
            omega
def shS : List UInt8 := [34, 92, 47, 98, 102, 110, 114, 116]
def shV : List UInt8 := [34, 92, 47, 8, 12, 10, 13, 9]
theorem short_at {c : UInt8} {i : Nat} (h : i < 8) (hc : c.toNat = (shS.getD i 0).toNat) : shortL c = some (shV.getD i 0) ∧ (shV.take (i + 1)).drop i = [shV.getD i 0] := by
 have key : ∀ i : Fin 8, shortL (shS.getD i.val 0) = some (shV.getD i.val 0) ∧ (shV.take (i.val + 1)).drop i.val = [shV.getD i.val 0] := by decide
 rw [UInt8.toNat_inj.1 hc]; exact key ⟨i, h⟩
theorem short_no {c : UInt8} (h : ∀ i, i < 8 → c.toNat ≠ (shS.getD i 0).toNat) : shortL c = none := by
 have e : ∀ k : UInt8, (c = k) = (c.toNat = k.toNat) := fun k => propext UInt8.toNat_inj.symm
 have k0 := h 0 (by omega); have k1 := h 1 (by omega); have k2 := h 2 (by omega); have k3 := h 3 (by omega); have k4 := h 4 (by omega); have k5 := h 5 (by omega); have k6 := h 6 (by omega); have k7 := h 7 (by omega)
 simp [shS] at k0 k1 k2 k3 k4 k5 k6 k7
 unfold shortL
 simp only [e]
 simp [k0, k1, k2, k3, k4, k5, k6, k7]
theorem putL_ok {n : Int} (h : ¬ (n < 0 ∨ 1114111 < n ∨ (55296 ≤ n ∧ n ≤ 57343))) : (putL n).getD [] = encodeRune n := by
 unfold putL
 rw [if_neg h]; rfl
section
variable {w : World} {l : List UInt8}
theorem escape_ok4 (l : List UInt8) (hl : l.length ≤ 9223372036854775807) : Rets Tryz.prog 193 [str l] w fun v w' => v = .tuple #[str (escL l).1, I (escL l).2.1, I (escL l).2.2] ∧ Kept noB w w' := by
  have H := Sep.start0 w
  refine rets1 Tryz.func193 rfl rfl rfl rfl ?_
  refine Sr ?_
  refine Am ?_
  refine Am ?_
  refine Am ?_
  refine Qn ?_
  refine FW_seq ?_
  refine Sr ?_
  refine Mv ?_
  refine Vt ?_
  refine Vl ?_
  refine Qn ?_
  refine FW_condP rfl (fun hc7 => ?_) (fun hc7 => ?_)
  · have hres : escL l = ([], 0, 3) := by unfold escL; rw [List.getElem?_eq_none (by omega)]
    refine Sr ?_
    refine Am ?_
    refine Am ?_
    refine Am ?_
    refine Qn ?_
    refine Rs (Qfn_ret (hR := ?_))
    exact ⟨by rw [hres]; rfl, H.kept⟩
  · obtain ⟨c, hc⟩ : ∃ c, c = l.getD 1 0 := ⟨_, rfl⟩
    have hg : l[1]? = some c := by rw [hc, List.getD_eq_getElem?_getD, List.getElem?_eq_getElem (by omega)]; rfl
    refine Sk ?_
    refine FW_seq ?_
    refine Sr ?_
    refine Am ?_
    refine Qn ?_
    refine FW_block ?_
    refine FW_loop' (fun i : Nat => [(0, str l), (5, I i)]) (fun i w' => (i ≤ 8 ∧ ∀ j, j < i → c.toNat ≠ (shS.getD j 0).toNat) ∧ Sep w noB [] w') (fun i _ => 8 - i) 0 ⟨rfl, rfl, trivial⟩ ⟨⟨by omega, fun j hj => by omega⟩, H⟩ (fun i τ w16 hI => ?_)
    obtain ⟨⟨hi, hno⟩, H16⟩ := hI
    try simp only [upds, like, upd_ds, und_ds]
    refine FW_seq ?_
    refine Sr ?_
    refine Mv ?_
    refine Vl ?_
    refine Qn ?_
    refine FW_condP rfl (fun hc19 => ?_) (fun hc19 => ?_)
    · have hlt : i < 8 := by omega
      refine Sk ?_
      refine FW_seq ?_
      refine FW_block ?_
      refine FW_seq ?_
      refine FW_drawS rfl H16 (h := fun hok21 w23 H23 => ?_)
      refine FGmove hok21 0 (h := ?_)
      refine FGp hok21 1 rfl rfl (fun _ => (Gives.idxD (i := 1) rfl rfl (by omega))) (by kernel_rfl) ?_
      rw [← hc]
      refine FGmove hok21 2 (h := ?_)
      refine FGp hok21 3 rfl rfl (fun _ => (Gives.idxD (l := shS) rfl rfl hlt)) (by kernel_rfl) ?_
      refine FGp hok21 4 rfl rfl (fun _ => (Gives.eql rfl rfl)) (by kernel_rfl) ?_
      refine FG_end hok21 (by kernel_rfl) ?_
      refine Qseq_normal ?_
      refine FW_condP rfl (fun hc27 => ?_) (fun hc27 => ?_)
      · obtain ⟨hs1, hs2⟩ := short_at (c := c) hlt (by omega)
        have hres : escL l = ([shV.getD i 0], 2, 0) := by unfold escL; rw [hg]; simp only [hs1]
        refine Sr ?_
        refine Mv ?_
        refine Mv ?_
        refine FL_val (Gives.addI rfl rfl rfl (by omega)) rfl ?_
        refine FL_val (Gives.sliceBothT (l := shV) (m := i + 1) rfl rfl rfl (by omega) (show i + 1 ≤ 8 by omega)) rfl ?_
        rw [hs2]
        refine Am ?_
        refine Am ?_
        refine Am ?_
        refine Qn ?_
        refine Rb (Qround_ret (Qblk_ret (Qseq_ret (Qfn_ret (hR := ?_)))))
        exact ⟨by rw [hres]; rfl, H23.kept⟩
      · refine FW_skip (Qblk_normal (Qseq_normal ?_))
        refine FW_region ?_
        refine Mv ?_
        refine FL_val (Gives.addI rfl rfl rfl (by omega)) rfl ?_
        refine Am ?_
        refine FL_nil ?_
        exact Qround_normal (i + 1) ⟨rfl, rfl, trivial⟩ ⟨⟨by omega, fun j hj => by
        rcases Nat.lt_or_ge j i with h | h
        · exact hno j h
        · have : j = i := by omega
          subst this; omega⟩, H23⟩ (by omega)
    · have hsn : shortL c = none := short_no fun j hj => hno j (by omega)
      refine FW_exit (Qseq_exit (Qround_exit (Qblk_exit (Qseq_normal ?_))))
      refine FW_seq ?_
      refine Sr ?_
      refine Mv ?_
      refine FL_val (Gives.idxD (i := 1) rfl rfl (by omega)) rfl ?_
      rw [← hc]
      refine Vn ?_
      refine Qn ?_
      refine FW_condP rfl (fun hc45 => ?_) (fun hc45 => ?_)
      · have hres : escL l = ([], 0, 41) := by unfold escL; rw [hg]; simp only [hsn]; rw [if_pos (fun e => by rw [e] at hc45; exact hc45 rfl)]
        refine Sr ?_
        refine Am ?_
        refine Am ?_
        refine Am ?_
        refine Qn ?_
        refine Rs (Qfn_ret (hR := ?_))
        exact ⟨by rw [hres]; rfl, H16.kept⟩
      · have hu : c = 117 := UInt8.toNat_inj.1 (by show c.toNat = 117; omega)
        obtain ⟨h, hh⟩ : ∃ h, h = halfL (l.drop 2) false := ⟨_, rfl⟩
        have hes : escL l = if h.2 ≠ 0 then ([], 0, h.2) else if h.1 < 55296 ∨ 56319 < h.1 then (encodeRune h.1, 6, 0) else escT l h.1 := by
          unfold escL; rw [hg]; simp only [hsn]; rw [if_neg (by simpa using hu), ← hh]
        refine Sk ?_
        refine Sr ?_
        refine Mv ?_
        refine FL_val (Gives.sliceFromT (i := 2) rfl rfl (by omega)) rfl ?_
        refine FL_callS (half_ok4 (l.drop 2) false (by rw [List.length_drop]; omega)) (h := ?_)
        rw [← hh]
        refine Mv ?_
        refine Vx ?_
        refine Vx ?_
        refine Am ?_
        refine Am ?_
        refine Qn ?_
        refine FW_seq ?_
        refine Sr ?_
        refine Mv ?_
        refine Vn ?_
        refine Qn ?_
        refine FW_condP rfl (fun hc62 => ?_) (fun hc62 => ?_)
        · have hres : escL l = ([], 0, h.2) := by rw [hes, if_pos hc62]
          refine Sr ?_
          refine Mv ?_
          refine Am ?_
          refine Am ?_
          refine Am ?_
          refine Qn ?_
          refine Rs (Qfn_ret (hR := ?_))
          exact ⟨by rw [hres]; rfl, H16.kept⟩
        · have h20 : h.2 = 0 := by simpa using hc62
          rw [if_neg (by simpa using h20)] at hes
          have hv := half_val (s := l.drop 2) (second := false) (by rw [← hh]; exact h20)
          rw [← hh] at hv
          simp at hv
          refine Sk ?_
          refine FW_seq ?_
          refine Sr ?_
          refine Mv ?_
          refine Vl ?_
          refine Mv ?_
          refine FL_splitP (t := 45) rfl (fun hs73 => ?_) (fun hs73 => ?_)
          · have hres : escL l = (encodeRune h.1, 6, 0) := by rw [hes, if_pos (by omega)]
            have hpe : (putL (h.1 : Int)).getD [] = encodeRune h.1 := putL_ok (by omega)
            refine Of ?_
            refine Of ?_
            refine Pt ?_
            refine Qn ?_
            refine FW_cond_true rfl ?_
            refine Sr ?_
            refine Mv ?_
            refine FL_val (Gives.convI32 rfl (by omega)) rfl ?_
            refine FL_callQ H16 (put_ok h.1 (by omega)) (h := fun w79 H79 _ => ?_)
            rw [hpe]
            refine Mv ?_
            refine Vx ?_
            refine Vx ?_
            refine Am ?_
            refine Am ?_
            refine Nx ?_
            refine Mv ?_
            refine Am ?_
            refine Am ?_
            refine Am ?_
            refine Qn ?_
            refine Rs (Qfn_ret (hR := ?_))
            exact ⟨by rw [hres]; rfl, H79.kept⟩
          · refine On ?_
            refine Mv ?_
            refine On ?_
            refine Vg ?_
            refine Pf ?_
            refine Qn ?_
            refine FW_condP rfl (fun hc93 => ?_) (fun hc93 => ?_)
            · have hres : escL l = (encodeRune h.1, 6, 0) := by rw [hes, if_pos (by omega)]
              have hpe : (putL (h.1 : Int)).getD [] = encodeRune h.1 := putL_ok (by omega)
              refine Sr ?_
              refine Mv ?_
              refine FL_val (Gives.convI32 rfl (by omega)) rfl ?_
              refine FL_callQ H16 (put_ok h.1 (by omega)) (h := fun w98 H98 _ => ?_)
              rw [hpe]
              refine Mv ?_
              refine Vx ?_
              refine Vx ?_
              refine Am ?_
              refine Am ?_
              refine Nx ?_
              refine Mv ?_
              refine Am ?_
              refine Am ?_
              refine Am ?_
              refine Qn ?_
              refine Rs (Qfn_ret (hR := ?_))
              exact ⟨by rw [hres]; rfl, H98.kept⟩
            · have hsu : 55296 ≤ h.1 ∧ h.1 ≤ 56319 := by omega
              rw [if_neg (by omega)] at hes
              refine Sk ?_
              refine FW_seq ?_
              refine Sr ?_
              refine Am ?_
              refine Qn ?_
              refine FW_block ?_
              refine FW_loop' (fun i : Nat => [(0, str l), (6, I h.1), (10, I i)]) (fun i w' => (6 ≤ i ∧ i ≤ 8 ∧ (7 ≤ i → l[6]? = some 92) ∧ (8 ≤ i → l[7]? = some 117)) ∧ Sep w noB [] w') (fun i _ => 8 - i) 6 ⟨rfl, rfl, rfl, trivial⟩ ⟨⟨by omega, by omega, fun h => by omega, fun h => by omega⟩, H16⟩ (fun i τ w112 hI => ?_)
              obtain ⟨⟨hi6, hi8, hg6, hg7⟩, H112⟩ := hI
              try simp only [upds, like, upd_ds]
              refine FW_seq ?_
              refine Sr ?_
              refine Mv ?_
              refine Vl ?_
              refine Qn ?_
              refine FW_condP rfl (fun hc115 => ?_) (fun hc115 => ?_)
              · have hlt : i = 6 ∨ i = 7 := by omega
                refine Sk ?_
                refine FW_seq ?_
                refine FW_block ?_
                refine FW_seq ?_
                refine Sr ?_
                refine Mv ?_
                refine Mv ?_
                refine Vt ?_
                refine FL_val (Gives.geq rfl rfl) rfl ?_
                refine Qn ?_
                refine FW_condP rfl (fun hc121 => ?_) (fun hc121 => ?_)
                · have hres : escL l = ([], 0, 3) := by
                    rw [hes]; unfold escT
                    rcases hlt with rfl | rfl
                    · rw [List.getElem?_eq_none (by omega)]
                    · rw [hg6 (by omega)]; simp; rw [List.getElem?_eq_none (by omega)]
                  refine Sr ?_
                  refine Am ?_
                  refine Am ?_
                  refine Am ?_
                  refine Qn ?_
                  refine Rs (Qblk_ret (Qseq_ret (Qround_ret (Qblk_ret (Qseq_ret (Qfn_ret (hR := ?_)))))))
                  exact ⟨by rw [hres]; rfl, H112.kept⟩
                · have hil : i < l.length := by omega
                  have hgi : l[i]? = some (l.getD i 0) := by rw [List.getD_eq_getElem?_getD, List.getElem?_eq_getElem hil]; rfl
                  refine Sk ?_
                  refine FW_seq ?_
                  refine FW_drawS rfl H112 (h := fun hok128 w130 H130 => ?_)
                  refine FGmove hok128 0 (h := ?_)
                  refine FGmove hok128 1 (h := ?_)
                  refine FGp hok128 2 rfl rfl (fun _ => (Gives.idxD rfl rfl (by omega))) (by kernel_rfl) ?_
                  refine FGmove hok128 3 (h := ?_)
                  refine FGp hok128 4 rfl rfl (fun _ => (Gives.subI (c := ((i - 6 : Nat) : Int)) rfl rfl (by omega) (by omega))) (by kernel_rfl) ?_
                  refine FGp hok128 5 rfl rfl (fun _ => (Gives.idxD (l := [92, 117]) rfl rfl (show i - 6 < 2 by omega))) (by kernel_rfl) ?_
                  refine FGp hok128 6 rfl rfl (fun _ => (Gives.neq rfl rfl)) (by kernel_rfl) ?_
                  refine FG_end hok128 (by kernel_rfl) ?_
                  refine Qseq_normal ?_
                  refine FW_condP rfl (fun hc135 => ?_) (fun hc135 => ?_)
                  · have hres : escL l = ([], 0, 41) := by
                      rw [hes]; unfold escT
                      rcases hlt with rfl | rfl
                      · rw [hgi]; dsimp only
                        rw [if_pos (fun e => by rw [e] at hc135; exact hc135 rfl)]
                      · rw [hg6 (by omega)]; dsimp only
                        rw [if_neg (by simp), hgi]; dsimp only
                        rw [if_pos (fun e => by rw [e] at hc135; exact hc135 rfl)]
                    refine Sr ?_
                    refine Am ?_
                    refine Am ?_
                    refine Am ?_
                    refine Qn ?_
                    refine Rb (Qround_ret (Qblk_ret (Qseq_ret (Qfn_ret (hR := ?_)))))
                    exact ⟨by rw [hres]; rfl, H130.kept⟩
                  · have hci : (l.getD i 0).toNat = ([92, 117].getD (i - 6) 0 : UInt8).toNat := by omega
                    have hnx : (7 ≤ i + 1 → l[6]? = some 92) ∧ (8 ≤ i + 1 → l[7]? = some 117) := by
                      rcases hlt with rfl | rfl
                      · exact ⟨fun _ => by rw [hgi]; exact congrArg some (UInt8.toNat_inj.1 hci), fun h => by omega⟩
                      · exact ⟨fun _ => hg6 (by omega), fun _ => by rw [hgi]; exact congrArg some (UInt8.toNat_inj.1 hci)⟩
                    refine FW_skip (Qblk_normal (Qseq_normal ?_))
                    refine FW_region ?_
                    refine Mv ?_
                    refine FL_val (Gives.addI rfl rfl rfl (by omega)) rfl ?_
                    refine Am ?_
                    refine FL_nil ?_
                    exact Qround_normal (i + 1) ⟨rfl, rfl, rfl, trivial⟩ ⟨⟨by omega, by omega, hnx.1, hnx.2⟩, H130⟩ (by omega)
              · have h8 : i = 8 := by omega
                subst h8
                have hl8 : 8 ≤ l.length := by
                  have := hg7 (by omega)
                  have := (List.getElem?_eq_some_iff.1 this).1
                  omega
                obtain ⟨k, hk⟩ : ∃ k, k = halfL (l.drop 8) true := ⟨_, rfl⟩
                have het : escL l = if k.2 ≠ 0 then ([], 0, k.2) else (encodeRune (65536 + 1024 * ((h.1 : Int) - 55296) + k.1 - 56320), 12, 0) := by
                  rw [hes]; unfold escT
                  rw [hg6 (by omega), hg7 (by omega), ← hk]
                  rfl
                refine FW_exit (Qseq_exit (Qround_exit (Qblk_exit (Qseq_normal ?_))))
                refine Sr ?_
                refine Mv ?_
                refine FL_val (Gives.sliceFromT (i := 8) rfl rfl (by omega)) rfl ?_
                refine FL_callS (half_ok4 (l.drop 8) true (by rw [List.length_drop]; omega)) (h := ?_)
                rw [← hk]
                refine Mv ?_
                refine Vx ?_
                refine Vx ?_
                refine Am ?_
                refine Am ?_
                refine Qn ?_
                refine FW_seq ?_
                refine Sr ?_
                refine Mv ?_
                refine Vn ?_
                refine Qn ?_
                refine FW_condP rfl (fun hc157 => ?_) (fun hc157 => ?_)
                · have hres : escL l = ([], 0, k.2) := by rw [het, if_pos hc157]
                  refine Sr ?_
                  refine Mv ?_
                  refine Am ?_
                  refine Am ?_
                  refine Am ?_
                  refine Qn ?_
                  refine Rs (Qfn_ret (hR := ?_))
                  exact ⟨by rw [hres]; rfl, H112.kept⟩
                · have k20 : k.2 = 0 := by simpa using hc157
                  have kv := half_val (s := l.drop 8) (second := true) (by rw [← hk]; exact k20)
                  rw [← hk] at kv
                  simp at kv
                  have hres : escL l = (encodeRune (65536 + 1024 * ((h.1 : Int) - 55296) + k.1 - 56320), 12, 0) := by rw [het, if_neg (by simpa using k20)]
                  refine Sk ?_
                  refine Sr ?_
                  refine Mv ?_
                  refine FL_val (Gives.subI rfl rfl rfl (by omega)) rfl ?_
                  refine FL_val (Gives.mulI rfl rfl rfl (by omega)) rfl ?_
                  refine FL_val (Gives.addI rfl rfl rfl (by omega)) rfl ?_
                  refine Mv ?_
                  refine FL_val (Gives.addI rfl rfl rfl (by omega)) rfl ?_
                  refine FL_val (Gives.subI rfl rfl rfl (by omega)) rfl ?_
                  refine FL_val (Gives.convI32 rfl (by omega)) rfl ?_
                  refine FL_callQ H112 (put_ok (65536 + 1024 * ((h.1 : Int) - 55296) + k.1 - 56320) (by omega)) (h := fun w174 H174 _ => ?_)
                  rw [putL_ok (by omega)]
                  refine Mv ?_
                  refine Vx ?_
                  refine Vx ?_
                  refine Am ?_
                  refine Am ?_
                  refine Nx ?_
                  refine Mv ?_
                  refine Am ?_
                  refine Am ?_
                  refine Am ?_
                  refine Qn ?_
                  refine FW_ret (Qfn_ret (hR := ?_))
                  exact ⟨by rw [hres]; rfl, H174.kept⟩
end
end Go.Proofs.YtmkaahkbhdlniaaGreatDoor
/-
 The document's literals, walked: Unquote.
-/
namespace Go.Proofs.YtmkaahkbhdlniaaGreatDoor
open Go Go.Mw Go.Lib
set_option maxRecDepth 4000

def extL (s : List UInt8) (n : Nat) (c : UInt8) : List UInt8 := s ++ List.replicate (n - s.length) c
def hitL (s : List UInt8) (n : Nat) : Prop := okL (extL s n 128) n ∨ okL (extL s n 191) n
theorem next_hit {l : List UInt8} {n : Nat} (h1 : 1 ≤ n) (h4 : n ≤ 4) (hl : n ≤ l.length) : ((nextL l).isSome = true ∧ (nextP l).2 = n) ↔ okL l n := by
 constructor
 ·rintro ⟨h, rfl⟩
  exact (next_ok (r := (nextP l).1) (n := (nextP l).2) (nextP_some h)).2.2.2.1
 ·intro h
  have := next_of_ok h1 h4 hl h
  unfold nextP
  rw [this]; exact ⟨rfl, rfl⟩
theorem extL_len {s : List UInt8} {n : Nat} {c : UInt8} (h : s.length ≤ n) : (extL s n c).length = n := by
 unfold extL; rw [List.length_append, List.length_replicate]; omega
theorem none_high {a : UInt8} {t : List UInt8} (h : nextL (a :: t) = none) : 128 ≤ a.toNat := by
 refine Classical.byContradiction fun hn => ?_
 rw [next_ascii (by omega)] at h; cases h
theorem begins_iff {s : List UInt8} (hne : s ≠ []) (hs : nextL s = none) : beginsL s = true ↔ ∃ n, s.length < n ∧ n ≤ 4 ∧ hitL s n := by
 have e0 : (128 : UInt8).toNat = 128 := rfl
 have e1 : (191 : UInt8).toNat = 191 := rfl
 match s, hne, hs with
 | [a], _, hs =>
  have ha := none_high hs
  have ha2 := a.toNat_lt
  have h2 : hitL [a] 2 ↔ 194 ≤ a.toNat ∧ a.toNat ≤ 223 := by
   show okL [a, 128] 2 ∨ okL [a, 191] 2 ↔ _
   rw [ok2, ok2, e0, e1]; omega
  have h3 : hitL [a] 3 ↔ 224 ≤ a.toNat ∧ a.toNat ≤ 239 := by
   show okL [a, 128, 128] 3 ∨ okL [a, 191, 191] 3 ↔ _
   rw [ok3, ok3, e0, e1]; omega
  have h4 : hitL [a] 4 ↔ 240 ≤ a.toNat ∧ a.toNat ≤ 244 := by
   show okL [a, 128, 128, 128] 4 ∨ okL [a, 191, 191, 191] 4 ↔ _
   rw [ok4, ok4, e0, e1]; omega
  have key : beginsL [a] = true ↔ hitL [a] 2 ∨ hitL [a] 3 ∨ hitL [a] 4 := by
   rw [h2, h3, h4]
   simp only [beginsL, decide_eq_true_eq]
   omega
  rw [key]
  constructor
  ·rintro (h | h | h)
   ·exact ⟨2, by simp, by omega, h⟩
   ·exact ⟨3, by simp, by omega, h⟩
   ·exact ⟨4, by simp, by omega, h⟩
  ·rintro ⟨n, h1, h5, h⟩
   simp only [List.length_cons, List.length_nil] at h1
   have : n = 2 ∨ n = 3 ∨ n = 4 := by omega
   rcases this with rfl | rfl | rfl
   ·exact .inl h
   ·exact .inr (.inl h)
   ·exact .inr (.inr h)
 | [a, b], _, hs =>
  have ha := none_high hs
  have ha2 := a.toNat_lt
  have hb2 := b.toNat_lt
  have hno : ¬ okL [a, b] 2 := fun h => by rw [next_of_ok (by omega) (by omega) (by simp) h] at hs; cases hs
  rw [ok2] at hno
  have h3 : hitL [a, b] 3 ↔ (a.toNat = 224 ∧ 160 ≤ b.toNat ∧ b.toNat ≤ 191) ∨ ((225 ≤ a.toNat ∧ a.toNat ≤ 236 ∨ 238 ≤ a.toNat ∧ a.toNat ≤ 239) ∧ 128 ≤ b.toNat ∧ b.toNat ≤ 191) ∨ (a.toNat = 237 ∧ 128 ≤ b.toNat ∧ b.toNat ≤ 159) := by
   show okL [a, b, 128] 3 ∨ okL [a, b, 191] 3 ↔ _
   rw [ok3, ok3, e0, e1]; omega
  have h4 : hitL [a, b] 4 ↔ (a.toNat = 240 ∧ 144 ≤ b.toNat ∧ b.toNat ≤ 191) ∨ (241 ≤ a.toNat ∧ a.toNat ≤ 243 ∧ 128 ≤ b.toNat ∧ b.toNat ≤ 191) ∨ (a.toNat = 244 ∧ 128 ≤ b.toNat ∧ b.toNat ≤ 143) := by
   show okL [a, b, 128, 128] 4 ∨ okL [a, b, 191, 191] 4 ↔ _
   rw [ok4, ok4, e0, e1]; omega
  have key : beginsL [a, b] = true ↔ hitL [a, b] 3 ∨ hitL [a, b] 4 := by
   rw [h3, h4]
   simp only [beginsL, decide_eq_true_eq]
   omega
  rw [key]
  constructor
  ·rintro (h | h)
   ·exact ⟨3, by simp, by omega, h⟩
   ·exact ⟨4, by simp, by omega, h⟩
  ·rintro ⟨n, h1, h5, h⟩
   simp only [List.length_cons, List.length_nil] at h1
   have : n = 3 ∨ n = 4 := by omega
   rcases this with rfl | rfl
   ·exact .inl h
   ·exact .inr h
 | [a, b, c], _, hs =>
  have ha2 := a.toNat_lt
  have hb2 := b.toNat_lt
  have hc2 := c.toNat_lt
  have h4 : hitL [a, b, c] 4 ↔ ((a.toNat = 240 ∧ 144 ≤ b.toNat ∧ b.toNat ≤ 191) ∨ (241 ≤ a.toNat ∧ a.toNat ≤ 243 ∧ 128 ≤ b.toNat ∧ b.toNat ≤ 191) ∨ (a.toNat = 244 ∧ 128 ≤ b.toNat ∧ b.toNat ≤ 143)) ∧ 128 ≤ c.toNat ∧ c.toNat ≤ 191 := by
   show okL [a, b, c, 128] 4 ∨ okL [a, b, c, 191] 4 ↔ _
   rw [ok4, ok4, e0, e1]; omega
  have key : beginsL [a, b, c] = true ↔ hitL [a, b, c] 4 := by
   rw [h4]
   simp only [beginsL, decide_eq_true_eq]
  rw [key]
  constructor
  ·intro h; exact ⟨4, by simp, by omega, h⟩
  ·rintro ⟨n, h1, h5, h⟩
   simp only [List.length_cons, List.length_nil] at h1
   have : n = 4 := by omega
   subst this; exact h
 | a :: b :: c :: d :: t, _, _ =>
  simp only [beginsL, Bool.false_eq_true, false_iff]
  rintro ⟨n, h1, h5, _⟩
  simp only [List.length_cons] at h1
  omega
section
variable {w : World} {l : List UInt8}
theorem begins_ok4 (s : List UInt8) (hne : s ≠ []) (hs : nextL s = none) (hl : s.length ≤ 9223372036854775000) : Rets Tryz.prog 194 [str s] w fun v w' => v = .bool (beginsL s) ∧ Kept noB w w' := by
  have H := Sep.start0 w
  have hpos : 1 ≤ s.length := List.length_pos_iff.2 hne
  refine rets1 Tryz.func194 rfl rfl rfl rfl ?_
  refine Sr ?_
  refine Am ?_
  refine Qn ?_
  refine FW_seq ?_
  refine Sr ?_
  refine Mv ?_
  refine Vt ?_
  refine FL_val (Gives.addI rfl rfl rfl (by omega)) rfl ?_
  refine Am ?_
  refine Qn ?_
  refine FW_block ?_
  refine FW_loop' (fun n : Nat => [(0, str s), (3, I n)]) (fun n w' => (s.length < n ∧ ∀ j, s.length < j → j < n → j ≤ 4 → ¬ hitL s j) ∧ Sep w noB [] w') (fun n _ => 5 - n) (s.length + 1) ⟨rfl, rfl, trivial⟩ ⟨⟨by omega, fun j h1 h2 => by omega⟩, H⟩ (fun n τ w7 hI => ?_)
  obtain ⟨⟨hn, hno⟩, H7⟩ := hI
  try simp only [upds, like, upd_ds, und_ds]
  refine FW_seq ?_
  refine Sr ?_
  refine Mv ?_
  refine FL_val (Gives.leq rfl rfl) rfl ?_
  refine Qn ?_
  refine FW_condP rfl (fun hc10 => ?_) (fun hc10 => ?_)
  · have hn4 : n ≤ 4 := by omega
    refine Sk ?_
    refine FW_seq ?_
    refine FW_block ?_
    refine Sr ?_
    refine Mv ?_
    refine Mv ?_
    refine Am ?_
    refine Am ?_
    refine Qn ?_
    refine FW_seq ?_
    refine FW_block ?_
    refine FW_loop' (fun j : Nat => [(0, str s), (3, I n), (4, str (s ++ List.replicate j 128)), (5, str (s ++ List.replicate j 191))]) (fun j w' => s.length + j ≤ n ∧ Sep w noB [] w') (fun j _ => n - j) 0 ⟨rfl, rfl, by simp; rfl, by simp; rfl, trivial⟩ ⟨by omega, H7⟩ (fun j τ w17 hI => ?_)
    obtain ⟨hj, H17⟩ := hI
    try simp only [upds, like, upd_ds]
    refine FW_seq ?_
    refine Sr ?_
    refine Mv ?_
    refine Vt ?_
    rw [List.length_append, List.length_replicate]
    refine Mv ?_
    refine Vl ?_
    refine Qn ?_
    refine FW_condP rfl (fun hc22 => ?_) (fun hc22 => ?_)
    · have hjn : s.length + j < n := by omega
      refine Sk ?_
      refine FW_block ?_
      refine Sr ?_
      refine Mv ?_
      refine FL_val (Gives.catT (b := [128]) rfl rfl (by rw [List.length_append, List.length_replicate]; simp; omega)) rfl ?_
      refine Am ?_
      refine Qn ?_
      refine FW_region ?_
      refine Mv ?_
      refine FL_val (Gives.catT (b := [191]) rfl rfl (by rw [List.length_append, List.length_replicate]; simp; omega)) rfl ?_
      refine Am ?_
      refine FL_nil (Qblk_normal ?_)
      exact Qround_normal (j + 1) ⟨rfl, rfl, by rw [List.replicate_succ', ← List.append_assoc]; rfl, by rw [List.replicate_succ', ← List.append_assoc]; rfl, trivial⟩ ⟨by omega, H17⟩ (by omega)
    · have hjn : j = n - s.length := by omega
      subst hjn
      refine FW_exit (Qseq_exit (Qround_exit (Qblk_exit (Qseq_normal ?_))))
      refine Sr ?_
      refine Mv ?_
      refine FL_callQ H17 (next_ok4 (extL s n 128) (by rw [extL_len (by omega)]; omega)) (h := fun w34 H34 _ => ?_)
      refine Mv ?_
      refine Vx ?_
      refine Vx ?_
      refine Vx ?_
      refine Am ?_
      refine Am ?_
      refine Am ?_
      refine Nx ?_
      refine Mv ?_
      refine FL_callQ H34 (next_ok4 (extL s n 191) (by rw [extL_len (by omega)]; omega)) (h := fun w44 H44 _ => ?_)
      refine Mv ?_
      refine Vx ?_
      refine Vx ?_
      refine Vx ?_
      refine Am ?_
      refine Am ?_
      refine Am ?_
      refine Nx ?_
      have hnl := next_hit (l := extL s n 128) (n := n) (by omega) hn4 (by rw [extL_len (by omega)]; omega)
      have hnh := next_hit (l := extL s n 191) (n := n) (by omega) hn4 (by rw [extL_len (by omega)]; omega)
      refine Mv ?_
      refine Mv ?_
      refine FL_split (t := 42) rfl (fun hs54 => ?_) (fun hs54 => ?_)
      · refine On ?_
        refine Mv ?_
        refine On ?_
        refine Mv ?_
        refine On ?_
        refine Ve ?_
        refine Pt ?_
        refine Mv ?_
        refine FL_splitP (t := 47) rfl (fun hs60 => ?_) (fun hs60 => ?_)
        · refine Of ?_
          refine Of ?_
          refine Ou ?_
          refine Ou ?_
          refine Ou ?_
          refine Of ?_
          refine Pt ?_
          refine Qn ?_
          refine FW_cond_true rfl ?_
          refine Sr ?_
          refine Am ?_
          refine Qn ?_
          refine Rb (Qround_ret (Qblk_ret (Qseq_ret (Qfn_ret (hR := ?_)))))
          have hres : beginsL s = true := (begins_iff hne hs).2 ⟨n, hn, hn4, by unfold hitL; rw [← hnl, ← hnh]; first | exact .inl ⟨by assumption, by omega⟩ | exact .inr ⟨by assumption, by omega⟩⟩
          exact ⟨by rw [hres]; rfl, H44.kept⟩
        · refine On ?_
          refine Mv ?_
          refine On ?_
          refine Mv ?_
          refine FL_split (t := 49) rfl (fun hs66 => ?_) (fun hs66 => ?_)
          · refine On ?_
            refine Mv ?_
            refine On ?_
            refine Mv ?_
            refine On ?_
            refine Ve ?_
            refine On ?_
            refine Pt ?_
            refine Pf ?_
            refine Qn ?_
            refine FW_condP rfl (fun hc72 => ?_) (fun hc72 => ?_)
            · refine Sr ?_
              refine Am ?_
              refine Qn ?_
              refine Rb (Qround_ret (Qblk_ret (Qseq_ret (Qfn_ret (hR := ?_)))))
              have hres : beginsL s = true := (begins_iff hne hs).2 ⟨n, hn, hn4, by unfold hitL; rw [← hnl, ← hnh]; first | exact .inl ⟨by assumption, by omega⟩ | exact .inr ⟨by assumption, by omega⟩⟩
              exact ⟨by rw [hres]; rfl, H44.kept⟩
            · refine FW_skip (Qblk_normal (Qseq_normal ?_))
              refine FW_region ?_
              refine Mv ?_
              refine FL_val (Gives.addI rfl rfl rfl (by omega)) rfl ?_
              refine Am ?_
              refine FL_nil ?_
              exact Qround_normal (n + 1) ⟨rfl, rfl, trivial⟩ ⟨⟨by omega, fun j a b c => by
              rcases Nat.lt_or_ge j n with h | h
              · exact hno j a h c
              · have : j = n := by omega
                subst this
                unfold hitL
                rw [← hnl, ← hnh]
                rintro (⟨x, y⟩ | ⟨x, y⟩) <;> simp_all⟩, H44⟩ (by omega)
          · refine Of ?_
            refine Of ?_
            refine Of ?_
            refine On ?_
            refine Pf ?_
            refine Pf ?_
            refine Qn ?_
            refine FW_cond_false rfl ?_
            refine FW_skip (Qblk_normal (Qseq_normal ?_))
            refine FW_region ?_
            refine Mv ?_
            refine FL_val (Gives.addI rfl rfl rfl (by omega)) rfl ?_
            refine Am ?_
            refine FL_nil ?_
            exact Qround_normal (n + 1) ⟨rfl, rfl, trivial⟩ ⟨⟨by omega, fun j a b c => by
            rcases Nat.lt_or_ge j n with h | h
            · exact hno j a h c
            · have : j = n := by omega
              subst this
              unfold hitL
              rw [← hnl, ← hnh]
              rintro (⟨x, y⟩ | ⟨x, y⟩) <;> simp_all⟩, H44⟩ (by omega)
      · refine Of ?_
        refine Of ?_
        refine Of ?_
        refine Pf ?_
        refine Mv ?_
        refine On ?_
        refine Mv ?_
        refine On ?_
        refine Mv ?_
        refine FL_split (t := 49) rfl (fun hs89 => ?_) (fun hs89 => ?_)
        · refine On ?_
          refine Mv ?_
          refine On ?_
          refine Mv ?_
          refine On ?_
          refine Ve ?_
          refine On ?_
          refine Pt ?_
          refine Pf ?_
          refine Qn ?_
          refine FW_condP rfl (fun hc95 => ?_) (fun hc95 => ?_)
          · refine Sr ?_
            refine Am ?_
            refine Qn ?_
            refine Rb (Qround_ret (Qblk_ret (Qseq_ret (Qfn_ret (hR := ?_)))))
            have hres : beginsL s = true := (begins_iff hne hs).2 ⟨n, hn, hn4, by unfold hitL; rw [← hnl, ← hnh]; first | exact .inl ⟨by assumption, by omega⟩ | exact .inr ⟨by assumption, by omega⟩⟩
            exact ⟨by rw [hres]; rfl, H44.kept⟩
          · refine FW_skip (Qblk_normal (Qseq_normal ?_))
            refine FW_region ?_
            refine Mv ?_
            refine FL_val (Gives.addI rfl rfl rfl (by omega)) rfl ?_
            refine Am ?_
            refine FL_nil ?_
            exact Qround_normal (n + 1) ⟨rfl, rfl, trivial⟩ ⟨⟨by omega, fun j a b c => by
            rcases Nat.lt_or_ge j n with h | h
            · exact hno j a h c
            · have : j = n := by omega
              subst this
              unfold hitL
              rw [← hnl, ← hnh]
              rintro (⟨x, y⟩ | ⟨x, y⟩) <;> simp_all⟩, H44⟩ (by omega)
        · refine Of ?_
          refine Of ?_
          refine Of ?_
          refine On ?_
          refine Pf ?_
          refine Pf ?_
          refine Qn ?_
          refine FW_cond_false rfl ?_
          refine FW_skip (Qblk_normal (Qseq_normal ?_))
          refine FW_region ?_
          refine Mv ?_
          refine FL_val (Gives.addI rfl rfl rfl (by omega)) rfl ?_
          refine Am ?_
          refine FL_nil ?_
          exact Qround_normal (n + 1) ⟨rfl, rfl, trivial⟩ ⟨⟨by omega, fun j a b c => by
          rcases Nat.lt_or_ge j n with h | h
          · exact hno j a h c
          · have : j = n := by omega
            subst this
            unfold hitL
            rw [← hnl, ← hnh]
            rintro (⟨x, y⟩ | ⟨x, y⟩) <;> simp_all⟩, H44⟩ (by omega)
  · have hres : beginsL s = false := by
      rw [← Bool.not_eq_true, begins_iff hne hs]
      rintro ⟨j, h1, h2, h3⟩
      exact hno j h1 (by omega) h2 h3
    refine FW_exit (Qseq_exit (Qround_exit (Qblk_exit (Qseq_normal ?_))))
    refine Sr ?_
    refine Am ?_
    refine Qn ?_
    refine FW_ret (Qfn_ret (hR := ?_))
    exact ⟨by rw [hres]; rfl, H7.kept⟩
end
end Go.Proofs.YtmkaahkbhdlniaaGreatDoor
