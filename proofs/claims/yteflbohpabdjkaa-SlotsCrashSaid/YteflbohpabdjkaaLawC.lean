/-
  The chapter's examples, walked.
-/
import Derived.Test.YteflbohpabdjkaaLawB
namespace Go.Proofs.Yteflbohpabdjkaa
open Go Go.Mw
set_option maxRecDepth 8000

def k0 : DM := DM.new 2
def k1 : DM := (k0.write 0 [1]).2
def k2 : DM := k1.flush.2
def k3 : DM := (k2.write 0 [2]).2
def k4 : DM := (k3.write 1 [3]).2
def k5 : DM := k4.crash [1, 7]
def k6 : DM := k5.boot
def k7 : DM := k6.failAt 2 [0]
def k8 : DM := (k7.write 0 [5]).2
def k9 : DM := k8.flush.2
def k10 : DM := k9.boot
theorem pair_eq {α β : Type} {x : α × β} {a : α} (h : x.1 = a) : x = (a, x.2) := by rw [← h]
theorem k01 : k0.write 0 [1] = (0, k1) := pair_eq (by kernel_rfl)
theorem k12 : k1.flush = (0, k2) := pair_eq (by kernel_rfl)
theorem k23 : k2.write 0 [2] = (0, k3) := pair_eq (by kernel_rfl)
theorem k34 : k3.write 1 [3] = (0, k4) := pair_eq (by kernel_rfl)
theorem k78 : k7.write 0 [5] = (0, k8) := pair_eq (by kernel_rfl)
theorem k89 : k8.flush = (290, k9) := pair_eq (by kernel_rfl)
theorem k1010 : k10.write 2 [] = (6, k10) := by kernel_rfl
theorem k1011 : k10.write 0 (List.replicate 129 0) = (5, k10) := by kernel_rfl
theorem kb4 : beginsM k4 0 2 = true := by kernel_rfl
theorem kb60 : beginsM k6 0 1 = true := by kernel_rfl
theorem kb61 : beginsM k6 1 3 = true := by kernel_rfl
theorem kb10 : beginsM k10 0 5 = true := by kernel_rfl
theorem ks0 : k0.small 100 := by unfold DM.small; decide
theorem ks1 : k1.small 100 := by unfold DM.small; decide
theorem ks2 : k2.small 100 := by unfold DM.small; decide
theorem ks3 : k3.small 100 := by unfold DM.small; decide
theorem ks4 : k4.small 100 := by unfold DM.small; decide
theorem ks6 : k6.small 100 := by unfold DM.small; decide
theorem ks7 : k7.small 100 := by unfold DM.small; decide
theorem ks8 : k8.small 100 := by unfold DM.small; decide
theorem ks10 : k10.small 100 := by unfold DM.small; decide
theorem ka5 : (!k5.dead) = false := by kernel_rfl
theorem ka6 : (!k6.dead) = true := by kernel_rfl
theorem ko10 : k10.ops = 6 := by kernel_rfl
section
variable {p : Nat} {d : DM} {F : Nat → Prop} {w w₀ : World} {S : Nat → Prop} {rs : List HP}
theorem write_at {a e : Int} {b : List UInt8} {A : Option Addr} {c : Nat} {d' : DM} (hs : d.small 1000000) (hd : d.write a b = (e, d')) (hr : RowAt w A b.length 1 (b.map B)) (hA : Off A b.length F) (h : (diskH p d).ok F w) :
    Rets Try.prog 24 [.pointer (some ⟨p, 0, none⟩), I a, .slice A b.length c] w fun v w' => v = I e ∧ Turn F (diskH p d') w w' := by
  have h1 := write_ok (c := c) (at_ := a) (by have := hs.1; omega) (by have := hs.2.1; omega) (by have := hs.2.2; unfold fits; omega) hr hA h
  rw [hd] at h1
  exact h1
theorem flush_at {e : Int} {d' : DM} (hs : d.small 1000000) (hd : d.flush = (e, d')) (h : (diskH p d).ok F w) :
    Rets Try.prog 28 [.pointer (some ⟨p, 0, none⟩)] w fun v w' => v = I e ∧ Turn F (diskH p d') w w' := by
  have h1 := flush_ok (by have := hs.1; omega) (by have := hs.2.1; omega) (by have := hs.2.2; unfold fits; omega) h
  rw [hd] at h1
  exact h1
theorem begins_at {put : HP → List HP} {at_ : Int} {c : UInt8} {b : Bool} (H : Sep w₀ S rs w) (hat : At rs (diskH p d) put) (hb : beginsM d at_ c = b) : Rets Try.prog 61 [.pointer (some ⟨p, 0, none⟩), I at_, B c] w fun v w' => v = .bool b ∧ Kept noB w w' := by
  obtain ⟨F, hp, _⟩ := H.focus hat
  have := begins_ok hp at_ c
  rw [hb] at this
  exact this
theorem alive_at {put : HP → List HP} {b : Bool} (H : Sep w₀ S rs w) (hat : At rs (diskH p d) put) (hb : (!d.dead) = b) : Rets Try.prog 29 [.pointer (some ⟨p, 0, none⟩)] w fun v w' => v = .bool b ∧ Kept noB w w' := by
  obtain ⟨F, hp, _⟩ := H.focus hat
  refine Rets.mono (alive_ok hp) fun v w' ⟨h1, h2⟩ => ?_
  subst h2
  exact ⟨by rw [h1, hb], Kept.refl _ _⟩
theorem ops_at {put : HP → List HP} {k : Int} (H : Sep w₀ S rs w) (hat : At rs (diskH p d) put) (hb : d.ops = k) : Rets Try.prog 30 [.pointer (some ⟨p, 0, none⟩)] w fun v w' => v = I k ∧ Kept noB w w' := by
  obtain ⟨F, hp, _⟩ := H.focus hat
  refine Rets.mono (ops_ok hp) fun v w' ⟨h1, h2⟩ => ?_
  subst h2
  exact ⟨by rw [h1, hb], Kept.refl _ _⟩
theorem read_at {put : HP → List HP} (H : Sep w₀ S rs w) (hat : At rs (diskH p d) put) (at_ : Int) : Rets Try.prog 37 [.pointer (some ⟨p, 0, none⟩), I at_] w fun v w' => ∃ s, v = .tuple #[s, I (d.read at_).2] ∧ True ∧ Turn noB (rowH 99 1 s ((d.read at_).1.getD []).length (((d.read at_).1.getD []).map B)) w w' := by
  obtain ⟨F, hp, _⟩ := H.focus hat
  exact read_ok hp
set_option maxHeartbeats 4000000 in
theorem works_ok : Rets Try.prog 17 [] w fun v w' => v = .bool true ∧ Kept noB w w' := by
  have H := Sep.start0 w
  refine rets0 Try.func17 rfl rfl rfl ?_
  refine FW_seq ?_
  refine FW_region ?_
  refine FL_assign (h := ?_)
  refine FL_nil (Qseq_normal ?_)
  refine FW_seq ?_
  refine FW_region ?_
  refine FL_callN H (new_ok 2 (by omega)) rfl rfl (fun p w3 _ H3 _ => ?_)
  refine FL_move (h := ?_)
  refine FL_val (Gives.extract rfl rfl) rfl ?_
  refine FL_val (Gives.extract rfl rfl) rfl ?_
  refine FL_assign (h := ?_)
  refine FL_assign (h := ?_)
  refine FL_nil (Qseq_normal ?_)
  refine FW_cut (fun _ : Unit => [(1, .pointer (some ⟨p, 0, none⟩))]) (fun _ w' => Sep w noB [diskH p k4] w') ?_ ?_
  · skip
    refine FW_seq ?_
    refine FW_region ?_
    refine FL_move (h := ?_)
    refine FL_val (Gives.neq rfl rfl) rfl ?_
    refine FL_move (h := ?_)
    first | refine FL_splitP (t := 11) rfl (fun hs13 => ?_) (fun hs13 => ?_) | refine FL_split (t := 11) rfl (fun hs13 => ?_) (fun hs13 => ?_)
    · skip
      exact absurd hs13 (by decide) --done
    · skip
      refine FL_on rfl rfl ?_
      refine FL_move (h := ?_)
      refine FL_on rfl rfl ?_
      refine FL_val (Gives.eqlNil rfl rfl) rfl ?_
      refine FL_pickF (h := ?_)
      refine FL_move (h := ?_)
      first | refine FL_splitP (t := 15) rfl (fun hs19 => ?_) (fun hs19 => ?_) | refine FL_split (t := 15) rfl (fun hs19 => ?_) (fun hs19 => ?_)
      · skip
        cases hs19 --done
      · skip
        refine FL_on rfl rfl ?_
        refine FL_move (h := ?_)
        refine FL_on rfl rfl ?_
        refine FL_buildSlice H3 (Elems.one rfl rfl Elems.nil) rfl rfl rfl (fun b22 w23 H23 _ => ?_)
        refine FL_on rfl rfl ?_
        refine FL_call1R (us := [1].map B) (m := 1) (Sep.asRow H23 At0 (s := 1) (n := 1) rfl (by decide)) At0 (fun F' hp hrr hoff => write_at (b := [1]) (c := 1) (ks0.mono (by decide)) k01 hrr hoff hp) (h := fun w25 H0 => ?_)
        have H25 := H0.drop0
        refine FL_on rfl rfl ?_
        refine FL_val (Gives.neq rfl rfl) rfl ?_
        refine FL_pickF (h := ?_)
        refine FL_move (h := ?_)
        first | refine FL_splitP (t := 21) rfl (fun hs29 => ?_) (fun hs29 => ?_) | refine FL_split (t := 21) rfl (fun hs29 => ?_) (fun hs29 => ?_)
        · skip
          exact absurd hs29 (by decide) --done
        · skip
          refine FL_on rfl rfl ?_
          refine FL_move (h := ?_)
          refine FL_on rfl rfl ?_
          refine FL_call1 H25 At0 (fun F' hp _ => flush_at (ks1.mono (by decide)) k12 hp) (h := fun w33 H33 => ?_)
          refine FL_on rfl rfl ?_
          refine FL_val (Gives.neq rfl rfl) rfl ?_
          refine FL_pickF (h := ?_)
          refine FL_move (h := ?_)
          first | refine FL_splitP (t := 26) rfl (fun hs37 => ?_) (fun hs37 => ?_) | refine FL_split (t := 26) rfl (fun hs37 => ?_) (fun hs37 => ?_)
          · skip
            exact absurd hs37 (by decide) --done
          · skip
            refine FL_on rfl rfl ?_
            refine FL_move (h := ?_)
            refine FL_on rfl rfl ?_
            refine FL_buildSlice H33 (Elems.one rfl rfl Elems.nil) rfl rfl rfl (fun b40 w41 H41 _ => ?_)
            refine FL_on rfl rfl ?_
            refine FL_call1R (us := [2].map B) (m := 1) (Sep.asRow H41 At0 (s := 1) (n := 1) rfl (by decide)) At0 (fun F' hp hrr hoff => write_at (b := [2]) (c := 1) (ks2.mono (by decide)) k23 hrr hoff hp) (h := fun w43 H0 => ?_)
            have H43 := H0.drop0
            refine FL_on rfl rfl ?_
            refine FL_val (Gives.neq rfl rfl) rfl ?_
            refine FL_pickF (h := ?_)
            refine FL_move (h := ?_)
            first | refine FL_splitP (t := 32) rfl (fun hs47 => ?_) (fun hs47 => ?_) | refine FL_split (t := 32) rfl (fun hs47 => ?_) (fun hs47 => ?_)
            · skip
              exact absurd hs47 (by decide) --done
            · skip
              refine FL_on rfl rfl ?_
              refine FL_move (h := ?_)
              refine FL_on rfl rfl ?_
              refine FL_buildSlice H43 (Elems.one rfl rfl Elems.nil) rfl rfl rfl (fun b50 w51 H51 _ => ?_)
              refine FL_on rfl rfl ?_
              refine FL_call1R (us := [3].map B) (m := 1) (Sep.asRow H51 At0 (s := 1) (n := 1) rfl (by decide)) At0 (fun F' hp hrr hoff => write_at (b := [3]) (c := 1) (ks3.mono (by decide)) k34 hrr hoff hp) (h := fun w53 H0 => ?_)
              have H53 := H0.drop0
              refine FL_on rfl rfl ?_
              refine FL_val (Gives.neq rfl rfl) rfl ?_
              refine FL_pickF (h := ?_)
              refine FL_move (h := ?_)
              first | refine FL_splitP (t := 38) rfl (fun hs57 => ?_) (fun hs57 => ?_) | refine FL_split (t := 38) rfl (fun hs57 => ?_) (fun hs57 => ?_)
              · skip
                exact absurd hs57 (by decide) --done
              · skip
                refine FL_on rfl rfl ?_
                refine FL_move (h := ?_)
                refine FL_on rfl rfl ?_
                refine FL_callQ H53 (begins_at H53 At0 kb4) (h := fun w61 H61 _ => ?_)
                refine FL_on rfl rfl ?_
                first | refine FL_val (Gives.notP rfl) rfl ?_ | refine FL_val (Gives.not rfl) rfl ?_
                refine FL_pickF (h := ?_)
                refine FL_nil (Qseq_normal ?_)
                first | refine FW_condP rfl (fun hc64 => ?_) (fun hc64 => ?_) | refine FW_cond rfl (fun hc64 => ?_) (fun hc64 => ?_)
                · skip
                  exact absurd hc64 (by decide) --done
                · skip
                  refine FW_skip ?_
                  exact Qcut_normal () ⟨rfl, trivial⟩ H61
  · skip
    intro _ τ w68 H68
    simp only [upds, like, upd_ds, und_ds]
    refine FW_seq ?_
    refine FW_region ?_
    refine FL_move (h := ?_)
    refine FL_buildSlice H68 (Elems.one rfl rfl (Elems.one rfl rfl Elems.nil)) rfl rfl rfl (fun b70 w71 H71 _ => ?_)
    refine FL_call1R (us := [1, 7].map I) (m := 2) (Sep.asRow H71 At0 (s := 1) (n := 2) rfl (by decide)) At0 (fun F' hp hrr hoff => crash_ok (d := k4) (keep := [1, 7]) (c := 2) (Nat.le_trans ks4.1 (by decide)) (by decide) hrr hoff hp) (h := fun w73 H0 => ?_)
    have H73 : Sep w noB [diskH p k5] w73 := H0.drop0
    refine FL_nil (Qseq_normal ?_)
    refine FW_seq ?_
    refine FW_region ?_
    refine FL_move (h := ?_)
    refine FL_callN H73 (read_at H73 At0 0) rfl rfl (fun y w76 _ H0 _ => ?_)
    have H76 := H0.drop0
    refine FL_move (h := ?_)
    refine FL_val (Gives.extract rfl rfl) rfl ?_
    refine FL_val (Gives.extract rfl rfl) rfl ?_
    refine FL_assign (h := ?_)
    refine FL_assign (h := ?_)
    refine FL_nil (Qseq_normal ?_)
    refine FW_cut (fun _ : Unit => [(1, .pointer (some ⟨p, 0, none⟩))]) (fun _ w' => Sep w noB [diskH p k5] w') ?_ ?_
    · skip
      refine FW_seq ?_
      refine FW_region ?_
      refine FL_move (h := ?_)
      refine FL_callQ H76 (alive_at H76 At0 ka5) (h := fun w85 H85 _ => ?_)
      refine FL_move (h := ?_)
      first | refine FL_splitP (t := 53) rfl (fun hs87 => ?_) (fun hs87 => ?_) | refine FL_split (t := 53) rfl (fun hs87 => ?_) (fun hs87 => ?_)
      · skip
        exact absurd hs87 (by decide) --done
      · skip
        refine FL_on rfl rfl ?_
        refine FL_move (h := ?_)
        refine FL_on rfl rfl ?_
        refine FL_val (Gives.neq rfl rfl) rfl ?_
        refine FL_pickF (h := ?_)
        refine FL_nil (Qseq_normal ?_)
        first | refine FW_condP rfl (fun hc92 => ?_) (fun hc92 => ?_) | refine FW_cond rfl (fun hc92 => ?_) (fun hc92 => ?_)
        · skip
          exact absurd hc92 (by decide) --done
        · skip
          refine FW_skip ?_
          exact Qcut_normal () ⟨rfl, trivial⟩ H85
    · skip
      intro _ τ w96 H96
      simp only [upds, like, upd_ds]
      refine FW_seq ?_
      refine FW_region ?_
      refine FL_move (h := ?_)
      refine FL_call1 H96 At0 (q := diskH p k6) (fun F' hp _ => boot_ok hp) (h := fun w99 H99 => ?_)
      refine FL_nil (Qseq_normal ?_)
      refine FW_cut (fun _ : Unit => [(1, .pointer (some ⟨p, 0, none⟩))]) (fun _ w' => Sep w noB [diskH p k6] w') ?_ ?_
      · skip
        refine FW_seq ?_
        refine FW_region ?_
        refine FL_move (h := ?_)
        refine FL_callQ H99 (alive_at H99 At0 ka6) (h := fun w103 H103 _ => ?_)
        first | refine FL_val (Gives.notP rfl) rfl ?_ | refine FL_val (Gives.not rfl) rfl ?_
        refine FL_move (h := ?_)
        first | refine FL_splitP (t := 62) rfl (fun hs106 => ?_) (fun hs106 => ?_) | refine FL_split (t := 62) rfl (fun hs106 => ?_) (fun hs106 => ?_)
        · skip
          exact absurd hs106 (by decide) --done
        · skip
          refine FL_on rfl rfl ?_
          refine FL_move (h := ?_)
          refine FL_on rfl rfl ?_
          refine FL_callQ H103 (begins_at H103 At0 kb60) (h := fun w110 H110 _ => ?_)
          refine FL_on rfl rfl ?_
          first | refine FL_val (Gives.notP rfl) rfl ?_ | refine FL_val (Gives.not rfl) rfl ?_
          refine FL_pickF (h := ?_)
          refine FL_move (h := ?_)
          first | refine FL_splitP (t := 67) rfl (fun hs114 => ?_) (fun hs114 => ?_) | refine FL_split (t := 67) rfl (fun hs114 => ?_) (fun hs114 => ?_)
          · skip
            exact absurd hs114 (by decide) --done
          · skip
            refine FL_on rfl rfl ?_
            refine FL_move (h := ?_)
            refine FL_on rfl rfl ?_
            refine FL_callQ H110 (begins_at H110 At0 kb61) (h := fun w118 H118 _ => ?_)
            refine FL_on rfl rfl ?_
            first | refine FL_val (Gives.notP rfl) rfl ?_ | refine FL_val (Gives.not rfl) rfl ?_
            refine FL_pickF (h := ?_)
            refine FL_nil (Qseq_normal ?_)
            first | refine FW_condP rfl (fun hc121 => ?_) (fun hc121 => ?_) | refine FW_cond rfl (fun hc121 => ?_) (fun hc121 => ?_)
            · skip
              exact absurd hc121 (by decide) --done
            · skip
              refine FW_skip ?_
              exact Qcut_normal () ⟨rfl, trivial⟩ H118
      · skip
        intro _ τ w125 H125
        simp only [upds, like, upd_ds]
        refine FW_seq ?_
        refine FW_region ?_
        refine FL_move (h := ?_)
        refine FL_buildSlice H125 (Elems.one rfl rfl Elems.nil) rfl rfl rfl (fun b127 w128 H128 _ => ?_)
        refine FL_call1R (us := [0].map I) (m := 1) (Sep.asRow H128 At0 (s := 1) (n := 1) rfl (by decide)) At0 (q := diskH p k7) (fun F' hp hrr hoff => fail_ok (d := k6) (keep := [0]) (c := 1) (by have := ks6.2.2; omega) (by decide) hrr hoff hp) (h := fun w130 H0 => ?_)
        have H130 := H0.drop0
        refine FL_nil (Qseq_normal ?_)
        refine FW_cut (fun _ : Unit => [(1, .pointer (some ⟨p, 0, none⟩))]) (fun _ w' => Sep w noB [diskH p k9] w') ?_ ?_
        · skip
          refine FW_seq ?_
          refine FW_region ?_
          refine FL_move (h := ?_)
          refine FL_buildSlice H130 (Elems.one rfl rfl Elems.nil) rfl rfl rfl (fun b133 w134 H134 _ => ?_)
          refine FL_call1R (us := [5].map B) (m := 1) (Sep.asRow H134 At0 (s := 1) (n := 1) rfl (by decide)) At0 (fun F' hp hrr hoff => write_at (b := [5]) (c := 1) (ks7.mono (by decide)) k78 hrr hoff hp) (h := fun w136 H0 => ?_)
          have H136 := H0.drop0
          refine FL_val (Gives.neq rfl rfl) rfl ?_
          refine FL_move (h := ?_)
          first | refine FL_splitP (t := 79) rfl (fun hs139 => ?_) (fun hs139 => ?_) | refine FL_split (t := 79) rfl (fun hs139 => ?_) (fun hs139 => ?_)
          · skip
            exact absurd hs139 (by decide) --done
          · skip
            refine FL_on rfl rfl ?_
            refine FL_move (h := ?_)
            refine FL_on rfl rfl ?_
            refine FL_call1 H136 At0 (fun F' hp _ => flush_at (ks8.mono (by decide)) k89 hp) (h := fun w143 H143 => ?_)
            refine FL_on rfl rfl ?_
            refine FL_val (Gives.neq rfl rfl) rfl ?_
            refine FL_pickF (h := ?_)
            refine FL_nil (Qseq_normal ?_)
            first | refine FW_condP rfl (fun hc146 => ?_) (fun hc146 => ?_) | refine FW_cond rfl (fun hc146 => ?_) (fun hc146 => ?_)
            · skip
              exact absurd hc146 (by decide) --done
            · skip
              refine FW_skip ?_
              exact Qcut_normal () ⟨rfl, trivial⟩ H143
        · skip
          intro _ τ w150 H150
          simp only [upds, like, upd_ds]
          refine FW_seq ?_
          refine FW_region ?_
          refine FL_move (h := ?_)
          refine FL_call1 H150 At0 (q := diskH p k10) (fun F' hp _ => boot_ok hp) (h := fun w153 H153 => ?_)
          refine FL_nil (Qseq_normal ?_)
          refine FW_seq ?_
          refine FW_region ?_
          refine FL_move (h := ?_)
          refine FL_callQ H153 (begins_at H153 At0 kb10) (h := fun w156 H156 _ => ?_)
          refine FL_move (h := ?_)
          first | refine FL_splitP (t := 88) rfl (fun hs158 => ?_) (fun hs158 => ?_) | refine FL_split (t := 88) rfl (fun hs158 => ?_) (fun hs158 => ?_)
          · skip
            refine FL_on rfl rfl ?_
            refine FL_move (h := ?_)
            refine FL_on rfl rfl ?_
            refine FL_callQ H156 (ops_at H156 At0 ko10) (h := fun w161 H161 _ => ?_)
            refine FL_on rfl rfl ?_
            refine FL_val (Gives.eql rfl rfl) rfl ?_
            refine FL_pickT (h := ?_)
            refine FL_move (h := ?_)
            first | refine FL_splitP (t := 93) rfl (fun hs165 => ?_) (fun hs165 => ?_) | refine FL_split (t := 93) rfl (fun hs165 => ?_) (fun hs165 => ?_)
            · skip
              refine FL_on rfl rfl ?_
              refine FL_move (h := ?_)
              refine FL_on rfl rfl ?_
              refine FL_call1 H161 At0 (fun F' hp _ => write_at (b := []) (A := none) (c := 0) (ks10.mono (by decide)) k1010 (RowAt.nil _ _ _) (fun h => absurd h (by decide)) hp) (h := fun w168 H168 => ?_)
              refine FL_on rfl rfl ?_
              refine FL_val (Gives.eql rfl rfl) rfl ?_
              refine FL_pickT (h := ?_)
              refine FL_move (h := ?_)
              first | refine FL_splitP (t := 98) rfl (fun hs172 => ?_) (fun hs172 => ?_) | refine FL_split (t := 98) rfl (fun hs172 => ?_) (fun hs172 => ?_)
              · skip
                refine FL_on rfl rfl ?_
                refine FL_move (h := ?_)
                refine FL_on rfl rfl ?_
                refine FL_make1 H168 (k := 129) (by decide) (by decide) (h := ?_)
                intro bb w175 H175 _
                refine FL_on rfl rfl ?_
                refine FL_call1R (us := (List.replicate 129 0).map B) (m := 129) (Sep.asRow H175 At0 (s := 1) (n := 129) rfl (by decide)) At0 (fun F' hp hrr hoff => write_at (b := List.replicate 129 0) (c := 129) (ks10.mono (by decide)) k1011 hrr hoff hp) (h := fun w177 H0 => ?_)
                have H177 := H0.drop0
                refine FL_on rfl rfl ?_
                refine FL_val (Gives.eql rfl rfl) rfl ?_
                refine FL_pickT (h := ?_)
                refine FL_move (h := ?_)
                first | refine FL_splitP (t := 104) rfl (fun hs181 => ?_) (fun hs181 => ?_) | refine FL_split (t := 104) rfl (fun hs181 => ?_) (fun hs181 => ?_)
                · skip
                  refine FL_on rfl rfl ?_
                  refine FL_move (h := ?_)
                  refine FL_on rfl rfl ?_
                  refine FL_callQ H177 (ops_at H177 At0 ko10) (h := fun w184 H184 _ => ?_)
                  refine FL_on rfl rfl ?_
                  refine FL_val (Gives.eql rfl rfl) rfl ?_
                  refine FL_pickT (h := ?_)
                  refine FL_assign (h := ?_)
                  refine FL_nil (Qseq_normal ?_)
                  refine FW_ret (Qfn_ret (hR := ?_))
                  exact ⟨rfl, H184.kept⟩
                · skip
                  exact absurd hs181 (by decide) --done
              · skip
                exact absurd hs172 (by decide) --done
            · skip
              exact absurd hs165 (by decide) --done
          · skip
            exact absurd hs158 (by decide) --done
end
end Go.Proofs.Yteflbohpabdjkaa
