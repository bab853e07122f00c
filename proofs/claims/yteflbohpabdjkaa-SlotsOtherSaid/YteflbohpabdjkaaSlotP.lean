/-
  The slots' examples, walked.
-/
import Derived.Test.YteflbohpabdjkaaSlotO
namespace Go.Proofs.Yteflbohpabdjkaa
open Go Go.Mw
set_option maxRecDepth 8000

def beginsS (d : DM) (at_ : Int) (want : List UInt8) : Bool := decide ((d.read at_).2 = 0) && (((d.read at_).1.getD []).take want.length == want)
def z0 : DM := DM.new 5
def z1 : DM := (save ⟨0, 0, false⟩ z0 [1, 2]).2.2
def z2 : DM := (save ⟨1, 2, false⟩ z1 []).2.2
def z3 : DM := z2.failAt 3 [0]
def z4 : DM := (save ⟨2, 0, false⟩ z3 [9]).2.2
def z5 : DM := z4.boot
def w13 : List UInt8 := [0, 0, 0, 0, 0, 0, 0, 1, 0, 0, 0, 2, 0]
theorem zo0 : openS z0 = (0, ⟨0, 0, false⟩) := by kernel_rfl
theorem zk0 : keepsB ⟨0, 0, false⟩ z0 [] 0 = true := by kernel_rfl
theorem zk0' : keepsS ⟨0, 0, false⟩ z0 0 = ⟨0, 0, false⟩ := by kernel_rfl
theorem zr0 : room z0 = 256 := by kernel_rfl
theorem zs1 : (save ⟨0, 0, false⟩ z0 [1, 2]).1 = 0 := by kernel_rfl
theorem zs1' : (save ⟨0, 0, false⟩ z0 [1, 2]).2.1 = ⟨1, 2, false⟩ := by kernel_rfl
theorem zk1 : keepsB ⟨1, 2, false⟩ z1 [1, 2] 1 = true := by kernel_rfl
theorem zk1' : keepsS ⟨1, 2, false⟩ z1 1 = ⟨1, 2, false⟩ := by kernel_rfl
theorem zr1 : room z1 = 256 := by kernel_rfl
theorem zb1 : beginsS z1 0 w13 = true := by kernel_rfl
theorem zb2 : beginsS z1 3 [1, 2, 0] = true := by kernel_rfl
theorem zs2 : (save ⟨1, 2, false⟩ z1 []).1 = 0 := by kernel_rfl
theorem zs2' : (save ⟨1, 2, false⟩ z1 []).2.1 = ⟨2, 0, false⟩ := by kernel_rfl
theorem zk2 : keepsB ⟨2, 0, false⟩ z2 [] 2 = true := by kernel_rfl
theorem zk2' : keepsS ⟨2, 0, false⟩ z2 2 = ⟨2, 0, false⟩ := by kernel_rfl
theorem zr2 : room z2 = 256 := by kernel_rfl
theorem zr3 : room z3 = 256 := by kernel_rfl
theorem zs3 : save ⟨2, 0, false⟩ z2 (List.replicate 257 0) = (5, ⟨2, 0, false⟩, z2) := by
  unfold save
  rw [if_neg (by simp), if_pos (.inl (by rw [zr2]; decide))]
theorem zs4 : (save ⟨2, 0, false⟩ z3 [9]).1 = 290 := by kernel_rfl
theorem zs4' : (save ⟨2, 0, false⟩ z3 [9]).2.1 = ⟨2, 0, true⟩ := by kernel_rfl
theorem zr4 : room z4 = 256 := by kernel_rfl
theorem zs5 : save ⟨2, 0, true⟩ z4 [9] = (290, ⟨2, 0, true⟩, z4) := by
  unfold save
  rw [if_pos rfl]
theorem zo5 : openS z5 = (0, ⟨3, 1, false⟩) := by kernel_rfl
theorem zk5 : keepsB ⟨3, 1, false⟩ z5 [9] 3 = true := by kernel_rfl
theorem zr5 : room z5 = 256 := by kernel_rfl
theorem z0s : z0.small 100 := by unfold DM.small; decide
theorem z1s : z1.small 100 := by unfold DM.small; decide +kernel
theorem z2s : z2.small 100 := by unfold DM.small; decide +kernel
theorem z3s : z3.small 100 := by unfold DM.small; decide +kernel
theorem z4s : z4.small 100 := by unfold DM.small; decide +kernel
theorem ok_of {d : DM} {m : SM} (hr : room d = 256) (h0 : 0 ≤ m.n ∧ m.n ≤ 100) (h1 : 0 ≤ m.many ∧ m.many ≤ 256) (hs : d.size = 5) : m.ok d := ⟨h0.1, by unfold mostNum; omega, h1.1, by omega, by omega⟩
section
variable {p s : Nat} {d : DM} {m : SM} {F : Nat → Prop} {w w₀ : World} {S : Nat → Prop} {rs : List HP} {put : HP → List HP}
theorem beginsS_ok {A : Option Addr} {c : Nat} {want : List UInt8} {at_ : Int} (hw : want.length ≤ 128) (hr : RowAt w A want.length 1 (want.map B)) (h : (diskH p d).ok F w) (hread : (d.read at_).2 = 0 → ((d.read at_).1.getD []).length = 128) :
    Rets Try.prog 79 [.pointer (some ⟨p, 0, none⟩), I at_, .slice A want.length c] w fun v w' => v = .bool (beginsS d at_ want) ∧ Kept noB w w' := by
  have H := Sep.start0 w
  refine rets3 Try.func79 rfl rfl rfl rfl ?_
  refine FW_seq ?_
  refine FW_region ?_
  refine FL_assign (h := ?_)
  refine FL_nil (Qseq_normal ?_)
  refine FW_seq ?_
  refine FW_region ?_
  refine FL_move (h := ?_)
  refine FL_move (h := ?_)
  refine FL_callN H (read_ok (HP.stay h H.kept) (at_ := at_)) rfl rfl (fun y w5 _ H5 _ => ?_)
  obtain ⟨Ay, cy, hy, hcy, _⟩ := Sep.rowForm H5 At0
  subst hy
  refine FL_move (h := ?_)
  refine FL_val (Gives.extract rfl rfl) rfl ?_
  refine FL_val (Gives.extract rfl rfl) rfl ?_
  refine FL_assign (h := ?_)
  refine FL_assign (h := ?_)
  refine FL_nil (Qseq_normal ?_)
  refine FW_seq ?_
  refine FW_region ?_
  refine FL_move (h := ?_)
  refine FL_val (Gives.eql rfl rfl) rfl ?_
  refine FL_move (h := ?_)
  first | refine FL_splitP (t := 17) rfl (fun hs14 => ?_) (fun hs14 => ?_) | refine FL_split (t := 17) rfl (fun hs14 => ?_) (fun hs14 => ?_)
  · skip
    have he : (d.read at_).2 = 0 := hs14
    refine FL_on rfl rfl ?_
    refine FL_move (h := ?_)
    refine FL_on rfl rfl ?_
    refine FL_val (Gives.lenSlice rfl) rfl ?_
    refine FL_on rfl rfl ?_
    refine FL_val (Gives.eql rfl rfl) rfl ?_
    refine FL_pickT (h := ?_)
    refine FL_move (h := ?_)
    first | refine FL_splitP (t := 22) rfl (fun hs21 => ?_) (fun hs21 => ?_) | refine FL_split (t := 22) rfl (fun hs21 => ?_) (fun hs21 => ?_)
    · skip
      have hlen := hread he
      refine FL_on rfl rfl ?_
      refine FL_move (h := ?_)
      refine FL_on rfl rfl ?_
      refine FL_move (h := ?_)
      refine FL_on rfl rfl ?_
      refine FL_val (Gives.lenSlice rfl) rfl ?_
      refine FL_on rfl rfl ?_
      refine FL_val (Gives.sliceTo rfl rfl (by omega)) rfl ?_
      refine FL_on rfl rfl ?_
      refine FL_move (h := ?_)
      refine FL_on rfl rfl ?_
      have hrt : RowAt w5 Ay want.length 1 ((((d.read at_).1.getD []).take want.length).map B) := by
        have h1 := (H5.rowAt At0).take (k := want.length) (by omega)
        rwa [Nat.mul_one, ← List.map_take] at h1
      refine FL_callS (eqBytes_at hrt (hr.keep H5.kept)) (h := ?_)
      refine FL_pickT (h := ?_)
      refine FL_assign (h := ?_)
      refine FL_nil (Qseq_normal ?_)
      refine FW_ret (Qfn_ret (hR := ?_))
      first
        | exact ⟨by rw [hb]; rfl, H5.drop0.kept⟩
        | exact ⟨by unfold beginsS; rw [decide_eq_true he]; rfl, H5.drop0.kept⟩
    · skip
      have hlen := hread he
      omega --done
  · skip
    have he : ¬ (d.read at_).2 = 0 := hs14
    have hb : beginsS d at_ want = false := by unfold beginsS; rw [decide_eq_false he]; rfl
    refine FL_off rfl rfl rfl ?_
    refine FL_off rfl rfl rfl ?_
    refine FL_off rfl rfl rfl ?_
    refine FL_pickF (h := ?_)
    refine FL_move (h := ?_)
    refine FL_off rfl rfl rfl ?_
    refine FL_off rfl rfl rfl ?_
    refine FL_off rfl rfl rfl ?_
    refine FL_off rfl rfl rfl ?_
    refine FL_off rfl rfl rfl ?_
    refine FL_off rfl rfl rfl ?_
    refine FL_pickF (h := ?_)
    refine FL_assign (h := ?_)
    refine FL_nil (Qseq_normal ?_)
    refine FW_ret (Qfn_ret (hR := ?_))
    first
      | exact ⟨by rw [hb]; rfl, H5.drop0.kept⟩
      | exact ⟨by unfold beginsS; rw [decide_eq_true he]; rfl, H5.drop0.kept⟩
theorem read128 {d : DM} (hwf : d.wf) (k : Int) : (d.read k).2 = 0 → ((d.read k).1.getD []).length = 128 := by
  unfold DM.read
  split
  · rename_i h
    intro h2
    exact absurd h2 h
  · intro _
    exact DM.sec_length hwf k
theorem begins_at' {A : Option Addr} {c : Nat} {want : List UInt8} {at_ : Int} {put : HP → List HP} (hw : want.length ≤ 128) (hr : RowAt w A want.length 1 (want.map B)) (H : Sep w₀ S rs w) (hat : At rs (diskH p d) put) :
    Rets Try.prog 79 [.pointer (some ⟨p, 0, none⟩), I at_, .slice A want.length c] w fun v w' => v = .bool (beginsS d at_ want) ∧ Kept noB w w' := by
  obtain ⟨F, hp, _⟩ := H.focus hat
  exact beginsS_ok hw hr hp (read128 (diskH_blk hp).1 at_)
set_option maxHeartbeats 8000000 in
theorem worksS_ok : Rets Try.prog 51 [] w fun v w' => v = .bool true ∧ Kept noB w w' := by
  have H := Sep.start0 w
  refine rets0 Try.func51 rfl rfl rfl ?_
  refine FW_seq ?_
  refine FW_region ?_
  refine FL_assign (h := ?_)
  refine FL_nil (Qseq_normal ?_)
  refine FW_seq ?_
  refine FW_region ?_
  refine FL_callN H (new_ok 5 (by decide)) rfl rfl (fun p w3 _ H3 _ => ?_)
  refine FL_move (h := ?_)
  refine FL_val (Gives.extract rfl rfl) rfl ?_
  refine FL_val (Gives.extract rfl rfl) rfl ?_
  refine FL_assign (h := ?_)
  refine FL_assign (h := ?_)
  refine FL_nil (Qseq_normal ?_)
  refine FW_seq ?_
  refine FW_region ?_
  refine FL_move (h := ?_)
  obtain ⟨F2, hp2, _⟩ := H3.focus At0
  have hz : DM.new 5 = z0 := rfl
  rw [hz] at hp2 H3
  refine FL_callN H3 (q := fun x => openH x p (openS z0).2) (val := fun x : Option Nat => .tuple #[.pointer (x.map fun s => ⟨s, 0, none⟩), I (openS z0).1]) (φ := fun x => x.isSome = decide ((openS z0).1 = 0)) (openS_ok hp2) rfl rfl (fun x w11 hx H0 _ => ?_)
  rw [zo0] at hx H0 ⊢
  obtain ⟨s, rfl⟩ : ∃ s, x = some s := by cases x with | none => cases hx | some s => exact ⟨s, rfl⟩
  have H11 := Sep.join0 (p := slotH s p ⟨0, 0, false⟩) H0
  refine FL_move (h := ?_)
  refine FL_val (Gives.extract rfl rfl) rfl ?_
  refine FL_val (Gives.extract rfl rfl) rfl ?_
  refine FL_assign (h := ?_)
  refine FL_assign (h := ?_)
  refine FL_nil (Qseq_normal ?_)
  refine FW_seq ?_
  refine FW_seq ?_
  refine FW_region ?_
  refine FL_move (h := ?_)
  refine FL_val (Gives.neq rfl rfl) rfl ?_
  refine FL_move (h := ?_)
  first | refine FL_splitP (t := 16) rfl (fun hs20 => ?_) (fun hs20 => ?_) | refine FL_split (t := 16) rfl (fun hs20 => ?_) (fun hs20 => ?_)
  · skip
    first | exact absurd rfl hs20 | exact (hs20 trivial).elim | exact absurd hs20 (by decide) | exact absurd hs20 (by simp) | omega --done
  · skip
    refine FL_on rfl rfl ?_
    refine FL_move (h := ?_)
    refine FL_on rfl rfl ?_
    refine FL_val (Gives.neq rfl rfl) rfl ?_
    refine FL_pickF (h := ?_)
    refine FL_move (h := ?_)
    first | refine FL_splitP (t := 20) rfl (fun hs26 => ?_) (fun hs26 => ?_) | refine FL_split (t := 20) rfl (fun hs26 => ?_) (fun hs26 => ?_)
    · skip
      first | exact absurd rfl hs26 | exact (hs26 trivial).elim | exact absurd hs26 (by decide) | exact absurd hs26 (by simp) | omega --done
    · skip
      refine FL_on rfl rfl ?_
      refine FL_move (h := ?_)
      refine FL_on rfl rfl ?_
      refine FL_call1 H11 At0 (fun F' hp _ => keeps_ok' (want := []) (ok_of zr0 (by decide) (by decide) rfl) (RowAt.nil _ _ _) (fun h => absurd h (Nat.lt_irrefl 0)) hp) (h := fun w30 H30 => ?_)
      rw [zk0'] at H30
      rw [zk0]
      refine FL_on rfl rfl ?_
      first | refine FL_val (Gives.notP rfl) rfl ?_ | refine FL_val (Gives.not rfl) rfl ?_
      refine FL_pickF (h := ?_)
      refine FL_move (h := ?_)
      first | refine FL_splitP (t := 25) rfl (fun hs34 => ?_) (fun hs34 => ?_) | refine FL_split (t := 25) rfl (fun hs34 => ?_) (fun hs34 => ?_)
      · skip
        first | exact absurd rfl hs34 | exact (hs34 trivial).elim | exact absurd hs34 (by decide) | exact absurd hs34 (by simp) | omega --done
      · skip
        refine FL_on rfl rfl ?_
        refine FL_move (h := ?_)
        refine FL_on rfl rfl ?_
        refine FL_callS (room_at H30.star0 At0 At1) (h := ?_)
        rw [zr0]
        refine FL_on rfl rfl ?_
        refine FL_val (Gives.neq rfl rfl) rfl ?_
        refine FL_pickF (h := ?_)
        refine FL_move (h := ?_)
        first | refine FL_splitP (t := 30) rfl (fun hs41 => ?_) (fun hs41 => ?_) | refine FL_split (t := 30) rfl (fun hs41 => ?_) (fun hs41 => ?_)
        · skip
          first | exact absurd rfl hs41 | exact (hs41 trivial).elim | exact absurd hs41 (by decide) | exact absurd hs41 (by simp) | omega --done
        · skip
          refine FL_on rfl rfl ?_
          refine FL_move (h := ?_)
          refine FL_on rfl rfl ?_
          refine FL_buildSlice H30 (Elems.one rfl rfl (Elems.one rfl rfl Elems.nil)) rfl rfl rfl (fun b44 w45 H45 _ => ?_)
          refine FL_on rfl rfl ?_
          refine FL_call1R (us := ([1, 2] : List UInt8).map B) (m := 2) (Sep.asRow H45 At0 (s := 1) (n := 2) rfl (by decide)) At0 (fun F' hp hrr hoff => saveS_ok (b := [1, 2]) (c := 2) (ok_of zr0 (by decide) (by decide) rfl) (z0s.mono (by decide)) (by decide) hrr hoff hp) (h := fun w47 H0 => ?_)
          rw [zs1'] at H0
          rw [zs1]
          have H47 := H0.drop0
          refine FL_on rfl rfl ?_
          refine FL_val (Gives.neq rfl rfl) rfl ?_
          refine FL_pickF (h := ?_)
          refine FL_move (h := ?_)
          first | refine FL_splitP (t := 36) rfl (fun hs51 => ?_) (fun hs51 => ?_) | refine FL_split (t := 36) rfl (fun hs51 => ?_) (fun hs51 => ?_)
          · skip
            first | exact absurd rfl hs51 | exact (hs51 trivial).elim | exact absurd hs51 (by decide) | exact absurd hs51 (by simp) | omega --done
          · skip
            refine FL_on rfl rfl ?_
            refine FL_move (h := ?_)
            refine FL_on rfl rfl ?_
            refine FL_buildSlice H47 (Elems.one rfl rfl (Elems.one rfl rfl Elems.nil)) rfl rfl rfl (fun b54 w55 H55 _ => ?_)
            refine FL_on rfl rfl ?_
            refine FL_call1R (us := ([1, 2] : List UInt8).map B) (m := 2) (Sep.asRow H55 At0 (s := 1) (n := 2) rfl (by decide)) At0 (fun F' hp hrr hoff => keeps_ok' (d := z1) (want := [1, 2]) (c := 2) (ok_of zr1 (by decide) (by decide) rfl) hrr hoff hp) (h := fun w57 H0 => ?_)
            rw [zk1'] at H0
            rw [zk1]
            have H57 := H0.drop0
            refine FL_on rfl rfl ?_
            first | refine FL_val (Gives.notP rfl) rfl ?_ | refine FL_val (Gives.not rfl) rfl ?_
            refine FL_pickF (h := ?_)
            refine FL_move (h := ?_)
            first | refine FL_splitP (t := 42) rfl (fun hs61 => ?_) (fun hs61 => ?_) | refine FL_split (t := 42) rfl (fun hs61 => ?_) (fun hs61 => ?_)
            · skip
              first | exact absurd rfl hs61 | exact (hs61 trivial).elim | exact absurd hs61 (by decide) | exact absurd hs61 (by simp) | omega --done
            · skip
              refine FL_on rfl rfl ?_
              refine FL_move (h := ?_)
              refine FL_on rfl rfl ?_
              refine FL_buildSlice H57 (Elems.one rfl rfl (Elems.one rfl rfl (Elems.one rfl rfl (Elems.one rfl rfl (Elems.one rfl rfl (Elems.one rfl rfl (Elems.one rfl rfl (Elems.one rfl rfl (Elems.one rfl rfl (Elems.one rfl rfl (Elems.one rfl rfl (Elems.one rfl rfl (Elems.one rfl rfl Elems.nil))))))))))))) rfl rfl rfl (fun b64 w65 H65 _ => ?_)
              refine FL_on rfl rfl ?_
              refine FL_callQ H65 (begins_at' (d := z1) (want := w13) (at_ := 0) (by decide) (Sep.blkRow H65 At0 (m := 13) (s := 1) rfl) (H65.front1.star0) At1) (h := fun w67 H0 _ => ?_)
              rw [zb1]
              have H67 := H0.drop0
              refine FL_on rfl rfl ?_
              first | refine FL_val (Gives.notP rfl) rfl ?_ | refine FL_val (Gives.not rfl) rfl ?_
              refine FL_pickF (h := ?_)
              refine FL_move (h := ?_)
              first | refine FL_splitP (t := 48) rfl (fun hs71 => ?_) (fun hs71 => ?_) | refine FL_split (t := 48) rfl (fun hs71 => ?_) (fun hs71 => ?_)
              · skip
                first | exact absurd rfl hs71 | exact (hs71 trivial).elim | exact absurd hs71 (by decide) | exact absurd hs71 (by simp) | omega --done
              · skip
                refine FL_on rfl rfl ?_
                refine FL_move (h := ?_)
                refine FL_on rfl rfl ?_
                refine FL_buildSlice H67 (Elems.one rfl rfl (Elems.one rfl rfl (Elems.one rfl rfl Elems.nil))) rfl rfl rfl (fun b74 w75 H75 _ => ?_)
                refine FL_on rfl rfl ?_
                refine FL_callQ H75 (begins_at' (d := z1) (want := [1, 2, 0]) (at_ := 3) (by decide) (Sep.blkRow H75 At0 (m := 3) (s := 1) rfl) (H75.front1.star0) At1) (h := fun w77 H0 _ => ?_)
                rw [zb2]
                have H77 := H0.drop0
                refine FL_on rfl rfl ?_
                first | refine FL_val (Gives.notP rfl) rfl ?_ | refine FL_val (Gives.not rfl) rfl ?_
                refine FL_pickF (h := ?_)
                refine FL_nil (Qseq_normal ?_)
                first | refine FW_condP rfl (fun hc80 => ?_) (fun hc80 => ?_) | refine FW_cond rfl (fun hc80 => ?_) (fun hc80 => ?_)
                · skip
                  first | exact absurd rfl hc80 | exact (hc80 trivial).elim | exact absurd hc80 (by decide) | exact absurd hc80 (by simp) | omega --done
                · skip
                  refine FW_skip (Qseq_normal ?_)
                  refine FW_seq ?_
                  refine FW_seq ?_
                  refine FW_region ?_
                  refine FL_move (h := ?_)
                  refine FL_call1 H77 At0 (fun F' hp _ => saveS_ok (d := z1) (b := []) (ok_of zr1 (by decide) (by decide) rfl) (z1s.mono (by decide)) (Nat.le_refl _) (RowAt.nil _ _ _) (fun h => absurd h (Nat.lt_irrefl 0)) hp) (h := fun w84 H84 => ?_)
                  rw [zs2'] at H84
                  rw [zs2]
                  refine FL_val (Gives.neq rfl rfl) rfl ?_
                  refine FL_move (h := ?_)
                  first | refine FL_splitP (t := 57) rfl (fun hs87 => ?_) (fun hs87 => ?_) | refine FL_split (t := 57) rfl (fun hs87 => ?_) (fun hs87 => ?_)
                  · skip
                    first | exact absurd rfl hs87 | exact (hs87 trivial).elim | exact absurd hs87 (by decide) | exact absurd hs87 (by simp) | omega --done
                  · skip
                    refine FL_on rfl rfl ?_
                    refine FL_move (h := ?_)
                    refine FL_on rfl rfl ?_
                    refine FL_call1 H84 At0 (fun F' hp _ => keeps_ok' (d := z2) (want := []) (ok_of zr2 (by decide) (by decide) rfl) (RowAt.nil _ _ _) (fun h => absurd h (Nat.lt_irrefl 0)) hp) (h := fun w91 H91 => ?_)
                    rw [zk2'] at H91
                    rw [zk2]
                    refine FL_on rfl rfl ?_
                    first | refine FL_val (Gives.notP rfl) rfl ?_ | refine FL_val (Gives.not rfl) rfl ?_
                    refine FL_pickF (h := ?_)
                    refine FL_move (h := ?_)
                    first | refine FL_splitP (t := 62) rfl (fun hs95 => ?_) (fun hs95 => ?_) | refine FL_split (t := 62) rfl (fun hs95 => ?_) (fun hs95 => ?_)
                    · skip
                      first | exact absurd rfl hs95 | exact (hs95 trivial).elim | exact absurd hs95 (by decide) | exact absurd hs95 (by simp) | omega --done
                    · skip
                      refine FL_on rfl rfl ?_
                      refine FL_move (h := ?_)
                      refine FL_on rfl rfl ?_
                      refine FL_make1 H91 (k := 257) (by decide) (by decide) (h := ?_)
                      intro bb w99 H99 _
                      refine FL_on rfl rfl ?_
                      refine FL_call1R (us := (List.replicate 257 (0 : UInt8)).map B) (m := 257) (Sep.asRow H99 At0 (s := 1) (n := 257) (by rw [List.length_replicate]) (by decide)) At0 (fun F' hp hrr hoff => by
                        have h1 := saveS_ok (d := z2) (b := List.replicate 257 0) (c := 257) (ok_of zr2 (by decide) (by decide) rfl) (z2s.mono (by decide)) (by rw [List.length_replicate]; decide) (by rw [List.length_replicate]; exact hrr) (by rw [List.length_replicate]; exact hoff) hp
                        rw [zs3, List.length_replicate] at h1
                        exact h1) (h := fun w101 H0 => ?_)
                      have H101 := H0.drop0
                      refine FL_on rfl rfl ?_
                      refine FL_val (Gives.neq rfl rfl) rfl ?_
                      refine FL_pickF (h := ?_)
                      refine FL_nil (Qseq_normal ?_)
                      first | refine FW_condP rfl (fun hc104 => ?_) (fun hc104 => ?_) | refine FW_cond rfl (fun hc104 => ?_) (fun hc104 => ?_)
                      · skip
                        first | exact absurd rfl hc104 | exact (hc104 trivial).elim | exact absurd hc104 (by decide) | exact absurd hc104 (by simp) | omega --done
                      · skip
                        refine FW_skip (Qseq_normal ?_)
                        refine FW_seq ?_
                        refine FW_region ?_
                        refine FL_move (h := ?_)
                        refine FL_buildSlice H101 (Elems.one rfl rfl Elems.nil) rfl rfl rfl (fun b107 w108 H108 _ => ?_)
                        refine FL_call1R (us := ([0] : List Int).map I) (m := 1) (Sep.asRow (H108.front1.star0.front2) At0 (s := 1) (n := 1) rfl (by decide)) At1 (fun F' hp hrr hoff => fail_ok (d := z2) (keep := [0]) (A := some _) (c := 1) (by have := z2s.2.2; omega) (by decide) hrr hoff hp) (h := fun w110 H0 => ?_)
                        have H110 := H0.drop0.join0
                        refine FL_nil (Qseq_normal ?_)
                        refine FW_seq ?_
                        refine FW_seq ?_
                        refine FW_region ?_
                        refine FL_move (h := ?_)
                        refine FL_buildSlice H110 (Elems.one rfl rfl Elems.nil) rfl rfl rfl (fun b112 w113 H113 _ => ?_)
                        refine FL_call1R (us := ([9] : List UInt8).map B) (m := 1) (Sep.asRow H113 At0 (s := 1) (n := 1) rfl (by decide)) At0 (fun F' hp hrr hoff => saveS_ok (d := z3) (b := [9]) (c := 1) (ok_of zr3 (by decide) (by decide) rfl) (z3s.mono (by decide)) (by decide) hrr hoff hp) (h := fun w115 H0 => ?_)
                        rw [zs4'] at H0
                        rw [zs4]
                        have H115 := H0.drop0
                        refine FL_val (Gives.neq rfl rfl) rfl ?_
                        refine FL_move (h := ?_)
                        first | refine FL_splitP (t := 75) rfl (fun hs118 => ?_) (fun hs118 => ?_) | refine FL_split (t := 75) rfl (fun hs118 => ?_) (fun hs118 => ?_)
                        · skip
                          first | exact absurd rfl hs118 | exact (hs118 trivial).elim | exact absurd hs118 (by decide) | exact absurd hs118 (by simp) | omega --done
                        · skip
                          refine FL_on rfl rfl ?_
                          refine FL_move (h := ?_)
                          refine FL_on rfl rfl ?_
                          refine FL_buildSlice H115 (Elems.one rfl rfl Elems.nil) rfl rfl rfl (fun b121 w122 H122 _ => ?_)
                          refine FL_on rfl rfl ?_
                          refine FL_call1R (us := ([9] : List UInt8).map B) (m := 1) (Sep.asRow H122 At0 (s := 1) (n := 1) rfl (by decide)) At0 (fun F' hp hrr hoff => saveS_ok (d := z4) (b := [9]) (c := 1) (ok_of zr4 (by decide) (by decide) rfl) (z4s.mono (by decide)) (by decide) hrr hoff hp) (h := fun w124 H0 => ?_)
                          rw [zs5] at H0
                          rw [zs5]
                          have H124 := H0.drop0
                          refine FL_on rfl rfl ?_
                          refine FL_val (Gives.neq rfl rfl) rfl ?_
                          refine FL_pickF (h := ?_)
                          refine FL_nil (Qseq_normal ?_)
                          first | refine FW_condP rfl (fun hc127 => ?_) (fun hc127 => ?_) | refine FW_cond rfl (fun hc127 => ?_) (fun hc127 => ?_)
                          · skip
                            first | exact absurd rfl hc127 | exact (hc127 trivial).elim | exact absurd hc127 (by decide) | exact absurd hc127 (by simp) | omega --done
                          · skip
                            refine FW_skip (Qseq_normal ?_)
                            refine FW_seq ?_
                            refine FW_region ?_
                            refine FL_move (h := ?_)
                            refine FL_call1 H124.star0 At1 (fun F' hp _ => boot_ok hp) (h := fun w131 H131 => ?_)
                            refine FL_nil (Qseq_normal ?_)
                            refine FW_seq ?_
                            refine FW_region ?_
                            refine FL_move (h := ?_)
                            obtain ⟨F3, hp3, _⟩ := H131.focus At1
                            refine FL_callN H131 (q := fun x => openH x p (openS z5).2) (val := fun x : Option Nat => .tuple #[.pointer (x.map fun s => ⟨s, 0, none⟩), I (openS z5).1]) (φ := fun x => x.isSome = decide ((openS z5).1 = 0)) (openS_ok hp3) rfl rfl (fun x w134 hx H0 _ => ?_)
                            rw [zo5] at hx H0 ⊢
                            obtain ⟨s2, rfl⟩ : ∃ s, x = some s := by cases x with | none => cases hx | some s => exact ⟨s, rfl⟩
                            have H134 := Sep.join0 (p := slotH s2 p ⟨3, 1, false⟩) H0.front1.drop0
                            refine FL_move (h := ?_)
                            refine FL_val (Gives.extract rfl rfl) rfl ?_
                            refine FL_val (Gives.extract rfl rfl) rfl ?_
                            refine FL_assign (h := ?_)
                            refine FL_assign (h := ?_)
                            refine FL_nil (Qseq_normal ?_)
                            refine FW_seq ?_
                            refine FW_region ?_
                            refine FL_move (h := ?_)
                            refine FL_val (Gives.eql rfl rfl) rfl ?_
                            refine FL_move (h := ?_)
                            first | refine FL_splitP (t := 90) rfl (fun hs143 => ?_) (fun hs143 => ?_) | refine FL_split (t := 90) rfl (fun hs143 => ?_) (fun hs143 => ?_)
                            · skip
                              refine FL_on rfl rfl ?_
                              refine FL_move (h := ?_)
                              refine FL_on rfl rfl ?_
                              refine FL_buildSlice H134 (Elems.one rfl rfl Elems.nil) rfl rfl rfl (fun b145 w146 H146 _ => ?_)
                              refine FL_on rfl rfl ?_
                              refine FL_call1R (us := ([9] : List UInt8).map B) (m := 1) (Sep.asRow H146 At0 (s := 1) (n := 1) rfl (by decide)) At0 (fun F' hp hrr hoff => keeps_ok' (d := z5) (want := [9]) (c := 1) (ok_of zr5 (by decide) (by decide) rfl) hrr hoff hp) (h := fun w148 H148 => ?_)
                              rw [zk5]
                              refine FL_pickT (h := ?_)
                              refine FL_assign (h := ?_)
                              refine FL_nil (Qseq_normal ?_)
                              refine FW_ret (Qfn_ret (hR := ?_))
                              exact ⟨rfl, H148.kept⟩
                            · skip
                              first | exact absurd rfl hs143 | exact (hs143 trivial).elim | exact absurd hs143 (by decide) | exact absurd hs143 (by simp) | omega --done
end
end Go.Proofs.Yteflbohpabdjkaa
