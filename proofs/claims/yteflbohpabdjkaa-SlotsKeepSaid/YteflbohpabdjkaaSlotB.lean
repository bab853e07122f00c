/-
  Save, walked, with its closures.
-/
import Derived.Test.YteflbohpabdjkaaSlotA
namespace Go.Proofs.Yteflbohpabdjkaa
open Go Go.Mw
set_option maxRecDepth 8000

theorem small_go {k : Nat} {x : Int × DM} {f : DM → Int × DM} (h : x.2.small k) (hf : ∀ d : DM, d.small k → (f d).2.small (k + 1)) : (go x f).2.small (k + 1) := by
  unfold go
  split
  · exact hf _ h
  · exact h.mono (by omega)
theorem small_wr {k : Nat} {a : Int} {b : List UInt8} {x : Int × DM} (h : x.2.small k) : ∀ j, (wr a b j x).2.small (k + j)
  | 0 => h
  | j + 1 => by
    have := small_go (f := fun d => d.write (a + j) (chunk b j)) (small_wr (a := a) (b := b) h j) fun d hd => small_write hd _ _
    exact this
theorem off_cut {A : Option Addr} {n k cap : Nat} {F : Nat → Prop} (h : Off A n F) (j : Nat) : Off (if cap = k then A else A.map (·.add j)) (n - k) F := fun hn ad hA hb => by
  rcases A with _ | a
  · split at hA <;> cases hA
  · split at hA
    · injection hA with hA
      subst hA
      exact h (by omega) _ rfl hb
    · injection hA with hA
      subst hA
      rw [add_block] at hb
      exact h (by omega) _ rfl hb
theorem off_le {A : Option Addr} {n m : Nat} {F : Nat → Prop} (h : Off A n F) (hm : m ≤ n) : Off A m F := fun hn ad hA hb => h (by omega) ad hA hb
section
variable {p s be : Nat} {d : DM} {m : SM} {F : Nat → Prop} {w w₀ : World} {S : Nat → Prop} {rs : List HP} {put : HP → List HP}
theorem do_ok {g : FuncId} {fs cs : List Value} {x : Int × DM} {f : DM → Int × DM} [Enters Try.prog g] (H : Sep w₀ S (blk be [I x.1] 33 :: diskH p x.2 :: rs) w)
    (hg : x.1 = 0 → Rets Try.prog g (fs ++ [] ++ cs) w fun v w' => v = I (f x.2).1 ∧ Sep w₀ S (blk be [I 0] 33 :: diskH p (f x.2).2 :: rs) w') :
    Rets Try.prog 74 [.func (.func g) fs.toArray cs.toArray, .pointer (some ⟨be, 0, none⟩)] w fun v w' => v = .tuple #[] ∧ Sep w₀ S (blk be [I (go x f).1] 33 :: diskH p (go x f).2 :: rs) w' := by
  refine rets2 Try.func74 rfl rfl rfl rfl ?_
  refine FW_seq ?_
  refine FW_region ?_
  refine FL_load H (h := ?_)
  refine FL_val (Gives.eql rfl rfl) rfl ?_
  refine FL_nil (Qseq_normal ?_)
  first | refine FW_condP rfl (fun hc3 => ?_) (fun hc3 => ?_) | refine FW_cond rfl (fun hc3 => ?_) (fun hc3 => ?_)
  · skip
    have he : x.1 = 0 := hc3
    have hgo : go x f = f x.2 := by unfold go; rw [if_pos he]
    rw [hgo]
    refine FW_region ?_
    refine FL_move (h := ?_)
    refine FL_callV (fs := fs) (cs := cs) (vals := []) rfl (hg he) rfl rfl (fun v w7 hv => ?_)
    obtain ⟨rfl, H7⟩ := hv
    refine FL_store H7 (h := ?_)
    intro w9 H9
    refine FL_nil (Qfn_normal (hR := ?_))
    exact ⟨rfl, H9⟩
  · skip
    have he : ¬ x.1 = 0 := hc3
    have hgo : go x f = x := by unfold go; rw [if_neg he]
    rw [hgo]
    refine FW_skip (Qfn_normal (hR := ?_))
    exact ⟨rfl, H⟩
theorem flushV {x : DM} {e : Int} (he : e = 0) (hs : x.small 1000000) (H : Sep w₀ S (blk be [I e] 33 :: diskH p x :: rs) w) :
    Rets Try.prog 28 ([.pointer (some ⟨p, 0, none⟩)] ++ [] ++ []) w fun v w' => v = I x.flush.1 ∧ Sep w₀ S (blk be [I 0] 33 :: diskH p x.flush.2 :: rs) w' := by
  subst he
  obtain ⟨F', hp, hF', hput⟩ := H.focus At1
  refine Rets.mono (flush_ok (by have := hs.1; omega) (by have := hs.2.1; omega) (by have := hs.2.2; unfold fits; omega) hp) fun v w' ⟨h1, hk, F2, hq, hsub⟩ => ?_
  exact ⟨h1, hput _ F2 _ hk hq hsub⟩
theorem writeV {x : DM} {b8 b10 b2 : Nat} {at_ : Int} {A : Option Addr} {c : Nat} {l : List UInt8} {e : Int} (he : e = 0) (hs : x.small 1000000) (hr : RowAt w₀ A l.length 1 (l.map B)) (hA : Off A l.length S)
    (H : Sep w₀ S (blk be [I e] 33 :: diskH p x :: blk b10 [.slice A l.length c] 27 :: blk b8 [I at_] 3 :: blk b2 [.pointer (some ⟨s, 0, none⟩)] 70 :: slotH s p m :: rs) w) :
    Rets Try.prog 76 ([] ++ [] ++ [.pointer (some ⟨b2, 0, none⟩), .pointer (some ⟨b8, 0, none⟩), .pointer (some ⟨b10, 0, none⟩)]) w fun v w' => v = I (x.write at_ l).1 ∧
      Sep w₀ S (blk be [I 0] 33 :: diskH p (x.write at_ l).2 :: blk b10 [.slice A l.length c] 27 :: blk b8 [I at_] 3 :: blk b2 [.pointer (some ⟨s, 0, none⟩)] 70 :: slotH s p m :: rs) w' := by
  subst he
  refine rets3 Try.func76 rfl rfl rfl rfl ?_
  refine FW_seq ?_
  refine FW_region ?_
  refine FL_assign (h := ?_)
  refine FL_nil (Qseq_normal ?_)
  refine FW_seq ?_
  refine FW_drawS rfl H (h := fun hok2 w4 H4 => ?_)
  refine FGload hok2 0 H4 (h := ?_)
  refine FGp hok2 1 rfl rfl (fun _ => (Gives.nilCheck rfl)) (by kernel_rfl) ?_
  first | refine FGp hok2 2 rfl rfl (fun _ => (Gives.field0 rfl)) (by kernel_rfl) ?_ | refine FGp hok2 2 rfl rfl (fun _ => (Gives.field rfl)) (by kernel_rfl) ?_ | refine FGp hok2 2 rfl rfl (fun _ => (Gives.fieldA rfl)) (by kernel_rfl) ?_
  refine FGload hok2 3 (b := s) (cs := slotCells p m) H4 (hat := At5) (h := ?_)
  refine FGload hok2 4 H4 (h := ?_)
  refine FGload hok2 5 H4 (h := ?_)
  refine FGcall1 hok2 6 [] H4 At1 (fun F' hp hF' => write_ok (by have := hs.1; omega) (by have := hs.2.1; omega) (by have := hs.2.2; unfold fits; omega) (hr.keepS H4.kept hA) (hA.of hr hF' (by decide)) hp) (h := fun w12 H12 => ⟨Stab_nil, ?_⟩)
  refine FGp hok2 7 rfl rfl (fun _ => Gives.assign rfl) (by kernel_rfl) ?_
  refine FG_end hok2 (by kernel_rfl) ?_
  refine Qseq_normal ?_
  refine FW_ret (Qfn_ret (hR := ?_))
  exact ⟨rfl, H12⟩
theorem rootV {x : DM} {b11 b2 : Nat} {l : List UInt8} {e : Int} (he : e = 0) (hl : l.length = 128) (hs : x.small 1000000)
    (H : Sep w₀ S (blk be [I e] 33 :: diskH p x :: blk b11 (l.map B) 112 :: blk b2 [.pointer (some ⟨s, 0, none⟩)] 70 :: slotH s p m :: rs) w) :
    Rets Try.prog 78 ([] ++ [] ++ [.pointer (some ⟨b2, 0, none⟩), .pointer (some ⟨b11, 0, none⟩)]) w fun v w' => v = I (x.write 0 l).1 ∧
      Sep w₀ S (blk be [I 0] 33 :: diskH p (x.write 0 l).2 :: blk b11 (l.map B) 112 :: blk b2 [.pointer (some ⟨s, 0, none⟩)] 70 :: slotH s p m :: rs) w' := by
  subst he
  refine rets2 Try.func78 rfl rfl rfl rfl ?_
  refine FW_seq ?_
  refine FW_region ?_
  refine FL_assign (h := ?_)
  refine FL_nil (Qseq_normal ?_)
  refine FW_seq ?_
  refine FW_drawS rfl H (h := fun hok2 w4 H4 => ?_)
  refine FGload hok2 0 H4 (h := ?_)
  refine FGp hok2 1 rfl rfl (fun _ => (Gives.nilCheck rfl)) (by kernel_rfl) ?_
  first | refine FGp hok2 2 rfl rfl (fun _ => (Gives.field0 rfl)) (by kernel_rfl) ?_ | refine FGp hok2 2 rfl rfl (fun _ => (Gives.field rfl)) (by kernel_rfl) ?_ | refine FGp hok2 2 rfl rfl (fun _ => (Gives.fieldA rfl)) (by kernel_rfl) ?_
  refine FGload hok2 3 (b := s) (cs := slotCells p m) H4 (hat := At4) (h := ?_)
  refine FGp hok2 4 rfl rfl (fun _ => (Gives.sliceArr rfl)) (by kernel_rfl) ?_
  have HQ := H4.front2
  obtain ⟨F0, Fq, hp0, hq0, hdj0, hS0, hput0⟩ := HQ.focus1 At1
  refine FGcall hok2 5 [] rfl rfl (write_ok (b := l) (c := 128) (at_ := 0) (A := some ⟨b11, 0, none⟩) (by have := hs.1; omega) (by have := hs.2.1; omega) (by have := hs.2.2; unfold fits; omega)
    (by rw [hl]; exact (Sep.start1 hq0).blkRow At0 (by simp [hl])) (fun _ ad hA hb => by injection hA with hA; subst hA; exact hdj0 _ ((hq0.1 b11).2 rfl) hb) hp0) (by rw [hl]; rfl) (by kernel_rfl) (by kernel_rfl) (fun v w11 hv => ?_)
  obtain ⟨rfl, hk1, F1, hq1, hs1⟩ := hv
  have H11 := (hput0 _ F1 _ hk1 hq1 hs1).front1.front2.front1
  refine ⟨Stab_nil, ?_⟩
  refine FGp hok2 6 rfl rfl (fun _ => Gives.assign rfl) (by kernel_rfl) ?_
  refine FG_end hok2 (by kernel_rfl) ?_
  refine Qseq_normal ?_
  refine FW_ret (Qfn_ret (hR := ?_))
  exact ⟨rfl, H11⟩
end
end Go.Proofs.Yteflbohpabdjkaa
