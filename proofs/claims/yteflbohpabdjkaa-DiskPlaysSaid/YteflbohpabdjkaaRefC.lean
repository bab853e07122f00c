/-
  The reference's disk: New, Boot, Crash, Fail, walked.
-/
import Derived.Test.YteflbohpabdjkaaRefB
namespace Go.Proofs.Yteflbohpabdjkaa
open Go Go.Mw
set_option maxRecDepth 8000

def AM.new (n : Int) : AM := ⟨n, fun _ => zeroSec, [], false, 0, 0, []⟩
section
variable {q : Nat} {a : AM} {F : Nat → Prop} {w w₀ : World} {S : Nat → Prop} {rs : List HP}
theorem newR_ok (n : Int) (hn : 1 ≤ n ∧ n ≤ 65536) : Rets Try.prog 33 [I n] w fun v w' => ∃ q, v = .tuple #[.pointer (some ⟨q, 0, none⟩), I 0] ∧ True ∧ Turn noB (refA q (AM.new n)) w w' := by
  have H := Sep.start0 w
  refine rets1 Try.func33 rfl rfl rfl rfl ?_
  refine FW_seq ?_
  refine FW_region ?_
  refine FL_assign (h := ?_)
  refine FL_assign (h := ?_)
  refine FL_nil (Qseq_normal ?_)
  refine FW_seq ?_
  refine FW_seq ?_
  refine FW_region ?_
  refine FL_move (h := ?_)
  refine FL_val (Gives.lss rfl rfl) rfl ?_
  refine FL_move (h := ?_)
  first | refine FL_splitP (t := 6) rfl (fun hs6 => ?_) (fun hs6 => ?_) | refine FL_split (t := 6) rfl (fun hs6 => ?_) (fun hs6 => ?_)
  · skip
    omega --done
  · skip
    refine FL_on rfl rfl ?_
    refine FL_move (h := ?_)
    refine FL_on rfl rfl ?_
    refine FL_val (Gives.gtr rfl rfl) rfl ?_
    refine FL_pickF (h := ?_)
    refine FL_nil (Qseq_normal ?_)
    first | refine FW_condP rfl (fun hc11 => ?_) (fun hc11 => ?_) | refine FW_cond rfl (fun hc11 => ?_) (fun hc11 => ?_)
    · skip
      omega --done
    · skip
      refine FW_skip (Qseq_normal ?_)
      refine FW_seq ?_
      refine FW_region ?_
      refine FL_move (h := ?_)
      refine FL_val (Gives.build (Fills.one rfl rfl rfl (by simp) rfl Fills.nil)) rfl ?_
      refine FL_box H (h := ?_)
      intro b15 w16 H16 k15
      refine FL_assign (h := ?_)
      refine FL_assign (h := ?_)
      refine FL_nil (Qseq_normal ?_)
      refine FW_ret (Qfn_ret (hR := ?_))
      have h1 := ((((H16.poolNil 5).nilRow 3 1).nilRow 108 2).nilRow 27 1).front4
      have e : RM.abs { many := n, kept := [], opn := [], dead := false, ops := 0, left := 0, keep := [] } = AM.new n := by
        unfold RM.abs AM.new
        congr 1
        funext k
        unfold kf
        split <;> rfl
      have h2 := Sep.shutA (Sep.shutRef (m := { many := n, kept := [], opn := [], dead := false, ops := 0, left := 0, keep := [] }) (pool := []) ⟨fun _ h => (by cases h), fun _ h => (by cases h), fun _ h => (by cases h), fun _ h => (by cases h), hn, by simp only [List.length_nil]; omega⟩ h1)
      rw [e] at h2
      exact ⟨_, rfl, trivial, h2.turn⟩
theorem bootR_ok (h : (refA q a).ok F w) : Rets Try.prog 42 [.pointer (some ⟨q, 0, none⟩)] w fun v w' => v = .tuple #[] ∧ Turn F (refA q a.boot) w w' := by
  obtain ⟨m, rfl, H⟩ := Sep.openA (Sep.start1 h)
  obtain ⟨vk, vo, ve, pool, hok, H⟩ := Sep.openRef H
  refine rets1 Try.func42 rfl rfl rfl rfl ?_
  refine FW_region ?_
  refine FL_move (h := ?_)
  refine FL_val (Gives.nilCheck rfl) rfl ?_
  first | refine FL_val (Gives.field0 rfl) rfl ?_ | refine FL_val (Gives.field rfl) rfl ?_ | refine FL_val (Gives.fieldA rfl) rfl ?_
  refine FL_store H (h := ?_)
  intro w5 H5
  refine FL_nil (Qfn_normal (hR := ?_))
  exact ⟨rfl, (Sep.shutA (m := { m with dead := false }) (Sep.shutRef ⟨hok.kept, hok.opn, hok.len, hok.at_, hok.many, hok.klen⟩ H5)).turn⟩
theorem crashR_ok {A : Option Addr} {c : Nat} {keep : List Int} (hol : (a.opn.length : Int) ≤ 1000000) (hkl : (keep.length : Int) ≤ 1000000) (hr : RowAt w A keep.length 1 (keep.map I)) (hA : Off A keep.length F) (h : (refA q a).ok F w) :
    Rets Try.prog 41 [.pointer (some ⟨q, 0, none⟩), .slice A keep.length c] w fun v w' => v = .tuple #[] ∧ Turn F (refA q (a.crash keep)) w w' := by
  obtain ⟨m, rfl, H⟩ := Sep.openA (Sep.start1 h)
  obtain ⟨vk, vo, ve, pool, hok, H⟩ := Sep.openRef H
  have hol2 : (m.opn.length : Int) ≤ 1000000 := by
    have e : m.abs.opn.length = m.opn.length := by simp [RM.abs]
    rw [e] at hol
    exact hol
  refine rets2 Try.func41 rfl rfl rfl rfl ?_
  refine FW_seq ?_
  refine FW_region ?_
  refine FL_move (h := ?_)
  refine FL_val (Gives.nilCheck rfl) rfl ?_
  first | refine FL_val (Gives.field0 rfl) rfl ?_ | refine FL_val (Gives.field rfl) rfl ?_ | refine FL_val (Gives.fieldA rfl) rfl ?_
  refine FL_load H (h := ?_)
  first | refine FL_val (Gives.notP rfl) rfl ?_ | refine FL_val (Gives.not rfl) rfl ?_
  refine FL_nil (Qseq_normal ?_)
  first | refine FW_condP rfl (fun hc6 => ?_) (fun hc6 => ?_) | refine FW_cond rfl (fun hc6 => ?_) (fun hc6 => ?_)
  · skip
    have hC := hc6
    refine FW_region ?_
    refine FL_move (h := ?_)
    refine FL_move (h := ?_)
    have HB : Sep w F [starL (refParts q m (vk, vo, ve, pool))] w := Sep.bundle (l := refParts q m (vk, vo, ve, pool)) H
    refine FL_call1 HB At0 (fun F' hp hF' => fallR_ok (m := m) (y := (vk, vo, ve, pool)) (keep := keep) (A := A) (c := c) hok hkl hol2 hp fun w' l1 l2 Hw => hr.keepS (HB.kept.trans Hw.kept hF') hA) (h := fun w11 H11 => ?_)
    refine FL_nil (Qfn_normal (hR := ?_))
    unfold AM.crash
    first | exact ⟨rfl, by rw [if_neg (show ¬ m.abs.dead = true by simpa [RM.abs] using hC)]; exact H11.turn⟩ | exact ⟨rfl, by rw [if_pos (show m.abs.dead = true by simpa [RM.abs] using hC)]; exact Turn.refl h⟩
  · skip
    have hC := hc6
    refine FW_skip (Qfn_normal (hR := ?_))
    unfold AM.crash
    first | exact ⟨rfl, by rw [if_neg (show ¬ m.abs.dead = true by simpa [RM.abs] using hC)]; exact H.turn⟩ | exact ⟨rfl, by rw [if_pos (show m.abs.dead = true by simpa [RM.abs] using hC)]; exact Turn.refl h⟩
theorem failR_ok {A : Option Addr} {c : Nat} {ops : Int} {keep : List Int} (hkl : keep.length ≤ 1000000) (hr : RowAt w A keep.length 1 (keep.map I)) (hA : Off A keep.length F) (h : (refA q a).ok F w) :
    Rets Try.prog 40 [.pointer (some ⟨q, 0, none⟩), I ops, .slice A keep.length c] w fun v w' => v = .tuple #[] ∧ Turn F (refA q (a.fail ops keep)) w w' := by
  obtain ⟨m, rfl, H⟩ := Sep.openA (Sep.start1 h)
  obtain ⟨vk, vo, ve, pool, hok, H⟩ := Sep.openRef H
  refine rets3 Try.func40 rfl rfl rfl rfl ?_
  refine FW_seq ?_
  refine FW_seq ?_
  refine FW_region ?_
  refine FL_move (h := ?_)
  refine FL_val (Gives.nilCheck rfl) rfl ?_
  first | refine FL_val (Gives.field0 rfl) rfl ?_ | refine FL_val (Gives.field rfl) rfl ?_ | refine FL_val (Gives.fieldA rfl) rfl ?_
  refine FL_load H (h := ?_)
  refine FL_nil (Qseq_normal ?_)
  first | refine FW_condP rfl (fun hc5 => ?_) (fun hc5 => ?_) | refine FW_cond rfl (fun hc5 => ?_) (fun hc5 => ?_)
  · skip
    have hC := hc5
    refine FW_ret (Qseq_ret (Qfn_ret (hR := ?_)))
    exact ⟨rfl, by unfold AM.fail; rw [if_pos (show m.abs.dead = true from hC)]; exact Turn.refl h⟩
  · skip
    have hC := hc5
    refine FW_skip (Qseq_normal ?_)
    refine FW_seq ?_
    refine FW_region ?_
    refine FL_move (h := ?_)
    refine FL_move (h := ?_)
    refine FL_val (Gives.max rfl rfl) rfl ?_
    refine FL_val (Gives.nilCheck rfl) rfl ?_
    first | refine FL_val (Gives.field0 rfl) rfl ?_ | refine FL_val (Gives.field rfl) rfl ?_ | refine FL_val (Gives.fieldA rfl) rfl ?_
    refine FL_store H (h := ?_)
    intro w15 H15
    refine FL_nil (Qseq_normal ?_)
    refine FW_seq ?_
    refine FW_region ?_
    refine FL_move (h := ?_)
    refine FL_val (Gives.nilCheck rfl) rfl ?_
    first | refine FL_val (Gives.field0 rfl) rfl ?_ | refine FL_val (Gives.field rfl) rfl ?_ | refine FL_val (Gives.fieldA rfl) rfl ?_
    refine FL_store H15 (h := ?_)
    intro w20 H20
    refine FL_nil (Qseq_normal ?_)
    refine FW_region ?_
    refine FL_move (h := ?_)
    refine FL_move (h := ?_)
    refine FL_val (Gives.nilCheck rfl) rfl ?_
    first | refine FL_val (Gives.field0 rfl) rfl ?_ | refine FL_val (Gives.field rfl) rfl ?_ | refine FL_val (Gives.fieldA rfl) rfl ?_
    refine FL_load H20 (h := ?_)
    refine FL_move (h := ?_)
    have H2 := H20.nilRow 3 1
    refine FL_append H2 (hx := by exact rfl) (hy := by exact rfl) (hat := At0) (hr.keepS H20.kept hA) (by intro u hu; obtain ⟨k, _, rfl⟩ := List.mem_map.1 hu; rfl) (h63 := by unfold maxLen; omega) (hbytes := by omega) (h := fun vv w28 H28 => ?_)
    rw [Nat.zero_add, List.nil_append] at H28
    obtain ⟨Av, cv, hv27, _⟩ := Sep.rowForm H28 At0
    subst hv27
    refine FL_val (Gives.nilCheck rfl) rfl ?_
    first | refine FL_val (Gives.field0 rfl) rfl ?_ | refine FL_val (Gives.field rfl) rfl ?_ | refine FL_val (Gives.fieldA rfl) rfl ?_
    refine FL_store H28 (h := ?_)
    intro w32 H32
    refine FL_nil (Qfn_normal (hR := ?_))
    have H5 := H32.front4.drop0
    have e : RM.abs { m with left := max ops 0, keep := keep } = m.abs.fail ops keep := by
      unfold AM.fail
      rw [if_neg (show ¬ m.abs.dead = true by simpa [RM.abs] using hC)]
      rfl
    have H6 := Sep.shutA (Sep.shutRef (m := { m with left := max ops 0, keep := keep }) ⟨hok.kept, hok.opn, hok.len, hok.at_, hok.many, hok.klen⟩ H5.front3.front3.front3)
    rw [e] at H6
    exact ⟨rfl, H6.turn⟩
end
end Go.Proofs.Yteflbohpabdjkaa
