/-
  told: both disks read the same; walked.
-/
import Derived.Test.YteflbohpabdjkaaRefW
import Derived.Test.YteflbohpabdjkaaMwC
namespace Go.Proofs.Yteflbohpabdjkaa
open Go Go.Mw
set_option maxRecDepth 8000

section
variable {p q : Nat} {d : DM} {a : AM} {F : Nat → Prop} {w w₀ : World} {S : Nat → Prop} {rs : List HP} {put : HP → List HP}
theorem size_at {k : Int} (H : Sep w₀ S rs w) (hat : At rs (diskH p d) put) (hb : d.size = k) : Rets Try.prog 45 [.pointer (some ⟨p, 0, none⟩)] w fun v w' => v = I k ∧ w = w' := by
  obtain ⟨F, hp, _⟩ := H.focus hat
  rw [← hb]
  exact size_ok hp
theorem readR_at (hs : a.small 100000) (H : Sep w₀ S rs w) (hat : At rs (refA q a) put) (at_ : Int) :
    Rets Try.prog 38 [.pointer (some ⟨q, 0, none⟩), I at_] w fun v w' => ∃ s, v = .tuple #[s, I (a.read at_).2] ∧ True ∧ Turn noB (rowH 5 1 s ((a.read at_).1.getD []).length (((a.read at_).1.getD []).map B)) w w' := by
  obtain ⟨F, hp, _⟩ := H.focus hat
  exact readR_ok hs hp
theorem read_len {d : DM} (hwf : d.wf) (k : Int) : ((d.read k).1.getD []).length ≤ 128 := by
  unfold DM.read
  split
  · exact Nat.zero_le _
  · exact Nat.le_of_eq (DM.sec_length hwf k)
theorem told_ok (hsim : Sim d a) (hs : a.small 100000) {F1 F2 : Nat → Prop} (h1 : (diskH p d).ok F1 w) (h2 : (refA q a).ok F2 w) :
    Rets Try.prog 44 [.pointer (some ⟨p, 0, none⟩), .pointer (some ⟨q, 0, none⟩)] w fun v w' => v = .bool true ∧ Kept noB w w' := by
  have H := Sep.start0 w
  obtain ⟨m, hm, vk, vo, ve, pool, hok, hb, _⟩ := refFacts h2
  subst hm
  refine rets2 Try.func44 rfl rfl rfl rfl ?_
  refine FW_seq ?_
  refine FW_region ?_
  refine FL_assign (h := ?_)
  refine FL_nil (Qseq_normal ?_)
  refine FW_seq ?_
  refine FW_seq ?_
  refine FW_drawS rfl H (h := fun hok2 w4 H4 => ?_)
  refine FGmove hok2 0 (h := ?_)
  refine FGmove hok2 2 (h := ?_)
  refine FGp hok2 3 rfl rfl (fun _ => (Gives.nilCheck rfl)) (by kernel_rfl) ?_
  first | refine FGp hok2 4 rfl rfl (fun _ => (Gives.field0 rfl)) (by kernel_rfl) ?_ | refine FGp hok2 4 rfl rfl (fun _ => (Gives.field rfl)) (by kernel_rfl) ?_ | refine FGp hok2 4 rfl rfl (fun _ => (Gives.fieldA rfl)) (by kernel_rfl) ?_
  refine FGl hok2 5 rfl rfl (Gives.load1 rfl (H4.kept.get hb id) rfl) (by kernel_rfl) ?_
  refine FGcallS hok2 1 [(5, false), (4, true), (3, true), (2, true)] H4 (size_ok (HP.stay h1 H4.kept)) (h := fun w9 H9 => ⟨(Stab_cons rfl rfl (Gives.load1 rfl (H9.kept.get hb id) rfl) rfl (Stab_pure (Stab_pure (Stab_pure (Stab_nil))))), ?_⟩)
  refine FGp hok2 6 rfl rfl (fun _ => (Gives.neq rfl rfl)) (by kernel_rfl) ?_
  refine FGmove hok2 7 (h := ?_)
  first | refine FG_splitP (t := 18) rfl (fun hs11 => ?_) (fun hs11 => ?_) | refine FG_split (t := 18) rfl (fun hs11 => ?_) (fun hs11 => ?_)
  · skip
    exact absurd hsim.size hs11 --done
  · skip
    refine FGmove hok2 8 (h := ?_)
    refine FGmove hok2 10 (h := ?_)
    refine FGp hok2 11 rfl rfl (fun _ => (Gives.nilCheck rfl)) (by kernel_rfl) ?_
    first | refine FGp hok2 12 rfl rfl (fun _ => (Gives.field0 rfl)) (by kernel_rfl) ?_ | refine FGp hok2 12 rfl rfl (fun _ => (Gives.field rfl)) (by kernel_rfl) ?_ | refine FGp hok2 12 rfl rfl (fun _ => (Gives.fieldA rfl)) (by kernel_rfl) ?_
    refine FGl hok2 13 rfl rfl (Gives.load1 rfl (H9.kept.get hb id) rfl) (by kernel_rfl) ?_
    refine FGcallS hok2 9 [(13, false), (12, true), (11, true), (10, true)] H9 (alive_ok (HP.stay h1 H9.kept)) (h := fun w17 H17 => ⟨(Stab_cons rfl rfl (Gives.load1 rfl (H17.kept.get hb id) rfl) rfl (Stab_pure (Stab_pure (Stab_pure (Stab_nil))))), ?_⟩)
    refine FGp hok2 14 rfl rfl (fun _ => (Gives.eqlB rfl rfl)) (by kernel_rfl) ?_
    refine FGp hok2 15 rfl rfl (fun _ => Gives.pickF rfl rfl) (by kernel_rfl) ?_
    refine FGmove hok2 16 (h := ?_)
    first | refine FG_splitP (t := 27) rfl (fun hs20 => ?_) (fun hs20 => ?_) | refine FG_split (t := 27) rfl (fun hs20 => ?_) (fun hs20 => ?_)
    · skip
      (rw [show d.dead = m.dead from hsim.dead] at hs20; cases hq : m.dead <;> rw [hq] at hs20 <;> cases hs20) --done
    · skip
      refine FGmove hok2 17 (h := ?_)
      refine FGmove hok2 19 (h := ?_)
      refine FGp hok2 20 rfl rfl (fun _ => (Gives.nilCheck rfl)) (by kernel_rfl) ?_
      first | refine FGp hok2 21 rfl rfl (fun _ => (Gives.field0 rfl)) (by kernel_rfl) ?_ | refine FGp hok2 21 rfl rfl (fun _ => (Gives.field rfl)) (by kernel_rfl) ?_ | refine FGp hok2 21 rfl rfl (fun _ => (Gives.fieldA rfl)) (by kernel_rfl) ?_
      refine FGl hok2 22 rfl rfl (Gives.load1 rfl (H17.kept.get hb id) rfl) (by kernel_rfl) ?_
      refine FGcallS hok2 18 [(22, false), (21, true), (20, true), (19, true)] H17 (ops_ok (HP.stay h1 H17.kept)) (h := fun w26 H26 => ⟨(Stab_cons rfl rfl (Gives.load1 rfl (H26.kept.get hb id) rfl) rfl (Stab_pure (Stab_pure (Stab_pure (Stab_nil))))), ?_⟩)
      refine FGp hok2 23 rfl rfl (fun _ => (Gives.neq rfl rfl)) (by kernel_rfl) ?_
      refine FGp hok2 24 rfl rfl (fun _ => Gives.pickF rfl rfl) (by kernel_rfl) ?_
      refine FG_end hok2 (by kernel_rfl) ?_
      refine Qseq_normal ?_
      first | refine FW_condP rfl (fun hc29 => ?_) (fun hc29 => ?_) | refine FW_cond rfl (fun hc29 => ?_) (fun hc29 => ?_)
      · skip
        exact absurd hsim.ops hc29 --done
      · skip
        refine FW_skip (Qseq_normal ?_)
        refine FW_seq ?_
        refine FW_seq ?_
        refine FW_region ?_
        refine FL_assign (h := ?_)
        refine FL_nil (Qseq_normal ?_)
        refine FW_block ?_
        refine FW_loop' (fun n : Nat => [(0, .pointer (some ⟨p, 0, none⟩)), (1, .pointer (some ⟨q, 0, none⟩)), (5, I ((n : Int) - 1))])
          (fun n w' => n ≤ 10 ∧ Sep w noB [] w') (fun n _ => 10 - n) 0 ⟨rfl, rfl, rfl, trivial⟩ ⟨by decide, H26⟩ (fun n τ w33 hI => ?_)
        obtain ⟨hn, H33⟩ := hI
        try simp only [upds, like, upd_ds, und_ds]
        refine FW_seq ?_
        refine FW_seq ?_
        refine FW_region ?_
        refine FL_move (h := ?_)
        refine FL_move (h := ?_)
        refine FL_val (Gives.nilCheck rfl) rfl ?_
        first | refine FL_val (Gives.field0 rfl) rfl ?_ | refine FL_val (Gives.field rfl) rfl ?_ | refine FL_val (Gives.fieldA rfl) rfl ?_
        refine FL_loadB (H33.kept.get hb id) (h := ?_)
        refine FL_val (Gives.leq rfl rfl) rfl ?_
        refine FL_move (h := ?_)
        first | refine FL_splitP (t := 42) rfl (fun hs41 => ?_) (fun hs41 => ?_) | refine FL_split (t := 42) rfl (fun hs41 => ?_) (fun hs41 => ?_)
        · skip
          have hn2 := hs41
          refine FL_on rfl rfl ?_
          refine FL_move (h := ?_)
          refine FL_on rfl rfl ?_
          refine FL_val (Gives.lss rfl rfl) rfl ?_
          refine FL_pickT (h := ?_)
          refine FL_nil (Qseq_normal ?_)
          first | refine FW_condP rfl (fun hc46 => ?_) (fun hc46 => ?_) | refine FW_cond rfl (fun hc46 => ?_) (fun hc46 => ?_)
          · skip
            refine FW_skip (Qseq_normal ?_)
            refine FW_seq ?_
            refine FW_block ?_
            refine FW_seq ?_
            refine FW_region ?_
            refine FL_move (h := ?_)
            refine FL_move (h := ?_)
            refine FL_callN H33 (read_ok (HP.stay h1 H33.kept) (at_ := (n : Int) - 1)) rfl rfl (fun y w50 _ H50 _ => ?_)
            have hrl := read_len hsim.wf ((n : Int) - 1)
            rw [hsim.read] at H50 hrl ⊢
            obtain ⟨Ay, cy, hy, _⟩ := Sep.rowForm H50 At0
            subst hy
            refine FL_move (h := ?_)
            refine FL_val (Gives.extract rfl rfl) rfl ?_
            refine FL_val (Gives.extract rfl rfl) rfl ?_
            refine FL_assign (h := ?_)
            refine FL_assign (h := ?_)
            refine FL_nil (Qseq_normal ?_)
            refine FW_seq ?_
            refine FW_region ?_
            refine FL_move (h := ?_)
            refine FL_move (h := ?_)
            refine FL_callN H50 (readR_ok hs (HP.stay h2 H50.kept) (at_ := (n : Int) - 1)) rfl rfl (fun z w59 _ H59 _ => ?_)
            obtain ⟨Az, cz, hz, _⟩ := Sep.rowForm H59 At0
            subst hz
            refine FL_move (h := ?_)
            refine FL_val (Gives.extract rfl rfl) rfl ?_
            refine FL_val (Gives.extract rfl rfl) rfl ?_
            refine FL_assign (h := ?_)
            refine FL_assign (h := ?_)
            refine FL_nil (Qseq_normal ?_)
            refine FW_seq ?_
            refine FW_seq ?_
            refine FW_region ?_
            refine FL_move (h := ?_)
            refine FL_move (h := ?_)
            refine FL_callS (eqSame (H59.rowAt At1) (H59.rowAt At0)) (h := ?_)
            first | refine FL_val (Gives.notP rfl) rfl ?_ | refine FL_val (Gives.not rfl) rfl ?_
            refine FL_move (h := ?_)
            first | refine FL_splitP (t := 64) rfl (fun hs70 => ?_) (fun hs70 => ?_) | refine FL_split (t := 64) rfl (fun hs70 => ?_) (fun hs70 => ?_)
            · skip
              exact absurd hs70 (by decide) --done
            · skip
              refine FL_on rfl rfl ?_
              refine FL_move (h := ?_)
              refine FL_on rfl rfl ?_
              refine FL_move (h := ?_)
              refine FL_on rfl rfl ?_
              refine FL_val (Gives.neq rfl rfl) rfl ?_
              refine FL_pickF (h := ?_)
              refine FL_nil (Qseq_normal ?_)
              first | refine FW_condP rfl (fun hc76 => ?_) (fun hc76 => ?_) | refine FW_cond rfl (fun hc76 => ?_) (fun hc76 => ?_)
              · skip
                exact absurd hc76 (by simp) --done
              · skip
                refine FW_skip (Qseq_normal ?_)
                refine FW_seq ?_
                refine FW_region ?_
                refine FL_assign (h := ?_)
                refine FL_nil (Qseq_normal ?_)
                refine FW_block ?_
                have HR : Sep w noB [rowH 99 1 (.slice Ay ((m.abs.read ((n : Int) - 1)).1.getD []).length cy) ((m.abs.read ((n : Int) - 1)).1.getD []).length ((((m.abs.read ((n : Int) - 1)).1.getD []).map fun u => (u.toNat : Int)).map (Value.int .u8))] w59 := by
                  rw [List.map_map]
                  exact H59.drop0
                refine FW_loop' (fun x : Nat × List Int => [(0, .pointer (some ⟨p, 0, none⟩)), (1, .pointer (some ⟨q, 0, none⟩)), (5, I ((n : Int) - 1)), (6, .slice Ay ((m.abs.read ((n : Int) - 1)).1.getD []).length cy), (10, I x.1)])
                  (fun x w' => x.1 ≤ ((m.abs.read ((n : Int) - 1)).1.getD []).length ∧ x.2.length = ((m.abs.read ((n : Int) - 1)).1.getD []).length ∧ Sep w noB [rowH 99 1 (.slice Ay ((m.abs.read ((n : Int) - 1)).1.getD []).length cy) ((m.abs.read ((n : Int) - 1)).1.getD []).length (x.2.map (Value.int .u8))] w') (fun x _ => ((m.abs.read ((n : Int) - 1)).1.getD []).length - x.1) (0, ((m.abs.read ((n : Int) - 1)).1.getD []).map fun u => (u.toNat : Int)) ⟨rfl, rfl, rfl, rfl, rfl, trivial⟩ ⟨Nat.zero_le _, List.length_map _, HR⟩ (fun x τ w80 hI => ?_)
                obtain ⟨k, zs⟩ := x
                obtain ⟨hk, hzl, H80⟩ := hI
                dsimp only at hk hzl H80
                try simp only [upds, like, upd_ds]
                refine FW_seq ?_
                refine FW_seq ?_
                refine FW_region ?_
                refine FL_move (h := ?_)
                refine FL_move (h := ?_)
                refine FL_val (Gives.lenSlice rfl) rfl ?_
                refine FL_val (Gives.lss rfl rfl) rfl ?_
                refine FL_nil (Qseq_normal ?_)
                first | refine FW_condP rfl (fun hc85 => ?_) (fun hc85 => ?_) | refine FW_cond rfl (fun hc85 => ?_) (fun hc85 => ?_)
                · skip
                  have hkt : k < ((m.abs.read ((n : Int) - 1)).1.getD []).length := by omega
                  obtain ⟨g, cg, rest, hg, hcg, hlg, hle, hmx, H87⟩ := Sep.rowOpen H80 At0 (by omega)
                  injection hg with hg1 _ hg2
                  subst hg1 hg2
                  have hkz : k < zs.length := by omega
                  have hget : (zs.map (Value.int .u8) ++ rest)[k]? = some (.int .u8 zs[k]) := by
                    rw [List.getElem?_append_left (by rw [List.length_map]; exact hkz), List.getElem?_map, List.getElem?_eq_getElem hkz]
                    rfl
                  refine FW_skip (Qseq_normal ?_)
                  refine FW_seq ?_
                  refine FW_block ?_
                  refine FW_region ?_
                  refine FL_move (h := ?_)
                  refine FL_move (h := ?_)
                  refine FL_move (h := ?_)
                  refine FL_move (h := ?_)
                  refine FL_val (Gives.idxB rfl rfl hkt) rfl ?_
                  refine FL_load H87 (hat := At0) (hv := hget) (h := ?_)
                  refine FL_val (Gives.xor rfl rfl) rfl ?_
                  refine FL_val (Gives.idxB rfl rfl hkt) rfl ?_
                  refine FL_store H87 (hy := by exact rfl) (hat := At0) (cs' := (zs.set k (bits .xor .u8 zs[k] 90)).map (Value.int .u8) ++ rest) (ho := by rw [List.length_append, List.length_map]; exact Nat.ble_eq_true_of_le (by omega)) (hs := by rw [List.map_set]; exact set_front (by rw [List.length_map]; exact hkz)) (h := ?_)
                  intro w97 H97
                  refine FL_nil (Qblk_normal (Qseq_normal ?_))
                  refine FW_region ?_
                  refine FL_move (h := ?_)
                  first | refine FL_val (Gives.addI rfl rfl rfl (by omega)) rfl ?_ | refine FL_val (Gives.add rfl rfl) rfl ?_
                  refine FL_assign (h := ?_)
                  refine FL_nil ?_
                  exact Qround_normal (k + 1, zs.set k (bits .xor .u8 zs[k] 90)) ⟨rfl, rfl, rfl, rfl, rfl, trivial⟩ ⟨by dsimp only; omega, by rw [List.length_set]; exact hzl, Sep.rowShut H97 At0 (by rw [List.length_append, List.length_map, List.length_set]; rw [List.length_append, List.length_map] at hcg; exact hcg) (by rw [List.length_map, List.length_set]; omega) hle hmx⟩ (by dsimp only; omega)
                · skip
                  refine FW_exit (Qseq_exit (Qround_exit (Qblk_exit (Qblk_normal (Qseq_normal ?_)))))
                  refine FW_region ?_
                  refine FL_move (h := ?_)
                  first | refine FL_val (Gives.addI rfl rfl rfl (by omega)) rfl ?_ | refine FL_val (Gives.add rfl rfl) rfl ?_
                  refine FL_assign (h := ?_)
                  refine FL_nil ?_
                  exact Qround_normal (n + 1) ⟨rfl, rfl, by show I ((n : Int) - 1 + 1) = I (((n + 1 : Nat) : Int) - 1); congr 1; omega, trivial⟩ ⟨by omega, H80.drop0⟩ (by omega)
          · skip
            refine FW_exit (Qseq_exit (Qround_exit (Qblk_exit (Qseq_normal ?_))))
            refine FW_seq ?_
            refine FW_region ?_
            refine FL_assign (h := ?_)
            refine FL_nil (Qseq_normal ?_)
            refine FW_ret (Qfn_ret (hR := ?_))
            exact ⟨rfl, H33.kept⟩
        · skip
          refine FL_off rfl rfl rfl ?_
          refine FL_off rfl rfl rfl ?_
          refine FL_pickF (h := ?_)
          refine FL_nil (Qseq_normal ?_)
          refine FW_cond_false rfl ?_
          refine FW_exit (Qseq_exit (Qround_exit (Qblk_exit (Qseq_normal ?_))))
          refine FW_seq ?_
          refine FW_region ?_
          refine FL_assign (h := ?_)
          refine FL_nil (Qseq_normal ?_)
          refine FW_ret (Qfn_ret (hR := ?_))
          exact ⟨rfl, H33.kept⟩
end
end Go.Proofs.Yteflbohpabdjkaa
/-
  The calls of a play, plainly; and how they lie in memory.
-/
namespace Go.Proofs.Yteflbohpabdjkaa
open Go Go.Mw

structure DoM where
  kind : Int
  at_ : Int
  ab : Option Addr
  bs : List UInt8
  cb : Nat
  ak : Option Addr
  ks : List Int
  ck : Nat
def doCells (x : DoM) : List Value := [I x.kind, I x.at_, .slice x.ab x.bs.length x.cb, .slice x.ak x.ks.length x.ck]
structure DoM.good (w : World) (x : DoM) : Prop where
  kind : fits x.kind
  at_ : fits x.at_
  hb : x.bs.length ≤ x.cb
  hk : x.ks.length ≤ x.ck
  rb : RowAt w x.ab x.bs.length 1 (x.bs.map B)
  rk : RowAt w x.ak x.ks.length 1 (x.ks.map I)
theorem doCells_get (l : List DoM) (i : Nat) (hi : i < l.length) (j : Nat) (v : Value) (hv : (doCells l[i])[j]? = some v) : (l.flatMap doCells)[i * 4 + j]? = some v := by
  induction l generalizing i with
  | nil => simp at hi
  | cons x l ih =>
    rw [List.flatMap_cons]
    cases i with
    | zero =>
      have hj := (List.getElem?_eq_some_iff.1 hv).1
      rw [Nat.zero_mul, Nat.zero_add, List.getElem?_append_left (show j < (doCells x).length from hj)]; exact hv
    | succ i =>
      have hx : (doCells x).length = 4 := rfl
      rw [List.getElem?_append_right (by omega)]
      have : (i + 1) * 4 + j - (doCells x).length = i * 4 + j := by omega
      rw [this]
      exact ih i (by simpa using hi) hv
end Go.Proofs.Yteflbohpabdjkaa
/-
  EqInts on equal rows, walked.
-/
namespace Go.Proofs.Yteflbohpabdjkaa
open Go Go.Mw
set_option maxRecDepth 8000

section
variable {w w₀ : World} {S : Nat → Prop} {rs : List HP}
theorem eqInts_ok {A A' : Option Addr} {c c' : Nat} {l : List Int} (ha : RowAt w A l.length 1 (l.map I)) (hb : RowAt w A' l.length 1 (l.map I)) (hl : l.length ≤ 1000000) :
    Rets Try.prog 43 [.slice A l.length c, .slice A' l.length c'] w fun v w' => v = .bool true ∧ Kept noB w w' := by
  have H := Sep.start0 w
  refine rets2 Try.func43 rfl rfl rfl rfl ?_
  refine FW_seq ?_
  refine FW_region ?_
  refine FL_assign (h := ?_)
  refine FL_nil (Qseq_normal ?_)
  refine FW_seq ?_
  refine FW_seq ?_
  refine FW_region ?_
  refine FL_move (h := ?_)
  refine FL_val (Gives.lenSlice rfl) rfl ?_
  refine FL_move (h := ?_)
  refine FL_val (Gives.lenSlice rfl) rfl ?_
  refine FL_val (Gives.neq rfl rfl) rfl ?_
  refine FL_nil (Qseq_normal ?_)
  first | refine FW_condP rfl (fun hc7 => ?_) (fun hc7 => ?_) | refine FW_cond rfl (fun hc7 => ?_) (fun hc7 => ?_)
  · skip
    exact absurd hc7 (by simp) --done
  · skip
    refine FW_skip (Qseq_normal ?_)
    refine FW_seq ?_
    refine FW_seq ?_
    refine FW_region ?_
    refine FL_assign (h := ?_)
    refine FL_nil (Qseq_normal ?_)
    refine FW_block ?_
    refine FW_loop' (fun i : Nat => [(0, .slice A l.length c), (1, .slice A' l.length c'), (5, I i)]) (fun i w' => i ≤ l.length ∧ Sep w noB [] w') (fun i _ => l.length - i) 0 ⟨rfl, rfl, rfl, trivial⟩ ⟨Nat.zero_le _, H⟩ (fun i τ w11 hI => ?_)
    obtain ⟨hi, H11⟩ := hI
    try simp only [upds, like, upd_ds, und_ds]
    refine FW_seq ?_
    refine FW_seq ?_
    refine FW_region ?_
    refine FL_move (h := ?_)
    refine FL_move (h := ?_)
    refine FL_val (Gives.lenSlice rfl) rfl ?_
    refine FL_val (Gives.lss rfl rfl) rfl ?_
    refine FL_nil (Qseq_normal ?_)
    first | refine FW_condP rfl (fun hc16 => ?_) (fun hc16 => ?_) | refine FW_cond rfl (fun hc16 => ?_) (fun hc16 => ?_)
    · skip
      have hlt : i < l.length := by omega
      obtain ⟨a1, hA1, _⟩ := ha.at_ (by omega)
      obtain ⟨b1, hB1, _⟩ := hb.at_ (by omega)
      subst hA1 hB1
      have hcell : ∀ j u, [I l[i]][j]? = some u → (l.map I)[i * 1 + j]? = some u := by
        intro j u hj
        cases j with
        | zero => simpa [hlt] using hj
        | succ j => simp at hj
      refine FW_skip (Qseq_normal ?_)
      refine FW_seq ?_
      refine FW_block ?_
      refine FW_seq ?_
      refine FW_drawS rfl H11 (h := fun hok18 w20 H20 => ?_)
      refine FGmove hok18 0 (h := ?_)
      refine FGmove hok18 1 (h := ?_)
      refine FGp hok18 2 rfl rfl (fun _ => (Gives.idx rfl rfl hlt)) (by kernel_rfl) ?_
      refine FGl hok18 3 rfl rfl (Gives.loadC rfl ((ha.keep H20.kept).elemC rfl i hlt (us := [I l[i]]) hcell 0 _ rfl)) (by kernel_rfl) ?_
      refine FGmove hok18 4 (h := ?_)
      refine FGmove hok18 5 (h := ?_)
      refine FGp hok18 6 rfl rfl (fun _ => (Gives.idx rfl rfl hlt)) (by kernel_rfl) ?_
      refine FGl hok18 7 rfl rfl (Gives.loadC rfl ((hb.keep H20.kept).elemC rfl i hlt (us := [I l[i]]) hcell 0 _ rfl)) (by kernel_rfl) ?_
      refine FGp hok18 8 rfl rfl (fun _ => (Gives.neq rfl rfl)) (by kernel_rfl) ?_
      refine FG_end hok18 (by kernel_rfl) ?_
      refine Qseq_normal ?_
      first | refine FW_condP rfl (fun hc26 => ?_) (fun hc26 => ?_) | refine FW_cond rfl (fun hc26 => ?_) (fun hc26 => ?_)
      · skip
        exact absurd hc26 (by simp) --done
      · skip
        refine FW_skip (Qblk_normal (Qseq_normal ?_))
        refine FW_region ?_
        refine FL_move (h := ?_)
        first | refine FL_val (Gives.addI rfl rfl rfl (by omega)) rfl ?_ | refine FL_val (Gives.add rfl rfl) rfl ?_
        refine FL_assign (h := ?_)
        refine FL_nil ?_
        exact Qround_normal (i + 1) ⟨rfl, rfl, rfl, trivial⟩ ⟨by omega, H20⟩ (by omega)
    · skip
      refine FW_exit (Qseq_exit (Qround_exit (Qblk_exit (Qseq_normal ?_))))
      refine FW_seq ?_
      refine FW_region ?_
      refine FL_assign (h := ?_)
      refine FL_nil (Qseq_normal ?_)
      refine FW_ret (Qfn_ret (hR := ?_))
      exact ⟨rfl, H11.kept⟩
end
end Go.Proofs.Yteflbohpabdjkaa
/-
  DiskPlays, walked: what a disk answers, call by call, is what the reference's disk answers.
-/
namespace Go.Proofs.Yteflbohpabdjkaa
open Go Go.Mw
set_option maxRecDepth 8000

structure Both (i : Nat) (d : DM) (a : AM) : Prop where
  sim : Sim d a
  ds : d.small (40 + i)
  as_ : a.small (40 + i)
theorem AM.small.mono {k j : Nat} {a : AM} (h : a.small k) (hk : k ≤ j) : a.small j := ⟨by have := h.opn; omega, by have := h.keep; omega, h.ops0, by have := h.ops; omega, by have := h.left0; omega, h.left⟩
theorem AM.small_op {k : Nat} {a : AM} (h1 : (a.opn.length : Int) ≤ k + 1) (h2 : (a.keep.length : Int) ≤ k) (h3 : 0 ≤ a.ops ∧ a.ops ≤ k) (h4 : -(k : Int) ≤ a.left ∧ a.left ≤ 9223372036854775807) : a.op.2.small (k + 1) ∧ a.counts.small (k + 1) := by
  have hc : a.counts.small (k + 1) := ⟨by show (a.opn.length : Int) ≤ _; omega, by show (a.keep.length : Int) ≤ _; omega, by show 0 ≤ a.ops + 1; omega, by show a.ops + 1 ≤ _; omega, by show _ ≤ a.left - 1; omega, by show a.left - 1 ≤ _; omega⟩
  refine ⟨?_, hc⟩
  unfold AM.op
  split
  · exact ⟨by show ((([] : List (Int × List UInt8)).length : Nat) : Int) ≤ _; simp; omega, by show ((([] : List Int).length : Nat) : Int) ≤ _; simp; omega, hc.ops0, hc.ops, by show _ ≤ (0 : Int); omega, by show (0 : Int) ≤ _; omega⟩
  · exact hc
section
variable {i : Nat} {d : DM} {a : AM}
theorem Both.ops (h : Both i d a) (hi : i ≤ 1000) : 0 ≤ d.ops ∧ d.ops ≤ 1000000 := by have := h.ds.2.2; omega
theorem Both.write (h : Both i d a) (hi : i ≤ 1000) (k : Int) (b : List UInt8) : (d.write k b).1 = (a.write k b).1 ∧ Both (i + 1) (d.write k b).2 (a.write k b).2 := by
  obtain ⟨h1, h2⟩ := h.sim.write (h.ops hi) k b
  refine ⟨h1, h2, small_write h.ds k b, ?_⟩
  unfold AM.write
  split
  · exact h.as_.mono (by omega)
  · split
    · exact h.as_.mono (by omega)
    · have := h.as_
      exact (AM.small_op (a := a.put k b) (by show ((a.opn ++ [_]).length : Int) ≤ _; have := this.opn; simp; omega) this.keep ⟨this.ops0, this.ops⟩ ⟨this.left0, this.left⟩).1
theorem Both.flush (h : Both i d a) (hi : i ≤ 1000) : d.flush.1 = a.flush.1 ∧ Both (i + 1) d.flush.2 a.flush.2 := by
  obtain ⟨h1, h2⟩ := h.sim.flush (h.ops hi)
  refine ⟨h1, h2, small_flush h.ds, ?_⟩
  have hs := h.as_
  obtain ⟨h3, h4⟩ := AM.small_op (a := a) (k := 40 + i) (by have := hs.opn; omega) hs.keep ⟨hs.ops0, hs.ops⟩ ⟨hs.left0, hs.left⟩
  unfold AM.flush
  split
  · exact hs.mono (by omega)
  · split
    · exact h3
    · exact ⟨by show ((([] : List (Int × List UInt8)).length : Nat) : Int) ≤ _; simp; omega, h4.keep, h4.ops0, h4.ops, h4.left0, h4.left⟩
theorem Both.fail (h : Both i d a) (hi : i ≤ 1000) {ops : Int} (hf : fits ops) {keep : List Int} (hk : keep.length ≤ 30) : Both (i + 1) (d.failAt ops keep) (a.fail ops keep) := by
  refine ⟨h.sim.failAt (h.ops hi) ops keep, ?_, ?_⟩
  · have hd := h.ds
    unfold DM.failAt
    split
    · exact hd.mono (by omega)
    · split
      · exact ⟨by have := hd.1; show d.opn.length ≤ _; omega, by show keep.length ≤ _; omega, hd.2.2.1, by have := hd.2.2.2; show d.ops ≤ _; omega⟩
      · exact ⟨by have := hd.1; show d.opn.length ≤ _; omega, Nat.zero_le _, hd.2.2.1, by have := hd.2.2.2; show d.ops ≤ _; omega⟩
  · have hs := h.as_
    unfold AM.fail
    split
    · exact hs.mono (by omega)
    · have h1 := hs.opn
      have h2 := hs.ops
      unfold fits at hf
      exact ⟨by show (a.opn.length : Int) ≤ _; omega, by show (keep.length : Int) ≤ _; omega, hs.ops0, by show a.ops ≤ _; omega, by show _ ≤ max ops 0; omega, by show max ops 0 ≤ _; omega⟩
theorem Both.crash (h : Both i d a) (keep : List Int) : Both (i + 1) (d.crash keep) (a.crash keep) := by
  refine ⟨h.sim.crash keep, (small_crash h.ds keep).mono (by omega), ?_⟩
  have hs := h.as_
  unfold AM.crash
  split
  · exact hs.mono (by omega)
  · have h2 := hs.ops
    exact ⟨by show ((([] : List (Int × List UInt8)).length : Nat) : Int) ≤ _; simp; omega, by show ((([] : List Int).length : Nat) : Int) ≤ _; simp; omega, hs.ops0, by show a.ops ≤ _; omega, by show _ ≤ (0 : Int); omega, by show (0 : Int) ≤ _; omega⟩
theorem Both.boot (h : Both i d a) : Both (i + 1) d.boot a.boot := by
  have hs := h.as_.mono (show 40 + i ≤ 40 + (i + 1) by omega)
  exact ⟨h.sim.boot, (small_boot h.ds).mono (by omega), ⟨hs.opn, hs.keep, hs.ops0, hs.ops, hs.left0, hs.left⟩⟩
theorem Both.next (h : Both i d a) : Both (i + 1) d a := ⟨h.sim, h.ds.mono (by omega), h.as_.mono (by omega)⟩
theorem Both.new (n : Int) (hn : 1 ≤ n ∧ n ≤ 65536) : Both 0 (DM.new n) (AM.new n) :=
  ⟨Sim.new n hn, (small_new n).mono (by omega), ⟨by show ((([] : List (Int × List UInt8)).length : Nat) : Int) ≤ _; simp, by show ((([] : List Int).length : Nat) : Int) ≤ _; simp, Int.le_refl 0, by show (0 : Int) ≤ _; omega, by show _ ≤ (0 : Int); omega, by show (0 : Int) ≤ _; omega⟩⟩
end
def otherB : List UInt8 := [111, 116, 104, 101, 114]
section
variable {p q : Nat} {d : DM} {a : AM} {F : Nat → Prop} {w w₀ : World} {S : Nat → Prop} {rs : List HP} {put put' : HP → List HP}
theorem told_at (hsim : Sim d a) (hs : a.small 100000) (H : Sep w₀ S rs w) (hat : At rs (diskH p d) put) (hat' : At rs (refA q a) put') :
    Rets Try.prog 44 [.pointer (some ⟨p, 0, none⟩), .pointer (some ⟨q, 0, none⟩)] w fun v w' => v = .bool true ∧ Kept noB w w' := by
  obtain ⟨F1, h1, _⟩ := H.focus hat
  obtain ⟨F2, h2, _⟩ := H.focus hat'
  exact told_ok hsim hs h1 h2
theorem new_bad (n : Int) (hn : ¬ (1 ≤ n ∧ n ≤ 65536)) : Rets Try.prog 32 [I n] w fun v w' => v = .tuple #[.pointer none, I 2] ∧ w = w' := by
  have H := Sep.start0 w
  refine rets1 Try.func32 rfl rfl rfl rfl ?_
  refine FW_seq ?_
  refine FW_region ?_
  refine FL_assign (h := ?_)
  refine FL_assign (h := ?_)
  refine FL_nil (Qseq_normal ?_)
  refine FW_seq ?_
  refine FW_seq ?_
  refine FW_region ?_
  refine FL_move (h := ?_)
  refine FL_val (Gives.lss rfl rfl) rfl ?_
  refine FL_move (h := ?_)
  first | refine FL_splitP (t := 6) rfl (fun hs6 => ?_) (fun hs6 => ?_) | refine FL_split (t := 6) rfl (fun hs6 => ?_) (fun hs6 => ?_)
  · skip
    refine FL_off rfl rfl rfl ?_
    refine FL_off rfl rfl rfl ?_
    refine FL_pickT (h := ?_)
    refine FL_nil (Qseq_normal ?_)
    refine FW_cond_true rfl ?_
    refine FW_seq ?_
    refine FW_region ?_
    refine FL_assign (h := ?_)
    refine FL_assign (h := ?_)
    refine FL_nil (Qseq_normal ?_)
    refine FW_ret (Qseq_ret (Qfn_ret (hR := ?_)))
    exact ⟨rfl, rfl⟩
  · skip
    refine FL_on rfl rfl ?_
    refine FL_move (h := ?_)
    refine FL_on rfl rfl ?_
    refine FL_val (Gives.gtr rfl rfl) rfl ?_
    refine FL_pickF (h := ?_)
    refine FL_nil (Qseq_normal ?_)
    first | refine FW_condP rfl (fun hc14 => ?_) (fun hc14 => ?_) | refine FW_cond rfl (fun hc14 => ?_) (fun hc14 => ?_)
    · skip
      refine FW_seq ?_
      refine FW_region ?_
      refine FL_assign (h := ?_)
      refine FL_assign (h := ?_)
      refine FL_nil (Qseq_normal ?_)
      refine FW_ret (Qseq_ret (Qfn_ret (hR := ?_)))
      exact ⟨rfl, rfl⟩
    · skip
      omega --done
theorem newR_bad (n : Int) (hn : ¬ (1 ≤ n ∧ n ≤ 65536)) : Rets Try.prog 33 [I n] w fun v w' => v = .tuple #[.pointer none, I 2] ∧ w = w' := by
  have H := Sep.start0 w
  refine rets1 Try.func33 rfl rfl rfl rfl ?_
  refine FW_seq ?_
  refine FW_region ?_
  refine FL_assign (h := ?_)
  refine FL_assign (h := ?_)
  refine FL_nil (Qseq_normal ?_)
  refine FW_seq ?_
  refine FW_seq ?_
  refine FW_region ?_
  refine FL_move (h := ?_)
  refine FL_val (Gives.lss rfl rfl) rfl ?_
  refine FL_move (h := ?_)
  first | refine FL_splitP (t := 6) rfl (fun hs6 => ?_) (fun hs6 => ?_) | refine FL_split (t := 6) rfl (fun hs6 => ?_) (fun hs6 => ?_)
  · skip
    refine FL_off rfl rfl rfl ?_
    refine FL_off rfl rfl rfl ?_
    refine FL_pickT (h := ?_)
    refine FL_nil (Qseq_normal ?_)
    refine FW_cond_true rfl ?_
    refine FW_seq ?_
    refine FW_region ?_
    refine FL_assign (h := ?_)
    refine FL_assign (h := ?_)
    refine FL_nil (Qseq_normal ?_)
    refine FW_ret (Qseq_ret (Qfn_ret (hR := ?_)))
    exact ⟨rfl, rfl⟩
  · skip
    refine FL_on rfl rfl ?_
    refine FL_move (h := ?_)
    refine FL_on rfl rfl ?_
    refine FL_val (Gives.gtr rfl rfl) rfl ?_
    refine FL_pickF (h := ?_)
    refine FL_nil (Qseq_normal ?_)
    first | refine FW_condP rfl (fun hc14 => ?_) (fun hc14 => ?_) | refine FW_cond rfl (fun hc14 => ?_) (fun hc14 => ?_)
    · skip
      refine FW_seq ?_
      refine FW_region ?_
      refine FL_assign (h := ?_)
      refine FL_assign (h := ?_)
      refine FL_nil (Qseq_normal ?_)
      refine FW_ret (Qseq_ret (Qfn_ret (hR := ?_)))
      exact ⟨rfl, rfl⟩
    · skip
      omega --done
theorem plays_bad {n : Int} {L : Value} (hn : ¬ (1 ≤ n ∧ n ≤ 65536)) : Rets Try.prog 8 [I n, L] w fun v w' => v = .bool true ∧ Kept noB w w' := by
  have H := Sep.start0 w
  refine rets2 Try.func8 rfl rfl rfl rfl ?_
  refine FW_seq ?_
  refine FW_region ?_
  refine FL_assign (h := ?_)
  refine FL_nil (Qseq_normal ?_)
  refine FW_seq ?_
  refine FW_region ?_
  refine FL_move (h := ?_)
  refine FL_callS (new_bad n hn) (h := ?_)
  refine FL_move (h := ?_)
  refine FL_val (Gives.extract rfl rfl) rfl ?_
  refine FL_val (Gives.extract rfl rfl) rfl ?_
  refine FL_assign (h := ?_)
  refine FL_assign (h := ?_)
  refine FL_nil (Qseq_normal ?_)
  refine FW_seq ?_
  refine FW_region ?_
  refine FL_move (h := ?_)
  refine FL_callS (newR_bad n hn) (h := ?_)
  refine FL_move (h := ?_)
  refine FL_val (Gives.extract rfl rfl) rfl ?_
  refine FL_val (Gives.extract rfl rfl) rfl ?_
  refine FL_assign (h := ?_)
  refine FL_assign (h := ?_)
  refine FL_nil (Qseq_normal ?_)
  refine FW_seq ?_
  refine FW_seq ?_
  refine FW_region ?_
  refine FL_move (h := ?_)
  refine FL_move (h := ?_)
  refine FL_val (Gives.neq rfl rfl) rfl ?_
  refine FL_move (h := ?_)
  first | refine FL_splitP (t := 35) rfl (fun hs20 => ?_) (fun hs20 => ?_) | refine FL_split (t := 35) rfl (fun hs20 => ?_) (fun hs20 => ?_)
  · skip
    first | exact absurd rfl hs20 | exact (hs20 trivial).elim | exact absurd hs20 (by decide) | exact absurd hs20 (by simp) | omega --done
  · skip
    refine FL_on rfl rfl ?_
    refine FL_move (h := ?_)
    refine FL_on rfl rfl ?_
    refine FL_val (Gives.eqlNil rfl rfl) rfl ?_
    refine FL_on rfl rfl ?_
    refine FL_move (h := ?_)
    refine FL_on rfl rfl ?_
    refine FL_val (Gives.eqlNil rfl rfl) rfl ?_
    refine FL_on rfl rfl ?_
    refine FL_val (Gives.neqB rfl rfl) rfl ?_
    refine FL_pickF (h := ?_)
    refine FL_nil (Qseq_normal ?_)
    first | refine FW_condP rfl (fun hc28 => ?_) (fun hc28 => ?_) | refine FW_cond rfl (fun hc28 => ?_) (fun hc28 => ?_)
    · skip
      exact absurd hc28 (by simp) --done
    · skip
      refine FW_skip (Qseq_normal ?_)
      refine FW_seq ?_
      refine FW_seq ?_
      refine FW_region ?_
      refine FL_move (h := ?_)
      refine FL_val (Gives.neq rfl rfl) rfl ?_
      refine FL_nil (Qseq_normal ?_)
      first | refine FW_condP rfl (fun hc32 => ?_) (fun hc32 => ?_) | refine FW_cond rfl (fun hc32 => ?_) (fun hc32 => ?_)
      · skip
        refine FW_seq ?_
        refine FW_region ?_
        refine FL_callQ H works_ok (h := fun w34 H34 _ => ?_)
        refine FL_assign (h := ?_)
        refine FL_nil (Qseq_normal ?_)
        refine FW_ret (Qseq_ret (Qfn_ret (hR := ?_)))
        exact ⟨rfl, H34.kept⟩
      · skip
        exact absurd hc32 (by decide) --done
set_option maxHeartbeats 16000000 in
theorem plays_ok {n : Int} {L : Option Addr} {cl : Nat} {l : List DoM} (hn : 1 ≤ n ∧ n ≤ 65536) (hr : RowAt w L l.length 4 (l.flatMap doCells)) (hl : ∀ x ∈ l, x.good w) :
    Rets Try.prog 8 [I n, .slice L l.length cl] w fun v w' => v = .bool true ∧ Kept noB w w' := by
  have H := Sep.start0 w
  refine rets2 Try.func8 rfl rfl rfl rfl ?_
  refine FW_seq ?_
  refine FW_region ?_
  refine FL_assign (h := ?_)
  refine FL_nil (Qseq_normal ?_)
  refine FW_seq ?_
  refine FW_region ?_
  refine FL_move (h := ?_)
  refine FL_callN H (new_ok n hn) rfl rfl (fun p0 w4 _ H4 _ => ?_)
  refine FL_move (h := ?_)
  refine FL_val (Gives.extract rfl rfl) rfl ?_
  refine FL_val (Gives.extract rfl rfl) rfl ?_
  refine FL_assign (h := ?_)
  refine FL_assign (h := ?_)
  refine FL_nil (Qseq_normal ?_)
  refine FW_seq ?_
  refine FW_region ?_
  refine FL_move (h := ?_)
  refine FL_callN H4 (newR_ok n hn) rfl rfl (fun q w12 _ H12 _ => ?_)
  refine FL_move (h := ?_)
  refine FL_val (Gives.extract rfl rfl) rfl ?_
  refine FL_val (Gives.extract rfl rfl) rfl ?_
  refine FL_assign (h := ?_)
  refine FL_assign (h := ?_)
  refine FL_nil (Qseq_normal ?_)
  refine FW_seq ?_
  refine FW_seq ?_
  refine FW_region ?_
  refine FL_move (h := ?_)
  refine FL_move (h := ?_)
  refine FL_val (Gives.neq rfl rfl) rfl ?_
  refine FL_move (h := ?_)
  first | refine FL_splitP (t := 35) rfl (fun hs22 => ?_) (fun hs22 => ?_) | refine FL_split (t := 35) rfl (fun hs22 => ?_) (fun hs22 => ?_)
  · skip
    first | exact absurd rfl hs22 | exact (hs22 trivial).elim | exact absurd hs22 (by decide) | exact absurd hs22 (by simp) | omega --done
  · skip
    refine FL_on rfl rfl ?_
    refine FL_move (h := ?_)
    refine FL_on rfl rfl ?_
    refine FL_val (Gives.eqlNil rfl rfl) rfl ?_
    refine FL_on rfl rfl ?_
    refine FL_move (h := ?_)
    refine FL_on rfl rfl ?_
    refine FL_val (Gives.eqlNil rfl rfl) rfl ?_
    refine FL_on rfl rfl ?_
    refine FL_val (Gives.neqB rfl rfl) rfl ?_
    refine FL_pickF (h := ?_)
    refine FL_nil (Qseq_normal ?_)
    first | refine FW_condP rfl (fun hc30 => ?_) (fun hc30 => ?_) | refine FW_cond rfl (fun hc30 => ?_) (fun hc30 => ?_)
    · skip
      exact absurd hc30 (by simp) --done
    · skip
      refine FW_skip (Qseq_normal ?_)
      refine FW_seq ?_
      refine FW_seq ?_
      refine FW_region ?_
      refine FL_move (h := ?_)
      refine FL_val (Gives.neq rfl rfl) rfl ?_
      refine FL_nil (Qseq_normal ?_)
      first | refine FW_condP rfl (fun hc34 => ?_) (fun hc34 => ?_) | refine FW_cond rfl (fun hc34 => ?_) (fun hc34 => ?_)
      · skip
        exact absurd hc34 (by decide) --done
      · skip
        refine FW_skip (Qseq_normal ?_)
        refine FW_seq ?_
        refine FW_seq ?_
        refine FW_region ?_
        refine FL_assign (h := ?_)
        refine FL_nil (Qseq_normal ?_)
        refine FW_block ?_
        refine FW_loop' (fun x : Nat × Nat × DM × AM => [(1, .slice L l.length cl), (5, .pointer (some ⟨x.2.1, 0, none⟩)), (7, .pointer (some ⟨q, 0, none⟩)), (9, I x.1)])
          (fun x w' => x.1 ≤ l.length ∧ x.1 ≤ 60 ∧ Both x.1 x.2.2.1 x.2.2.2 ∧ Sep w noB [refA q x.2.2.2, diskH x.2.1 x.2.2.1] w') (fun x _ => l.length - x.1) (0, p0, DM.new n, AM.new n) ⟨rfl, rfl, rfl, rfl, trivial⟩ ⟨Nat.zero_le _, Nat.zero_le _, Both.new n hn, H12⟩ (fun x τ w38 hI => ?_)
        obtain ⟨i, p, d, a⟩ := x
        obtain ⟨hi, hi60, hB, H38⟩ := hI
        dsimp only at hi hi60 hB H38
        try simp only [upds, like, upd_ds, und_ds]
        refine FW_seq ?_
        refine FW_seq ?_
        refine FW_region ?_
        refine FL_move (h := ?_)
        refine FL_move (h := ?_)
        refine FL_val (Gives.lenSlice rfl) rfl ?_
        refine FL_val (Gives.lss rfl rfl) rfl ?_
        refine FL_move (h := ?_)
        first | refine FL_splitP (t := 49) rfl (fun hs44 => ?_) (fun hs44 => ?_) | refine FL_split (t := 49) rfl (fun hs44 => ?_) (fun hs44 => ?_)
        · skip
          have hc1 := hs44
          refine FL_on rfl rfl ?_
          refine FL_move (h := ?_)
          refine FL_on rfl rfl ?_
          refine FL_val (Gives.lss rfl rfl) rfl ?_
          refine FL_pickT (h := ?_)
          refine FL_nil (Qseq_normal ?_)
          first | refine FW_condP rfl (fun hc49 => ?_) (fun hc49 => ?_) | refine FW_cond rfl (fun hc49 => ?_) (fun hc49 => ?_)
          · skip
            have hlt : i < l.length := by omega
            have hlt60 : i < 60 := by omega
            obtain ⟨ad, hAd, _⟩ := hr.at_ (by omega)
            subst hAd
            have hg := hl _ (List.getElem_mem hlt)
            obtain ⟨bs, hbs⟩ : ∃ bs, bs = l[i].bs.take (min l[i].bs.length 140) := ⟨_, rfl⟩
            obtain ⟨ks, hks⟩ : ∃ ks, ks = l[i].ks.take (min l[i].ks.length 30) := ⟨_, rfl⟩
            have hbl : min l[i].bs.length 140 = bs.length := by rw [hbs, List.length_take]; omega
            have hkl : min l[i].ks.length 30 = ks.length := by rw [hks, List.length_take]; omega
            have hrb : RowAt w l[i].ab bs.length 1 (bs.map B) := by
              have h1 := hg.rb.take (k := bs.length) (by omega)
              rwa [Nat.mul_one, ← List.map_take, ← hbl, ← hbs, hbl] at h1
            have hrk : RowAt w l[i].ak ks.length 1 (ks.map I) := by
              have h1 := hg.rk.take (k := ks.length) (by omega)
              rwa [Nat.mul_one, ← List.map_take, ← hkl, ← hks, hkl] at h1
            have hgb := hg.hb
            have hgk := hg.hk
            have hsm := hB.as_.mono (show 40 + i ≤ 100000 by omega)
            have hds := hB.ds
            refine FW_skip (Qseq_normal ?_)
            refine FW_seq ?_
            refine FW_block ?_
            refine FW_seq ?_
            refine FW_drawS rfl H38 (h := fun hok51 w53 H53 => ?_)
            refine FGmove hok51 0 (h := ?_)
            refine FGmove hok51 1 (h := ?_)
            refine FGp hok51 2 rfl rfl (fun _ => (Gives.idx rfl rfl hlt)) (by kernel_rfl) ?_
            first | refine FGp hok51 3 rfl rfl (fun _ => (Gives.field0 rfl)) (by kernel_rfl) ?_ | refine FGp hok51 3 rfl rfl (fun _ => (Gives.field rfl)) (by kernel_rfl) ?_ | refine FGp hok51 3 rfl rfl (fun _ => (Gives.fieldA rfl)) (by kernel_rfl) ?_
            refine FGl hok51 4 rfl rfl (Gives.loadC rfl ((hr.keep H53.kept).elemC rfl i hlt (us := doCells l[i]) (doCells_get l i hlt) 2 _ rfl)) (by kernel_rfl) ?_
            refine FGmove hok51 5 (h := ?_)
            refine FGmove hok51 6 (h := ?_)
            refine FGp hok51 7 rfl rfl (fun _ => (Gives.idx rfl rfl hlt)) (by kernel_rfl) ?_
            first | refine FGp hok51 8 rfl rfl (fun _ => (Gives.field0 rfl)) (by kernel_rfl) ?_ | refine FGp hok51 8 rfl rfl (fun _ => (Gives.field rfl)) (by kernel_rfl) ?_ | refine FGp hok51 8 rfl rfl (fun _ => (Gives.fieldA rfl)) (by kernel_rfl) ?_
            refine FGl hok51 9 rfl rfl (Gives.loadC rfl ((hr.keep H53.kept).elemC rfl i hlt (us := doCells l[i]) (doCells_get l i hlt) 2 _ rfl)) (by kernel_rfl) ?_
            refine FGp hok51 10 rfl rfl (fun _ => (Gives.lenSlice rfl)) (by kernel_rfl) ?_
            refine FGp hok51 11 rfl rfl (fun _ => (gives_minN (k := 140) hbl rfl rfl rfl)) (by kernel_rfl) ?_
            refine FGp hok51 12 rfl rfl (fun _ => (Gives.sliceTo rfl rfl (by omega))) (by kernel_rfl) ?_
            refine FGcallN hok51 13 [] H53 (copyBytes_ok (hrb.keep H53.kept) (by intro u hu; obtain ⟨k, _, rfl⟩ := List.mem_map.1 hu; rfl) (by omega)) (h := fun y63 w64 _ H64 _ => ⟨Stab_nil, ?_⟩)
            obtain ⟨Ab, cb, hy63, _⟩ := Sep.rowForm H64 At0
            subst hy63
            refine FGp hok51 14 rfl rfl (fun _ => Gives.assign rfl) (by kernel_rfl) ?_
            refine FG_end hok51 (by kernel_rfl) ?_
            refine Qseq_normal ?_
            refine FW_seq ?_
            refine FW_drawS rfl H64 (h := fun hok66 w68 H68 => ?_)
            refine FGmove hok66 0 (h := ?_)
            refine FGmove hok66 1 (h := ?_)
            refine FGp hok66 2 rfl rfl (fun _ => (Gives.idx rfl rfl hlt)) (by kernel_rfl) ?_
            first | refine FGp hok66 3 rfl rfl (fun _ => (Gives.field0 rfl)) (by kernel_rfl) ?_ | refine FGp hok66 3 rfl rfl (fun _ => (Gives.field rfl)) (by kernel_rfl) ?_ | refine FGp hok66 3 rfl rfl (fun _ => (Gives.fieldA rfl)) (by kernel_rfl) ?_
            refine FGl hok66 4 rfl rfl (Gives.loadC rfl ((hr.keep H68.kept).elemC rfl i hlt (us := doCells l[i]) (doCells_get l i hlt) 3 _ rfl)) (by kernel_rfl) ?_
            refine FGmove hok66 5 (h := ?_)
            refine FGmove hok66 6 (h := ?_)
            refine FGp hok66 7 rfl rfl (fun _ => (Gives.idx rfl rfl hlt)) (by kernel_rfl) ?_
            first | refine FGp hok66 8 rfl rfl (fun _ => (Gives.field0 rfl)) (by kernel_rfl) ?_ | refine FGp hok66 8 rfl rfl (fun _ => (Gives.field rfl)) (by kernel_rfl) ?_ | refine FGp hok66 8 rfl rfl (fun _ => (Gives.fieldA rfl)) (by kernel_rfl) ?_
            refine FGl hok66 9 rfl rfl (Gives.loadC rfl ((hr.keep H68.kept).elemC rfl i hlt (us := doCells l[i]) (doCells_get l i hlt) 3 _ rfl)) (by kernel_rfl) ?_
            refine FGp hok66 10 rfl rfl (fun _ => (Gives.lenSlice rfl)) (by kernel_rfl) ?_
            refine FGp hok66 11 rfl rfl (fun _ => (gives_minN (k := 30) hkl rfl rfl rfl)) (by kernel_rfl) ?_
            refine FGp hok66 12 rfl rfl (fun _ => (Gives.sliceTo rfl rfl (by omega))) (by kernel_rfl) ?_
            refine FGcallN hok66 13 [] H68 (copyInts_ok (hrk.keep H68.kept) (by intro u hu; obtain ⟨k, _, rfl⟩ := List.mem_map.1 hu; rfl) (by omega)) (h := fun y78 w79 _ H79 _ => ⟨Stab_nil, ?_⟩)
            obtain ⟨Ak, ck, hy78, _⟩ := Sep.rowForm H79 At0
            subst hy78
            refine FGp hok66 14 rfl rfl (fun _ => Gives.assign rfl) (by kernel_rfl) ?_
            refine FG_end hok66 (by kernel_rfl) ?_
            refine Qseq_normal ?_
            refine FW_seq ?_
            refine FW_region ?_
            refine FL_move (h := ?_)
            refine FL_callN H79 (copyBytes_ok (H79.rowAt At1) (by intro u hu; obtain ⟨k, _, rfl⟩ := List.mem_map.1 hu; rfl) (by omega)) rfl rfl (fun y82 w83 _ H83 _ => ?_)
            obtain ⟨Aw, cw, hy82, _⟩ := Sep.rowForm H83 At0
            subst hy82
            refine FL_move (h := ?_)
            refine FL_callN H83 (copyInts_ok (H83.rowAt At1) (by intro u hu; obtain ⟨k, _, rfl⟩ := List.mem_map.1 hu; rfl) (by omega)) rfl rfl (fun y85 w86 _ H86 _ => ?_)
            obtain ⟨Ao, co, hy85, _⟩ := Sep.rowForm H86 At0
            subst hy85
            refine FL_assign (h := ?_)
            refine FL_assign (h := ?_)
            refine FL_nil (Qseq_normal ?_)
            refine FW_seq ?_
            refine FW_region ?_
            refine FL_move (h := ?_)
            refine FL_move (h := ?_)
            refine FL_val (Gives.idx rfl rfl hlt) rfl ?_
            first | refine FL_val (Gives.field0 rfl) rfl ?_ | refine FL_val (Gives.field rfl) rfl ?_ | refine FL_val (Gives.fieldA rfl) rfl ?_
            refine FL_val (Gives.loadC rfl ((hr.keep H86.kept).elemC rfl i hlt (us := doCells l[i]) (doCells_get l i hlt) 1 _ rfl)) rfl ?_
            refine FL_assign (h := ?_)
            refine FL_nil (Qseq_normal ?_)
            refine FW_cut (fun x : Nat × DM × AM => [(1, .slice (some ad) l.length cl), (5, .pointer (some ⟨x.1, 0, none⟩)), (7, .pointer (some ⟨q, 0, none⟩)), (9, I i), (10, .slice Ab bs.length cb), (11, .slice Ak ks.length ck), (12, .slice Aw bs.length cw), (13, .slice Ao ks.length co)])
              (fun x w' => Both (i + 1) x.2.1 x.2.2 ∧ Sep w noB [rowH 3 1 (.slice Ao ks.length co) ks.length (ks.map I), rowH 5 1 (.slice Aw bs.length cw) bs.length (bs.map B), rowH 3 1 (.slice Ak ks.length ck) ks.length (ks.map I), rowH 5 1 (.slice Ab bs.length cb) bs.length (bs.map B), refA q x.2.2, diskH x.1 x.2.1] w') ?_ ?_
            · skip
              refine FW_seq ?_
              refine FW_region ?_
              refine FL_move (h := ?_)
              refine FL_move (h := ?_)
              refine FL_val (Gives.idx rfl rfl hlt) rfl ?_
              first | refine FL_val (Gives.field0 rfl) rfl ?_ | refine FL_val (Gives.field rfl) rfl ?_ | refine FL_val (Gives.fieldA rfl) rfl ?_
              refine FL_val (Gives.loadC rfl ((hr.keep H86.kept).elemC rfl i hlt (us := doCells l[i]) (doCells_get l i hlt) 0 _ rfl)) rfl ?_
              refine FL_callS (bring_ok l[i].kind 9 hg.kind (by omega)) (h := ?_)
              refine FL_nil (Qseq_normal ?_)
              refine FW_block ?_
              refine FW_seq ?_
              refine FW_seq ?_
              refine FW_region ?_
              refine FL_val (Gives.eql rfl rfl) rfl ?_
              refine FL_assign (h := ?_)
              refine FL_nil (Qseq_normal ?_)
              first | refine FW_condP rfl (fun hc104 => ?_) (fun hc104 => ?_) | refine FW_cond rfl (fun hc104 => ?_) (fun hc104 => ?_)
              · skip
                refine FW_skip (Qseq_normal ?_)
                first | refine FW_cond_true rfl ?_ | refine FW_cond_true (congrArg Value.bool (decide_eq_true hc104)) ?_ | refine FW_cond_true (congrArg Value.bool hc104) ?_
                refine FW_seq ?_
                refine FW_region ?_
                refine FL_move (h := ?_)
                refine FL_move (h := ?_)
                refine FL_move (h := ?_)
                have hbw := hB.write (by omega) l[i].at_ bs
                refine FL_call1R H86.front3 At4 (fun F' hp hrr hoff => write_ok (by have := hds.1; omega) (by have := hds.2.1; omega) (by have := hds.2.2; unfold fits; omega) hrr hoff hp) (h := fun w109 H109 => ?_)
                refine FL_move (h := ?_)
                refine FL_move (h := ?_)
                refine FL_move (h := ?_)
                refine FL_call1R H109.front2 At3 (fun F' hp hrr hoff => writeR_ok hsm hrr hoff hp) (h := fun w114 H114 => ?_)
                refine FL_val (Gives.neq rfl rfl) rfl ?_
                refine FL_nil (Qseq_normal ?_)
                first | refine FW_condP rfl (fun hc116 => ?_) (fun hc116 => ?_) | refine FW_cond rfl (fun hc116 => ?_) (fun hc116 => ?_)
                · skip
                  exact absurd hbw.1 hc116 --done
                · skip
                  refine FW_skip (Qblk_normal ?_)
                  exact Qcut_normal (p, (d.write l[i].at_ bs).2, (a.write l[i].at_ bs).2) ⟨rfl, rfl, rfl, rfl, rfl, rfl, rfl, rfl, trivial⟩ ⟨hbw.2, H114.front1.front3.front2.front3⟩
              · skip
                refine FW_seq ?_
                refine FW_region ?_
                refine FL_val (Gives.eql rfl rfl) rfl ?_
                refine FL_assign (h := ?_)
                refine FL_nil (Qseq_normal ?_)
                first | refine FW_condP rfl (fun hc121 => ?_) (fun hc121 => ?_) | refine FW_cond rfl (fun hc121 => ?_) (fun hc121 => ?_)
                · skip
                  refine FW_skip (Qseq_normal ?_)
                  first | refine FW_cond_true rfl ?_ | refine FW_cond_true (congrArg Value.bool (decide_eq_true hc121)) ?_ | refine FW_cond_true (congrArg Value.bool hc121) ?_
                  refine FW_seq ?_
                  refine FW_region ?_
                  refine FL_move (h := ?_)
                  refine FL_move (h := ?_)
                  refine FL_move (h := ?_)
                  have hbw := hB.write (by omega) l[i].at_ bs
                  refine FL_call1R H86.front3 At4 (fun F' hp hrr hoff => write_ok (by have := hds.1; omega) (by have := hds.2.1; omega) (by have := hds.2.2; unfold fits; omega) hrr hoff hp) (h := fun w126 H126 => ?_)
                  refine FL_move (h := ?_)
                  refine FL_move (h := ?_)
                  refine FL_move (h := ?_)
                  refine FL_call1R H126.front2 At3 (fun F' hp hrr hoff => writeR_ok hsm hrr hoff hp) (h := fun w131 H131 => ?_)
                  refine FL_val (Gives.neq rfl rfl) rfl ?_
                  refine FL_nil (Qseq_normal ?_)
                  first | refine FW_condP rfl (fun hc133 => ?_) (fun hc133 => ?_) | refine FW_cond rfl (fun hc133 => ?_) (fun hc133 => ?_)
                  · skip
                    exact absurd hbw.1 hc133 --done
                  · skip
                    refine FW_skip (Qblk_normal ?_)
                    exact Qcut_normal (p, (d.write l[i].at_ bs).2, (a.write l[i].at_ bs).2) ⟨rfl, rfl, rfl, rfl, rfl, rfl, rfl, rfl, trivial⟩ ⟨hbw.2, H131.front1.front3.front2.front3⟩
                · skip
                  refine FW_region ?_
                  refine FL_val (Gives.eql rfl rfl) rfl ?_
                  refine FL_assign (h := ?_)
                  refine FL_nil (Qseq_normal ?_)
                  first | refine FW_condP rfl (fun hc138 => ?_) (fun hc138 => ?_) | refine FW_cond rfl (fun hc138 => ?_) (fun hc138 => ?_)
                  · skip
                    refine FW_seq ?_
                    refine FW_region ?_
                    refine FL_move (h := ?_)
                    refine FL_move (h := ?_)
                    refine FL_move (h := ?_)
                    have hbw := hB.write (by omega) l[i].at_ bs
                    refine FL_call1R H86.front3 At4 (fun F' hp hrr hoff => write_ok (by have := hds.1; omega) (by have := hds.2.1; omega) (by have := hds.2.2; unfold fits; omega) hrr hoff hp) (h := fun w143 H143 => ?_)
                    refine FL_move (h := ?_)
                    refine FL_move (h := ?_)
                    refine FL_move (h := ?_)
                    refine FL_call1R H143.front2 At3 (fun F' hp hrr hoff => writeR_ok hsm hrr hoff hp) (h := fun w148 H148 => ?_)
                    refine FL_val (Gives.neq rfl rfl) rfl ?_
                    refine FL_nil (Qseq_normal ?_)
                    first | refine FW_condP rfl (fun hc150 => ?_) (fun hc150 => ?_) | refine FW_cond rfl (fun hc150 => ?_) (fun hc150 => ?_)
                    · skip
                      exact absurd hbw.1 hc150 --done
                    · skip
                      refine FW_skip (Qblk_normal ?_)
                      exact Qcut_normal (p, (d.write l[i].at_ bs).2, (a.write l[i].at_ bs).2) ⟨rfl, rfl, rfl, rfl, rfl, rfl, rfl, rfl, trivial⟩ ⟨hbw.2, H148.front1.front3.front2.front3⟩
                  · skip
                    refine FW_seq ?_
                    refine FW_region ?_
                    refine FL_val (Gives.eql rfl rfl) rfl ?_
                    refine FL_assign (h := ?_)
                    refine FL_nil (Qseq_normal ?_)
                    first | refine FW_condP rfl (fun hc155 => ?_) (fun hc155 => ?_) | refine FW_cond rfl (fun hc155 => ?_) (fun hc155 => ?_)
                    · skip
                      refine FW_seq ?_
                      refine FW_region ?_
                      refine FL_move (h := ?_)
                      refine FL_move (h := ?_)
                      refine FL_callN H86 (read_at H86 At5 l[i].at_) rfl rfl (fun y w159 _ H159 _ => ?_)
                      rw [hB.sim.read] at H159 ⊢
                      obtain ⟨Ay, cy, hy, _⟩ := Sep.rowForm H159 At0
                      subst hy
                      refine FL_move (h := ?_)
                      refine FL_val (Gives.extract rfl rfl) rfl ?_
                      refine FL_val (Gives.extract rfl rfl) rfl ?_
                      refine FL_assign (h := ?_)
                      refine FL_assign (h := ?_)
                      refine FL_nil (Qseq_normal ?_)
                      refine FW_seq ?_
                      refine FW_region ?_
                      refine FL_move (h := ?_)
                      refine FL_move (h := ?_)
                      refine FL_callN H159 (readR_at hsm H159 At5 l[i].at_) rfl rfl (fun z w168 _ H168 _ => ?_)
                      obtain ⟨Az, cz, hz, _⟩ := Sep.rowForm H168 At0
                      subst hz
                      refine FL_move (h := ?_)
                      refine FL_val (Gives.extract rfl rfl) rfl ?_
                      refine FL_val (Gives.extract rfl rfl) rfl ?_
                      refine FL_assign (h := ?_)
                      refine FL_assign (h := ?_)
                      refine FL_nil (Qseq_normal ?_)
                      refine FW_seq ?_
                      refine FW_region ?_
                      refine FL_move (h := ?_)
                      refine FL_move (h := ?_)
                      refine FL_callS (eqSame (H168.rowAt At1) (H168.rowAt At0)) (h := ?_)
                      first | refine FL_val (Gives.notP rfl) rfl ?_ | refine FL_val (Gives.not rfl) rfl ?_
                      refine FL_move (h := ?_)
                      first | refine FL_splitP (t := 142) rfl (fun hs179 => ?_) (fun hs179 => ?_) | refine FL_split (t := 142) rfl (fun hs179 => ?_) (fun hs179 => ?_)
                      · skip
                        exact absurd hs179 (by decide) --done
                      · skip
                        refine FL_on rfl rfl ?_
                        refine FL_move (h := ?_)
                        refine FL_on rfl rfl ?_
                        refine FL_move (h := ?_)
                        refine FL_on rfl rfl ?_
                        refine FL_val (Gives.neq rfl rfl) rfl ?_
                        refine FL_pickF (h := ?_)
                        refine FL_nil (Qseq_normal ?_)
                        first | refine FW_condP rfl (fun hc185 => ?_) (fun hc185 => ?_) | refine FW_cond rfl (fun hc185 => ?_) (fun hc185 => ?_)
                        · skip
                          exact absurd hc185 (by simp) --done
                        · skip
                          refine FW_skip (Qblk_normal ?_)
                          exact Qcut_normal (p, d, a) ⟨rfl, rfl, rfl, rfl, rfl, rfl, rfl, rfl, trivial⟩ ⟨hB.next, H168.drop0.drop0⟩
                    · skip
                      refine FW_seq ?_
                      refine FW_region ?_
                      refine FL_val (Gives.eql rfl rfl) rfl ?_
                      refine FL_assign (h := ?_)
                      refine FL_nil (Qseq_normal ?_)
                      first | refine FW_condP rfl (fun hc190 => ?_) (fun hc190 => ?_) | refine FW_cond rfl (fun hc190 => ?_) (fun hc190 => ?_)
                      · skip
                        refine FW_seq ?_
                        refine FW_region ?_
                        refine FL_move (h := ?_)
                        have hbf := hB.flush (by omega)
                        refine FL_call1 H86 At5 (fun F' hp _ => flush_ok (by have := hds.1; omega) (by have := hds.2.1; omega) (by have := hds.2.2; unfold fits; omega) hp) (h := fun w193 H193 => ?_)
                        refine FL_move (h := ?_)
                        refine FL_call1 H193 At4 (fun F' hp _ => flushR_ok hsm hp) (h := fun w196 H196 => ?_)
                        refine FL_val (Gives.neq rfl rfl) rfl ?_
                        refine FL_nil (Qseq_normal ?_)
                        first | refine FW_condP rfl (fun hc198 => ?_) (fun hc198 => ?_) | refine FW_cond rfl (fun hc198 => ?_) (fun hc198 => ?_)
                        · skip
                          exact absurd hbf.1 hc198 --done
                        · skip
                          refine FW_skip (Qblk_normal ?_)
                          exact Qcut_normal (p, d.flush.2, a.flush.2) ⟨rfl, rfl, rfl, rfl, rfl, rfl, rfl, rfl, trivial⟩ ⟨hbf.2, H196⟩
                      · skip
                        refine FW_seq ?_
                        refine FW_region ?_
                        refine FL_val (Gives.eql rfl rfl) rfl ?_
                        refine FL_assign (h := ?_)
                        refine FL_nil (Qseq_normal ?_)
                        first | refine FW_condP rfl (fun hc203 => ?_) (fun hc203 => ?_) | refine FW_cond rfl (fun hc203 => ?_) (fun hc203 => ?_)
                        · skip
                          refine FW_seq ?_
                          refine FW_region ?_
                          refine FL_move (h := ?_)
                          refine FL_move (h := ?_)
                          refine FL_move (h := ?_)
                          refine FL_call1R H86.front2 At4 (fun F' hp hrr hoff => fail_ok (by have := hds.2.2; omega) (by omega) hrr hoff hp) (h := fun w208 H208 => ?_)
                          refine FL_nil (Qseq_normal ?_)
                          refine FW_region ?_
                          refine FL_move (h := ?_)
                          refine FL_move (h := ?_)
                          refine FL_move (h := ?_)
                          refine FL_call1R H208.front1 At3 (fun F' hp hrr hoff => failR_ok (by omega) hrr hoff hp) (h := fun w213 H213 => ?_)
                          refine FL_nil (Qblk_normal ?_)
                          exact Qcut_normal (p, d.failAt l[i].at_ ks, a.fail l[i].at_ ks) ⟨rfl, rfl, rfl, rfl, rfl, rfl, rfl, rfl, trivial⟩ ⟨hB.fail (by omega) hg.at_ (by omega), H213.front1.front2.front2⟩
                        · skip
                          refine FW_seq ?_
                          refine FW_region ?_
                          refine FL_val (Gives.eql rfl rfl) rfl ?_
                          refine FL_assign (h := ?_)
                          refine FL_nil (Qseq_normal ?_)
                          first | refine FW_condP rfl (fun hc217 => ?_) (fun hc217 => ?_) | refine FW_cond rfl (fun hc217 => ?_) (fun hc217 => ?_)
                          · skip
                            refine FW_seq ?_
                            refine FW_region ?_
                            refine FL_move (h := ?_)
                            refine FL_move (h := ?_)
                            refine FL_call1R H86.front2 At4 (fun F' hp hrr hoff => crash_ok (by have := hds.1; omega) (by omega) hrr hoff hp) (h := fun w221 H221 => ?_)
                            refine FL_nil (Qseq_normal ?_)
                            refine FW_region ?_
                            refine FL_move (h := ?_)
                            refine FL_move (h := ?_)
                            refine FL_call1R H221.front1 At3 (fun F' hp hrr hoff => crashR_ok (by have := hsm.opn; omega) (by omega) hrr hoff hp) (h := fun w225 H225 => ?_)
                            refine FL_nil (Qblk_normal ?_)
                            exact Qcut_normal (p, d.crash ks, a.crash ks) ⟨rfl, rfl, rfl, rfl, rfl, rfl, rfl, rfl, trivial⟩ ⟨hB.crash ks, H225.front1.front2.front2⟩
                          · skip
                            refine FW_seq ?_
                            refine FW_region ?_
                            refine FL_val (Gives.eql rfl rfl) rfl ?_
                            refine FL_assign (h := ?_)
                            refine FL_nil (Qseq_normal ?_)
                            first | refine FW_condP rfl (fun hc229 => ?_) (fun hc229 => ?_) | refine FW_cond rfl (fun hc229 => ?_) (fun hc229 => ?_)
                            · skip
                              refine FW_seq ?_
                              refine FW_region ?_
                              refine FL_move (h := ?_)
                              refine FL_call1 H86 At5 (fun F' hp _ => boot_ok hp) (h := fun w232 H232 => ?_)
                              refine FL_nil (Qseq_normal ?_)
                              refine FW_region ?_
                              refine FL_move (h := ?_)
                              refine FL_call1 H232 At4 (fun F' hp _ => bootR_ok hp) (h := fun w235 H235 => ?_)
                              refine FL_nil (Qblk_normal ?_)
                              exact Qcut_normal (p, d.boot, a.boot) ⟨rfl, rfl, rfl, rfl, rfl, rfl, rfl, rfl, trivial⟩ ⟨hB.boot, H235⟩
                            · skip
                              refine FW_seq ?_
                              refine FW_region ?_
                              refine FL_move (h := ?_)
                              refine FL_assign (h := ?_)
                              refine FL_nil (Qseq_normal ?_)
                              refine FW_seq ?_
                              refine FW_region ?_
                              refine FL_move (h := ?_)
                              refine FL_callT H86 At5 (fun F' hp _ => copy_ok (by have := hds.1; omega) (by have := hds.2.1; omega) hp) (h := fun p2 w241 _ H0 => ?_)
                              have H241 := H0.front5.star0
                              refine FL_assign (h := ?_)
                              refine FL_nil (Qseq_normal ?_)
                              refine FW_seq ?_
                              refine FW_seq ?_
                              refine FW_region ?_
                              refine FL_move (h := ?_)
                              refine FL_val (Gives.eqlNil rfl rfl) rfl ?_
                              refine FL_nil (Qseq_normal ?_)
                              first | refine FW_condP rfl (fun hc245 => ?_) (fun hc245 => ?_) | refine FW_cond rfl (fun hc245 => ?_) (fun hc245 => ?_)
                              · skip
                                exact absurd hc245 (by simp) --done
                              · skip
                                refine FW_skip (Qseq_normal ?_)
                                refine FW_seq ?_
                                refine FW_region ?_
                                refine FL_move (h := ?_)
                                refine FL_call1 H241 At0 (fun F' hp _ => boot_ok hp) (h := fun w249 H249 => ?_)
                                refine FL_nil (Qseq_normal ?_)
                                refine FW_seq ?_
                                refine FW_region ?_
                                refine FL_move (h := ?_)
                                refine FL_buildSlice H249 (Elems.one rfl rfl (Elems.one rfl rfl (Elems.one rfl rfl (Elems.one rfl rfl (Elems.one rfl rfl Elems.nil))))) rfl rfl rfl (fun b251 w252 H252 _ => ?_)
                                refine FL_mark H252 (h := fun w254 H254 => ?_)
                                refine FL_call1Q H254 At0 (fun F' Fq hp hq hdj => write_ok (b := otherB) (d := d.boot) (at_ := 0) (by have := hds.1; show d.opn.length < _; omega) (by have := hds.2.1; show d.keep.length ≤ _; omega) (by have := hds.2.2; unfold fits; show _ ≤ d.ops + 1 ∧ d.ops + 1 ≤ _; omega) (markRow_ok (m := 5) (s := 1) hq rfl) (markOff_ok hq hdj) hp) (h := fun w256 H256 => ?_)
                                refine FL_nil (Qseq_normal ?_)
                                refine FW_region ?_
                                refine FL_move (h := ?_)
                                have hfl := (small_write (small_boot hds) 0 otherB)
                                refine FL_call1 H256 At1 (fun F' hp _ => flush_ok (by have := hfl.1; omega) (by have := hfl.2.1; omega) (by have := hfl.2.2; unfold fits; omega) hp) (h := fun w259 H0 => ?_)
                                have H259 := H0.drop0.drop0
                                refine FL_nil (Qblk_normal ?_)
                                exact Qcut_normal (p2, d, a) ⟨rfl, rfl, rfl, rfl, rfl, rfl, rfl, rfl, trivial⟩ ⟨hB.next, H259.front5.front5.front5.front5.front5⟩
            · skip
              intro ⟨p2, d2, a2⟩ τ w262 hI
              obtain ⟨hB2, H262⟩ := hI
              dsimp only at hB2 H262
              simp only [upds, like, upd_ds]
              refine FW_seq ?_
              refine FW_seq ?_
              refine FW_region ?_
              refine FL_move (h := ?_)
              refine FL_move (h := ?_)
              refine FL_callS (eqSame (H262.rowAt At3) (H262.rowAt At1)) (h := ?_)
              first | refine FL_val (Gives.notP rfl) rfl ?_ | refine FL_val (Gives.not rfl) rfl ?_
              refine FL_move (h := ?_)
              first | refine FL_splitP (t := 182) rfl (fun hs268 => ?_) (fun hs268 => ?_) | refine FL_split (t := 182) rfl (fun hs268 => ?_) (fun hs268 => ?_)
              · skip
                exact absurd hs268 (by decide) --done
              · skip
                refine FL_on rfl rfl ?_
                refine FL_move (h := ?_)
                refine FL_on rfl rfl ?_
                refine FL_move (h := ?_)
                refine FL_on rfl rfl ?_
                refine FL_callQ H262 (eqInts_ok (H262.rowAt At2) (H262.rowAt At0) (by omega)) (h := fun w273 H273 _ => ?_)
                refine FL_on rfl rfl ?_
                first | refine FL_val (Gives.notP rfl) rfl ?_ | refine FL_val (Gives.not rfl) rfl ?_
                refine FL_pickF (h := ?_)
                refine FL_nil (Qseq_normal ?_)
                first | refine FW_condP rfl (fun hc276 => ?_) (fun hc276 => ?_) | refine FW_cond rfl (fun hc276 => ?_) (fun hc276 => ?_)
                · skip
                  exact absurd hc276 (by simp) --done
                · skip
                  refine FW_skip (Qseq_normal ?_)
                  refine FW_seq ?_
                  refine FW_seq ?_
                  refine FW_region ?_
                  refine FL_assign (h := ?_)
                  refine FL_nil (Qseq_normal ?_)
                  refine FW_block ?_
                  have HR : Sep w noB [rowH 5 1 (.slice Ab bs.length cb) bs.length ((bs.map fun u => (u.toNat : Int)).map (Value.int .u8)), rowH 3 1 (.slice Ak ks.length ck) ks.length (ks.map I), refA q a2, diskH p2 d2] w273 := by
                    rw [List.map_map]
                    exact (H273.front2.front3.front2.front3).drop0.drop0
                  refine FW_loop' (fun x : Nat × List Int => [(1, .slice (some ad) l.length cl), (5, .pointer (some ⟨p2, 0, none⟩)), (7, .pointer (some ⟨q, 0, none⟩)), (9, I i), (10, .slice Ab bs.length cb), (11, .slice Ak ks.length ck), (20, I x.1)])
                    (fun x w' => x.1 ≤ bs.length ∧ x.2.length = bs.length ∧ Sep w noB [rowH 5 1 (.slice Ab bs.length cb) bs.length (x.2.map (Value.int .u8)), rowH 3 1 (.slice Ak ks.length ck) ks.length (ks.map I), refA q a2, diskH p2 d2] w') (fun x _ => bs.length - x.1) (0, bs.map fun u => (u.toNat : Int)) ⟨rfl, rfl, rfl, rfl, rfl, rfl, rfl, trivial⟩ ⟨Nat.zero_le _, List.length_map _, HR⟩ (fun x τ w280 hI => ?_)
                  obtain ⟨k, zs⟩ := x
                  obtain ⟨hk, hzl, H280⟩ := hI
                  dsimp only at hk hzl H280
                  try simp only [upds, like, upd_ds]
                  refine FW_seq ?_
                  refine FW_seq ?_
                  refine FW_region ?_
                  refine FL_move (h := ?_)
                  refine FL_move (h := ?_)
                  refine FL_val (Gives.lenSlice rfl) rfl ?_
                  refine FL_val (Gives.lss rfl rfl) rfl ?_
                  refine FL_nil (Qseq_normal ?_)
                  first | refine FW_condP rfl (fun hc285 => ?_) (fun hc285 => ?_) | refine FW_cond rfl (fun hc285 => ?_) (fun hc285 => ?_)
                  · skip
                    have hkt : k < bs.length := by omega
                    obtain ⟨g, cg, rest, hg2, hcg, hlg, hle, hmx, H287⟩ := Sep.rowOpen H280 At0 (by omega)
                    injection hg2 with hg1 _ hg3
                    subst hg1 hg3
                    have hkz : k < zs.length := by omega
                    have hget : (zs.map (Value.int .u8) ++ rest)[k]? = some (.int .u8 zs[k]) := by
                      rw [List.getElem?_append_left (by rw [List.length_map]; exact hkz), List.getElem?_map, List.getElem?_eq_getElem hkz]
                      rfl
                    refine FW_skip (Qseq_normal ?_)
                    refine FW_seq ?_
                    refine FW_block ?_
                    refine FW_region ?_
                    refine FL_move (h := ?_)
                    refine FL_move (h := ?_)
                    refine FL_move (h := ?_)
                    refine FL_move (h := ?_)
                    refine FL_val (Gives.idxB rfl rfl hkt) rfl ?_
                    refine FL_load H287 (hat := At0) (hv := hget) (h := ?_)
                    refine FL_val (Gives.xor rfl rfl) rfl ?_
                    refine FL_val (Gives.idxB rfl rfl hkt) rfl ?_
                    refine FL_store H287 (hy := by exact rfl) (hat := At0) (cs' := (zs.set k (bits .xor .u8 zs[k] 90)).map (Value.int .u8) ++ rest) (ho := by rw [List.length_append, List.length_map]; exact Nat.ble_eq_true_of_le (by omega)) (hs := by rw [List.map_set]; exact set_front (by rw [List.length_map]; exact hkz)) (h := ?_)
                    intro w297 H297
                    refine FL_nil (Qblk_normal (Qseq_normal ?_))
                    refine FW_region ?_
                    refine FL_move (h := ?_)
                    first | refine FL_val (Gives.addI rfl rfl rfl (by omega)) rfl ?_ | refine FL_val (Gives.add rfl rfl) rfl ?_
                    refine FL_assign (h := ?_)
                    refine FL_nil ?_
                    exact Qround_normal (k + 1, zs.set k (bits .xor .u8 zs[k] 90)) ⟨rfl, rfl, rfl, rfl, rfl, rfl, rfl, trivial⟩ ⟨by dsimp only; omega, by rw [List.length_set]; exact hzl, Sep.rowShut H297 At0 (by rw [List.length_append, List.length_map, List.length_set]; rw [List.length_append, List.length_map] at hcg; exact hcg) (by rw [List.length_map, List.length_set]; omega) hle hmx⟩ (by dsimp only; omega)
                  · skip
                    refine FW_exit (Qseq_exit (Qround_exit (Qblk_exit (Qseq_normal ?_))))
                    refine FW_seq ?_
                    refine FW_seq ?_
                    refine FW_region ?_
                    refine FL_assign (h := ?_)
                    refine FL_nil (Qseq_normal ?_)
                    refine FW_block ?_
                    refine FW_loop' (fun x : Nat × List Int => [(1, .slice (some ad) l.length cl), (5, .pointer (some ⟨p2, 0, none⟩)), (7, .pointer (some ⟨q, 0, none⟩)), (9, I i), (11, .slice Ak ks.length ck), (21, I x.1)])
                      (fun x w' => x.1 ≤ ks.length ∧ x.2.length = ks.length ∧ Sep w noB [rowH 3 1 (.slice Ak ks.length ck) ks.length (x.2.map I), refA q a2, diskH p2 d2] w') (fun x _ => ks.length - x.1) (0, ks) ⟨rfl, rfl, rfl, rfl, rfl, rfl, trivial⟩ ⟨Nat.zero_le _, rfl, H280.drop0⟩ (fun x τ w304 hI => ?_)
                    obtain ⟨j, zs2⟩ := x
                    obtain ⟨hj, hzl2, H304⟩ := hI
                    dsimp only at hj hzl2 H304
                    try simp only [upds, like, upd_ds]
                    refine FW_seq ?_
                    refine FW_seq ?_
                    refine FW_region ?_
                    refine FL_move (h := ?_)
                    refine FL_move (h := ?_)
                    refine FL_val (Gives.lenSlice rfl) rfl ?_
                    refine FL_val (Gives.lss rfl rfl) rfl ?_
                    refine FL_nil (Qseq_normal ?_)
                    first | refine FW_condP rfl (fun hc309 => ?_) (fun hc309 => ?_) | refine FW_cond rfl (fun hc309 => ?_) (fun hc309 => ?_)
                    · skip
                      have hjt : j < ks.length := by omega
                      obtain ⟨g, cg, rest, hg2, hcg, hlg, hle, hmx, H311⟩ := Sep.rowOpen H304 At0 (by omega)
                      injection hg2 with hg1 _ hg3
                      subst hg1 hg3
                      have hjz : j < zs2.length := by omega
                      refine FW_skip (Qseq_normal ?_)
                      refine FW_seq ?_
                      refine FW_block ?_
                      refine FW_region ?_
                      refine FL_move (h := ?_)
                      refine FL_move (h := ?_)
                      refine FL_val (Gives.idxB rfl rfl hjt) rfl ?_
                      refine FL_store H311 (hy := by exact rfl) (hat := At0) (cs' := (zs2.set j (-1)).map I ++ rest) (ho := by rw [List.length_append, List.length_map]; exact Nat.ble_eq_true_of_le (by omega)) (hs := by rw [List.map_set]; exact set_front (by rw [List.length_map]; exact hjz)) (h := ?_)
                      intro w316 H316
                      refine FL_nil (Qblk_normal (Qseq_normal ?_))
                      refine FW_region ?_
                      refine FL_move (h := ?_)
                      first | refine FL_val (Gives.addI rfl rfl rfl (by omega)) rfl ?_ | refine FL_val (Gives.add rfl rfl) rfl ?_
                      refine FL_assign (h := ?_)
                      refine FL_nil ?_
                      exact Qround_normal (j + 1, zs2.set j (-1)) ⟨rfl, rfl, rfl, rfl, rfl, rfl, trivial⟩ ⟨by dsimp only; omega, by rw [List.length_set]; exact hzl2, Sep.rowShut H316 At0 (by rw [List.length_append, List.length_map, List.length_set]; rw [List.length_append, List.length_map] at hcg; exact hcg) (by rw [List.length_map, List.length_set]; omega) hle hmx⟩ (by dsimp only; omega)
                    · skip
                      refine FW_exit (Qseq_exit (Qround_exit (Qblk_exit (Qseq_normal ?_))))
                      refine FW_seq ?_
                      refine FW_region ?_
                      refine FL_move (h := ?_)
                      refine FL_move (h := ?_)
                      refine FL_callQ H304 (told_at hB2.sim (hB2.as_.mono (by omega)) H304 At2 At1) (h := fun w324 H324 _ => ?_)
                      first | refine FL_val (Gives.notP rfl) rfl ?_ | refine FL_val (Gives.not rfl) rfl ?_
                      refine FL_nil (Qseq_normal ?_)
                      first | refine FW_condP rfl (fun hc326 => ?_) (fun hc326 => ?_) | refine FW_cond rfl (fun hc326 => ?_) (fun hc326 => ?_)
                      · skip
                        exact absurd hc326 (by simp) --done
                      · skip
                        refine FW_skip (Qblk_normal (Qseq_normal ?_))
                        refine FW_region ?_
                        refine FL_move (h := ?_)
                        first | refine FL_val (Gives.addI rfl rfl rfl (by omega)) rfl ?_ | refine FL_val (Gives.add rfl rfl) rfl ?_
                        refine FL_assign (h := ?_)
                        refine FL_nil ?_
                        exact Qround_normal (i + 1, p2, d2, a2) ⟨rfl, rfl, rfl, rfl, trivial⟩ ⟨by dsimp only; omega, by dsimp only; omega, hB2, H324.drop0⟩ (by dsimp only; omega)
          · skip
            refine FW_exit (Qseq_exit (Qround_exit (Qblk_exit (Qseq_normal ?_))))
            refine FW_seq ?_
            refine FW_region ?_
            refine FL_move (h := ?_)
            refine FL_move (h := ?_)
            refine FL_callQ H38 (told_at hB.sim (hB.as_.mono (by omega)) H38 At1 At0) (h := fun w335 H335 _ => ?_)
            refine FL_move (h := ?_)
            first | refine FL_splitP (t := 218) rfl (fun hs337 => ?_) (fun hs337 => ?_) | refine FL_split (t := 218) rfl (fun hs337 => ?_) (fun hs337 => ?_)
            · skip
              refine FL_on rfl rfl ?_
              refine FL_callQ H335 works_ok (h := fun w339 H339 _ => ?_)
              refine FL_pickT (h := ?_)
              refine FL_assign (h := ?_)
              refine FL_nil (Qseq_normal ?_)
              refine FW_ret (Qfn_ret (hR := ?_))
              exact ⟨rfl, H339.kept⟩
            · skip
              exact absurd hs337 (by decide) --done
        · skip
          refine FL_off rfl rfl rfl ?_
          refine FL_off rfl rfl rfl ?_
          refine FL_pickF (h := ?_)
          refine FL_nil (Qseq_normal ?_)
          refine FW_cond_false rfl ?_
          refine FW_exit (Qseq_exit (Qround_exit (Qblk_exit (Qseq_normal ?_))))
          refine FW_seq ?_
          refine FW_region ?_
          refine FL_move (h := ?_)
          refine FL_move (h := ?_)
          refine FL_callQ H38 (told_at hB.sim (hB.as_.mono (by omega)) H38 At1 At0) (h := fun w348 H348 _ => ?_)
          refine FL_move (h := ?_)
          first | refine FL_splitP (t := 218) rfl (fun hs350 => ?_) (fun hs350 => ?_) | refine FL_split (t := 218) rfl (fun hs350 => ?_) (fun hs350 => ?_)
          · skip
            refine FL_on rfl rfl ?_
            refine FL_callQ H348 works_ok (h := fun w352 H352 _ => ?_)
            refine FL_pickT (h := ?_)
            refine FL_assign (h := ?_)
            refine FL_nil (Qseq_normal ?_)
            refine FW_ret (Qfn_ret (hR := ?_))
            exact ⟨rfl, H352.kept⟩
          · skip
            exact absurd hs350 (by decide) --done
end
end Go.Proofs.Yteflbohpabdjkaa
