/-
  SlotsPlay's parts: the bytes of a call, told; walked.
-/
import Derived.Test.YteflbohpabdjkaaRefX
import Derived.Test.YteflbohpabdjkaaSlotW
namespace Go.Proofs.Yteflbohpabdjkaa
open Go Go.Mw
set_option maxRecDepth 8000

structure DoS where
  kind : Int
  from_ : Int
  many : Int
  ak : Option Addr
  ks : List Int
  ck : Nat
def doSCells (x : DoS) : List Value := [I x.kind, I x.from_, I x.many, .slice x.ak x.ks.length x.ck]
structure DoS.good (w : World) (x : DoS) : Prop where
  kind : fits x.kind
  from_ : fits x.from_
  many : fits x.many
  hk : x.ks.length ≤ x.ck
  rk : RowAt w x.ak x.ks.length 1 (x.ks.map I)
theorem doSCells_get (l : List DoS) (i : Nat) (hi : i < l.length) (j : Nat) (v : Value) (hv : (doSCells l[i])[j]? = some v) : (l.flatMap doSCells)[i * 4 + j]? = some v := by
  induction l generalizing i with
  | nil => simp at hi
  | cons x l ih =>
    rw [List.flatMap_cons]
    cases i with
    | zero =>
      have hj := (List.getElem?_eq_some_iff.1 hv).1
      rw [Nat.zero_mul, Nat.zero_add, List.getElem?_append_left (show j < (doSCells x).length from hj)]; exact hv
    | succ i =>
      have hx : (doSCells x).length = 4 := rfl
      rw [List.getElem?_append_right (by omega)]
      have : (i + 1) * 4 + j - (doSCells x).length = i * 4 + j := by omega
      rw [this]
      exact ih i (by simpa using hi) hv
def doB (x : DoS) : List UInt8 := rising x.from_ (x.many % 701).toNat
theorem doB_length (x : DoS) : (doB x).length ≤ 700 := by unfold doB; rw [rising_length]; omega
section
variable {p q : Nat} {d : DM} {a : AM} {m : SM} {F : Nat → Prop} {w w₀ : World} {S : Nat → Prop} {rs : List HP} {put put' : HP → List HP}
theorem doBytes_ok (x : DoS) (h1 : fits x.from_) (h2 : fits x.many) : Rets Try.prog 56 [.agg (doSCells x).toArray] w fun v w' => ∃ v', v = v' ∧ True ∧ Turn noB (rowH 5 1 v' (doB x).length ((doB x).map B)) w w' := by
  have H := Sep.start0 w
  refine rets1 Try.func56 rfl rfl rfl rfl ?_
  obtain ⟨k, hk⟩ : ∃ k : Nat, x.many % 701 = k := ⟨(x.many % 701).toNat, by omega⟩
  have hput : doB x = rising x.from_ k := by
    unfold doB
    rw [hk, Int.toNat_natCast]
  have hkm : k ≤ 700 := by omega
  refine FW_seq ?_
  refine FW_region ?_
  refine FL_box H (h := ?_)
  intro b1 w2 H2 _
  refine FL_assign (h := ?_)
  refine FL_nil (Qseq_normal ?_)
  refine FW_seq ?_
  refine FW_region ?_
  first | refine FL_val (Gives.field0 rfl) rfl ?_ | refine FL_val (Gives.field rfl) rfl ?_ | refine FL_val (Gives.fieldA rfl) rfl ?_
  refine FL_load H2 (hat := At0) (cs := doSCells x) (h := ?_)
  refine FL_callS (bring_ok x.many 701 h2 (by omega)) (h := ?_)
  rw [hk]
  refine FL_make1 H2 (k := k) (by unfold maxLen; omega) (by omega) (h := ?_)
  intro bb w8 H8 _
  refine FL_assign (h := ?_)
  refine FL_nil (Qseq_normal ?_)
  refine FW_seq ?_
  refine FW_seq ?_
  refine FW_region ?_
  refine FL_assign (h := ?_)
  refine FL_nil (Qseq_normal ?_)
  refine FW_block ?_
  refine FW_loop' (fun i : Nat => [(1, .pointer (some ⟨b1, 0, none⟩)), (3, .slice (some ⟨bb, 0, none⟩) k k), (4, I i)])
    (fun i w' => i ≤ k ∧ Sep w noB [blk bb (((rising x.from_ k).take i).map B ++ List.replicate (k - i) (Value.int .u8 0)) 5, blk b1 (doSCells x) 90] w') (fun i _ => k - i) 0 ⟨rfl, rfl, rfl, trivial⟩ ⟨Nat.zero_le _, H8⟩ (fun j τ w12 hI => ?_)
  obtain ⟨hj, H12⟩ := hI
  try simp only [upds, like, upd_ds, und_ds]
  refine FW_seq ?_
  refine FW_seq ?_
  refine FW_region ?_
  refine FL_move (h := ?_)
  refine FL_move (h := ?_)
  refine FL_val (Gives.lenSlice rfl) rfl ?_
  refine FL_val (Gives.lss rfl rfl) rfl ?_
  refine FL_nil (Qseq_normal ?_)
  first | refine FW_condP rfl (fun hc17 => ?_) (fun hc17 => ?_) | refine FW_cond rfl (fun hc17 => ?_) (fun hc17 => ?_)
  · skip
    have hlt : j < k := by omega
    refine FW_skip (Qseq_normal ?_)
    refine FW_seq ?_
    refine FW_block ?_
    refine FW_region ?_
    refine FL_move (h := ?_)
    refine FL_move (h := ?_)
    first | refine FL_val (Gives.field0 rfl) rfl ?_ | refine FL_val (Gives.field rfl) rfl ?_ | refine FL_val (Gives.fieldA rfl) rfl ?_
    refine FL_load H12 (hat := At1) (cs := doSCells x) (h := ?_)
    refine FL_callS (bring_ok x.from_ 256 h1 (by omega)) (h := ?_)
    refine FL_move (h := ?_)
    first | refine FL_val (Gives.addI rfl rfl rfl (by omega)) rfl ?_ | refine FL_val (Gives.add rfl rfl) rfl ?_
    refine FL_val (Gives.conv rfl) rfl ?_
    rw [show IntKind.u8.wrap (x.from_ % 256 + (j : Int)) = ((UInt8.ofNat ((x.from_ % 256 + (j : Int)) % 256).toNat).toNat : Int) by
      rw [UInt8.toNat_ofNat']
      show (x.from_ % 256 + (j : Int)) % 256 = _
      omega]
    refine FL_val (Gives.idxB rfl rfl hlt) rfl ?_
    have hll : ((rising x.from_ k).take j).length = j := by rw [List.length_take, rising_length]; omega
    refine FL_store H12 (hy := by exact rfl) (hat := At0) (cs' := ((rising x.from_ k).take (j + 1)).map B ++ List.replicate (k - (j + 1)) (Value.int .u8 0)) (ho := by rw [List.length_append, List.length_map, hll, List.length_replicate]; exact Nat.ble_eq_true_of_le (by omega)) (hs := by rw [rising_take_succ _ hlt]; exact set_rise hlt hll) (h := ?_)
    intro w29 H29
    refine FL_nil (Qblk_normal (Qseq_normal ?_))
    refine FW_region ?_
    refine FL_move (h := ?_)
    first | refine FL_val (Gives.addI rfl rfl rfl (by omega)) rfl ?_ | refine FL_val (Gives.add rfl rfl) rfl ?_
    refine FL_assign (h := ?_)
    refine FL_nil ?_
    exact Qround_normal (j + 1) ⟨rfl, rfl, rfl, trivial⟩ ⟨by omega, H29⟩ (by omega)
  · skip
    have hjk : j = k := by omega
    subst hjk
    refine FW_exit (Qseq_exit (Qround_exit (Qblk_exit (Qseq_normal ?_))))
    refine FW_seq ?_
    refine FW_region ?_
    refine FL_move (h := ?_)
    refine FL_assign (h := ?_)
    refine FL_nil (Qseq_normal ?_)
    refine FW_ret (Qfn_ret (hR := ?_))
    rw [Nat.sub_self, List.replicate_zero, List.append_nil, List.take_of_length_le (by rw [rising_length]; exact Nat.le_refl _)] at H12
    have H2 := Sep.asRow H12 At0 (s := 1) (n := j) (by simp [rising_length]) (by unfold maxLen; omega)
    refine ⟨_, rfl, trivial, ?_⟩
    rw [hput, rising_length]
    exact (Sep.first H2).turn
theorem told30_ok {x y : Option Nat} {i : Nat} (hxy : x.isSome = y.isSome) (hB : Both i d a) (hi : i ≤ 900) {Fx Fy F1 F2 : Nat → Prop} (hx : (openH x p m).ok Fx w) (hy : (openRH y q m).ok Fy w) (h1 : (diskH p d).ok F1 w) (h2 : (refA q a).ok F2 w) :
    Rets Try.prog 59 [.pointer (x.map fun s => ⟨s, 0, none⟩), .pointer (y.map fun s => ⟨s, 0, none⟩), .pointer (some ⟨p, 0, none⟩), .pointer (some ⟨q, 0, none⟩)] w fun v w' => v = .bool true ∧ Kept noB w w' := by
  have H := Sep.start0 w
  have hwf := hB.sim.wf
  have hh := half_bd hwf
  have hsm := hB.as_.mono (show 40 + i ≤ 100000 by omega)
  have hsz := hB.sim.size
  have hsz1 := hwf.1
  have hsz2 := hwf.2.1
  obtain ⟨rm, hm, vk, vo, ve, pool, hok, hb, _⟩ := refFacts h2
  have hmm : rm.many = a.many := by rw [← hm]; rfl
  have hmd : rm.dead = a.dead := by rw [← hm]; rfl
  have hmo : rm.ops = a.ops := by rw [← hm]; rfl
  have hnn : (x.map fun s : Nat => (⟨s, 0, none⟩ : Addr)).isNone = (y.map fun s : Nat => (⟨s, 0, none⟩ : Addr)).isNone := by
    cases x <;> cases y <;> first | rfl | cases hxy
  refine rets4 Try.func59 rfl rfl rfl rfl ?_
  refine FW_seq ?_
  refine FW_region ?_
  refine FL_assign (h := ?_)
  refine FL_nil (Qseq_normal ?_)
  refine FW_seq ?_
  refine FW_seq ?_
  refine FW_drawS rfl H (h := fun hok2 w4 H4 => ?_)
  refine FGmove hok2 0 (h := ?_)
  refine FGp hok2 1 rfl rfl (fun _ => (Gives.eqlNil rfl rfl)) (by kernel_rfl) ?_
  refine FGmove hok2 2 (h := ?_)
  refine FGp hok2 3 rfl rfl (fun _ => (Gives.eqlNil rfl rfl)) (by kernel_rfl) ?_
  refine FGp hok2 4 rfl rfl (fun _ => (Gives.neqB rfl rfl)) (by kernel_rfl) ?_
  refine FGmove hok2 5 (h := ?_)
  first | refine FG_splitP (t := 19) rfl (fun hs8 => ?_) (fun hs8 => ?_) | refine FG_split (t := 19) rfl (fun hs8 => ?_) (fun hs8 => ?_)
  · skip
    (rw [hnn] at hs8; simp at hs8) --done
  · skip
    refine FGmove hok2 6 (h := ?_)
    refine FGmove hok2 8 (h := ?_)
    refine FGp hok2 9 rfl rfl (fun _ => (Gives.nilCheck rfl)) (by kernel_rfl) ?_
    first | refine FGp hok2 10 rfl rfl (fun _ => (Gives.field0 rfl)) (by kernel_rfl) ?_ | refine FGp hok2 10 rfl rfl (fun _ => (Gives.field rfl)) (by kernel_rfl) ?_ | refine FGp hok2 10 rfl rfl (fun _ => (Gives.fieldA rfl)) (by kernel_rfl) ?_
    refine FGl hok2 11 rfl rfl (Gives.load1 rfl (H4.kept.get hb id) rfl) (by kernel_rfl) ?_
    refine FGcallS hok2 7 [(11, false), (10, true), (9, true), (8, true)] H4 (ops_ok (HP.stay h1 H4.kept)) (h := fun w14 H14 => ⟨(Stab_cons rfl rfl (Gives.load1 rfl (H14.kept.get hb id) rfl) rfl (Stab_pure (Stab_pure (Stab_pure (Stab_nil))))), ?_⟩)
    refine FGp hok2 12 rfl rfl (fun _ => (Gives.neq rfl rfl)) (by kernel_rfl) ?_
    refine FGp hok2 13 rfl rfl (fun _ => Gives.pickF rfl rfl) (by kernel_rfl) ?_
    refine FGmove hok2 14 (h := ?_)
    first | refine FG_splitP (t := 28) rfl (fun hs17 => ?_) (fun hs17 => ?_) | refine FG_split (t := 28) rfl (fun hs17 => ?_) (fun hs17 => ?_)
    · skip
      exact absurd (hB.sim.ops.trans hmo.symm) hs17 --done
    · skip
      refine FGmove hok2 15 (h := ?_)
      refine FGmove hok2 17 (h := ?_)
      refine FGp hok2 18 rfl rfl (fun _ => (Gives.nilCheck rfl)) (by kernel_rfl) ?_
      first | refine FGp hok2 19 rfl rfl (fun _ => (Gives.field0 rfl)) (by kernel_rfl) ?_ | refine FGp hok2 19 rfl rfl (fun _ => (Gives.field rfl)) (by kernel_rfl) ?_ | refine FGp hok2 19 rfl rfl (fun _ => (Gives.fieldA rfl)) (by kernel_rfl) ?_
      refine FGl hok2 20 rfl rfl (Gives.load1 rfl (H14.kept.get hb id) rfl) (by kernel_rfl) ?_
      refine FGcallS hok2 16 [(20, false), (19, true), (18, true), (17, true)] H14 (alive_ok (HP.stay h1 H14.kept)) (h := fun w23 H23 => ⟨(Stab_cons rfl rfl (Gives.load1 rfl (H23.kept.get hb id) rfl) rfl (Stab_pure (Stab_pure (Stab_pure (Stab_nil))))), ?_⟩)
      refine FGp hok2 21 rfl rfl (fun _ => (Gives.eqlB rfl rfl)) (by kernel_rfl) ?_
      refine FGp hok2 22 rfl rfl (fun _ => Gives.pickF rfl rfl) (by kernel_rfl) ?_
      refine FG_end hok2 (by kernel_rfl) ?_
      refine Qseq_normal ?_
      first | refine FW_condP rfl (fun hc26 => ?_) (fun hc26 => ?_) | refine FW_cond rfl (fun hc26 => ?_) (fun hc26 => ?_)
      · skip
        (rw [hB.sim.dead, hmd] at hc26; cases hq : a.dead <;> rw [hq] at hc26 <;> cases hc26) --done
      · skip
        refine FW_skip (Qseq_normal ?_)
        refine FW_seq ?_
        refine FW_seq ?_
        refine FW_drawS rfl H23 (h := fun hok28 w30 H30 => ?_)
        refine FGmove hok28 0 (h := ?_)
        refine FGp hok28 1 rfl rfl (fun _ => (Gives.neqNil rfl rfl)) (by kernel_rfl) ?_
        refine FGmove hok28 2 (h := ?_)
        first | refine FG_splitP (t := 39) rfl (fun hs32 => ?_) (fun hs32 => ?_) | refine FG_split (t := 39) rfl (fun hs32 => ?_) (fun hs32 => ?_)
        · skip
          obtain ⟨sy, rfl⟩ : ∃ sy, y = some sy := by cases y with | none => exact absurd hs32 (by simp) | some sy => exact ⟨sy, rfl⟩
          obtain ⟨sx, rfl⟩ : ∃ sx, x = some sx := by cases x with | none => cases hxy | some sx => exact ⟨sx, rfl⟩
          have hxb := (Sep.start1 hx).obj (b := sx) (o := .cells (slotCells p m).toArray _ (0, 0)) At0
          have hyb := (Sep.start1 hy).obj (b := sy) (o := .cells (slotRCells q m).toArray _ (0, 0)) At0
          refine FGmove hok28 3 (h := ?_)
          refine FGmove hok28 5 (h := ?_)
          refine FGp hok28 6 rfl rfl (fun _ => (Gives.nilCheck rfl)) (by kernel_rfl) ?_
          first | refine FGp hok28 7 rfl rfl (fun _ => (Gives.field0 rfl)) (by kernel_rfl) ?_ | refine FGp hok28 7 rfl rfl (fun _ => (Gives.field rfl)) (by kernel_rfl) ?_ | refine FGp hok28 7 rfl rfl (fun _ => (Gives.fieldA rfl)) (by kernel_rfl) ?_
          refine FGl hok28 8 rfl rfl (Gives.load1 rfl (H30.kept.get hyb id) rfl) (by kernel_rfl) ?_
          refine FGcallS hok28 4 [(8, false), (7, true), (6, true), (5, true)] H30 (number_at (m := m) (p := p) (Sep.start1 (HP.stay hx H30.kept)) At0) (h := fun w38 H38 => ⟨(Stab_cons rfl rfl (Gives.load1 rfl (H38.kept.get hyb id) rfl) rfl (Stab_pure (Stab_pure (Stab_pure (Stab_nil))))), ?_⟩)
          refine FGp hok28 9 rfl rfl (fun _ => (Gives.neq rfl rfl)) (by kernel_rfl) ?_
          refine FGmove hok28 10 (h := ?_)
          first | refine FG_splitP (t := 47) rfl (fun hs40 => ?_) (fun hs40 => ?_) | refine FG_split (t := 47) rfl (fun hs40 => ?_) (fun hs40 => ?_)
          · skip
            first | exact absurd rfl hs40 | exact (hs40 trivial).elim | exact absurd hs40 (by decide) | exact absurd hs40 (by simp) | omega --done
          · skip
            refine FGmove hok28 11 (h := ?_)
            refine FGmove hok28 13 (h := ?_)
            refine FGp hok28 14 rfl rfl (fun _ => (Gives.nilCheck rfl)) (by kernel_rfl) ?_
            first | refine FGp hok28 15 rfl rfl (fun _ => (Gives.field0 rfl)) (by kernel_rfl) ?_ | refine FGp hok28 15 rfl rfl (fun _ => (Gives.field rfl)) (by kernel_rfl) ?_ | refine FGp hok28 15 rfl rfl (fun _ => (Gives.fieldA rfl)) (by kernel_rfl) ?_
            refine FGl hok28 16 rfl rfl (Gives.load1 rfl (H38.kept.get hb id) rfl) (by kernel_rfl) ?_
            refine FGp hok28 17 rfl rfl (fun _ => (Gives.subI rfl rfl (show rm.many - 1 = d.size - 1 by omega) (by omega))) (by kernel_rfl) ?_
            refine FGp hok28 18 rfl rfl (fun _ => (Gives.quo rfl rfl (by decide))) (by kernel_rfl) ?_
            refine FGp hok28 19 rfl rfl (fun _ => (Gives.mulI rfl rfl (show IntKind.i64.wrap ((d.size - 1).tdiv 2) * 128 = room d by rw [Int.tdiv_eq_ediv_of_nonneg (by omega), IntWalk.i64_in _ (by omega)]; rfl) (by unfold room; omega))) (by kernel_rfl) ?_
            refine FGcallS hok28 12 [(19, true), (18, true), (17, true), (16, false), (15, true), (14, true), (13, true)] H38 (rooms_at (m := m) (p := p) (Sep.start1 (HP.stay hx H38.kept)) (HP.stay h1 H38.kept)) (h := fun w49 H49 => ⟨Stab_pure (Stab_pure (Stab_pure ((Stab_cons rfl rfl (Gives.load1 rfl (H49.kept.get hb id) rfl) rfl (Stab_pure (Stab_pure (Stab_pure (Stab_nil)))))))), ?_⟩)
            refine FGp hok28 20 rfl rfl (fun _ => (Gives.neq rfl rfl)) (by kernel_rfl) ?_
            refine FGp hok28 21 rfl rfl (fun _ => Gives.pickF rfl rfl) (by kernel_rfl) ?_
            refine FGp hok28 22 rfl rfl (fun _ => Gives.pickT rfl rfl) (by kernel_rfl) ?_
            refine FG_end hok28 (by kernel_rfl) ?_
            refine Qseq_normal ?_
            first | refine FW_condP rfl (fun hc53 => ?_) (fun hc53 => ?_) | refine FW_cond rfl (fun hc53 => ?_) (fun hc53 => ?_)
            · skip
              first | exact absurd rfl hc53 | exact (hc53 trivial).elim | exact absurd hc53 (by decide) | exact absurd hc53 (by simp) | omega --done
            · skip
              refine FW_skip (Qseq_normal ?_)
              refine FW_seq ?_
              refine FW_seq ?_
              refine FW_region ?_
              refine FL_assign (h := ?_)
              refine FL_nil (Qseq_normal ?_)
              refine FW_block ?_
              refine FW_loop' (fun n : Nat => [(2, .pointer (some ⟨p, 0, none⟩)), (3, .pointer (some ⟨q, 0, none⟩)), (9, I n)])
                (fun n w' => n ≤ 4 ∧ Sep w noB [] w') (fun n _ => 4 - n) 0 ⟨rfl, rfl, rfl, trivial⟩ ⟨by decide, H49⟩ (fun n τ w57 hI => ?_)
              obtain ⟨hn, H57⟩ := hI
              try simp only [upds, like, upd_ds, und_ds]
              refine FW_seq ?_
              refine FW_seq ?_
              refine FW_region ?_
              refine FL_move (h := ?_)
              refine FL_val (Gives.lss rfl rfl) rfl ?_
              refine FL_nil (Qseq_normal ?_)
              first | refine FW_condP rfl (fun hc60 => ?_) (fun hc60 => ?_) | refine FW_cond rfl (fun hc60 => ?_) (fun hc60 => ?_)
              · skip
                have hn4 : n < 4 := by omega
                refine FW_skip (Qseq_normal ?_)
                refine FW_seq ?_
                refine FW_block ?_
                refine FW_seq ?_
                refine FW_region ?_
                refine FL_move (h := ?_)
                refine FL_move (h := ?_)
                refine FL_val (Gives.mulI rfl rfl rfl (by omega)) rfl ?_
                refine FL_callN H57 (read_ok (HP.stay h1 H57.kept) (at_ := (n : Int) * 2)) rfl rfl (fun y w66 _ H66 _ => ?_)
                rw [hB.sim.read] at H66 ⊢
                obtain ⟨Ay, cy, hy, _⟩ := Sep.rowForm H66 At0
                subst hy
                refine FL_move (h := ?_)
                refine FL_val (Gives.extract rfl rfl) rfl ?_
                refine FL_val (Gives.extract rfl rfl) rfl ?_
                refine FL_assign (h := ?_)
                refine FL_assign (h := ?_)
                refine FL_nil (Qseq_normal ?_)
                refine FW_seq ?_
                refine FW_region ?_
                refine FL_move (h := ?_)
                refine FL_move (h := ?_)
                refine FL_val (Gives.mulI rfl rfl rfl (by omega)) rfl ?_
                refine FL_callN H66 (readR_ok hsm (HP.stay h2 H66.kept) (at_ := (n : Int) * 2)) rfl rfl (fun z w76 _ H76 _ => ?_)
                obtain ⟨Az, cz, hz, _⟩ := Sep.rowForm H76 At0
                subst hz
                refine FL_move (h := ?_)
                refine FL_val (Gives.extract rfl rfl) rfl ?_
                refine FL_val (Gives.extract rfl rfl) rfl ?_
                refine FL_assign (h := ?_)
                refine FL_assign (h := ?_)
                refine FL_nil (Qseq_normal ?_)
                refine FW_seq ?_
                refine FW_region ?_
                refine FL_move (h := ?_)
                refine FL_move (h := ?_)
                refine FL_callS (eqSame (H76.rowAt At1) (H76.rowAt At0)) (h := ?_)
                first | refine FL_val (Gives.notP rfl) rfl ?_ | refine FL_val (Gives.not rfl) rfl ?_
                refine FL_move (h := ?_)
                first | refine FL_splitP (t := 82) rfl (fun hs87 => ?_) (fun hs87 => ?_) | refine FL_split (t := 82) rfl (fun hs87 => ?_) (fun hs87 => ?_)
                · skip
                  first | exact absurd rfl hs87 | exact (hs87 trivial).elim | exact absurd hs87 (by decide) | exact absurd hs87 (by simp) | omega --done
                · skip
                  refine FL_on rfl rfl ?_
                  refine FL_move (h := ?_)
                  refine FL_on rfl rfl ?_
                  refine FL_move (h := ?_)
                  refine FL_on rfl rfl ?_
                  refine FL_val (Gives.neq rfl rfl) rfl ?_
                  refine FL_pickF (h := ?_)
                  refine FL_nil (Qseq_normal ?_)
                  first | refine FW_condP rfl (fun hc93 => ?_) (fun hc93 => ?_) | refine FW_cond rfl (fun hc93 => ?_) (fun hc93 => ?_)
                  · skip
                    first | exact absurd rfl hc93 | exact (hc93 trivial).elim | exact absurd hc93 (by decide) | exact absurd hc93 (by simp) | omega --done
                  · skip
                    refine FW_skip (Qblk_normal (Qseq_normal ?_))
                    refine FW_region ?_
                    refine FL_move (h := ?_)
                    first | refine FL_val (Gives.addI rfl rfl rfl (by omega)) rfl ?_ | refine FL_val (Gives.add rfl rfl) rfl ?_
                    refine FL_assign (h := ?_)
                    refine FL_nil ?_
                    exact Qround_normal (n + 1) ⟨rfl, rfl, rfl, trivial⟩ ⟨by omega, H76.drop0.drop0⟩ (by omega)
              · skip
                refine FW_exit (Qseq_exit (Qround_exit (Qblk_exit (Qseq_normal ?_))))
                refine FW_seq ?_
                refine FW_region ?_
                refine FL_assign (h := ?_)
                refine FL_nil (Qseq_normal ?_)
                refine FW_ret (Qfn_ret (hR := ?_))
                exact ⟨rfl, H57.kept⟩
        · skip
          refine FGoff hok28 3 rfl rfl (by kernel_rfl) ?_
          refine FGoff hok28 5 rfl rfl (by kernel_rfl) ?_
          refine FGoff hok28 6 rfl rfl (by kernel_rfl) ?_
          refine FGoff hok28 7 rfl rfl (by kernel_rfl) ?_
          refine FGoff hok28 8 rfl rfl (by kernel_rfl) ?_
          refine FGoff hok28 4 rfl rfl (by kernel_rfl) ?_
          refine FGoff hok28 9 rfl rfl (by kernel_rfl) ?_
          refine FGoff hok28 10 rfl rfl (by kernel_rfl) ?_
          refine FGoff hok28 11 rfl rfl (by kernel_rfl) ?_
          refine FGoff hok28 13 rfl rfl (by kernel_rfl) ?_
          refine FGoff hok28 14 rfl rfl (by kernel_rfl) ?_
          refine FGoff hok28 15 rfl rfl (by kernel_rfl) ?_
          refine FGoff hok28 16 rfl rfl (by kernel_rfl) ?_
          refine FGoff hok28 17 rfl rfl (by kernel_rfl) ?_
          refine FGoff hok28 18 rfl rfl (by kernel_rfl) ?_
          refine FGoff hok28 19 rfl rfl (by kernel_rfl) ?_
          refine FGoff hok28 12 rfl rfl (by kernel_rfl) ?_
          refine FGoff hok28 20 rfl rfl (by kernel_rfl) ?_
          refine FGoff hok28 21 rfl rfl (by kernel_rfl) ?_
          refine FGp hok28 22 rfl rfl (fun _ => Gives.pickF rfl rfl) (by kernel_rfl) ?_
          refine FG_end hok28 (by kernel_rfl) ?_
          refine Qseq_normal ?_
          refine FW_cond_false rfl ?_
          refine FW_skip (Qseq_normal ?_)
          refine FW_seq ?_
          refine FW_seq ?_
          refine FW_region ?_
          refine FL_assign (h := ?_)
          refine FL_nil (Qseq_normal ?_)
          refine FW_block ?_
          refine FW_loop' (fun n : Nat => [(2, .pointer (some ⟨p, 0, none⟩)), (3, .pointer (some ⟨q, 0, none⟩)), (9, I n)])
            (fun n w' => n ≤ 4 ∧ Sep w noB [] w') (fun n _ => 4 - n) 0 ⟨rfl, rfl, rfl, trivial⟩ ⟨by decide, H30⟩ (fun n τ w104 hI => ?_)
          obtain ⟨hn, H104⟩ := hI
          try simp only [upds, like, upd_ds, und_ds]
          refine FW_seq ?_
          refine FW_seq ?_
          refine FW_region ?_
          refine FL_move (h := ?_)
          refine FL_val (Gives.lss rfl rfl) rfl ?_
          refine FL_nil (Qseq_normal ?_)
          first | refine FW_condP rfl (fun hc107 => ?_) (fun hc107 => ?_) | refine FW_cond rfl (fun hc107 => ?_) (fun hc107 => ?_)
          · skip
            have hn4 : n < 4 := by omega
            refine FW_skip (Qseq_normal ?_)
            refine FW_seq ?_
            refine FW_block ?_
            refine FW_seq ?_
            refine FW_region ?_
            refine FL_move (h := ?_)
            refine FL_move (h := ?_)
            refine FL_val (Gives.mulI rfl rfl rfl (by omega)) rfl ?_
            refine FL_callN H104 (read_ok (HP.stay h1 H104.kept) (at_ := (n : Int) * 2)) rfl rfl (fun y w113 _ H113 _ => ?_)
            rw [hB.sim.read] at H113 ⊢
            obtain ⟨Ay, cy, hy, _⟩ := Sep.rowForm H113 At0
            subst hy
            refine FL_move (h := ?_)
            refine FL_val (Gives.extract rfl rfl) rfl ?_
            refine FL_val (Gives.extract rfl rfl) rfl ?_
            refine FL_assign (h := ?_)
            refine FL_assign (h := ?_)
            refine FL_nil (Qseq_normal ?_)
            refine FW_seq ?_
            refine FW_region ?_
            refine FL_move (h := ?_)
            refine FL_move (h := ?_)
            refine FL_val (Gives.mulI rfl rfl rfl (by omega)) rfl ?_
            refine FL_callN H113 (readR_ok hsm (HP.stay h2 H113.kept) (at_ := (n : Int) * 2)) rfl rfl (fun z w123 _ H123 _ => ?_)
            obtain ⟨Az, cz, hz, _⟩ := Sep.rowForm H123 At0
            subst hz
            refine FL_move (h := ?_)
            refine FL_val (Gives.extract rfl rfl) rfl ?_
            refine FL_val (Gives.extract rfl rfl) rfl ?_
            refine FL_assign (h := ?_)
            refine FL_assign (h := ?_)
            refine FL_nil (Qseq_normal ?_)
            refine FW_seq ?_
            refine FW_region ?_
            refine FL_move (h := ?_)
            refine FL_move (h := ?_)
            refine FL_callS (eqSame (H123.rowAt At1) (H123.rowAt At0)) (h := ?_)
            first | refine FL_val (Gives.notP rfl) rfl ?_ | refine FL_val (Gives.not rfl) rfl ?_
            refine FL_move (h := ?_)
            first | refine FL_splitP (t := 82) rfl (fun hs134 => ?_) (fun hs134 => ?_) | refine FL_split (t := 82) rfl (fun hs134 => ?_) (fun hs134 => ?_)
            · skip
              first | exact absurd rfl hs134 | exact (hs134 trivial).elim | exact absurd hs134 (by decide) | exact absurd hs134 (by simp) | omega --done
            · skip
              refine FL_on rfl rfl ?_
              refine FL_move (h := ?_)
              refine FL_on rfl rfl ?_
              refine FL_move (h := ?_)
              refine FL_on rfl rfl ?_
              refine FL_val (Gives.neq rfl rfl) rfl ?_
              refine FL_pickF (h := ?_)
              refine FL_nil (Qseq_normal ?_)
              first | refine FW_condP rfl (fun hc140 => ?_) (fun hc140 => ?_) | refine FW_cond rfl (fun hc140 => ?_) (fun hc140 => ?_)
              · skip
                first | exact absurd rfl hc140 | exact (hc140 trivial).elim | exact absurd hc140 (by decide) | exact absurd hc140 (by simp) | omega --done
              · skip
                refine FW_skip (Qblk_normal (Qseq_normal ?_))
                refine FW_region ?_
                refine FL_move (h := ?_)
                first | refine FL_val (Gives.addI rfl rfl rfl (by omega)) rfl ?_ | refine FL_val (Gives.add rfl rfl) rfl ?_
                refine FL_assign (h := ?_)
                refine FL_nil ?_
                exact Qround_normal (n + 1) ⟨rfl, rfl, rfl, trivial⟩ ⟨by omega, H123.drop0.drop0⟩ (by omega)
          · skip
            refine FW_exit (Qseq_exit (Qround_exit (Qblk_exit (Qseq_normal ?_))))
            refine FW_seq ?_
            refine FW_region ?_
            refine FL_assign (h := ?_)
            refine FL_nil (Qseq_normal ?_)
            refine FW_ret (Qfn_ret (hR := ?_))
            exact ⟨rfl, H104.kept⟩
end
end Go.Proofs.Yteflbohpabdjkaa
