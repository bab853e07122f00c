/-
  Bytes of a Put, keeps, opened: walked.
-/
import Derived.Test.YteflbohpabdjkaaSlotL
namespace Go.Proofs.Yteflbohpabdjkaa
open Go Go.Mw
set_option maxRecDepth 8000

structure PutS where
  from_ : Int
  many : Int
def PutS.fit (x : PutS) : Prop := fits x.from_ ∧ fits x.many
def putsCells (l : List PutS) : List Value := l.flatMap fun x => [I x.from_, I x.many]
def rising (f : Int) (k : Nat) : List UInt8 := (List.range k).map fun i : Nat => UInt8.ofNat ((f % 256 + (i : Int)) % 256).toNat
def putS (x : PutS) (most : Int) : List UInt8 := rising x.from_ (x.many % (most + 1)).toNat
theorem rising_length (f : Int) (k : Nat) : (rising f k).length = k := by simp [rising]
theorem rising_take_succ (f : Int) {k i : Nat} (h : i < k) : (rising f k).take (i + 1) = (rising f k).take i ++ [UInt8.ofNat ((f % 256 + (i : Int)) % 256).toNat] := by
  rw [List.take_succ_eq_append_getElem (by rw [rising_length]; exact h)]
  simp [rising]
theorem putS_length (x : PutS) {most : Nat} : ((putS x most).length : Int) ≤ most := by
  unfold putS
  rw [rising_length]
  have := Int.emod_lt_of_pos x.many (show 0 < (most : Int) + 1 by omega)
  have := Int.emod_nonneg x.many (show (most : Int) + 1 ≠ 0 by omega)
  omega
theorem putsCells_get (l : List PutS) (i : Nat) (hi : i < l.length) (j : Nat) (v : Value) (hv : [I l[i].from_, I l[i].many][j]? = some v) : (putsCells l)[i * 2 + j]? = some v := by
  induction l generalizing i with
  | nil => simp at hi
  | cons x l ih =>
    have e : putsCells (x :: l) = [I x.from_, I x.many] ++ putsCells l := rfl
    rw [e]
    cases i with
    | zero =>
      have hj := (List.getElem?_eq_some_iff.1 hv).1
      rw [Nat.zero_mul, Nat.zero_add, List.getElem?_append_left (show j < [I x.from_, I x.many].length from hj)]; exact hv
    | succ i =>
      rw [List.getElem?_append_right (by simp only [List.length_cons, List.length_nil]; omega)]
      have : (i + 1) * 2 + j - [I x.from_, I x.many].length = i * 2 + j := by simp only [List.length_cons, List.length_nil]; omega
      rw [this]
      exact ih i (by simpa using hi) hv
def keepsB (m : SM) (d : DM) (want : List UInt8) (n : Int) : Bool :=
  if m.n ≠ n then false else if n = 0 then decide ((load m d).1.length = 0) && decide ((load m d).2.1 = 300) else decide ((load m d).2.1 = 0) && ((load m d).1 == want)
def keepsS (m : SM) (d : DM) (n : Int) : SM := if m.n ≠ n then m else (load m d).2.2
theorem set_rise {k i : Nat} {l : List UInt8} {u : UInt8} (h : i < k) (hl : l.length = i) : (l.map B ++ List.replicate (k - i) (Value.int .u8 0)).set i (B u) = (l ++ [u]).map B ++ List.replicate (k - (i + 1)) (Value.int .u8 0) := by
  have e : k - i = (k - (i + 1)) + 1 := by omega
  rw [List.set_append_right _ _ (by simp [hl]), List.length_map, hl, Nat.sub_self, e, List.replicate_succ, List.set_cons_zero]
  simp
section
variable {p s : Nat} {d : DM} {m : SM} {F : Nat → Prop} {w w₀ : World} {S : Nat → Prop} {rs : List HP} {put : HP → List HP}
theorem putBytes_ok (x : PutS) (hx : x.fit) {most : Nat} (hm : most ≤ 1000) : Rets Try.prog 46 [.agg #[I x.from_, I x.many], I most] w fun v w' => ∃ v', v = v' ∧ True ∧ Turn noB (rowH 5 1 v' (putS x most).length ((putS x most).map B)) w w' := by
  have H := Sep.start0 w
  refine rets2 Try.func46 rfl rfl rfl rfl ?_
  have h1 := Int.emod_lt_of_pos x.many (show 0 < (most : Int) + 1 by omega)
  have h2 := Int.emod_nonneg x.many (show (most : Int) + 1 ≠ 0 by omega)
  obtain ⟨k, hk⟩ : ∃ k : Nat, x.many % ((most : Int) + 1) = k := ⟨(x.many % ((most : Int) + 1)).toNat, by omega⟩
  have hput : putS x most = rising x.from_ k := by
    unfold putS
    rw [hk, Int.toNat_natCast]
  have hkm : k ≤ most := by omega
  refine FW_seq ?_
  refine FW_region ?_
  refine FL_box H (h := ?_)
  intro b1 w2 H2 _
  refine FL_assign (h := ?_)
  refine FL_nil (Qseq_normal ?_)
  refine FW_seq ?_
  refine FW_region ?_
  first | refine FL_val (Gives.field0 rfl) rfl ?_ | refine FL_val (Gives.field rfl) rfl ?_ | refine FL_val (Gives.fieldA rfl) rfl ?_
  refine FL_load H2 (h := ?_)
  refine FL_move (h := ?_)
  first | refine FL_val (Gives.addI rfl rfl rfl (by omega)) rfl ?_ | refine FL_val (Gives.add rfl rfl) rfl ?_
  refine FL_callS (bring_ok x.many ((most : Int) + 1) hx.2 (by omega)) (h := ?_)
  rw [hk]
  refine FL_make1 H2 (k := k) (by unfold maxLen; omega) (by omega) (h := ?_)
  intro bb w10 H10 _
  refine FL_assign (h := ?_)
  refine FL_nil (Qseq_normal ?_)
  refine FW_seq ?_
  refine FW_seq ?_
  refine FW_region ?_
  refine FL_assign (h := ?_)
  refine FL_nil (Qseq_normal ?_)
  refine FW_block ?_
  refine FW_loop' (fun i : Nat => [(2, .pointer (some ⟨b1, 0, none⟩)), (5, .slice (some ⟨bb, 0, none⟩) k k), (6, I i)])
    (fun i w' => i ≤ k ∧ Sep w noB [blk bb (((rising x.from_ k).take i).map B ++ List.replicate (k - i) (Value.int .u8 0)) 5, blk b1 [I x.from_, I x.many] 67] w') (fun i _ => k - i) 0 ⟨rfl, rfl, rfl, trivial⟩ ⟨Nat.zero_le _, H10⟩ (fun j τ w14 hI => ?_)
  obtain ⟨hj, H14⟩ := hI
  try simp only [upds, like, upd_ds, und_ds]
  refine FW_seq ?_
  refine FW_seq ?_
  refine FW_region ?_
  refine FL_move (h := ?_)
  refine FL_move (h := ?_)
  refine FL_val (Gives.lenSlice rfl) rfl ?_
  refine FL_val (Gives.lss rfl rfl) rfl ?_
  refine FL_nil (Qseq_normal ?_)
  first | refine FW_condP rfl (fun hc19 => ?_) (fun hc19 => ?_) | refine FW_cond rfl (fun hc19 => ?_) (fun hc19 => ?_)
  · skip
    have hlt : j < k := by omega
    refine FW_skip (Qseq_normal ?_)
    refine FW_seq ?_
    refine FW_block ?_
    refine FW_region ?_
    refine FL_move (h := ?_)
    refine FL_move (h := ?_)
    first | refine FL_val (Gives.field0 rfl) rfl ?_ | refine FL_val (Gives.field rfl) rfl ?_ | refine FL_val (Gives.fieldA rfl) rfl ?_
    refine FL_load H14 (h := ?_)
    refine FL_callS (bring_ok x.from_ 256 hx.1 (by omega)) (h := ?_)
    refine FL_move (h := ?_)
    first | refine FL_val (Gives.addI rfl rfl rfl (by omega)) rfl ?_ | refine FL_val (Gives.add rfl rfl) rfl ?_
    refine FL_val (Gives.conv rfl) rfl ?_
    rw [show IntKind.u8.wrap (x.from_ % 256 + (j : Int)) = ((UInt8.ofNat ((x.from_ % 256 + (j : Int)) % 256).toNat).toNat : Int) by
      rw [UInt8.toNat_ofNat']
      show (x.from_ % 256 + (j : Int)) % 256 = _
      omega]
    refine FL_val (Gives.idxB rfl rfl hlt) rfl ?_
    have hll : ((rising x.from_ k).take j).length = j := by rw [List.length_take, rising_length]; omega
    refine FL_store H14 (hy := by exact rfl) (hat := At0) (cs' := ((rising x.from_ k).take (j + 1)).map B ++ List.replicate (k - (j + 1)) (Value.int .u8 0)) (ho := by rw [List.length_append, List.length_map, hll, List.length_replicate]; exact Nat.ble_eq_true_of_le (by omega)) (hs := by rw [rising_take_succ _ hlt]; exact set_rise hlt hll) (h := ?_)
    intro w31 H31
    refine FL_nil (Qblk_normal (Qseq_normal ?_))
    refine FW_region ?_
    refine FL_move (h := ?_)
    first | refine FL_val (Gives.addI rfl rfl rfl (by omega)) rfl ?_ | refine FL_val (Gives.add rfl rfl) rfl ?_
    refine FL_assign (h := ?_)
    refine FL_nil ?_
    exact Qround_normal (j + 1) ⟨rfl, rfl, rfl, trivial⟩ ⟨by omega, H31⟩ (by omega)
  · skip
    have hjk : j = k := by omega
    subst hjk
    refine FW_exit (Qseq_exit (Qround_exit (Qblk_exit (Qseq_normal ?_))))
    refine FW_seq ?_
    refine FW_region ?_
    refine FL_move (h := ?_)
    refine FL_assign (h := ?_)
    refine FL_nil (Qseq_normal ?_)
    refine FW_ret (Qfn_ret (hR := ?_))
    rw [Nat.sub_self, List.replicate_zero, List.append_nil, List.take_of_length_le (by rw [rising_length]; exact Nat.le_refl _)] at H14
    have H2 := Sep.asRow H14 At0 (s := 1) (n := j) (by simp [rising_length]) (by unfold maxLen; omega)
    refine ⟨_, rfl, trivial, ?_⟩
    rw [hput, rising_length]
    exact (Sep.first H2).turn
theorem keeps_nil {v : Value} {n : Int} : Rets Try.prog 50 [.pointer none, v, I n] w fun v w' => v = .bool false ∧ w = w' := by
  refine rets3 Try.func50 rfl rfl rfl rfl ?_
  refine FW_seq ?_
  refine FW_region ?_
  refine FL_assign (h := ?_)
  refine FL_nil (Qseq_normal ?_)
  refine FW_seq ?_
  refine FW_seq ?_
  refine FW_region ?_
  refine FL_move (h := ?_)
  refine FL_val (Gives.eqlNil rfl rfl) rfl ?_
  refine FL_move (h := ?_)
  first | refine FL_splitP (t := 11) rfl (fun hs5 => ?_) (fun hs5 => ?_) | refine FL_split (t := 11) rfl (fun hs5 => ?_) (fun hs5 => ?_)
  · skip
    refine FL_off rfl rfl rfl ?_
    refine FL_off rfl rfl rfl ?_
    refine FL_off rfl rfl rfl ?_
    refine FL_off rfl rfl rfl ?_
    refine FL_pickT (h := ?_)
    refine FL_nil (Qseq_normal ?_)
    refine FW_cond_true rfl ?_
    refine FW_seq ?_
    refine FW_region ?_
    refine FL_assign (h := ?_)
    refine FL_nil (Qseq_normal ?_)
    refine FW_ret (Qseq_ret (Qfn_ret (hR := ?_)))
    exact ⟨rfl, rfl⟩
  · skip
    first | exact absurd rfl hs5 | exact (hs5 trivial).elim | exact absurd hs5 (by decide) | exact absurd hs5 (by simp) | omega --done
theorem keeps_ok' {A : Option Addr} {c : Nat} {want : List UInt8} {n : Int} (hm : m.ok d) (hr : RowAt w A want.length 1 (want.map B)) (hA : Off A want.length F) (h : (star (slotH s p m) (diskH p d)).ok F w) :
    Rets Try.prog 50 [.pointer (some ⟨s, 0, none⟩), .slice A want.length c, I n] w fun v w' => v = .bool (keepsB m d want n) ∧ Turn F (star (slotH s p (keepsS m d n)) (diskH p d)) w w' := by
  have H := (Sep.start1 h).star0
  refine rets3 Try.func50 rfl rfl rfl rfl ?_
  refine FW_seq ?_
  refine FW_region ?_
  refine FL_assign (h := ?_)
  refine FL_nil (Qseq_normal ?_)
  refine FW_seq ?_
  refine FW_seq ?_
  refine FW_region ?_
  refine FL_move (h := ?_)
  refine FL_val (Gives.eqlNil rfl rfl) rfl ?_
  refine FL_move (h := ?_)
  first | refine FL_splitP (t := 11) rfl (fun hs5 => ?_) (fun hs5 => ?_) | refine FL_split (t := 11) rfl (fun hs5 => ?_) (fun hs5 => ?_)
  · skip
    first | exact absurd rfl hs5 | exact (hs5 trivial).elim | exact absurd hs5 (by decide) | exact absurd hs5 (by simp) | omega --done
  · skip
    refine FL_on rfl rfl ?_
    refine FL_move (h := ?_)
    refine FL_on rfl rfl ?_
    refine FL_callS (number_at H At0) (h := ?_)
    refine FL_on rfl rfl ?_
    refine FL_move (h := ?_)
    refine FL_on rfl rfl ?_
    refine FL_val (Gives.neq rfl rfl) rfl ?_
    refine FL_pickF (h := ?_)
    refine FL_nil (Qseq_normal ?_)
    first | refine FW_condP rfl (fun hc12 => ?_) (fun hc12 => ?_) | refine FW_cond rfl (fun hc12 => ?_) (fun hc12 => ?_)
    · skip
      have hne : m.n ≠ n := hc12
      have hkb : keepsB m d want n = false := by unfold keepsB; rw [if_pos hne]
      have hks : keepsS m d n = m := by unfold keepsS; rw [if_pos hne]
      refine FW_seq ?_
      refine FW_region ?_
      refine FL_assign (h := ?_)
      refine FL_nil (Qseq_normal ?_)
      refine FW_ret (Qseq_ret (Qfn_ret (hR := ?_)))
      rw [hkb, hks]
      exact ⟨rfl, H.join0.turn⟩
    · skip
      have hne : ¬ m.n ≠ n := hc12
      have hks : keepsS m d n = (load m d).2.2 := by unfold keepsS; rw [if_neg hne]
      have hkb : keepsB m d want n = if n = 0 then decide ((load m d).1.length = 0) && decide ((load m d).2.1 = 300) else decide ((load m d).2.1 = 0) && ((load m d).1 == want) := by unfold keepsB; rw [if_neg hne]
      rw [hks]
      refine FW_skip (Qseq_normal ?_)
      refine FW_seq ?_
      refine FW_region ?_
      refine FL_move (h := ?_)
      refine FL_callT H.join0 At0 (fun F' hp _ => loadS_ok hm hp) rfl rfl (fun y w19 _ H0 => ?_)
      have H19 := (H0.star0).front1.star0.front2
      obtain ⟨Ay, cy, hy, hyl⟩ := Sep.preForm H19 At0
      subst hy
      refine FL_move (h := ?_)
      refine FL_val (Gives.extract rfl rfl) rfl ?_
      refine FL_val (Gives.extract rfl rfl) rfl ?_
      refine FL_assign (h := ?_)
      refine FL_assign (h := ?_)
      refine FL_nil (Qseq_normal ?_)
      refine FW_seq ?_
      refine FW_seq ?_
      refine FW_region ?_
      refine FL_move (h := ?_)
      refine FL_val (Gives.eql rfl rfl) rfl ?_
      refine FL_nil (Qseq_normal ?_)
      first | refine FW_condP rfl (fun hc27 => ?_) (fun hc27 => ?_) | refine FW_cond rfl (fun hc27 => ?_) (fun hc27 => ?_)
      · skip
        have hn0 : n = 0 := hc27
        rw [if_pos hn0] at hkb
        refine FW_seq ?_
        refine FW_region ?_
        refine FL_move (h := ?_)
        refine FL_val (Gives.lenSlice rfl) rfl ?_
        refine FL_val (Gives.eql rfl rfl) rfl ?_
        refine FL_move (h := ?_)
        first | refine FL_splitP (t := 27) rfl (fun hs33 => ?_) (fun hs33 => ?_) | refine FL_split (t := 27) rfl (fun hs33 => ?_) (fun hs33 => ?_)
        · skip
          have hz := hs33
          refine FL_on rfl rfl ?_
          refine FL_move (h := ?_)
          refine FL_on rfl rfl ?_
          refine FL_val (Gives.eql rfl rfl) rfl ?_
          refine FL_pickT (h := ?_)
          refine FL_assign (h := ?_)
          refine FL_nil (Qseq_normal ?_)
          refine FW_ret (Qseq_ret (Qfn_ret (hR := ?_)))
          rw [hkb]
          first
            | exact ⟨by rw [decide_eq_true (show (load m d).1.length = 0 by omega)]; rfl, H19.drop0.join0.turn⟩
            | exact ⟨by rw [decide_eq_false (show ¬ (load m d).1.length = 0 by omega)]; rfl, H19.drop0.join0.turn⟩
        · skip
          have hz := hs33
          refine FL_off rfl rfl rfl ?_
          refine FL_off rfl rfl rfl ?_
          refine FL_pickF (h := ?_)
          refine FL_assign (h := ?_)
          refine FL_nil (Qseq_normal ?_)
          refine FW_ret (Qseq_ret (Qfn_ret (hR := ?_)))
          rw [hkb]
          first
            | exact ⟨by rw [decide_eq_true (show (load m d).1.length = 0 by omega)]; rfl, H19.drop0.join0.turn⟩
            | exact ⟨by rw [decide_eq_false (show ¬ (load m d).1.length = 0 by omega)]; rfl, H19.drop0.join0.turn⟩
      · skip
        have hn0 : ¬ n = 0 := hc27
        rw [if_neg hn0] at hkb
        refine FW_skip (Qseq_normal ?_)
        refine FW_seq ?_
        refine FW_region ?_
        refine FL_move (h := ?_)
        refine FL_val (Gives.eql rfl rfl) rfl ?_
        refine FL_move (h := ?_)
        first | refine FL_splitP (t := 33) rfl (fun hs48 => ?_) (fun hs48 => ?_) | refine FL_split (t := 33) rfl (fun hs48 => ?_) (fun hs48 => ?_)
        · skip
          have hz := hs48
          refine FL_on rfl rfl ?_
          refine FL_move (h := ?_)
          refine FL_on rfl rfl ?_
          refine FL_move (h := ?_)
          refine FL_on rfl rfl ?_
          refine FL_callS (eqBytes_at (H19.preRow At0) (hr.keepS H19.kept hA)) (h := ?_)
          refine FL_pickT (h := ?_)
          refine FL_assign (h := ?_)
          refine FL_nil (Qseq_normal ?_)
          refine FW_ret (Qfn_ret (hR := ?_))
          rw [hkb]
          first
            | exact ⟨by rw [decide_eq_true (show (load m d).2.1 = 0 from hz)]; rfl, H19.drop0.join0.turn⟩
            | exact ⟨by rw [decide_eq_false (show ¬ (load m d).2.1 = 0 from hz)]; rfl, H19.drop0.join0.turn⟩
        · skip
          have hz := hs48
          refine FL_off rfl rfl rfl ?_
          refine FL_off rfl rfl rfl ?_
          refine FL_off rfl rfl rfl ?_
          refine FL_pickF (h := ?_)
          refine FL_assign (h := ?_)
          refine FL_nil (Qseq_normal ?_)
          refine FW_ret (Qfn_ret (hR := ?_))
          rw [hkb]
          first
            | exact ⟨by rw [decide_eq_true (show (load m d).2.1 = 0 from hz)]; rfl, H19.drop0.join0.turn⟩
            | exact ⟨by rw [decide_eq_false (show ¬ (load m d).2.1 = 0 from hz)]; rfl, H19.drop0.join0.turn⟩
theorem opened_ok (ho : (openS d.boot).1 = 0) (h : (diskH p d).ok F w) :
    Rets Try.prog 49 [.pointer (some ⟨p, 0, none⟩)] w fun v w' => ∃ s : Nat, v = .pointer (some ⟨s, 0, none⟩) ∧ True ∧ Turn F (star (slotH s p (openS d.boot).2) (diskH p d.boot)) w w' := by
  have H := Sep.start1 h
  refine rets1 Try.func49 rfl rfl rfl rfl ?_
  refine FW_seq ?_
  refine FW_region ?_
  refine FL_assign (h := ?_)
  refine FL_nil (Qseq_normal ?_)
  refine FW_seq ?_
  refine FW_region ?_
  refine FL_move (h := ?_)
  refine FL_call1 H At0 (fun F' hp _ => boot_ok hp) (h := fun w4 H4 => ?_)
  refine FL_nil (Qseq_normal ?_)
  refine FW_seq ?_
  refine FW_region ?_
  refine FL_move (h := ?_)
  obtain ⟨F2, hp2, _⟩ := H4.focus At0
  refine FL_callN H4 (q := fun x => openH x p (openS d.boot).2) (val := fun x : Option Nat => .tuple #[.pointer (x.map fun s => ⟨s, 0, none⟩), I (openS d.boot).1]) (φ := fun x => x.isSome = decide ((openS d.boot).1 = 0)) (openS_ok hp2) rfl rfl (fun x w7 hx H7 _ => ?_)
  rw [ho] at hx
  obtain ⟨s, rfl⟩ : ∃ s, x = some s := by cases x with | none => cases hx | some s => exact ⟨s, rfl⟩
  rw [ho]
  refine FL_move (h := ?_)
  refine FL_val (Gives.extract rfl rfl) rfl ?_
  refine FL_val (Gives.extract rfl rfl) rfl ?_
  refine FL_assign (h := ?_)
  refine FL_assign (h := ?_)
  refine FL_nil (Qseq_normal ?_)
  refine FW_seq ?_
  refine FW_seq ?_
  refine FW_region ?_
  refine FL_move (h := ?_)
  refine FL_val (Gives.neq rfl rfl) rfl ?_
  refine FL_nil (Qseq_normal ?_)
  first | refine FW_condP rfl (fun hc15 => ?_) (fun hc15 => ?_) | refine FW_cond rfl (fun hc15 => ?_) (fun hc15 => ?_)
  · skip
    first | exact absurd rfl hc15 | exact (hc15 trivial).elim | exact absurd hc15 (by decide) | exact absurd hc15 (by simp) | omega --done
  · skip
    refine FW_skip (Qseq_normal ?_)
    refine FW_seq ?_
    refine FW_region ?_
    refine FL_move (h := ?_)
    refine FL_assign (h := ?_)
    refine FL_nil (Qseq_normal ?_)
    refine FW_ret (Qfn_ret (hR := ?_))
    exact ⟨s, rfl, trivial, H7.join0.turn⟩
end
end Go.Proofs.Yteflbohpabdjkaa
