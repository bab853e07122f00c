/-
  The reference's slots, walked: beside a disk that goes with the reference's.
-/
import Derived.Test.YteflbohpabdjkaaSlotT
import Derived.Test.YteflbohpabdjkaaPlayW
namespace Go.Proofs.Yteflbohpabdjkaa
open Go Go.Mw
set_option maxRecDepth 8000

def slotRCells (q : Nat) (s : SM) : List Value := [.pointer (some ⟨q, 0, none⟩), I s.n, I s.many, .bool s.bad]
def slotR (s q : Nat) (m : SM) : HP := blk s (slotRCells q m) 119
theorem refA_many {q : Nat} {a : AM} {F : Nat → Prop} {w : World} (h : (refA q a).ok F w) : ∃ vk vo ve, ∃ m : RM, w.heap[q]? = some (.cells (refCells m vk vo ve).toArray 106 (0, 0)) ∧ m.many = a.many := by
  obtain ⟨m, hm, vk, vo, ve, pool, hok, hb, _⟩ := refFacts h
  subst hm
  exact ⟨vk, vo, ve, m, hb, rfl⟩
section
variable {q s : Nat} {d : DM} {a : AM} {m : SM} {F : Nat → Prop} {w w₀ : World} {S : Nat → Prop} {rs : List HP} {put put' : HP → List HP}
theorem roomR_at (hs : Sim d a) (H : Sep w₀ S rs w) (hat : At rs (refA q a) put) : Rets Try.prog 81 [.pointer (some ⟨q, 0, none⟩)] w fun v w' => v = I (room d) ∧ w = w' := by
  obtain ⟨_, hp, _⟩ := H.focus hat
  obtain ⟨vk, vo, ve, rm, hb, hm⟩ := refA_many hp
  have hsz := hs.size
  have h1 := hs.wf.1
  have h2 := hs.wf.2.1
  have hh := half_bd hs.wf
  refine rets1 Try.func81 rfl rfl rfl rfl ?_
  refine FW_seq ?_
  refine FW_region ?_
  refine FL_assign (h := ?_)
  refine FL_nil (Qseq_normal ?_)
  refine FW_seq ?_
  refine FW_region ?_
  refine FL_move (h := ?_)
  refine FL_val (Gives.nilCheck rfl) rfl ?_
  first | refine FL_val (Gives.field0 rfl) rfl ?_ | refine FL_val (Gives.field rfl) rfl ?_ | refine FL_val (Gives.fieldA rfl) rfl ?_
  refine FL_loadB hb (hv := rfl) (h := ?_)
  rw [hm, ← hsz]
  first | refine FL_val (Gives.subI rfl rfl rfl (by omega)) rfl ?_ | refine FL_val (Gives.sub rfl rfl) rfl ?_
  refine FL_val (Gives.quo rfl rfl (by decide)) rfl ?_
  rw [show IntKind.i64.wrap ((d.size - 1).tdiv 2) = half d by
    rw [Int.tdiv_eq_ediv_of_nonneg (by omega)]
    exact IntWalk.i64_in _ (by omega)]
  refine FL_val (Gives.mulI rfl rfl rfl (by omega)) rfl ?_
  refine FL_assign (h := ?_)
  refine FL_nil (Qseq_normal ?_)
  refine FW_ret (Qfn_ret (hR := ?_))
  exact ⟨rfl, rfl⟩
theorem areaR_at {n : Int} (hn : 0 ≤ n) (hs : Sim d a) (H : Sep w₀ S rs w) (hat : At rs (slotR s q m) put) (hat' : At rs (refA q a) put') : Rets Try.prog 82 [.pointer (some ⟨s, 0, none⟩), I n] w fun v w' => v = I (area d n) ∧ w = w' := by
  obtain ⟨_, hp, _⟩ := H.focus hat'
  obtain ⟨vk, vo, ve, rm, hb, hm⟩ := refA_many hp
  have hbs := H.obj hat
  have hsz := hs.size
  have h1 := hs.wf.1
  have h2 := hs.wf.2.1
  have hh := half_bd hs.wf
  refine rets2 Try.func82 rfl rfl rfl rfl ?_
  refine FW_seq ?_
  refine FW_region ?_
  refine FL_assign (h := ?_)
  refine FL_nil (Qseq_normal ?_)
  refine FW_seq ?_
  refine FW_seq ?_
  refine FW_region ?_
  refine FL_move (h := ?_)
  refine FL_val (Gives.rem rfl rfl (by decide)) rfl ?_
  rw [show n.tmod 2 = n % 2 from Int.tmod_eq_emod_of_nonneg hn]
  refine FL_val (Gives.eql rfl rfl) rfl ?_
  refine FL_nil (Qseq_normal ?_)
  first | refine FW_condP rfl (fun hc5 => ?_) (fun hc5 => ?_) | refine FW_cond rfl (fun hc5 => ?_) (fun hc5 => ?_)
  · skip
    have hz : n % 2 = 0 := hc5
    refine FW_seq ?_
    refine FW_region ?_
    refine FL_assign (h := ?_)
    refine FL_nil (Qseq_normal ?_)
    refine FW_ret (Qseq_ret (Qfn_ret (hR := ?_)))
    exact ⟨by unfold area; rw [hz]; simp [resPack, I], rfl⟩
  · skip
    have hz : n % 2 = 1 := by have : ¬ n % 2 = 0 := hc5; omega
    refine FW_skip (Qseq_normal ?_)
    refine FW_seq ?_
    refine FW_region ?_
    refine FL_move (h := ?_)
    refine FL_val (Gives.nilCheck rfl) rfl ?_
    first | refine FL_val (Gives.field0 rfl) rfl ?_ | refine FL_val (Gives.field rfl) rfl ?_ | refine FL_val (Gives.fieldA rfl) rfl ?_
    refine FL_loadB hbs (hv := rfl) (h := ?_)
    refine FL_val (Gives.nilCheck rfl) rfl ?_
    first | refine FL_val (Gives.field0 rfl) rfl ?_ | refine FL_val (Gives.field rfl) rfl ?_ | refine FL_val (Gives.fieldA rfl) rfl ?_
    refine FL_loadB hb (hv := rfl) (h := ?_)
    rw [hm, ← hsz]
    first | refine FL_val (Gives.subI rfl rfl rfl (by omega)) rfl ?_ | refine FL_val (Gives.sub rfl rfl) rfl ?_
    refine FL_val (Gives.quo rfl rfl (by decide)) rfl ?_
    rw [show IntKind.i64.wrap ((d.size - 1).tdiv 2) = half d by
      rw [Int.tdiv_eq_ediv_of_nonneg (by omega)]
      exact IntWalk.i64_in _ (by omega)]
    refine FL_val (Gives.addI rfl rfl rfl (by omega)) rfl ?_
    refine FL_assign (h := ?_)
    refine FL_nil (Qseq_normal ?_)
    refine FW_ret (Qfn_ret (hR := ?_))
    exact ⟨by unfold area; rw [hz, Int.one_mul]; rfl, rfl⟩
theorem high_ok {n : Int} {k : Nat} (hk : k ≤ 8) : Rets Try.prog 83 [I n, I k] w fun v w' => ∃ v', v = v' ∧ True ∧ Turn noB (rowH 5 1 v' k ((be k n).map B)) w w' := by
  have H := Sep.start0 w
  refine rets2 Try.func83 rfl rfl rfl rfl ?_
  refine FW_seq ?_
  refine FW_region ?_
  refine FL_assign (h := ?_)
  refine FL_nil (Qseq_normal ?_)
  refine FW_seq ?_
  refine FW_region ?_
  refine FL_assign (h := ?_)
  refine FL_nil (Qseq_normal ?_)
  refine FW_seq ?_
  refine FW_seq ?_
  refine FW_region ?_
  refine FL_move (h := ?_)
  first | refine FL_val (Gives.subI rfl rfl rfl (by omega)) rfl ?_ | refine FL_val (Gives.sub rfl rfl) rfl ?_
  refine FL_assign (h := ?_)
  refine FL_nil (Qseq_normal ?_)
  refine FW_block ?_
  refine FW_loop' (fun x : Nat × Value => [(0, I n), (5, x.2), (6, I ((k : Int) - 1 - x.1))])
    (fun x w' => x.1 ≤ k ∧ Sep w noB [rowH 5 1 x.2 x.1 (((be k n).take x.1).map B)] w') (fun x _ => k - x.1) (0, .slice none 0 0) ⟨rfl, rfl, by rw [show (k : Int) - 1 - (((0 : Nat), Value.slice none 0 0).1 : Int) = (k : Int) - 1 by simp]; rfl, trivial⟩ ⟨Nat.zero_le _, H.nilRow 5 1⟩ (fun x τ w7 hI => ?_)
  obtain ⟨i, vo⟩ := x
  obtain ⟨hi, H7⟩ := hI
  dsimp only at hi H7
  obtain ⟨Ao, co, hvo, hco, _⟩ := Sep.rowForm H7 At0
  subst hvo
  try simp only [upds, like, upd_ds, und_ds]
  refine FW_seq ?_
  refine FW_seq ?_
  refine FW_region ?_
  refine FL_move (h := ?_)
  refine FL_val (Gives.geq rfl rfl) rfl ?_
  refine FL_nil (Qseq_normal ?_)
  first | refine FW_condP rfl (fun hc10 => ?_) (fun hc10 => ?_) | refine FW_cond rfl (fun hc10 => ?_) (fun hc10 => ?_)
  · skip
    have hlt : i < k := by omega
    refine FW_skip (Qseq_normal ?_)
    refine FW_seq ?_
    refine FW_block ?_
    refine FW_region ?_
    refine FL_move (h := ?_)
    refine FL_move (h := ?_)
    refine FL_move (h := ?_)
    refine FL_val (Gives.mulI rfl rfl (show (8 : Int) * ((k : Int) - 1 - i) = ((8 * (k - 1 - i) : Nat) : Int) by omega) (by omega)) rfl ?_
    refine FL_val (Gives.shr rfl rfl (by omega)) rfl ?_
    rw [show min (((8 * (k - 1 - i) : Nat) : Int)).toNat IntKind.i64.bits = 8 * (k - 1 - i) by show min _ 64 = _; omega]
    refine FL_val (Gives.conv rfl) rfl ?_
    rw [show IntKind.u8.wrap (n.fdiv (2 ^ (8 * (k - 1 - i)))) = ((byteAt n (k - 1 - i)).toNat : Int) by rw [byteAt_val]; rfl]
    refine FL_buildSlice H7 (Elems.one (v := B (byteAt n (k - 1 - i))) rfl rfl Elems.nil) rfl rfl rfl (fun bb w19 H19 _ => ?_)
    refine FL_append (t := 27) (e := 5) H19 (v := .slice Ao i co) (k := i) (xs := ((be k n).take i).map B) (by exact rfl) (by exact rfl) At1 (H19.blkRow At0 (m := 1) (s := 1) rfl) (by intro u hu; rw [List.mem_singleton.1 hu]; rfl) (h63 := by unfold maxLen; omega) (hbytes := by omega) (h := fun vv w21 H21 => ?_)
    refine FL_assign (h := ?_)
    refine FL_nil (Qblk_normal (Qseq_normal ?_))
    refine FW_region ?_
    refine FL_move (h := ?_)
    first | refine FL_val (Gives.subI rfl rfl rfl (by omega)) rfl ?_ | refine FL_val (Gives.sub rfl rfl) rfl ?_
    refine FL_assign (h := ?_)
    refine FL_nil ?_
    have e : ((be k n).take i).map B ++ [B (byteAt n (k - 1 - i))] = ((be k n).take (i + 1)).map B := by rw [be_take_succ n hlt, List.map_append]; rfl
    rw [e] at H21
    exact Qround_normal (i + 1, vv) ⟨rfl, rfl, by show I ((k : Int) - 1 - i - 1) = I ((k : Int) - 1 - ((i + 1 : Nat) : Int)); congr 1; omega, trivial⟩ ⟨by dsimp only; omega, H21.drop0⟩ (by dsimp only; omega)
  · skip
    have hik : i = k := by omega
    subst hik
    refine FW_exit (Qseq_exit (Qround_exit (Qblk_exit (Qseq_normal ?_))))
    refine FW_seq ?_
    refine FW_region ?_
    refine FL_move (h := ?_)
    refine FL_assign (h := ?_)
    refine FL_nil (Qseq_normal ?_)
    refine FW_ret (Qfn_ret (hR := ?_))
    rw [List.take_of_length_le (by rw [be_length]; exact Nat.le_refl _)] at H7
    exact ⟨_, rfl, trivial, H7.turn⟩
end
theorem write_pad {d : DM} {k : Int} {b c : List UInt8} (hb : b.length ≤ 128) (hc : c.length ≤ 128) (h : pad b = pad c) : d.write k b = d.write k c := by
  unfold DM.write DM.put
  rw [if_neg (show ¬ 128 < b.length by omega), if_neg (show ¬ 128 < c.length by omega), h]
theorem root12 (n m : Int) : pad (be 8 n ++ be 4 m) = rootB n m := by
  unfold pad rootB
  rw [List.length_append, be_length, be_length]
theorem wr_err {a : Int} {b : List UInt8} {x : Int × DM} {i : Nat} (h : (wr a b i x).1 ≠ 0) : ∀ j, i ≤ j → wr a b j x = wr a b i x
  | 0, hj => by have : i = 0 := by omega
                subst this; rfl
  | j + 1, hj => by
    by_cases hi : i = j + 1
    · subst hi; rfl
    · have ih := wr_err h j (by omega)
      show go (wr a b j x) _ = _
      rw [ih]
      unfold go
      rw [if_neg h]
theorem go_err {x : Int × DM} {f : DM → Int × DM} (h : x.1 ≠ 0) : go x f = x := by unfold go; rw [if_neg h]
theorem go_ok {x : Int × DM} {f : DM → Int × DM} (h : x.1 = 0) : go x f = f x.2 := by unfold go; rw [if_pos h]
end Go.Proofs.Yteflbohpabdjkaa
/-
  The reference's Save, walked.
-/
namespace Go.Proofs.Yteflbohpabdjkaa
open Go Go.Mw
set_option maxRecDepth 8000

theorem Both.up {i j : Nat} {d : DM} {a : AM} (h : Both i d a) (hj : i ≤ j) : Both j d a := ⟨h.sim, h.ds.mono (by omega), h.as_.mono (by omega)⟩
theorem rowAt_chunk {w : World} {A : Option Addr} {c : Nat} {b : List UInt8} {k : Nat} (hr : RowAt w A b.length 1 (b.map B)) (hc : b.length ≤ c) (hk : 128 * k ≤ b.length) :
    RowAt w (if c = 128 * k then A else A.map (·.add (128 * k * 1))) (chunk b k).length 1 ((chunk b k).map B) := by
  have hcl := chunk_length b k
  have h1 := hr.mid (l := 128 * k) (h := 128 * k + (chunk b k).length) (cap := c) (by omega) (by omega) hc
  have e : ((b.map B).drop (128 * k * 1)).take ((128 * k + (chunk b k).length - 128 * k) * 1) = (chunk b k).map B := by
    rw [Nat.mul_one, Nat.mul_one, ← List.map_drop, ← List.map_take, Nat.add_sub_cancel_left]
    congr 1
    rw [hcl]
    unfold chunk
    rcases Nat.le_total (b.length - 128 * k) 128 with h | h
    · rw [Nat.min_eq_left h, List.take_of_length_le (by simp), List.take_of_length_le (by simp; omega)]
    · rw [Nat.min_eq_right h]
  rwa [e, Nat.add_sub_cancel_left] at h1
theorem off_chunk {A : Option Addr} {n c l m j : Nat} {F : Nat → Prop} (h : Off A n F) (hl : l + m ≤ n) : Off (if c = l then A else A.map (·.add j)) m F := by
  intro hm ad hA hb
  have := off_cut (k := l) (cap := c) h j
  exact this (by omega) ad hA hb
section
variable {q s : Nat} {d : DM} {a : AM} {m : SM} {F : Nat → Prop} {w w₀ : World} {S : Nat → Prop} {rs : List HP} {put put' : HP → List HP}
set_option maxHeartbeats 16000000 in
theorem saveR_ok {i : Nat} {A : Option Addr} {c : Nat} {b : List UInt8} (hm : m.ok d) (hB : Both i d a) (hi : i ≤ 900) (hsz : d.size ≤ 13) (hc : b.length ≤ c) (hr : RowAt w A b.length 1 (b.map B)) (hA : Off A b.length F) (h : (star (slotR s q m) (refA q a)).ok F w) :
    Rets Try.prog 57 [.pointer (some ⟨s, 0, none⟩), .slice A b.length c] w fun v w' => ∃ a', v = I (save m d b).1 ∧ Both (i + 20) (save m d b).2.2 a' ∧ Turn F (star (slotR s q (save m d b).2.1) (refA q a')) w w' := by
  have H := (Sep.start1 h).star0
  have hwf := hB.sim.wf
  have hh := half_bd hwf
  have hh6 : half d ≤ 6 := by unfold half; omega
  have hn0 := hm.n0
  have hn1 := hm.n
  unfold mostNum at hn1
  obtain ⟨at_, hat⟩ : ∃ at_, at_ = area d (m.n + 1) := ⟨_, rfl⟩
  have har : 1 ≤ at_ ∧ at_ ≤ 7 := by
    rw [hat]
    unfold area
    rcases (show (m.n + 1) % 2 = 0 ∨ (m.n + 1) % 2 = 1 by omega) with h | h <;> rw [h] <;> omega
  refine rets2 Try.func57 rfl rfl rfl rfl ?_
  refine FW_seq ?_
  refine FW_region ?_
  refine FL_assign (h := ?_)
  refine FL_nil (Qseq_normal ?_)
  refine FW_seq ?_
  refine FW_seq ?_
  refine FW_region ?_
  refine FL_move (h := ?_)
  refine FL_val (Gives.nilCheck rfl) rfl ?_
  first | refine FL_val (Gives.field0 rfl) rfl ?_ | refine FL_val (Gives.field rfl) rfl ?_ | refine FL_val (Gives.fieldA rfl) rfl ?_
  refine FL_loadB (b := s) (cs := slotRCells q m) (H.obj At0) (hv := rfl) (h := ?_)
  refine FL_nil (Qseq_normal ?_)
  first | refine FW_condP rfl (fun hc6 => ?_) (fun hc6 => ?_) | refine FW_cond rfl (fun hc6 => ?_) (fun hc6 => ?_)
  · skip
    have hbad : m.bad = true := hc6
    have hsv : save m d b = (290, m, d) := by unfold save; rw [if_pos hbad]
    refine FW_seq ?_
    refine FW_region ?_
    refine FL_assign (h := ?_)
    refine FL_nil (Qseq_normal ?_)
    refine FW_ret (Qseq_ret (Qfn_ret (hR := ?_)))
    exact ⟨a, by rw [hsv]; rfl, by rw [hsv]; exact hB.up (by omega), by rw [hsv]; exact H.join0.turn⟩
  · skip
    have hbad : m.bad = false := hc6
    refine FW_skip (Qseq_normal ?_)
    refine FW_seq ?_
    refine FW_seq ?_
    refine FW_region ?_
    refine FL_move (h := ?_)
    refine FL_val (Gives.lenSlice rfl) rfl ?_
    refine FL_move (h := ?_)
    refine FL_val (Gives.nilCheck rfl) rfl ?_
    first | refine FL_val (Gives.field0 rfl) rfl ?_ | refine FL_val (Gives.field rfl) rfl ?_ | refine FL_val (Gives.fieldA rfl) rfl ?_
    refine FL_loadB (b := s) (cs := slotRCells q m) (H.obj At0) (hv := rfl) (h := ?_)
    refine FL_callS (roomR_at hB.sim H At1) (h := ?_)
    refine FL_val (Gives.gtr rfl rfl) rfl ?_
    refine FL_move (h := ?_)
    first | refine FL_splitP (t := 22) rfl (fun hs20 => ?_) (fun hs20 => ?_) | refine FL_split (t := 22) rfl (fun hs20 => ?_) (fun hs20 => ?_)
    · skip
      have hcase : room d < b.length ∨ m.n = mostNum := .inl hs20
      refine FL_off rfl rfl rfl ?_
      refine FL_off rfl rfl rfl ?_
      refine FL_off rfl rfl rfl ?_
      refine FL_off rfl rfl rfl ?_
      refine FL_off rfl rfl rfl ?_
      refine FL_pickT (h := ?_)
      refine FL_nil (Qseq_normal ?_)
      refine FW_cond_true rfl ?_
      refine FW_seq ?_
      refine FW_region ?_
      refine FL_assign (h := ?_)
      refine FL_nil (Qseq_normal ?_)
      refine FW_ret (Qseq_ret (Qfn_ret (hR := ?_)))
      have hsv : save m d b = (5, m, d) := by unfold save; rw [if_neg (by rw [hbad]; simp), if_pos hcase]
      exact ⟨a, by rw [hsv]; rfl, by rw [hsv]; exact hB.up (by omega), by rw [hsv]; exact H.join0.turn⟩
    · skip
      have hshort := hs20
      refine FL_on rfl rfl ?_
      refine FL_move (h := ?_)
      refine FL_on rfl rfl ?_
      refine FL_val (Gives.nilCheck rfl) rfl ?_
      refine FL_on rfl rfl ?_
      first | refine FL_val (Gives.field0 rfl) rfl ?_ | refine FL_val (Gives.field rfl) rfl ?_ | refine FL_val (Gives.fieldA rfl) rfl ?_
      refine FL_on rfl rfl ?_
      refine FL_loadB (b := s) (cs := slotRCells q m) (H.obj At0) (hv := rfl) (h := ?_)
      refine FL_on rfl rfl ?_
      refine FL_val (Gives.geq rfl rfl) rfl ?_
      refine FL_pickF (h := ?_)
      refine FL_nil (Qseq_normal ?_)
      first | refine FW_condP rfl (fun hc32 => ?_) (fun hc32 => ?_) | refine FW_cond rfl (fun hc32 => ?_) (fun hc32 => ?_)
      · skip
        have hcase : room d < b.length ∨ m.n = mostNum := .inr (by unfold mostNum; omega)
        refine FW_seq ?_
        refine FW_region ?_
        refine FL_assign (h := ?_)
        refine FL_nil (Qseq_normal ?_)
        refine FW_ret (Qseq_ret (Qfn_ret (hR := ?_)))
        have hsv : save m d b = (5, m, d) := by unfold save; rw [if_neg (by rw [hbad]; simp), if_pos hcase]
        exact ⟨a, by rw [hsv]; rfl, by rw [hsv]; exact hB.up (by omega), by rw [hsv]; exact H.join0.turn⟩
      · skip
        have hncase : ¬ (room d < b.length ∨ m.n = mostNum) := by
          rintro (h | h)
          · exact hshort h
          · unfold mostNum at h
            omega
        have hlen : (b.length : Int) ≤ room d := by omega
        have hnch : (nch b : Int) ≤ 6 := by
          unfold room at hlen
          unfold nch
          omega
        have hsv : save m d b = if (save1 (m.n + 1) b d).1 ≠ 0 then ((save1 (m.n + 1) b d).1, { m with bad := true }, (save1 (m.n + 1) b d).2) else (0, ⟨m.n + 1, b.length, false⟩, (save1 (m.n + 1) b d).2) := by
          unfold save
          rw [if_neg (by rw [hbad]; simp), if_neg hncase]
        have hs1 : save1 (m.n + 1) b d = go (go (go (wr at_ b (nch b) (0, d)) DM.flush) fun d => d.write 0 (rootB (m.n + 1) b.length)) DM.flush := by unfold save1; rw [hat]
        refine FW_skip (Qseq_normal ?_)
        refine FW_seq ?_
        refine FW_region ?_
        refine FL_move (h := ?_)
        refine FL_val (Gives.nilCheck rfl) rfl ?_
        first | refine FL_val (Gives.field0 rfl) rfl ?_ | refine FL_val (Gives.field rfl) rfl ?_ | refine FL_val (Gives.fieldA rfl) rfl ?_
        refine FL_loadB (b := s) (cs := slotRCells q m) (H.obj At0) (hv := rfl) (h := ?_)
        refine FL_val (Gives.addI rfl rfl rfl (by omega)) rfl ?_
        refine FL_assign (h := ?_)
        refine FL_nil (Qseq_normal ?_)
        refine FW_seq ?_
        refine FW_region ?_
        refine FL_move (h := ?_)
        refine FL_move (h := ?_)
        refine FL_callS (areaR_at (n := m.n + 1) (by omega) hB.sim H At0 At1) (h := ?_)
        rw [← hat]
        refine FL_assign (h := ?_)
        refine FL_nil (Qseq_normal ?_)
        refine FW_seq ?_
        refine FW_seq ?_
        refine FW_region ?_
        refine FL_assign (h := ?_)
        refine FL_nil (Qseq_normal ?_)
        refine FW_block ?_
        refine FW_loop' (fun x : Nat × AM => [(0, .pointer (some ⟨s, 0, none⟩)), (1, .slice A b.length c), (5, I (m.n + 1)), (6, I at_), (7, I ((128 * x.1 : Nat) : Int))])
          (fun x w' => x.1 ≤ nch b ∧ (wr at_ b x.1 (0, d)).1 = 0 ∧ Both (i + x.1) (wr at_ b x.1 (0, d)).2 x.2 ∧ Sep w F [slotR s q m, refA q x.2] w') (fun x _ => nch b - x.1) (0, a) ⟨rfl, rfl, rfl, rfl, rfl, trivial⟩ ⟨Nat.zero_le _, rfl, hB, H⟩ (fun x τ w49 hI => ?_)
        obtain ⟨k, ak⟩ := x
        obtain ⟨hk, hx0, hBk, H49⟩ := hI
        dsimp only at hk hx0 hBk H49
        try simp only [upds, like, upd_ds, und_ds]
        refine FW_seq ?_
        refine FW_seq ?_
        refine FW_region ?_
        refine FL_move (h := ?_)
        refine FL_move (h := ?_)
        refine FL_val (Gives.lenSlice rfl) rfl ?_
        refine FL_val (Gives.lss rfl rfl) rfl ?_
        refine FL_nil (Qseq_normal ?_)
        first | refine FW_condP rfl (fun hc54 => ?_) (fun hc54 => ?_) | refine FW_cond rfl (fun hc54 => ?_) (fun hc54 => ?_)
        · skip
          have hlt : 128 * k < b.length := by omega
          have hk1 : k < nch b := by unfold nch; omega
          have hcl := chunk_length b k
          have hsmk := hBk.as_.mono (show 40 + (i + k) ≤ 100000 by omega)
          have hbw := hBk.write (by omega) (at_ + k) (chunk b k)
          have hstep : wr at_ b (k + 1) (0, d) = (wr at_ b k (0, d)).2.write (at_ + k) (chunk b k) := go_ok hx0
          refine FW_skip (Qseq_normal ?_)
          refine FW_seq ?_
          refine FW_block ?_
          refine FW_seq ?_
          refine FW_drawS rfl H49 (h := fun hok56 w58 H58 => ?_)
          refine FGmove hok56 0 (h := ?_)
          refine FGp hok56 1 rfl rfl (fun _ => (Gives.nilCheck rfl)) (by kernel_rfl) ?_
          first | refine FGp hok56 2 rfl rfl (fun _ => (Gives.field0 rfl)) (by kernel_rfl) ?_ | refine FGp hok56 2 rfl rfl (fun _ => (Gives.field rfl)) (by kernel_rfl) ?_ | refine FGp hok56 2 rfl rfl (fun _ => (Gives.fieldA rfl)) (by kernel_rfl) ?_
          refine FGload hok56 3 (b := s) (cs := slotRCells q m) H58 (hat := At0) (h := ?_)
          refine FGmove hok56 4 (h := ?_)
          refine FGmove hok56 5 (h := ?_)
          refine FGp hok56 6 rfl rfl (fun _ => (Gives.quo rfl rfl (by decide))) (by kernel_rfl) ?_
          rw [show IntKind.i64.wrap (((128 * k : Nat) : Int).tdiv 128) = (k : Int) by
            rw [Int.tdiv_eq_ediv_of_nonneg (by omega), IntWalk.i64_in _ (by omega)]
            omega]
          refine FGp hok56 7 rfl rfl (fun _ => (Gives.addI rfl rfl rfl (by omega))) (by kernel_rfl) ?_
          refine FGmove hok56 8 (h := ?_)
          refine FGmove hok56 9 (h := ?_)
          refine FGmove hok56 10 (h := ?_)
          refine FGp hok56 11 rfl rfl (fun _ => (Gives.addI rfl rfl (show ((128 * k : Nat) : Int) + 128 = ((128 * k + 128 : Nat) : Int) by omega) (by omega))) (by kernel_rfl) ?_
          refine FGmove hok56 12 (h := ?_)
          refine FGp hok56 13 rfl rfl (fun _ => (Gives.lenSlice rfl)) (by kernel_rfl) ?_
          refine FGp hok56 14 rfl rfl (fun _ => (gives_minN (k := b.length) (m := 128 * k + (chunk b k).length) (by omega) rfl rfl rfl)) (by kernel_rfl) ?_
          refine FGp hok56 15 rfl rfl (fun _ => (Gives.sliceBoth (l := 128 * k) (h := 128 * k + (chunk b k).length) rfl rfl rfl (by omega) (by omega))) (by kernel_rfl) ?_
          rw [show 128 * k + (chunk b k).length - 128 * k = (chunk b k).length by omega]
          refine FGcall1 hok56 16 [] H58 At1 (fun F' hp hF' => writeR_ok (b := chunk b k) hsmk (rowAt_chunk (hr.keepS H58.kept hA) hc (by omega)) (off_chunk (hA.of hr hF' (by decide)) (by omega)) hp) (h := fun w69 H69 => ⟨Stab_nil, ?_⟩)
          refine FGp hok56 17 rfl rfl (fun _ => Gives.assign rfl) (by kernel_rfl) ?_
          refine FG_end hok56 (by kernel_rfl) ?_
          refine Qseq_normal ?_
          refine FW_seq ?_
          refine FW_region ?_
          refine FL_move (h := ?_)
          refine FL_val (Gives.neq rfl rfl) rfl ?_
          refine FL_nil (Qseq_normal ?_)
          first | refine FW_condP rfl (fun hc73 => ?_) (fun hc73 => ?_) | refine FW_cond rfl (fun hc73 => ?_) (fun hc73 => ?_)
          · skip
            have hne : (wr at_ b (k + 1) (0, d)).1 ≠ 0 := by rw [hstep, hbw.1]; exact hc73
            have hs2 : save1 (m.n + 1) b d = wr at_ b (k + 1) (0, d) := by
              rw [hs1, wr_err hne (nch b) (by omega), go_err hne, go_err hne, go_err hne]
            rw [if_pos (by rw [hs2]; exact hne), hs2, hstep] at hsv
            refine FW_seq ?_
            refine FW_region ?_
            refine FL_move (h := ?_)
            refine FL_val (Gives.nilCheck rfl) rfl ?_
            first | refine FL_val (Gives.field0 rfl) rfl ?_ | refine FL_val (Gives.field rfl) rfl ?_ | refine FL_val (Gives.fieldA rfl) rfl ?_
            refine FL_store H69 (b := s) (cs := slotRCells q m) (cs' := slotRCells q { m with bad := true }) (hat := At0) (hs := rfl) (h := ?_)
            intro w79 H79
            refine FL_nil (Qseq_normal ?_)
            refine FW_seq ?_
            refine FW_region ?_
            refine FL_move (h := ?_)
            refine FL_assign (h := ?_)
            refine FL_nil (Qseq_normal ?_)
            refine FW_ret (Qblk_ret (Qseq_ret (Qround_ret (Qblk_ret (Qseq_ret (Qfn_ret (hR := ?_)))))))
            exact ⟨_, by rw [hsv]; show I _ = I _; rw [hbw.1], by rw [hsv]; exact hbw.2.up (by omega), by rw [hsv]; exact H79.join0.turn⟩
          · skip
            have hz : (wr at_ b (k + 1) (0, d)).1 = 0 := by
              rw [hstep, hbw.1]
              by_cases h : (ak.write (at_ + (k : Int)) (chunk b k)).1 = 0
              · exact h
              · exact absurd h hc73
            refine FW_skip (Qblk_normal (Qseq_normal ?_))
            refine FW_region ?_
            refine FL_move (h := ?_)
            first | refine FL_val (Gives.addI rfl rfl rfl (by omega)) rfl ?_ | refine FL_val (Gives.add rfl rfl) rfl ?_
            refine FL_assign (h := ?_)
            refine FL_nil ?_
            exact Qround_normal (k + 1, _) ⟨rfl, rfl, rfl, rfl, by show I (((128 * k : Nat) : Int) + 128) = I ((128 * (k + 1) : Nat) : Int); congr 1, trivial⟩ ⟨by dsimp only; omega, hz, by dsimp only; rw [hstep]; exact hbw.2, H69⟩ (by dsimp only; omega)
        · skip
          have hkn : k = nch b := by unfold nch at hk ⊢; omega
          subst hkn
          have hsmk := hBk.as_.mono (show 40 + (i + nch b) ≤ 100000 by omega)
          have hbf := hBk.flush (by omega)
          have hy1 : go (wr at_ b (nch b) (0, d)) DM.flush = (wr at_ b (nch b) (0, d)).2.flush := go_ok hx0
          rw [← hy1] at hbf
          generalize go (wr at_ b (nch b) (0, d)) DM.flush = y1 at hs1 hbf
          obtain ⟨y2, hy2⟩ : ∃ y2, y2 = go y1 fun d => d.write 0 (rootB (m.n + 1) b.length) := ⟨_, rfl⟩
          rw [← hy2] at hs1
          refine FW_exit (Qseq_exit (Qround_exit (Qblk_exit (Qseq_normal ?_))))
          refine FW_seq ?_
          refine FW_region ?_
          refine FL_move (h := ?_)
          refine FL_val (Gives.nilCheck rfl) rfl ?_
          first | refine FL_val (Gives.field0 rfl) rfl ?_ | refine FL_val (Gives.field rfl) rfl ?_ | refine FL_val (Gives.fieldA rfl) rfl ?_
          refine FL_loadB (b := s) (cs := slotRCells q m) (H49.obj At0) (hv := rfl) (h := ?_)
          refine FL_call1 H49 At1 (fun F' hp _ => flushR_ok hsmk hp) (h := fun w94 H94 => ?_)
          rw [← hbf.1]
          refine FL_assign (h := ?_)
          refine FL_nil (Qseq_normal ?_)
          refine FW_cut (fun a2 : AM => [(0, .pointer (some ⟨s, 0, none⟩)), (1, .slice A b.length c), (5, I (m.n + 1)), (9, I y2.1)]) (fun a2 w' => Both (i + nch b + 2) y2.2 a2 ∧ Sep w F [slotR s q m, refA q a2] w') ?_ ?_
          · skip
            refine FW_seq ?_
            refine FW_region ?_
            refine FL_move (h := ?_)
            refine FL_val (Gives.eql rfl rfl) rfl ?_
            refine FL_nil (Qseq_normal ?_)
            first | refine FW_condP rfl (fun hc99 => ?_) (fun hc99 => ?_) | refine FW_cond rfl (fun hc99 => ?_) (fun hc99 => ?_)
            · skip
              have hz1 : y1.1 = 0 := hc99
              refine FW_drawS rfl H94 (h := fun hok101 w103 H103 => ?_)
              refine FGmove hok101 0 (h := ?_)
              refine FGp hok101 1 rfl rfl (fun _ => (Gives.nilCheck rfl)) (by kernel_rfl) ?_
              first | refine FGp hok101 2 rfl rfl (fun _ => (Gives.field0 rfl)) (by kernel_rfl) ?_ | refine FGp hok101 2 rfl rfl (fun _ => (Gives.field rfl)) (by kernel_rfl) ?_ | refine FGp hok101 2 rfl rfl (fun _ => (Gives.fieldA rfl)) (by kernel_rfl) ?_
              refine FGload hok101 3 (b := s) (cs := slotRCells q m) H103 (hat := At0) (h := ?_)
              refine FGmove hok101 4 (h := ?_)
              refine FGmove hok101 6 (h := ?_)
              refine FGp hok101 7 rfl rfl (fun _ => (Gives.lenSlice rfl)) (by kernel_rfl) ?_
              have hy2e : y2 = y1.2.write 0 (rootB (m.n + 1) b.length) := hy2.trans (go_ok hz1)
              rw [← write_pad (b := be 8 (m.n + 1) ++ be 4 b.length) (by simp [be_length]) (by rw [rootB_length]; decide) (by rw [root12, pad_full (rootB_length _ _)])] at hy2e
              have hbw := hbf.2.write (by omega) 0 (be 8 (m.n + 1) ++ be 4 b.length)
              rw [← hy2e] at hbw
              have hsm1 := hbf.2.as_.mono (show 40 + (i + nch b + 1) ≤ 100000 by omega)
              refine FGcallN hok101 5 [(7, true), (6, true), (3, false), (2, true), (1, true), (0, true)] H103 (high_ok (n := m.n + 1) (k := 8) (by decide)) (h := fun z108 w109 _ H109 _ => ⟨Stab_pure (Stab_pure ((Stab_load (b := s) (cs := slotRCells q m) H109 (hat := by first | exact At1 | exact At2) (h := (Stab_pure (Stab_pure (Stab_pure (Stab_nil)))))))), ?_⟩)
              obtain ⟨Ah, ch, hv108, hch, _⟩ := Sep.rowForm H109 At0
              subst hv108
              refine FGcallN hok101 8 [(3, false), (2, true), (1, true), (0, true)] H109 (high_ok (n := b.length) (k := 4) (by decide)) (h := fun z110 w111 _ H111 _ => ⟨(Stab_load (b := s) (cs := slotRCells q m) H111 (hat := by first | exact At1 | exact At2) (h := (Stab_pure (Stab_pure (Stab_pure (Stab_nil)))))), ?_⟩)
              obtain ⟨Al, cl2, hv110, _, _⟩ := Sep.rowForm H111 At0
              subst hv110
              refine FGappend hok101 9 [(3, false), (2, true), (1, true), (0, true)] (t := 27) (e := 5) (v := .slice Ah 8 ch) (k := 8) (xs := (be 8 (m.n + 1)).map B) H111 (H111.rowAt At0) (ones_B _) (by unfold maxLen; omega) (by omega) (hat := At1) (h := fun vv w113 H113 => ⟨(Stab_load (b := s) (cs := slotRCells q m) H113 (hat := by first | exact At1 | exact At2) (h := (Stab_pure (Stab_pure (Stab_pure (Stab_nil)))))), ?_⟩)
              obtain ⟨Av, cv, hv112, _⟩ := Sep.rowForm H113 At1
              subst hv112
              rw [← List.map_append] at H113
              refine FGcall1R hok101 10 [] H113.front1 At2 (fun F' hp hrr hoff => writeR_ok (b := be 8 (m.n + 1) ++ be 4 b.length) (at_ := 0) hsm1 (by rw [List.length_append, be_length, be_length]; exact hrr) (by rw [List.length_append, be_length, be_length]; exact hoff) hp) (hv := by rw [List.length_append, be_length, be_length]; rfl) (h := fun w115 H115 => ⟨Stab_nil, ?_⟩)
              rw [← hbw.1]
              refine FGp hok101 11 rfl rfl (fun _ => Gives.assign rfl) (by kernel_rfl) ?_
              refine FG_end hok101 (by kernel_rfl) ?_
              exact Qcut_normal _ ⟨rfl, rfl, rfl, rfl, trivial⟩ ⟨hbw.2, H115.drop0.drop0⟩
            · skip
              have hz1 : y1.1 ≠ 0 := hc99
              have hy2e : y2 = y1 := hy2.trans (go_err hz1)
              rw [← hy2e] at hbf ⊢
              refine FW_skip ?_
              exact Qcut_normal _ ⟨rfl, rfl, rfl, rfl, trivial⟩ ⟨hbf.2.up (by omega), H94⟩
          · skip
            intro a2 τ w121 hI
            obtain ⟨hB2, H121⟩ := hI
            have hsm2 := hB2.as_.mono (show 40 + (i + nch b + 2) ≤ 100000 by omega)
            have hbf2 := hB2.flush (by omega)
            simp only [upds, like, upd_ds]
            refine FW_cut (fun a3 : AM => [(0, .pointer (some ⟨s, 0, none⟩)), (1, .slice A b.length c), (5, I (m.n + 1)), (9, I (save1 (m.n + 1) b d).1)]) (fun a3 w' => Both (i + nch b + 3) (save1 (m.n + 1) b d).2 a3 ∧ Sep w F [slotR s q m, refA q a3] w') ?_ ?_
            · skip
              refine FW_seq ?_
              refine FW_region ?_
              refine FL_move (h := ?_)
              refine FL_val (Gives.eql rfl rfl) rfl ?_
              refine FL_nil (Qseq_normal ?_)
              first | refine FW_condP rfl (fun hc125 => ?_) (fun hc125 => ?_) | refine FW_cond rfl (fun hc125 => ?_) (fun hc125 => ?_)
              · skip
                have hz2 : y2.1 = 0 := hc125
                have hs3 : save1 (m.n + 1) b d = y2.2.flush := hs1.trans (go_ok hz2)
                rw [← hs3] at hbf2
                refine FW_region ?_
                refine FL_move (h := ?_)
                refine FL_val (Gives.nilCheck rfl) rfl ?_
                first | refine FL_val (Gives.field0 rfl) rfl ?_ | refine FL_val (Gives.field rfl) rfl ?_ | refine FL_val (Gives.fieldA rfl) rfl ?_
                refine FL_loadB (b := s) (cs := slotRCells q m) (H121.obj At0) (hv := rfl) (h := ?_)
                refine FL_call1 H121 At1 (fun F' hp _ => flushR_ok hsm2 hp) (h := fun w132 H132 => ?_)
                rw [← hbf2.1]
                refine FL_assign (h := ?_)
                refine FL_nil ?_
                exact Qcut_normal _ ⟨rfl, rfl, rfl, rfl, trivial⟩ ⟨hbf2.2, H132⟩
              · skip
                have hz2 : y2.1 ≠ 0 := hc125
                have hs3 : save1 (m.n + 1) b d = y2 := hs1.trans (go_err hz2)
                refine FW_skip ?_
                exact Qcut_normal _ ⟨rfl, rfl, rfl, by rw [hs3]; rfl, trivial⟩ ⟨by rw [hs3]; exact hB2.up (by omega), H121⟩
            · skip
              intro a3 τ w138 hI
              obtain ⟨hB3, H138⟩ := hI
              simp only [upds, like, upd_ds]
              refine FW_seq ?_
              refine FW_seq ?_
              refine FW_region ?_
              refine FL_move (h := ?_)
              refine FL_val (Gives.neq rfl rfl) rfl ?_
              refine FL_nil (Qseq_normal ?_)
              first | refine FW_condP rfl (fun hc141 => ?_) (fun hc141 => ?_) | refine FW_cond rfl (fun hc141 => ?_) (fun hc141 => ?_)
              · skip
                have hne : (save1 (m.n + 1) b d).1 ≠ 0 := hc141
                rw [if_pos hne] at hsv
                refine FW_seq ?_
                refine FW_region ?_
                refine FL_move (h := ?_)
                refine FL_val (Gives.nilCheck rfl) rfl ?_
                first | refine FL_val (Gives.field0 rfl) rfl ?_ | refine FL_val (Gives.field rfl) rfl ?_ | refine FL_val (Gives.fieldA rfl) rfl ?_
                refine FL_store H138 (b := s) (cs := slotRCells q m) (cs' := slotRCells q { m with bad := true }) (hat := At0) (hs := rfl) (h := ?_)
                intro w147 H147
                refine FL_nil (Qseq_normal ?_)
                refine FW_seq ?_
                refine FW_region ?_
                refine FL_move (h := ?_)
                refine FL_assign (h := ?_)
                refine FL_nil (Qseq_normal ?_)
                refine FW_ret (Qseq_ret (Qfn_ret (hR := ?_)))
                exact ⟨_, by rw [hsv]; rfl, by rw [hsv]; exact hB3.up (by omega), by rw [hsv]; exact H147.join0.turn⟩
              · skip
                have heq : ¬ (save1 (m.n + 1) b d).1 ≠ 0 := hc141
                rw [if_neg heq] at hsv
                refine FW_skip (Qseq_normal ?_)
                refine FW_seq ?_
                refine FW_region ?_
                refine FL_move (h := ?_)
                refine FL_move (h := ?_)
                refine FL_val (Gives.nilCheck rfl) rfl ?_
                first | refine FL_val (Gives.field0 rfl) rfl ?_ | refine FL_val (Gives.field rfl) rfl ?_ | refine FL_val (Gives.fieldA rfl) rfl ?_
                refine FL_store H138 (b := s) (cs := slotRCells q m) (cs' := slotRCells q { m with n := m.n + 1 }) (hat := At0) (hs := rfl) (h := ?_)
                intro w157 H157
                refine FL_nil (Qseq_normal ?_)
                refine FW_seq ?_
                refine FW_region ?_
                refine FL_move (h := ?_)
                refine FL_move (h := ?_)
                refine FL_val (Gives.lenSlice rfl) rfl ?_
                refine FL_val (Gives.nilCheck rfl) rfl ?_
                first | refine FL_val (Gives.field0 rfl) rfl ?_ | refine FL_val (Gives.field rfl) rfl ?_ | refine FL_val (Gives.fieldA rfl) rfl ?_
                refine FL_store H157 (b := s) (cs := slotRCells q { m with n := m.n + 1 }) (cs' := slotRCells q ⟨m.n + 1, b.length, m.bad⟩) (hat := At0) (hs := rfl) (h := ?_)
                intro w164 H164
                refine FL_nil (Qseq_normal ?_)
                refine FW_seq ?_
                refine FW_region ?_
                refine FL_assign (h := ?_)
                refine FL_nil (Qseq_normal ?_)
                refine FW_ret (Qfn_ret (hR := ?_))
                rw [hbad] at H164
                exact ⟨_, by rw [hsv]; rfl, by rw [hsv]; exact hB3.up (by omega), by rw [hsv]; exact H164.join0.turn⟩
end
end Go.Proofs.Yteflbohpabdjkaa
/-
  The reference's Load and Open, walked.
-/
namespace Go.Proofs.Yteflbohpabdjkaa
open Go Go.Mw
set_option maxRecDepth 8000

def tk (l : List UInt8) : Nat := l.foldl (fun n c => n * 256 + c.toNat) 0
theorem tk_snoc (l : List UInt8) (c : UInt8) : tk (l ++ [c]) = tk l * 256 + c.toNat := by simp [tk]
theorem tk_lt : ∀ (k : Nat) (l : List UInt8), l.length = k → tk l < 256 ^ k
  | 0, l, h => by
    have : l = [] := List.eq_nil_of_length_eq_zero h
    subst this
    decide
  | k + 1, l, h => by
    rcases List.eq_nil_or_concat l with rfl | ⟨l', c, rfl⟩
    · cases h
    · rw [List.concat_eq_append] at h ⊢
      have ih := tk_lt k l' (by simpa using h)
      have := c.toNat_lt
      rw [tk_snoc, Nat.pow_succ]
      omega
theorem pow256 {k : Nat} (h : k ≤ 7) : 256 ^ k ≤ 72057594037927936 := Nat.pow_le_pow_right (n := 256) (by decide) h
theorem takeN_tk : ∀ (k : Nat) (l : List UInt8), l.length = k → k ≤ 8 → takeN l = tk l
  | 0, l, h, _ => by
    have : l = [] := List.eq_nil_of_length_eq_zero h
    subst this
    rfl
  | k + 1, l, h, hk => by
    rcases List.eq_nil_or_concat l with rfl | ⟨l', c, rfl⟩
    · cases h
    · rw [List.concat_eq_append] at h ⊢
      have ih := takeN_tk k l' (by simpa using h) (by omega)
      have h1 := tk_lt k l' (by simpa using h)
      have h2 := pow256 (show k ≤ 7 by omega)
      have := c.toNat_lt
      rw [takeN_snoc, tk_snoc, ih]
      omega
theorem tk_cons (c : UInt8) (l : List UInt8) : tk (c :: l) = c.toNat * 256 ^ l.length + tk l := by
  have key : ∀ (l : List UInt8) (n : Nat), l.foldl (fun n c => n * 256 + c.toNat) n = n * 256 ^ l.length + tk l := by
    intro l
    induction l with
    | nil => intro n; simp [tk]
    | cons x l ih =>
      intro n
      rw [List.foldl_cons, ih]
      have e : tk (x :: l) = x.toNat * 256 ^ l.length + tk l := by
        show (x :: l).foldl _ 0 = _
        rw [List.foldl_cons, ih]
        simp
      rw [e, List.length_cons, Nat.pow_succ, Nat.add_mul, Nat.mul_assoc, Nat.mul_comm 256, Nat.add_assoc]
  show (c :: l).foldl _ 0 = _
  rw [List.foldl_cons, key]
  simp
theorem be_tk : ∀ (k : Nat) (l : List UInt8), l.length = k → be k (tk l) = l
  | 0, l, h => by
    have : l = [] := List.eq_nil_of_length_eq_zero h
    subst this
    rfl
  | k + 1, l, h => by
    rcases List.eq_nil_or_concat l with rfl | ⟨l', c, rfl⟩
    · cases h
    · rw [List.concat_eq_append] at h ⊢
      have ih := be_tk k l' (by simpa using h)
      have hc := c.toNat_lt
      rw [tk_snoc, be_succ, show ((tk l' * 256 + c.toNat : Nat) : Int) / 256 = (tk l' : Int) by omega, ih]
      congr 2
      unfold byteAt
      rw [Nat.mul_zero, Int.pow_zero, Int.fdiv_one, show (((tk l' * 256 + c.toNat : Nat) : Int) % 256).toNat = c.toNat by omega, UInt8.ofNat_toNat]
/-- A root, told by its bytes. -/
theorem rootOf_eq {d : DM} {b : List UInt8} (hb : b.length = 128) {n4 n7 : Nat} (h7 : tk ((b.drop 1).take 7) = n7) (h4 : tk ((b.drop 8).take 4) = n4) :
    rootOf d b = if (b[0]'(by omega)).toNat = 0 ∧ (n7 : Int) ≤ mostNum ∧ (n4 : Int) ≤ room d ∧ ¬ (n7 = 0 ∧ 0 < n4) ∧ b.drop 12 = List.replicate 116 0 then some ((n7 : Int), (n4 : Int)) else none := by
  have e8 : b.take 8 = b[0]'(by omega) :: (b.drop 1).take 7 := by
    match b, hb with
    | x :: b, _ => rfl
  have l7 : ((b.drop 1).take 7).length = 7 := by rw [List.length_take, List.length_drop, hb]; decide
  have l4 : ((b.drop 8).take 4).length = 4 := by rw [List.length_take, List.length_drop, hb]; decide
  have l8 : (b.take 8).length = 8 := by rw [List.length_take, hb]; decide
  have t8 : takeN (b.take 8) = (b[0]'(by omega)).toNat * 72057594037927936 + n7 := by
    rw [takeN_tk 8 _ l8 (Nat.le_refl _), e8, tk_cons, l7, h7]
  have t4 : takeN ((b.drop 8).take 4) = n4 := by rw [takeN_tk 4 _ l4 (by decide), h4]
  have hroot : b = rootB (takeN (b.take 8)) (takeN ((b.drop 8).take 4)) ↔ b.drop 12 = List.replicate 116 0 := by
    rw [takeN_tk 8 _ l8 (Nat.le_refl _), takeN_tk 4 _ l4 (by decide)]
    unfold rootB
    rw [be_tk 8 _ l8, be_tk 4 _ l4]
    have e : b = b.take 8 ++ (b.drop 8).take 4 ++ b.drop 12 := by
      have h1 : b.drop 8 = (b.drop 8).take 4 ++ b.drop 12 := by
        have h2 := (List.take_append_drop 4 (b.drop 8)).symm
        rwa [List.drop_drop] at h2
      rw [List.append_assoc, ← h1, List.take_append_drop]
    constructor
    · intro h
      have h2 := congrArg (List.drop 12) h
      rw [h2, List.drop_left' (by rw [List.length_append, l8, l4])]
    · intro h
      rw [← h]
      exact e
  unfold rootOf
  dsimp only
  simp only [hroot]
  rw [t4, t8]
  unfold mostNum
  by_cases h0 : (b[0]'(by omega)).toNat = 0
  · rw [h0, Nat.zero_mul, Nat.zero_add]
    by_cases hc : b.drop 12 = List.replicate 116 0 ∧ (n7 : Int) ≤ 9007199254740991 ∧ (n4 : Int) ≤ room d ∧ ¬ (n7 = 0 ∧ 0 < n4)
    · rw [if_pos hc, if_pos ⟨rfl, hc.2.1, hc.2.2.1, hc.2.2.2, hc.1⟩]
    · rw [if_neg hc, if_neg (fun h => hc ⟨h.2.2.2.2, h.2.1, h.2.2.1, h.2.2.2.1⟩)]
  · rw [if_neg (fun h => by have := h.2.1; omega), if_neg (fun h => h0 h.1)]
def openRH (x : Option Nat) (q : Nat) (m : SM) : HP := match x with
  | some s => slotR s q m
  | none => emp
section
variable {q s : Nat} {d : DM} {a : AM} {m : SM} {F : Nat → Prop} {w w₀ : World} {S : Nat → Prop} {rs : List HP} {put put' : HP → List HP}
set_option maxHeartbeats 8000000 in
theorem loadR_ok {i : Nat} (hm : m.ok d) (hB : Both i d a) (hi : i ≤ 900) (h : (star (slotR s q m) (refA q a)).ok F w) :
    Rets Try.prog 58 [.pointer (some ⟨s, 0, none⟩)] w fun v w' => ∃ v0, v = .tuple #[v0, I (load m d).2.1] ∧ True ∧ Turn F (star (rowH 5 1 v0 (load m d).1.length ((load m d).1.map B)) (star (slotR s q (load m d).2.2) (refA q a))) w w' := by
  have H := (Sep.start1 h).star0
  have hwf := hB.sim.wf
  have hh := half_bd hwf
  have hm0 := hm.many0
  have hm1 := hm.many
  unfold room at hm1
  obtain ⟨mn, hmn⟩ : ∃ mn : Nat, m.many = mn := ⟨m.many.toNat, by omega⟩
  obtain ⟨at_, hat⟩ : ∃ at_, at_ = area d m.n := ⟨_, rfl⟩
  have har : 1 ≤ at_ ∧ at_ ≤ 1 + half d := by
    rw [hat]
    unfold area
    rcases (show m.n % 2 = 0 ∨ m.n % 2 = 1 by omega) with h | h <;> rw [h] <;> omega
  have hsz : 2 * half d + 1 ≤ d.size := by unfold half; omega
  have hsm := hB.as_.mono (show 40 + i ≤ 100000 by omega)
  refine rets1 Try.func58 rfl rfl rfl rfl ?_
  refine FW_seq ?_
  refine FW_region ?_
  refine FL_assign (h := ?_)
  refine FL_assign (h := ?_)
  refine FL_nil (Qseq_normal ?_)
  refine FW_seq ?_
  refine FW_seq ?_
  refine FW_region ?_
  refine FL_move (h := ?_)
  refine FL_val (Gives.nilCheck rfl) rfl ?_
  first | refine FL_val (Gives.field0 rfl) rfl ?_ | refine FL_val (Gives.field rfl) rfl ?_ | refine FL_val (Gives.fieldA rfl) rfl ?_
  refine FL_loadB (b := s) (cs := slotRCells q m) (H.obj At0) (hv := rfl) (h := ?_)
  refine FL_nil (Qseq_normal ?_)
  first | refine FW_condP rfl (fun hc7 => ?_) (fun hc7 => ?_) | refine FW_cond rfl (fun hc7 => ?_) (fun hc7 => ?_)
  · skip
    have hbad : m.bad = true := hc7
    have hld : load m d = ([], 290, m) := by unfold load; rw [if_pos hbad]
    refine FW_seq ?_
    refine FW_region ?_
    refine FL_assign (h := ?_)
    refine FL_assign (h := ?_)
    refine FL_nil (Qseq_normal ?_)
    refine FW_ret (Qseq_ret (Qfn_ret (hR := ?_)))
    exact ⟨_, by rw [hld]; rfl, trivial, by rw [hld]; exact ((H.join0).nilRow 5 1).join0.turn⟩
  · skip
    have hbad : ¬ m.bad = true := by simpa using hc7
    refine FW_skip (Qseq_normal ?_)
    refine FW_seq ?_
    refine FW_seq ?_
    refine FW_region ?_
    refine FL_move (h := ?_)
    refine FL_val (Gives.nilCheck rfl) rfl ?_
    first | refine FL_val (Gives.field0 rfl) rfl ?_ | refine FL_val (Gives.field rfl) rfl ?_ | refine FL_val (Gives.fieldA rfl) rfl ?_
    refine FL_loadB (b := s) (cs := slotRCells q m) (H.obj At0) (hv := rfl) (h := ?_)
    refine FL_val (Gives.eql rfl rfl) rfl ?_
    refine FL_nil (Qseq_normal ?_)
    first | refine FW_condP rfl (fun hc18 => ?_) (fun hc18 => ?_) | refine FW_cond rfl (fun hc18 => ?_) (fun hc18 => ?_)
    · skip
      have hz : m.n = 0 := hc18
      have hld : load m d = ([], 300, m) := by unfold load; rw [if_neg hbad, if_pos hz]
      refine FW_seq ?_
      refine FW_region ?_
      refine FL_assign (h := ?_)
      refine FL_assign (h := ?_)
      refine FL_nil (Qseq_normal ?_)
      refine FW_ret (Qseq_ret (Qfn_ret (hR := ?_)))
      exact ⟨_, by rw [hld]; rfl, trivial, by rw [hld]; exact ((H.join0).nilRow 5 1).join0.turn⟩
    · skip
      have hz : ¬ m.n = 0 := hc18
      refine FW_skip (Qseq_normal ?_)
      refine FW_seq ?_
      refine FW_region ?_
      refine FL_assign (h := ?_)
      refine FL_nil (Qseq_normal ?_)
      refine FW_seq ?_
      refine FW_seq ?_
      refine FW_region ?_
      refine FL_assign (h := ?_)
      refine FL_nil (Qseq_normal ?_)
      refine FW_block ?_
      refine FW_loop' (fun x : Nat × Value => [(0, .pointer (some ⟨s, 0, none⟩)), (4, x.2), (5, I ((128 * x.1 : Nat) : Int))])
        (fun x w' => x.1 ≤ (mn + 127) / 128 ∧ (0 < x.1 → d.dead = false) ∧ Sep w F [rowH 5 1 x.2 (min (128 * x.1) mn) (((secsFrom d at_ x.1).take mn).map B), slotR s q m, refA q a] w') (fun x _ => (mn + 127) / 128 - x.1) (0, .slice none 0 0)
        ⟨rfl, rfl, rfl, trivial⟩ ⟨Nat.zero_le _, fun h => absurd h (by decide), by
          have h1 := H.nilRow 5 1
          simpa [secsFrom] using h1⟩ (fun x τ w27 hI => ?_)
      obtain ⟨k, vo⟩ := x
      obtain ⟨hk, hkd, H27⟩ := hI
      dsimp only at hk hkd H27
      obtain ⟨Ao, co, hvo, hco, _⟩ := Sep.rowForm H27 At0
      subst hvo
      try simp only [upds, like, upd_ds, und_ds]
      refine FW_seq ?_
      refine FW_seq ?_
      refine FW_region ?_
      refine FL_move (h := ?_)
      refine FL_move (h := ?_)
      refine FL_val (Gives.nilCheck rfl) rfl ?_
      first | refine FL_val (Gives.field0 rfl) rfl ?_ | refine FL_val (Gives.field rfl) rfl ?_ | refine FL_val (Gives.fieldA rfl) rfl ?_
      refine FL_loadB (b := s) (cs := slotRCells q m) (H27.obj At1) (hv := rfl) (h := ?_)
      rw [hmn]
      refine FL_val (Gives.lss rfl rfl) rfl ?_
      refine FL_nil (Qseq_normal ?_)
      first | refine FW_condP rfl (fun hc34 => ?_) (fun hc34 => ?_) | refine FW_cond rfl (fun hc34 => ?_) (fun hc34 => ?_)
      · skip
        have hlt : 128 * k < mn := by omega
        have hin : 0 ≤ at_ + k ∧ at_ + k < d.size := by omega
        have hmin : min (128 * k) mn = 128 * k := by omega
        refine FW_skip (Qseq_normal ?_)
        refine FW_seq ?_
        refine FW_block ?_
        refine FW_seq ?_
        refine FW_drawS rfl H27 (h := fun hok36 w38 H38 => ?_)
        refine FGmove hok36 0 (h := ?_)
        refine FGp hok36 1 rfl rfl (fun _ => (Gives.nilCheck rfl)) (by kernel_rfl) ?_
        first | refine FGp hok36 2 rfl rfl (fun _ => (Gives.field0 rfl)) (by kernel_rfl) ?_ | refine FGp hok36 2 rfl rfl (fun _ => (Gives.field rfl)) (by kernel_rfl) ?_ | refine FGp hok36 2 rfl rfl (fun _ => (Gives.fieldA rfl)) (by kernel_rfl) ?_
        refine FGload hok36 3 (b := s) (cs := slotRCells q m) H38 (hat := At1) (h := ?_)
        refine FGmove hok36 4 (h := ?_)
        refine FGmove hok36 5 (h := ?_)
        refine FGp hok36 6 rfl rfl (fun _ => (Gives.nilCheck rfl)) (by kernel_rfl) ?_
        first | refine FGp hok36 7 rfl rfl (fun _ => (Gives.field0 rfl)) (by kernel_rfl) ?_ | refine FGp hok36 7 rfl rfl (fun _ => (Gives.field rfl)) (by kernel_rfl) ?_ | refine FGp hok36 7 rfl rfl (fun _ => (Gives.fieldA rfl)) (by kernel_rfl) ?_
        refine FGload hok36 8 (b := s) (cs := slotRCells q m) H38 (hat := At1) (h := ?_)
        refine FGmove hok36 10 (h := ?_)
        refine FGp hok36 11 rfl rfl (fun _ => (Gives.quo rfl rfl (by decide))) (by kernel_rfl) ?_
        rw [show IntKind.i64.wrap (((128 * k : Nat) : Int).tdiv 128) = (k : Int) by
          rw [Int.tdiv_eq_ediv_of_nonneg (by omega), IntWalk.i64_in _ (by omega)]
          omega]
        refine FGcallS hok36 9 [(11, true), (10, true), (3, false), (2, true), (1, true), (0, true)] H38 (v := I at_) (by rw [hat]; exact areaR_at (n := m.n) hm.n0 hB.sim H38 At1 At2) (h := fun w47 H47 => ⟨Stab_pure (Stab_pure ((Stab_load (b := s) (cs := slotRCells q m) H47 (hat := by first | exact At1 | exact At2) (h := (Stab_pure (Stab_pure (Stab_pure (Stab_nil)))))))), ?_⟩)
        refine FGp hok36 12 rfl rfl (fun _ => (Gives.addI rfl rfl rfl (by omega))) (by kernel_rfl) ?_
        refine FGcallN hok36 13 [] H47 (readR_at hsm H47 At2 (at_ + k)) (h := fun y w50 _ H50 _ => ⟨Stab_nil, ?_⟩)
        rw [← hB.sim.read] at H50 ⊢
        obtain ⟨Ay, cy, hy, hcy, _⟩ := Sep.rowForm H50 At0
        subst hy
        refine FGmove hok36 14 (h := ?_)
        refine FGp hok36 15 rfl rfl (fun _ => (Gives.extract rfl rfl)) (by kernel_rfl) ?_
        refine FGp hok36 16 rfl rfl (fun _ => (Gives.extract rfl rfl)) (by kernel_rfl) ?_
        refine FGp hok36 17 rfl rfl (fun _ => Gives.assign rfl) (by kernel_rfl) ?_
        refine FGp hok36 18 rfl rfl (fun _ => Gives.assign rfl) (by kernel_rfl) ?_
        refine FG_end hok36 (by kernel_rfl) ?_
        refine Qseq_normal ?_
        refine FW_seq ?_
        refine FW_seq ?_
        refine FW_region ?_
        refine FL_move (h := ?_)
        refine FL_val (Gives.neq rfl rfl) rfl ?_
        refine FL_nil (Qseq_normal ?_)
        first | refine FW_condP rfl (fun hc57 => ?_) (fun hc57 => ?_) | refine FW_cond rfl (fun hc57 => ?_) (fun hc57 => ?_)
        · skip
          have hdd : d.dead = true := by
            cases hq : d.dead
            · rw [read_in hq hin.1 hin.2] at hc57
              exact absurd rfl hc57
            · rfl
          have hld : load m d = ([], 290, { m with bad := true }) := by unfold load; rw [if_neg hbad, if_neg hz, if_pos ⟨by omega, hdd⟩]
          refine FW_seq ?_
          refine FW_region ?_
          refine FL_move (h := ?_)
          refine FL_val (Gives.nilCheck rfl) rfl ?_
          first | refine FL_val (Gives.field0 rfl) rfl ?_ | refine FL_val (Gives.field rfl) rfl ?_ | refine FL_val (Gives.fieldA rfl) rfl ?_
          refine FL_store H50 (b := s) (cs := slotRCells q m) (cs' := slotRCells q { m with bad := true }) (hat := At2) (hs := rfl) (h := ?_)
          intro w63 H63
          refine FL_nil (Qseq_normal ?_)
          refine FW_seq ?_
          refine FW_region ?_
          refine FL_move (h := ?_)
          refine FL_assign (h := ?_)
          refine FL_assign (h := ?_)
          refine FL_nil (Qseq_normal ?_)
          refine FW_ret (Qseq_ret (Qblk_ret (Qseq_ret (Qround_ret (Qblk_ret (Qseq_ret (Qfn_ret (hR := ?_))))))))
          rw [read_dead hdd]
          exact ⟨_, by rw [hld]; rfl, trivial, by rw [hld]; exact ((H63.drop0.drop0.join0).nilRow 5 1).join0.turn⟩
        · skip
          have hdd : d.dead = false := by
            cases hq : d.dead
            · rfl
            · rw [read_dead hq] at hc57
              exact absurd (show ((290 : Int) ≠ 0) by decide) hc57
          rw [read_in hdd hin.1 hin.2] at H50 hcy
          have hsl := DM.sec_length hwf (at_ + k)
          have hrl : ((some (d.sec (at_ + (k : Int))), (0 : Int)).1.getD []).length = 128 := hsl
          rw [read_in hdd hin.1 hin.2]
          rw [hrl] at H50 hcy ⊢
          rw [hmin] at H50 hco ⊢
          obtain ⟨l1, hl1⟩ : ∃ l1, l1 = min 128 (mn - 128 * k) := ⟨_, rfl⟩
          have htk : (secsFrom d at_ k).take mn = secsFrom d at_ k := List.take_of_length_le (by rw [secsFrom_length hwf]; omega)
          refine FW_skip (Qseq_normal ?_)
          refine FW_region ?_
          refine FL_move (h := ?_)
          refine FL_move (h := ?_)
          refine FL_move (h := ?_)
          refine FL_val (Gives.nilCheck rfl) rfl ?_
          first | refine FL_val (Gives.field0 rfl) rfl ?_ | refine FL_val (Gives.field rfl) rfl ?_ | refine FL_val (Gives.fieldA rfl) rfl ?_
          refine FL_loadB (b := s) (cs := slotRCells q m) (H50.obj At2) (hv := rfl) (h := ?_)
          rw [hmn]
          refine FL_move (h := ?_)
          refine FL_val (Gives.subI rfl rfl (show (mn : Int) - ((128 * k : Nat) : Int) = ((mn - 128 * k : Nat) : Int) by omega) (by omega)) rfl ?_
          refine FL_val (gives_minN (a := 128) (k := mn - 128 * k) (m := l1) hl1.symm rfl rfl rfl) rfl ?_
          refine FL_val (Gives.sliceTo rfl rfl (by omega)) rfl ?_
          have hrt : RowAt w50 Ay l1 1 (((d.sec (at_ + (k : Int))).take l1).map B) := by
            have h1 := (H50.rowAt At0).take (k := l1) (by omega)
            rw [Nat.mul_one, ← List.map_take] at h1
            exact h1
          refine FL_append (t := 27) (e := 5) H50 (v := .slice Ao (128 * k) co) (k := 128 * k) (xs := ((secsFrom d at_ k).take mn).map B) (by exact rfl) (by exact rfl) At1 hrt (ones_B _) (h63 := by unfold maxLen; omega) (hbytes := by omega) (h := fun vv w80 H80 => ?_)
          refine FL_assign (h := ?_)
          refine FL_nil (Qblk_normal (Qseq_normal ?_))
          refine FW_region ?_
          refine FL_move (h := ?_)
          first | refine FL_val (Gives.addI rfl rfl rfl (by omega)) rfl ?_ | refine FL_val (Gives.add rfl rfl) rfl ?_
          refine FL_assign (h := ?_)
          refine FL_nil ?_
          have e : ((secsFrom d at_ k).take mn).map B ++ ((d.sec (at_ + (k : Int))).take l1).map B = ((secsFrom d at_ (k + 1)).take mn).map B := by
            rw [← List.map_append, htk]
            show _ = ((secsFrom d at_ k ++ d.sec (at_ + (k : Int))).take mn).map B
            rw [List.take_append, htk, secsFrom_length hwf]
            congr 2
            rw [hl1]
            rcases Nat.le_total (mn - 128 * k) 128 with h | h
            · rw [Nat.min_eq_right h]
            · rw [Nat.min_eq_left h, List.take_of_length_le (by omega), List.take_of_length_le (by omega)]
          rw [e, show 128 * k + l1 = min (128 * (k + 1)) mn by omega] at H80
          exact Qround_normal (k + 1, vv) ⟨rfl, rfl, by show I (((128 * k : Nat) : Int) + 128) = I ((128 * (k + 1) : Nat) : Int); congr 1, trivial⟩ ⟨by dsimp only; omega, fun _ => hdd, H80.drop0⟩ (by dsimp only; omega)
      · skip
        have hge : mn ≤ 128 * k := by omega
        refine FW_exit (Qseq_exit (Qround_exit (Qblk_exit (Qseq_normal ?_))))
        refine FW_seq ?_
        refine FW_region ?_
        refine FL_move (h := ?_)
        refine FL_assign (h := ?_)
        refine FL_assign (h := ?_)
        refine FL_nil (Qseq_normal ?_)
        refine FW_ret (Qfn_ret (hR := ?_))
        have hkk : k = (mn + 127) / 128 := by omega
        have hld : load m d = ((secsFrom d at_ ((mn + 127) / 128)).take mn, 0, m) := by
          unfold load
          rw [if_neg hbad, if_neg hz, if_neg (by
            rintro ⟨h1, h2⟩
            rw [hkd (by omega)] at h2
            cases h2), ← hat, hmn, Int.toNat_natCast]
        have hl2 : ((secsFrom d at_ ((mn + 127) / 128)).take mn).length = mn := by rw [List.length_take, secsFrom_length hwf]; omega
        have emn : min (128 * k) mn = mn := by omega
        rw [emn, hkk] at H27
        refine ⟨.slice Ao mn co, by rw [hld]; show Value.tuple #[.slice Ao (min (128 * k) mn) co, I 0] = _; rw [emn], trivial, ?_⟩
        rw [hld]
        dsimp only
        rw [hl2]
        exact ((H27.front2.front2.join0).front1.join0).turn
end
end Go.Proofs.Yteflbohpabdjkaa
/-
  The reference's Open, walked.
-/
namespace Go.Proofs.Yteflbohpabdjkaa
open Go Go.Mw
set_option maxRecDepth 8000

section
variable {q s : Nat} {d : DM} {a : AM} {m : SM} {F : Nat → Prop} {w w₀ : World} {S : Nat → Prop} {rs : List HP} {put put' : HP → List HP}
theorem room_bd (hwf : d.wf) : 0 ≤ room d ∧ room d ≤ 4194304 := by
  have := half_bd hwf
  unfold room
  omega
theorem zeros_of {l : List UInt8} {n : Nat} (hl : l.length = n) (h : ∀ j (hj : j < l.length), l[j].toNat = 0) : l = List.replicate n 0 := by
  apply List.ext_getElem
  · rw [hl, List.length_replicate]
  · intro j h1 h2
    rw [List.getElem_replicate]
    exact UInt8.toNat_inj.1 (h j h1)
theorem take_succ_drop {b : List UInt8} {k j : Nat} (h : k + j < b.length) : (b.drop k).take (j + 1) = (b.drop k).take j ++ [b[k + j]] := by
  rw [List.take_succ_eq_append_getElem (by rw [List.length_drop]; omega), List.getElem_drop]
set_option maxHeartbeats 8000000 in
theorem openR_ok {i : Nat} (hB : Both i d a) (hi : i ≤ 900) (h : (refA q a).ok F w) :
    Rets Try.prog 55 [.pointer (some ⟨q, 0, none⟩)] w fun v w' => ∃ x : Option Nat, v = .tuple #[.pointer (x.map fun s => ⟨s, 0, none⟩), I (openS d).1] ∧ (x.isSome = decide ((openS d).1 = 0)) ∧ Turn noB (openRH x q (openS d).2) w w' := by
  have H := Sep.start0 w
  have hwf := hB.sim.wf
  have hh := half_bd hwf
  have hsm := hB.as_.mono (show 40 + i ≤ 100000 by omega)
  have hsz := hB.sim.size
  obtain ⟨vk, vo, ve, rm, hb0, hm0⟩ := refA_many h
  have hrl := room_bd hwf
  refine rets1 Try.func55 rfl rfl rfl rfl ?_
  refine FW_seq ?_
  refine FW_region ?_
  refine FL_assign (h := ?_)
  refine FL_assign (h := ?_)
  refine FL_nil (Qseq_normal ?_)
  refine FW_seq ?_
  refine FW_seq ?_
  refine FW_region ?_
  refine FL_move (h := ?_)
  refine FL_val (Gives.eqlNil rfl rfl) rfl ?_
  refine FL_nil (Qseq_normal ?_)
  first | refine FW_condP rfl (fun hc5 => ?_) (fun hc5 => ?_) | refine FW_cond rfl (fun hc5 => ?_) (fun hc5 => ?_)
  · skip
    first | exact absurd rfl hc5 | exact (hc5 trivial).elim | exact absurd hc5 (by decide) | exact absurd hc5 (by simp) | omega --done
  · skip
    refine FW_skip (Qseq_normal ?_)
    refine FW_seq ?_
    refine FW_seq ?_
    refine FW_region ?_
    refine FL_move (h := ?_)
    refine FL_val (Gives.nilCheck rfl) rfl ?_
    first | refine FL_val (Gives.field0 rfl) rfl ?_ | refine FL_val (Gives.field rfl) rfl ?_ | refine FL_val (Gives.fieldA rfl) rfl ?_
    refine FL_loadB hb0 (hv := rfl) (h := ?_)
    rw [hm0, ← hsz]
    refine FL_val (Gives.lss rfl rfl) rfl ?_
    refine FL_nil (Qseq_normal ?_)
    first | refine FW_condP rfl (fun hc12 => ?_) (fun hc12 => ?_) | refine FW_cond rfl (fun hc12 => ?_) (fun hc12 => ?_)
    · skip
      have ho : openS d = (5, ⟨0, 0, false⟩) := by unfold openS; rw [if_pos hc12]
      refine FW_seq ?_
      refine FW_region ?_
      refine FL_assign (h := ?_)
      refine FL_assign (h := ?_)
      refine FL_nil (Qseq_normal ?_)
      refine FW_ret (Qseq_ret (Qfn_ret (hR := ?_)))
      exact ⟨none, by rw [ho]; rfl, by rw [ho]; rfl, (Turn.refl (emp_ok (fun _ => id)))⟩
    · skip
      have h3 : ¬ d.size < 3 := hc12
      refine FW_skip (Qseq_normal ?_)
      refine FW_seq ?_
      refine FW_region ?_
      refine FL_move (h := ?_)
      refine FL_callN H (readR_ok hsm (HP.stay h H.kept) (at_ := 0)) rfl rfl (fun y w20 _ H20 _ => ?_)
      rw [← hB.sim.read] at H20 ⊢
      obtain ⟨Ay, cy, hy, hcy, _⟩ := Sep.rowForm H20 At0
      subst hy
      refine FL_move (h := ?_)
      refine FL_val (Gives.extract rfl rfl) rfl ?_
      refine FL_val (Gives.extract rfl rfl) rfl ?_
      refine FL_assign (h := ?_)
      refine FL_assign (h := ?_)
      refine FL_nil (Qseq_normal ?_)
      refine FW_seq ?_
      refine FW_seq ?_
      refine FW_region ?_
      refine FL_move (h := ?_)
      refine FL_val (Gives.neq rfl rfl) rfl ?_
      refine FL_nil (Qseq_normal ?_)
      first | refine FW_condP rfl (fun hc28 => ?_) (fun hc28 => ?_) | refine FW_cond rfl (fun hc28 => ?_) (fun hc28 => ?_)
      · skip
        have hdd : d.dead = true := by
          cases hq : d.dead
          · rw [read_in hq (by decide) (by omega)] at hc28
            exact absurd rfl hc28
          · rfl
        have ho : openS d = (290, ⟨0, 0, false⟩) := by unfold openS; rw [if_neg h3, if_pos hdd]
        refine FW_seq ?_
        refine FW_region ?_
        refine FL_move (h := ?_)
        refine FL_assign (h := ?_)
        refine FL_assign (h := ?_)
        refine FL_nil (Qseq_normal ?_)
        refine FW_ret (Qseq_ret (Qfn_ret (hR := ?_)))
        rw [read_dead hdd]
        exact ⟨none, by rw [ho]; rfl, by rw [ho]; rfl, (H20.drop0.kept.mono fun _ h => h), fun _ => False, emp_ok (fun _ => id), fun _ h => h.elim⟩
      · skip
        have hdd : d.dead = false := by
          cases hq : d.dead
          · rfl
          · rw [read_dead hq] at hc28
            exact absurd (show ((290 : Int) ≠ 0) by decide) hc28
        obtain ⟨b, hb⟩ : ∃ b, b = d.sec 0 := ⟨_, rfl⟩
        have hbl : b.length = 128 := by rw [hb]; exact DM.sec_length hwf 0
        rw [read_in hdd (by decide) (by omega)] at H20 hcy ⊢
        have hr0 : ((some (d.sec 0), (0 : Int)).1.getD []) = b := hb.symm
        rw [hr0, hbl] at H20
        rw [hr0, hbl] at hcy ⊢
        have ho : openS d = match rootOf d b with | some (n, m) => (0, ⟨n, m, false⟩) | none => (4, ⟨0, 0, false⟩) := by unfold openS; rw [if_neg h3, if_neg (by rw [hdd]; simp), ← hb] <;> rfl
        obtain ⟨ady, hady, _⟩ := (Sep.rowAt H20 At0).at_ (by decide)
        subst hady
        obtain ⟨n7, h7⟩ : ∃ n7, tk ((b.drop 1).take 7) = n7 := ⟨_, rfl⟩
        obtain ⟨n4, h4⟩ : ∃ n4, tk ((b.drop 8).take 4) = n4 := ⟨_, rfl⟩
        have hro := rootOf_eq (d := d) hbl h7 h4
        have hcell : ∀ i, (hi : i < 128) → ∀ j u, [B (b[i]'(by omega))][j]? = some u → (b.map B)[i * 1 + j]? = some u := by
          intro i hi j u hj
          cases j with
          | zero => simpa [show i < b.length by omega] using hj
          | succ j => simp at hj
        refine FW_skip (Qseq_normal ?_)
        refine FW_seq ?_
        refine FW_region ?_
        refine FL_assign (h := ?_)
        refine FL_assign (h := ?_)
        refine FL_nil (Qseq_normal ?_)
        refine FW_seq ?_
        refine FW_seq ?_
        refine FW_region ?_
        refine FL_assign (h := ?_)
        refine FL_nil (Qseq_normal ?_)
        refine FW_block ?_
        refine FW_loop' (fun j : Nat => [(0, .pointer (some ⟨q, 0, none⟩)), (4, .slice (some ady) 128 cy), (6, I ((tk ((b.drop 1).take j) : Nat) : Int)), (7, I 0), (8, I ((1 + j : Nat) : Int))])
          (fun j w' => j ≤ 7 ∧ Sep w noB [rowH 5 1 (.slice (some ady) 128 cy) 128 (b.map B)] w') (fun j _ => 7 - j) 0 ⟨rfl, rfl, rfl, rfl, rfl, trivial⟩ ⟨by decide, H20⟩ (fun j τ w39 hI => ?_)
        obtain ⟨hj, H39⟩ := hI
        try simp only [upds, like, upd_ds, und_ds]
        refine FW_seq ?_
        refine FW_seq ?_
        refine FW_region ?_
        refine FL_move (h := ?_)
        refine FL_val (Gives.lss rfl rfl) rfl ?_
        refine FL_nil (Qseq_normal ?_)
        first | refine FW_condP rfl (fun hc42 => ?_) (fun hc42 => ?_) | refine FW_cond rfl (fun hc42 => ?_) (fun hc42 => ?_)
        · skip
          have hj7 : j < 7 := by omega
          have htl := tk_lt j ((b.drop 1).take j) (by rw [List.length_take, List.length_drop, hbl]; omega)
          have hp := Nat.pow_le_pow_right (n := 256) (by decide) (show j ≤ 6 by omega)
          have hp6 : 256 ^ 6 = 281474976710656 := by decide
          have hbj := (b[1 + j]'(by omega)).toNat_lt
          refine FW_skip (Qseq_normal ?_)
          refine FW_seq ?_
          refine FW_block ?_
          refine FW_region ?_
          refine FL_move (h := ?_)
          refine FL_val (Gives.mulI rfl rfl rfl (by omega)) rfl ?_
          refine FL_move (h := ?_)
          refine FL_move (h := ?_)
          refine FL_val (Gives.idx rfl rfl (show 1 + j < 128 by omega)) rfl ?_
          refine FL_val (Gives.loadC rfl ((H39.rowAt At0).elemC rfl (1 + j) (by omega) (us := [B (b[1 + j]'(by omega))]) (hcell (1 + j) (by omega)) 0 _ rfl)) rfl ?_
          refine FL_val (Gives.conv rfl) rfl ?_
          rw [show IntKind.i64.wrap (((b[1 + j]'(by omega)).toNat : Int)) = ((b[1 + j]'(by omega)).toNat : Int) from IntWalk.i64_in _ (by omega)]
          refine FL_val (Gives.addI rfl rfl (show (256 : Int) * ((tk ((b.drop 1).take j) : Nat) : Int) + ((b[1 + j]'(by omega)).toNat : Int) = ((tk ((b.drop 1).take (j + 1)) : Nat) : Int) by rw [take_succ_drop (by omega), tk_snoc]; omega) (by rw [take_succ_drop (by omega), tk_snoc]; omega)) rfl ?_
          refine FL_assign (h := ?_)
          refine FL_nil (Qblk_normal (Qseq_normal ?_))
          refine FW_region ?_
          refine FL_move (h := ?_)
          first | refine FL_val (Gives.addI rfl rfl rfl (by omega)) rfl ?_ | refine FL_val (Gives.add rfl rfl) rfl ?_
          refine FL_assign (h := ?_)
          refine FL_nil ?_
          exact Qround_normal (j + 1) ⟨rfl, rfl, rfl, rfl, by show I (((1 + j : Nat) : Int) + 1) = I ((1 + (j + 1) : Nat) : Int); congr 1, trivial⟩ ⟨by omega, H39⟩ (by omega)
        · skip
          have hj7 : j = 7 := by omega
          subst hj7
          rw [h7]
          refine FW_exit (Qseq_exit (Qround_exit (Qblk_exit (Qseq_normal ?_))))
          refine FW_seq ?_
          refine FW_seq ?_
          refine FW_region ?_
          refine FL_assign (h := ?_)
          refine FL_nil (Qseq_normal ?_)
          refine FW_block ?_
          refine FW_loop' (fun j : Nat => [(0, .pointer (some ⟨q, 0, none⟩)), (4, .slice (some ady) 128 cy), (6, I (n7 : Int)), (7, I ((tk ((b.drop 8).take j) : Nat) : Int)), (9, I ((8 + j : Nat) : Int))])
            (fun j w' => j ≤ 4 ∧ Sep w noB [rowH 5 1 (.slice (some ady) 128 cy) 128 (b.map B)] w') (fun j _ => 4 - j) 0 ⟨rfl, rfl, rfl, rfl, rfl, trivial⟩ ⟨by decide, H39⟩ (fun j τ w60 hI => ?_)
          obtain ⟨hj, H60⟩ := hI
          try simp only [upds, like, upd_ds]
          refine FW_seq ?_
          refine FW_seq ?_
          refine FW_region ?_
          refine FL_move (h := ?_)
          refine FL_val (Gives.lss rfl rfl) rfl ?_
          refine FL_nil (Qseq_normal ?_)
          first | refine FW_condP rfl (fun hc63 => ?_) (fun hc63 => ?_) | refine FW_cond rfl (fun hc63 => ?_) (fun hc63 => ?_)
          · skip
            have hj4 : j < 4 := by omega
            have htl := tk_lt j ((b.drop 8).take j) (by rw [List.length_take, List.length_drop, hbl]; omega)
            have hp := Nat.pow_le_pow_right (n := 256) (by decide) (show j ≤ 6 by omega)
            have hp6 : 256 ^ 6 = 281474976710656 := by decide
            have hbj := (b[8 + j]'(by omega)).toNat_lt
            refine FW_skip (Qseq_normal ?_)
            refine FW_seq ?_
            refine FW_block ?_
            refine FW_region ?_
            refine FL_move (h := ?_)
            refine FL_val (Gives.mulI rfl rfl rfl (by omega)) rfl ?_
            refine FL_move (h := ?_)
            refine FL_move (h := ?_)
            refine FL_val (Gives.idx rfl rfl (show 8 + j < 128 by omega)) rfl ?_
            refine FL_val (Gives.loadC rfl ((H60.rowAt At0).elemC rfl (8 + j) (by omega) (us := [B (b[8 + j]'(by omega))]) (hcell (8 + j) (by omega)) 0 _ rfl)) rfl ?_
            refine FL_val (Gives.conv rfl) rfl ?_
            rw [show IntKind.i64.wrap (((b[8 + j]'(by omega)).toNat : Int)) = ((b[8 + j]'(by omega)).toNat : Int) from IntWalk.i64_in _ (by omega)]
            refine FL_val (Gives.addI rfl rfl (show (256 : Int) * ((tk ((b.drop 8).take j) : Nat) : Int) + ((b[8 + j]'(by omega)).toNat : Int) = ((tk ((b.drop 8).take (j + 1)) : Nat) : Int) by rw [take_succ_drop (by omega), tk_snoc]; omega) (by rw [take_succ_drop (by omega), tk_snoc]; omega)) rfl ?_
            refine FL_assign (h := ?_)
            refine FL_nil (Qblk_normal (Qseq_normal ?_))
            refine FW_region ?_
            refine FL_move (h := ?_)
            first | refine FL_val (Gives.addI rfl rfl rfl (by omega)) rfl ?_ | refine FL_val (Gives.add rfl rfl) rfl ?_
            refine FL_assign (h := ?_)
            refine FL_nil ?_
            exact Qround_normal (j + 1) ⟨rfl, rfl, rfl, rfl, by show I (((8 + j : Nat) : Int) + 1) = I ((8 + (j + 1) : Nat) : Int); congr 1, trivial⟩ ⟨by omega, H60⟩ (by omega)
          · skip
            have hj4 : j = 4 := by omega
            subst hj4
            rw [h4]
            refine FW_exit (Qseq_exit (Qround_exit (Qblk_exit (Qseq_normal ?_))))
            refine FW_seq ?_
            refine FW_seq ?_
            refine FW_region ?_
            refine FL_move (h := ?_)
            refine FL_val (Gives.idx (i := 0) rfl rfl (by decide)) rfl ?_
            refine FL_val (Gives.loadC rfl ((H60.rowAt At0).elemC rfl 0 (by decide) (us := [B (b[0]'(by omega))]) (hcell 0 (by decide)) 0 _ rfl)) rfl ?_
            refine FL_val (Gives.neq rfl rfl) rfl ?_
            refine FL_move (h := ?_)
            first | refine FL_splitP (t := 54) rfl (fun hs84 => ?_) (fun hs84 => ?_) | refine FL_split (t := 54) rfl (fun hs84 => ?_) (fun hs84 => ?_)
            · skip
              have hno : rootOf d b = none := by rw [hro, if_neg (fun h => by have := h.1; omega)]
              refine FL_off rfl rfl rfl ?_
              refine FL_off rfl rfl rfl ?_
              refine FL_pickT (h := ?_)
              refine FL_move (h := ?_)
              refine FL_off rfl rfl rfl ?_
              refine FL_off rfl rfl rfl ?_
              refine FL_off rfl rfl rfl ?_
              refine FL_off rfl rfl rfl ?_
              refine FL_pickT (h := ?_)
              refine FL_move (h := ?_)
              refine FL_off rfl rfl rfl ?_
              refine FL_off rfl rfl rfl ?_
              refine FL_off rfl rfl rfl ?_
              refine FL_offU rfl rfl rfl ?_
              refine FL_offU rfl rfl rfl ?_
              refine FL_off rfl rfl rfl ?_
              refine FL_pickT (h := ?_)
              refine FL_nil (Qseq_normal ?_)
              refine FW_cond_true rfl ?_
              refine FW_seq ?_
              refine FW_region ?_
              refine FL_assign (h := ?_)
              refine FL_assign (h := ?_)
              refine FL_nil (Qseq_normal ?_)
              refine FW_ret (Qseq_ret (Qfn_ret (hR := ?_)))
              rw [hno] at ho
              exact ⟨none, by rw [ho]; rfl, by rw [ho]; rfl, (H60.kept.mono fun _ h => h), fun _ => False, emp_ok (fun _ => id), fun _ h => h.elim⟩
            · skip
              have hz0 := hs84
              refine FL_on rfl rfl ?_
              refine FL_move (h := ?_)
              refine FL_on rfl rfl ?_
              refine FL_val (Gives.gtr rfl rfl) rfl ?_
              refine FL_pickF (h := ?_)
              refine FL_move (h := ?_)
              first | refine FL_splitP (t := 58) rfl (fun hs99 => ?_) (fun hs99 => ?_) | refine FL_split (t := 58) rfl (fun hs99 => ?_) (fun hs99 => ?_)
              · skip
                have hno : rootOf d b = none := by rw [hro, if_neg (fun h => by have := h.2.1; unfold mostNum at this; omega)]
                refine FL_off rfl rfl rfl ?_
                refine FL_off rfl rfl rfl ?_
                refine FL_off rfl rfl rfl ?_
                refine FL_off rfl rfl rfl ?_
                refine FL_pickT (h := ?_)
                refine FL_move (h := ?_)
                refine FL_off rfl rfl rfl ?_
                refine FL_off rfl rfl rfl ?_
                refine FL_off rfl rfl rfl ?_
                refine FL_offU rfl rfl rfl ?_
                refine FL_offU rfl rfl rfl ?_
                refine FL_off rfl rfl rfl ?_
                refine FL_pickT (h := ?_)
                refine FL_nil (Qseq_normal ?_)
                refine FW_cond_true rfl ?_
                refine FW_seq ?_
                refine FW_region ?_
                refine FL_assign (h := ?_)
                refine FL_assign (h := ?_)
                refine FL_nil (Qseq_normal ?_)
                refine FW_ret (Qseq_ret (Qfn_ret (hR := ?_)))
                rw [hno] at ho
                exact ⟨none, by rw [ho]; rfl, by rw [ho]; rfl, (H60.kept.mono fun _ h => h), fun _ => False, emp_ok (fun _ => id), fun _ h => h.elim⟩
              · skip
                have hz1 := hs99
                refine FL_on rfl rfl ?_
                refine FL_move (h := ?_)
                refine FL_on rfl rfl ?_
                refine FL_move (h := ?_)
                refine FL_on rfl rfl ?_
                obtain ⟨F5, hp5, _⟩ : ∃ F5, (refA q a).ok F5 w60 ∧ True := ⟨_, HP.stay h H60.kept, trivial⟩
                refine FL_callS (roomR_at hB.sim (Sep.start1 hp5) At0) (h := ?_)
                refine FL_on rfl rfl ?_
                refine FL_val (Gives.gtr rfl rfl) rfl ?_
                refine FL_pickF (h := ?_)
                refine FL_move (h := ?_)
                first | refine FL_splitP (t := 64) rfl (fun hs114 => ?_) (fun hs114 => ?_) | refine FL_split (t := 64) rfl (fun hs114 => ?_) (fun hs114 => ?_)
                · skip
                  have hno : rootOf d b = none := by rw [hro, if_neg (fun h => by have := h.2.2.1; omega)]
                  refine FL_off rfl rfl rfl ?_
                  refine FL_off rfl rfl rfl ?_
                  refine FL_off rfl rfl rfl ?_
                  refine FL_offU rfl rfl rfl ?_
                  refine FL_offU rfl rfl rfl ?_
                  refine FL_off rfl rfl rfl ?_
                  refine FL_pickT (h := ?_)
                  refine FL_nil (Qseq_normal ?_)
                  refine FW_cond_true rfl ?_
                  refine FW_seq ?_
                  refine FW_region ?_
                  refine FL_assign (h := ?_)
                  refine FL_assign (h := ?_)
                  refine FL_nil (Qseq_normal ?_)
                  refine FW_ret (Qseq_ret (Qfn_ret (hR := ?_)))
                  rw [hno] at ho
                  exact ⟨none, by rw [ho]; rfl, by rw [ho]; rfl, (H60.kept.mono fun _ h => h), fun _ => False, emp_ok (fun _ => id), fun _ h => h.elim⟩
                · skip
                  have hz2 := hs114
                  refine FL_on rfl rfl ?_
                  refine FL_move (h := ?_)
                  refine FL_on rfl rfl ?_
                  refine FL_val (Gives.eql rfl rfl) rfl ?_
                  refine FL_on rfl rfl ?_
                  refine FL_move (h := ?_)
                  first | refine FL_splitP (t := 67) rfl (fun hs124 => ?_) (fun hs124 => ?_) | refine FL_split (t := 67) rfl (fun hs124 => ?_) (fun hs124 => ?_)
                  · skip
                    have hz3 := hs124
                    refine FL_on rfl rfl ?_
                    refine FL_move (h := ?_)
                    refine FL_on rfl rfl ?_
                    refine FL_val (Gives.gtr rfl rfl) rfl ?_
                    refine FL_on rfl rfl ?_
                    refine FL_pickT (h := ?_)
                    refine FL_pickF (h := ?_)
                    refine FL_nil (Qseq_normal ?_)
                    first | refine FW_condP rfl (fun hc130 => ?_) (fun hc130 => ?_) | refine FW_cond rfl (fun hc130 => ?_) (fun hc130 => ?_)
                    · skip
                      have hno : rootOf d b = none := by rw [hro, if_neg (fun h => h.2.2.2.1 (by omega))]
                      refine FW_seq ?_
                      refine FW_region ?_
                      refine FL_assign (h := ?_)
                      refine FL_assign (h := ?_)
                      refine FL_nil (Qseq_normal ?_)
                      refine FW_ret (Qseq_ret (Qfn_ret (hR := ?_)))
                      rw [hno] at ho
                      exact ⟨none, by rw [ho]; rfl, by rw [ho]; rfl, (H60.kept.mono fun _ h => h), fun _ => False, emp_ok (fun _ => id), fun _ h => h.elim⟩
                    · skip
                      have hz4 := hc130
                      refine FW_skip (Qseq_normal ?_)
                      refine FW_seq ?_
                      refine FW_seq ?_
                      refine FW_region ?_
                      refine FL_assign (h := ?_)
                      refine FL_nil (Qseq_normal ?_)
                      refine FW_block ?_
                      refine FW_loop' (fun j : Nat => [(0, .pointer (some ⟨q, 0, none⟩)), (4, .slice (some ady) 128 cy), (6, I (n7 : Int)), (7, I (n4 : Int)), (10, I ((12 + j : Nat) : Int))])
                        (fun j w' => j ≤ 116 ∧ (∀ k, k < j → (hk : 12 + k < 128) → (b[12 + k]'(by omega)).toNat = 0) ∧ Sep w noB [rowH 5 1 (.slice (some ady) 128 cy) 128 (b.map B)] w') (fun j _ => 116 - j) 0 ⟨rfl, rfl, rfl, rfl, rfl, trivial⟩ ⟨by decide, fun k hk => absurd hk (Nat.not_lt_zero _), H60⟩ (fun j τ w138 hI => ?_)
                      obtain ⟨hj, hzs, H138⟩ := hI
                      try simp only [upds, like, upd_ds]
                      refine FW_seq ?_
                      refine FW_seq ?_
                      refine FW_region ?_
                      refine FL_move (h := ?_)
                      refine FL_val (Gives.lss rfl rfl) rfl ?_
                      refine FL_nil (Qseq_normal ?_)
                      first | refine FW_condP rfl (fun hc141 => ?_) (fun hc141 => ?_) | refine FW_cond rfl (fun hc141 => ?_) (fun hc141 => ?_)
                      · skip
                        have hjl : j < 116 := by omega
                        refine FW_skip (Qseq_normal ?_)
                        refine FW_seq ?_
                        refine FW_block ?_
                        refine FW_seq ?_
                        refine FW_region ?_
                        refine FL_move (h := ?_)
                        refine FL_move (h := ?_)
                        refine FL_val (Gives.idx rfl rfl (show 12 + j < 128 by omega)) rfl ?_
                        refine FL_val (Gives.loadC rfl ((H138.rowAt At0).elemC rfl (12 + j) (by omega) (us := [B (b[12 + j]'(by omega))]) (hcell (12 + j) (by omega)) 0 _ rfl)) rfl ?_
                        refine FL_val (Gives.neq rfl rfl) rfl ?_
                        refine FL_nil (Qseq_normal ?_)
                        first | refine FW_condP rfl (fun hc148 => ?_) (fun hc148 => ?_) | refine FW_cond rfl (fun hc148 => ?_) (fun hc148 => ?_)
                        · skip
                          have hne : ¬ (b[12 + j]'(by omega)).toNat = 0 := by have := hc148; omega
                          have hno : rootOf d b = none := by
                            rw [hro, if_neg]
                            rintro ⟨_, _, _, _, h5⟩
                            have h6 : (b.drop 12)[j]'(by rw [List.length_drop, hbl]; omega) = 0 := by
                              simp only [h5, List.getElem_replicate]
                            rw [List.getElem_drop] at h6
                            exact hne (by rw [h6]; rfl)
                          rw [hno] at ho
                          refine FW_seq ?_
                          refine FW_region ?_
                          refine FL_assign (h := ?_)
                          refine FL_assign (h := ?_)
                          refine FL_nil (Qseq_normal ?_)
                          refine FW_ret (Qblk_ret (Qseq_ret (Qround_ret (Qblk_ret (Qseq_ret (Qfn_ret (hR := ?_)))))))
                          exact ⟨none, by rw [ho]; rfl, by rw [ho]; rfl, (H138.kept.mono fun _ h => h), fun _ => False, emp_ok (fun _ => id), fun _ h => h.elim⟩
                        · skip
                          have hez : (b[12 + j]'(by omega)).toNat = 0 := by have := hc148; omega
                          refine FW_skip (Qblk_normal (Qseq_normal ?_))
                          refine FW_region ?_
                          refine FL_move (h := ?_)
                          first | refine FL_val (Gives.addI rfl rfl rfl (by omega)) rfl ?_ | refine FL_val (Gives.add rfl rfl) rfl ?_
                          refine FL_assign (h := ?_)
                          refine FL_nil ?_
                          refine Qround_normal (j + 1) ⟨rfl, rfl, rfl, rfl, by show I (((12 + j : Nat) : Int) + 1) = I ((12 + (j + 1) : Nat) : Int); congr 1, trivial⟩ ⟨by omega, fun k hk hk2 => ?_, H138⟩ (by omega)
                          by_cases hkj : k = j
                          · subst hkj; exact hez
                          · exact hzs k (by omega) hk2
                      · skip
                        have hjl : j = 116 := by omega
                        subst hjl
                        have hdz : b.drop 12 = List.replicate 116 0 := zeros_of (by rw [List.length_drop, hbl]) (fun k hk => by
                          rw [List.getElem_drop]
                          rw [List.length_drop, hbl] at hk
                          exact hzs k (by omega) (by omega))
                        have hsome : rootOf d b = some ((n7 : Int), (n4 : Int)) := by
                          rw [hro, if_pos ⟨by omega, by unfold mostNum; omega, by omega, by omega, hdz⟩]
                        rw [hsome] at ho
                        refine FW_exit (Qseq_exit (Qround_exit (Qblk_exit (Qseq_normal ?_))))
                        refine FW_seq ?_
                        refine FW_region ?_
                        refine FL_move (h := ?_)
                        refine FL_move (h := ?_)
                        refine FL_move (h := ?_)
                        refine FL_val (Gives.build (out := slotRCells q ⟨n7, n4, false⟩) (Fills.one rfl rfl rfl (by simp) rfl (Fills.one rfl rfl rfl (by simp) rfl (Fills.one rfl rfl rfl (by simp) rfl Fills.nil)))) rfl ?_
                        refine FL_box H138 (h := ?_)
                        intro bs w164 H0 _
                        have H164 : Sep w noB (slotR bs q ⟨n7, n4, false⟩ :: _) w164 := H0
                        refine FL_assign (h := ?_)
                        refine FL_assign (h := ?_)
                        refine FL_nil (Qseq_normal ?_)
                        refine FW_ret (Qfn_ret (hR := ?_))
                        exact ⟨some bs, by rw [ho]; rfl, by rw [ho]; rfl, by rw [ho]; exact (Sep.first H164).turn⟩
                  · skip
                    have hz3 := hs124
                    refine FL_off rfl rfl rfl ?_
                    refine FL_off rfl rfl rfl ?_
                    refine FL_on rfl rfl ?_
                    refine FL_pickF (h := ?_)
                    refine FL_pickF (h := ?_)
                    refine FL_nil (Qseq_normal ?_)
                    refine FW_cond_false rfl ?_
                    refine FW_skip (Qseq_normal ?_)
                    refine FW_seq ?_
                    refine FW_seq ?_
                    refine FW_region ?_
                    refine FL_assign (h := ?_)
                    refine FL_nil (Qseq_normal ?_)
                    refine FW_block ?_
                    refine FW_loop' (fun j : Nat => [(0, .pointer (some ⟨q, 0, none⟩)), (4, .slice (some ady) 128 cy), (6, I (n7 : Int)), (7, I (n4 : Int)), (10, I ((12 + j : Nat) : Int))])
                      (fun j w' => j ≤ 116 ∧ (∀ k, k < j → (hk : 12 + k < 128) → (b[12 + k]'(by omega)).toNat = 0) ∧ Sep w noB [rowH 5 1 (.slice (some ady) 128 cy) 128 (b.map B)] w') (fun j _ => 116 - j) 0 ⟨rfl, rfl, rfl, rfl, rfl, trivial⟩ ⟨by decide, fun k hk => absurd hk (Nat.not_lt_zero _), H60⟩ (fun j τ w173 hI => ?_)
                    obtain ⟨hj, hzs, H173⟩ := hI
                    try simp only [upds, like, upd_ds]
                    refine FW_seq ?_
                    refine FW_seq ?_
                    refine FW_region ?_
                    refine FL_move (h := ?_)
                    refine FL_val (Gives.lss rfl rfl) rfl ?_
                    refine FL_nil (Qseq_normal ?_)
                    first | refine FW_condP rfl (fun hc176 => ?_) (fun hc176 => ?_) | refine FW_cond rfl (fun hc176 => ?_) (fun hc176 => ?_)
                    · skip
                      have hjl : j < 116 := by omega
                      refine FW_skip (Qseq_normal ?_)
                      refine FW_seq ?_
                      refine FW_block ?_
                      refine FW_seq ?_
                      refine FW_region ?_
                      refine FL_move (h := ?_)
                      refine FL_move (h := ?_)
                      refine FL_val (Gives.idx rfl rfl (show 12 + j < 128 by omega)) rfl ?_
                      refine FL_val (Gives.loadC rfl ((H173.rowAt At0).elemC rfl (12 + j) (by omega) (us := [B (b[12 + j]'(by omega))]) (hcell (12 + j) (by omega)) 0 _ rfl)) rfl ?_
                      refine FL_val (Gives.neq rfl rfl) rfl ?_
                      refine FL_nil (Qseq_normal ?_)
                      first | refine FW_condP rfl (fun hc183 => ?_) (fun hc183 => ?_) | refine FW_cond rfl (fun hc183 => ?_) (fun hc183 => ?_)
                      · skip
                        have hne : ¬ (b[12 + j]'(by omega)).toNat = 0 := by have := hc183; omega
                        have hno : rootOf d b = none := by
                          rw [hro, if_neg]
                          rintro ⟨_, _, _, _, h5⟩
                          have h6 : (b.drop 12)[j]'(by rw [List.length_drop, hbl]; omega) = 0 := by
                            simp only [h5, List.getElem_replicate]
                          rw [List.getElem_drop] at h6
                          exact hne (by rw [h6]; rfl)
                        rw [hno] at ho
                        refine FW_seq ?_
                        refine FW_region ?_
                        refine FL_assign (h := ?_)
                        refine FL_assign (h := ?_)
                        refine FL_nil (Qseq_normal ?_)
                        refine FW_ret (Qblk_ret (Qseq_ret (Qround_ret (Qblk_ret (Qseq_ret (Qfn_ret (hR := ?_)))))))
                        exact ⟨none, by rw [ho]; rfl, by rw [ho]; rfl, (H173.kept.mono fun _ h => h), fun _ => False, emp_ok (fun _ => id), fun _ h => h.elim⟩
                      · skip
                        have hez : (b[12 + j]'(by omega)).toNat = 0 := by have := hc183; omega
                        refine FW_skip (Qblk_normal (Qseq_normal ?_))
                        refine FW_region ?_
                        refine FL_move (h := ?_)
                        first | refine FL_val (Gives.addI rfl rfl rfl (by omega)) rfl ?_ | refine FL_val (Gives.add rfl rfl) rfl ?_
                        refine FL_assign (h := ?_)
                        refine FL_nil ?_
                        refine Qround_normal (j + 1) ⟨rfl, rfl, rfl, rfl, by show I (((12 + j : Nat) : Int) + 1) = I ((12 + (j + 1) : Nat) : Int); congr 1, trivial⟩ ⟨by omega, fun k hk hk2 => ?_, H173⟩ (by omega)
                        by_cases hkj : k = j
                        · subst hkj; exact hez
                        · exact hzs k (by omega) hk2
                    · skip
                      have hjl : j = 116 := by omega
                      subst hjl
                      have hdz : b.drop 12 = List.replicate 116 0 := zeros_of (by rw [List.length_drop, hbl]) (fun k hk => by
                        rw [List.getElem_drop]
                        rw [List.length_drop, hbl] at hk
                        exact hzs k (by omega) (by omega))
                      have hsome : rootOf d b = some ((n7 : Int), (n4 : Int)) := by
                        rw [hro, if_pos ⟨by omega, by unfold mostNum; omega, by omega, by omega, hdz⟩]
                      rw [hsome] at ho
                      refine FW_exit (Qseq_exit (Qround_exit (Qblk_exit (Qseq_normal ?_))))
                      refine FW_seq ?_
                      refine FW_region ?_
                      refine FL_move (h := ?_)
                      refine FL_move (h := ?_)
                      refine FL_move (h := ?_)
                      refine FL_val (Gives.build (out := slotRCells q ⟨n7, n4, false⟩) (Fills.one rfl rfl rfl (by simp) rfl (Fills.one rfl rfl rfl (by simp) rfl (Fills.one rfl rfl rfl (by simp) rfl Fills.nil)))) rfl ?_
                      refine FL_box H173 (h := ?_)
                      intro bs w199 H0 _
                      have H199 : Sep w noB (slotR bs q ⟨n7, n4, false⟩ :: _) w199 := H0
                      refine FL_assign (h := ?_)
                      refine FL_assign (h := ?_)
                      refine FL_nil (Qseq_normal ?_)
                      refine FW_ret (Qfn_ret (hR := ?_))
                      exact ⟨some bs, by rw [ho]; rfl, by rw [ho]; rfl, by rw [ho]; exact (Sep.first H199).turn⟩
end
end Go.Proofs.Yteflbohpabdjkaa
