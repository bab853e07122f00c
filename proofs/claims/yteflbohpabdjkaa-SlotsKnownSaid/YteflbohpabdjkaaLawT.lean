/-
  What the statements' helpers compute, plainly.
-/
import Derived.Test.YteflbohpabdjkaaDiskT
import Derived.Test.YteflbohpabdjkaaMwC
namespace Go.Proofs.Yteflbohpabdjkaa
open Go Go.Mw

structure PutM where
  at_ : Int
  byte : Int
  many : Int
def putCells (l : List PutM) : List Value := l.flatMap fun x => [I x.at_, I x.byte, I x.many]
def PutM.fit (x : PutM) : Prop := fits x.at_ ∧ fits x.byte ∧ fits x.many
def putB (x : PutM) : List UInt8 := List.replicate (x.many % 129).toNat (UInt8.ofNat (x.byte % 256).toNat)
/-- A disk of five sectors that runs and was not asked to fail. -/
def DM.good (d : DM) : Prop := d.wf ∧ d.dead = false ∧ d.size = 5 ∧ d.fail = 0 ∧ 0 ≤ d.ops
/-- A write that is taken. -/
def DM.put1 (d : DM) (at_ : Int) (b : List UInt8) : DM := { d.put at_ b with ops := d.ops + 1 }
def DM.puts (d : DM) (l : List PutM) : DM := l.foldl (fun d x => d.put1 (x.at_ % 5) (putB x)) d
def DM.flushed (d : DM) : DM := { d with ops := d.ops + 1, kept := DM.keptAll d.opn d.kept, opn := [] }
def fiveM (l : List PutM) : DM := ((DM.new 5).puts (l.take 50)).flushed
def secsTo (d : DM) : Nat → List UInt8
  | 0 => []
  | k + 1 => secsTo d k ++ d.sec k
def secB (d : DM) : List UInt8 := if d.dead = false ∧ 5 ≤ d.size then secsTo d 5 else []
def beginsM (d : DM) (at_ : Int) (c : UInt8) : Bool := decide (d.look at_ = 0) && (d.sec at_ == c :: List.replicate 127 0)

theorem secsTo_length {d : DM} (h : d.wf) (k : Nat) : (secsTo d k).length = k * 128 := by
  induction k with
  | zero => rfl
  | succ k ih => simp only [secsTo, List.length_append, ih, DM.sec_length h]; omega
theorem look_lt {d : DM} (hd : d.dead = false) {k : Int} (h0 : 0 ≤ k) (hk : k < d.size) : d.look k = 0 := by
  unfold DM.look
  rw [hd, if_neg (by simp), if_neg (by omega)]
theorem look_zero {d : DM} {k : Int} (h : d.look k = 0) : d.dead = false ∧ 0 ≤ k ∧ k < d.size := by
  unfold DM.look at h
  split at h
  · cases h
  · rename_i hd
    split at h
    · cases h
    · exact ⟨by simpa using hd, by omega, by omega⟩
theorem write_good {d : DM} (h : d.good) {a : Int} (ha : 0 ≤ a ∧ a < 5) {b : List UInt8} (hb : b.length ≤ 128) : d.write a b = (0, d.put1 a b) := by
  obtain ⟨_, hd, hs, hf, ho⟩ := h
  unfold DM.write
  rw [if_neg (by rw [look_lt hd ha.1 (by omega)]; simp), if_neg (by omega)]
  have : (d.put a b).count = (true, d.put1 a b) := by
    unfold DM.count
    rw [if_neg (by simp [DM.put, hf]; omega)]
    rfl
  rw [this]
  rfl
theorem good_put1 {d : DM} (h : d.good) {a : Int} {b : List UInt8} (hb : b.length ≤ 128) : (d.put1 a b).good := by
  obtain ⟨hw, hd, hs, hf, ho⟩ := h
  exact ⟨hw.put hb, hd, hs, hf, by simp [DM.put1]; omega⟩
theorem flush_good {d : DM} (h : d.good) : d.flush = (0, d.flushed) := by
  obtain ⟨_, hd, hs, hf, ho⟩ := h
  have hc : d.count = (true, { d with ops := d.ops + 1 }) := by
    unfold DM.count
    rw [if_neg (by omega)]
  unfold DM.flush
  rw [if_neg (by rw [look_lt hd (by omega) (by omega)]; simp), hc]
  rfl
theorem good_flushed {d : DM} (h : d.good) : d.flushed.good := by
  obtain ⟨hw, hd, hs, hf, ho⟩ := h
  exact ⟨⟨hw.1, hw.2.1, keptAll_wf hw.2.2.2.2 hw.2.2.1, hw.2.2.2.1, fun _ h => (by cases h)⟩, hd, hs, hf, by simp [DM.flushed]; omega⟩
theorem putB_length (x : PutM) : (putB x).length ≤ 128 := by unfold putB; rw [List.length_replicate]; omega
theorem putCells_get (l : List PutM) (i : Nat) (hi : i < l.length) (j : Nat) (v : Value) (hv : [I l[i].at_, I l[i].byte, I l[i].many][j]? = some v) : (putCells l)[i * 3 + j]? = some v := by
  induction l generalizing i with
  | nil => simp at hi
  | cons x l ih =>
    have e : putCells (x :: l) = [I x.at_, I x.byte, I x.many] ++ putCells l := rfl
    rw [e]
    cases i with
    | zero =>
      have hj := (List.getElem?_eq_some_iff.1 hv).1
      rw [Nat.zero_mul, Nat.zero_add, List.getElem?_append_left (show j < [I x.at_, I x.byte, I x.many].length from hj)]; exact hv
    | succ i =>
      rw [List.getElem?_append_right (by simp only [List.length_cons, List.length_nil]; omega)]
      have : (i + 1) * 3 + j - [I x.at_, I x.byte, I x.many].length = i * 3 + j := by simp only [List.length_cons, List.length_nil]; omega
      rw [this]
      exact ih i (by simpa using hi) hv
theorem puts_snoc (d : DM) (l : List PutM) (x : PutM) : d.puts (l ++ [x]) = (d.puts l).put1 (x.at_ % 5) (putB x) := by
  unfold DM.puts; rw [List.foldl_append]; rfl
theorem good_puts {d : DM} (h : d.good) (l : List PutM) : (d.puts l).good := by
  induction l generalizing d with
  | nil => exact h
  | cons x l ih => exact ih (good_put1 h (putB_length x))
theorem good_new : (DM.new 5).good := ⟨⟨by decide, by decide, fun _ _ h => (by cases h), fun _ _ h => (by cases h), fun _ h => (by cases h)⟩, rfl, rfl, rfl, by decide⟩
/-- A disk's counts are small. -/
def DM.small (k : Nat) (d : DM) : Prop := d.opn.length ≤ k ∧ d.keep.length ≤ k ∧ 0 ≤ d.ops ∧ d.ops ≤ k
theorem DM.small.mono {k j : Nat} {d : DM} (h : d.small k) (hk : k ≤ j) : d.small j := ⟨by have := h.1; omega, by have := h.2.1; omega, h.2.2.1, by have := h.2.2.2; omega⟩
theorem small_count {k : Nat} {d : DM} (h : d.opn.length ≤ k + 1 ∧ d.keep.length ≤ k ∧ 0 ≤ d.ops ∧ d.ops ≤ k) : d.count.2.small (k + 1) := by
  unfold DM.count
  split
  · exact ⟨by simp [DM.fall], by simp [DM.fall], by simp [DM.fall]; omega, by simp [DM.fall]; omega⟩
  · exact ⟨by simp; omega, by simp; omega, by simp; omega, by simp; omega⟩
theorem small_write {k : Nat} {d : DM} (h : d.small k) (a : Int) (b : List UInt8) : (d.write a b).2.small (k + 1) := by
  unfold DM.write
  split
  · exact h.mono (by omega)
  · split
    · exact h.mono (by omega)
    · exact small_count ⟨by simp [DM.put]; exact h.1, h.2.1, h.2.2.1, h.2.2.2⟩
theorem small_flush {k : Nat} {d : DM} (h : d.small k) : d.flush.2.small (k + 1) := by
  have hc := small_count ⟨Nat.le_succ_of_le h.1, h.2.1, h.2.2.1, h.2.2.2⟩
  unfold DM.flush
  split
  · exact h.mono (by omega)
  · split
    · exact ⟨by simp, hc.2.1, hc.2.2.1, hc.2.2.2⟩
    · exact hc
theorem small_put1 {k : Nat} {d : DM} (h : d.small k) (a : Int) (b : List UInt8) : (d.put1 a b).small (k + 1) :=
  ⟨by simp [DM.put1, DM.put]; exact h.1, by have := h.2.1; simp [DM.put1, DM.put]; omega, by have := h.2.2.1; simp [DM.put1, DM.put]; omega, by have := h.2.2.2; simp [DM.put1, DM.put]; omega⟩
theorem small_puts {k : Nat} {d : DM} (h : d.small k) (l : List PutM) : (d.puts l).small (k + l.length) := by
  induction l generalizing k d with
  | nil => exact h
  | cons x l ih => exact (ih (small_put1 h _ _)).mono (by simp only [List.length_cons]; omega)
theorem small_flushed {k : Nat} {d : DM} (h : d.small k) : d.flushed.small (k + 1) :=
  ⟨by simp [DM.flushed], by have := h.2.1; simp [DM.flushed]; omega, by have := h.2.2.1; simp [DM.flushed]; omega, by have := h.2.2.2; simp [DM.flushed]; omega⟩
theorem small_crash {k : Nat} {d : DM} (h : d.small k) (l : List Int) : (d.crash l).small k := by
  unfold DM.crash DM.fall
  split
  · exact h
  · exact ⟨by simp, by simp, h.2.2.1, h.2.2.2⟩
theorem small_boot {k : Nat} {d : DM} (h : d.small k) : d.boot.small k := h
theorem small_new (n : Int) : (DM.new n).small 0 := ⟨by simp [DM.new], by simp [DM.new], by simp [DM.new], by simp [DM.new]⟩
end Go.Proofs.Yteflbohpabdjkaa
/-
  The statements' small helpers, walked.
-/
namespace Go.Proofs.Yteflbohpabdjkaa
open Go Go.Mw
set_option maxRecDepth 4000

theorem bring_val (i n : Int) (h : 0 < n) : (i.tmod n < 0 → i.tmod n + n = i % n) ∧ (¬ i.tmod n < 0 → i.tmod n = i % n) := by
  have h1 := Int.tmod_eq_emod (a := i) (b := n)
  have h2 := Int.emod_nonneg i (show n ≠ 0 by omega)
  have h3 := Int.emod_lt_of_pos i h
  have h4 : (n.natAbs : Int) = n := by omega
  split at h1
  · omega
  · rename_i hd
    have : i % n ≠ 0 := fun h0 => hd (.inr (Int.dvd_of_emod_eq_zero h0))
    omega
theorem wrap_u8 (u : UInt8) : IntKind.u8.wrap (u.toNat : Int) = u.toNat := by
  have := u.toNat_lt
  simp [IntKind.wrap, IntKind.bits, IntKind.signed]
  omega
theorem set_rep {j k : Nat} (h : j < k) (x y : Value) : (List.replicate j x ++ List.replicate (k - j) y).set j x = List.replicate (j + 1) x ++ List.replicate (k - (j + 1)) y := by
  obtain ⟨m, rfl⟩ : ∃ m, k = j + 1 + m := ⟨k - (j + 1), by omega⟩
  rw [show j + 1 + m - j = m + 1 from by omega, show j + 1 + m - (j + 1) = m from by omega, List.set_append_right _ _ (by simp), List.length_replicate, Nat.sub_self, List.replicate_succ, List.set_cons_zero, List.replicate_succ']
  simp
section
variable {p : Nat} {d : DM} {F : Nat → Prop} {w w₀ : World} {S : Nat → Prop} {rs : List HP}
theorem bring_ok (i n : Int) (_hi : fits i) (hn : 0 < n ∧ n ≤ 1000000) : Rets Try.prog 25 [I i, I n] w fun v w' => v = I (i % n) ∧ w = w' := by
  refine rets2 Try.func25 rfl rfl rfl rfl ?_
  have ht := bring_val i n hn.1
  have hb1 := Int.lt_tmod_of_pos i hn.1
  have hb2 := Int.tmod_lt_of_pos i hn.1
  refine FW_seq ?_
  refine FW_region ?_
  refine FL_assign (h := ?_)
  refine FL_nil (Qseq_normal ?_)
  refine FW_seq ?_
  refine FW_region ?_
  refine FL_move (h := ?_)
  refine FL_move (h := ?_)
  refine FL_val (Gives.rem rfl rfl (by omega)) rfl ?_
  refine FL_assign (h := ?_)
  refine FL_nil (Qseq_normal ?_)
  refine FW_seq ?_
  refine FW_seq ?_
  refine FW_region ?_
  refine FL_move (h := ?_)
  refine FL_val (Gives.lss rfl rfl) rfl ?_
  refine FL_nil (Qseq_normal ?_)
  first | refine FW_condP rfl (fun hc8 => ?_) (fun hc8 => ?_) | refine FW_cond rfl (fun hc8 => ?_) (fun hc8 => ?_)
  · skip
    have hC := hc8
    refine FW_region ?_
    refine FL_move (h := ?_)
    refine FL_move (h := ?_)
    first | refine FL_val (Gives.addI rfl rfl rfl (by omega)) rfl ?_ | refine FL_val (Gives.add rfl rfl) rfl ?_
    refine FL_assign (h := ?_)
    refine FL_nil (Qseq_normal ?_)
    refine FW_seq ?_
    refine FW_region ?_
    refine FL_move (h := ?_)
    refine FL_assign (h := ?_)
    refine FL_nil (Qseq_normal ?_)
    refine FW_ret (Qfn_ret (hR := ?_))
    first | exact ⟨by rw [← ht.1 hC]; rfl, rfl⟩ | exact ⟨by rw [← ht.2 hC]; rfl, rfl⟩
  · skip
    have hC := hc8
    refine FW_skip (Qseq_normal ?_)
    refine FW_seq ?_
    refine FW_region ?_
    refine FL_move (h := ?_)
    refine FL_assign (h := ?_)
    refine FL_nil (Qseq_normal ?_)
    refine FW_ret (Qfn_ret (hR := ?_))
    first | exact ⟨by rw [← ht.1 hC]; rfl, rfl⟩ | exact ⟨by rw [← ht.2 hC]; rfl, rfl⟩
theorem eqBytes_ok {A A' : Option Addr} {c c' : Nat} {a b : List UInt8} (ha : RowAt w A a.length 1 (a.map B)) (hb : RowAt w A' b.length 1 (b.map B)) : Rets Try.prog 22 [.slice A a.length c, .slice A' b.length c'] w fun v w' => v = .bool (a == b) ∧ w = w' := by
  refine rets2 Try.func22 rfl rfl rfl rfl ?_
  refine FW_seq ?_
  refine FW_region ?_
  refine FL_assign (h := ?_)
  refine FL_nil (Qseq_normal ?_)
  refine FW_seq ?_
  refine FW_region ?_
  refine FL_move (h := ?_)
  refine FL_val (Gives.bytesStr rfl ha) rfl ?_
  refine FL_move (h := ?_)
  refine FL_val (Gives.bytesStr rfl hb) rfl ?_
  refine FL_val (Gives.eqlS rfl rfl) rfl ?_
  refine FL_assign (h := ?_)
  refine FL_nil (Qseq_normal ?_)
  refine FW_ret (Qfn_ret (hR := ?_))
  exact ⟨by simp [resPack], rfl⟩
theorem copyBytes_ok {A : Option Addr} {n c : Nat} {xs : List Value} (hr : RowAt w A n 1 xs) (h1 : ∀ u ∈ xs, u.oneCell' = true) (hn : n ≤ 1000000000000) : Rets Try.prog 34 [.slice A n c] w fun v w' => ∃ v', v = v' ∧ True ∧ Turn noB (rowH 5 1 v' n xs) w w' := by
  have H := Sep.start0 w
  refine rets1 Try.func34 rfl rfl rfl rfl ?_
  refine FW_seq ?_
  refine FW_region ?_
  refine FL_assign (h := ?_)
  refine FL_nil (Qseq_normal ?_)
  refine FW_seq ?_
  refine FW_region ?_
  refine FL_assign (h := ?_)
  refine FL_nil (Qseq_normal ?_)
  refine FW_seq ?_
  refine FW_region ?_
  refine FL_move (h := ?_)
  refine FL_move (h := ?_)
  refine FL_append (H.nilRow 5 1) (hx := by exact rfl) (hy := by exact rfl) (hat := At0) hr h1 (h63 := by unfold maxLen; omega) (hbytes := by omega) (h := fun v5 w6 H6 => ?_)
  refine FL_assign (h := ?_)
  refine FL_nil (Qseq_normal ?_)
  refine FW_ret (Qfn_ret (hR := ?_))
  rw [Nat.zero_add] at H6
  exact ⟨_, rfl, trivial, H6.turn⟩
theorem copyInts_ok {A : Option Addr} {n c : Nat} {xs : List Value} (hr : RowAt w A n 1 xs) (h1 : ∀ u ∈ xs, u.oneCell' = true) (hn : n ≤ 1000000000000) : Rets Try.prog 35 [.slice A n c] w fun v w' => ∃ v', v = v' ∧ True ∧ Turn noB (rowH 3 1 v' n xs) w w' := by
  have H := Sep.start0 w
  refine rets1 Try.func35 rfl rfl rfl rfl ?_
  refine FW_seq ?_
  refine FW_region ?_
  refine FL_assign (h := ?_)
  refine FL_nil (Qseq_normal ?_)
  refine FW_seq ?_
  refine FW_region ?_
  refine FL_assign (h := ?_)
  refine FL_nil (Qseq_normal ?_)
  refine FW_seq ?_
  refine FW_region ?_
  refine FL_move (h := ?_)
  refine FL_move (h := ?_)
  refine FL_append (H.nilRow 3 1) (hx := by exact rfl) (hy := by exact rfl) (hat := At0) hr h1 (h63 := by unfold maxLen; omega) (hbytes := by omega) (h := fun v5 w6 H6 => ?_)
  refine FL_assign (h := ?_)
  refine FL_nil (Qseq_normal ?_)
  refine FW_ret (Qfn_ret (hR := ?_))
  rw [Nat.zero_add] at H6
  exact ⟨_, rfl, trivial, H6.turn⟩
theorem bytes_ok (x : PutM) (hx : x.fit) : Rets Try.prog 26 [.agg #[I x.at_, I x.byte, I x.many]] w fun v w' => ∃ v', v = v' ∧ True ∧ Turn noB (rowH 5 1 v' (putB x).length ((putB x).map B)) w w' := by
  have H := Sep.start0 w
  refine rets1 Try.func26 rfl rfl rfl rfl ?_
  obtain ⟨k, hk⟩ : ∃ k : Nat, x.many % 129 = k := ⟨(x.many % 129).toNat, by omega⟩
  obtain ⟨u, hu⟩ : ∃ u : UInt8, (x.byte % 256) = u.toNat := ⟨UInt8.ofNat (x.byte % 256).toNat, by rw [UInt8.toNat_ofNat']; omega⟩
  have hput : putB x = List.replicate k u := by
    unfold putB
    rw [hk, hu, Int.toNat_natCast, Int.toNat_natCast, UInt8.ofNat_toNat]
  have hk9 : k < 129 := by omega
  refine FW_seq ?_
  refine FW_region ?_
  refine FL_box H (h := ?_)
  intro b1 w2 H2 k1
  refine FL_assign (h := ?_)
  refine FL_nil (Qseq_normal ?_)
  refine FW_seq ?_
  refine FW_region ?_
  first | refine FL_val (Gives.field0 rfl) rfl ?_ | refine FL_val (Gives.field rfl) rfl ?_ | refine FL_val (Gives.fieldA rfl) rfl ?_
  refine FL_load H2 (h := ?_)
  refine FL_callS (bring_ok x.many 129 hx.2.2 (by omega)) (h := ?_)
  rw [hk]
  refine FL_make1 H2 (k := k) (by unfold maxLen; omega) (by omega) (h := ?_)
  intro bb w8 H8 _
  refine FL_assign (h := ?_)
  refine FL_nil (Qseq_normal ?_)
  refine FW_seq ?_
  refine FW_seq ?_
  refine FW_region ?_
  refine FL_assign (h := ?_)
  refine FL_nil (Qseq_normal ?_)
  refine FW_block ?_
  refine FW_loop' (fun i : Nat => [(1, .pointer (some ⟨b1, 0, none⟩)), (3, .slice (some ⟨bb, 0, none⟩) k k), (4, I i)])
    (fun i w' => i ≤ k ∧ Sep w noB [blk bb (List.replicate i (B u) ++ List.replicate (k - i) (Value.int .u8 0)) 5, blk b1 [I x.at_, I x.byte, I x.many] 37] w') (fun i _ => k - i) 0 ⟨rfl, rfl, rfl, trivial⟩ ⟨Nat.zero_le _, H8⟩ (fun j τ w12 hI => ?_)
  obtain ⟨hj, H12⟩ := hI
  try simp only [upds, like, upd_ds, und_ds]
  refine FW_seq ?_
  refine FW_seq ?_
  refine FW_region ?_
  refine FL_move (h := ?_)
  refine FL_move (h := ?_)
  refine FL_val (Gives.lenSlice rfl) rfl ?_
  refine FL_val (Gives.lss rfl rfl) rfl ?_
  refine FL_nil (Qseq_normal ?_)
  first | refine FW_condP rfl (fun hc17 => ?_) (fun hc17 => ?_) | refine FW_cond rfl (fun hc17 => ?_) (fun hc17 => ?_)
  · skip
    have hlt : j < k := by omega
    refine FW_skip (Qseq_normal ?_)
    refine FW_seq ?_
    refine FW_block ?_
    refine FW_region ?_
    refine FL_move (h := ?_)
    refine FL_move (h := ?_)
    first | refine FL_val (Gives.field0 rfl) rfl ?_ | refine FL_val (Gives.field rfl) rfl ?_ | refine FL_val (Gives.fieldA rfl) rfl ?_
    refine FL_load H12 (h := ?_)
    refine FL_callS (bring_ok x.byte 256 hx.2.1 (by omega)) (h := ?_)
    rw [hu]
    refine FL_val (Gives.conv rfl) rfl ?_
    rw [wrap_u8]
    refine FL_val (Gives.idxB rfl rfl hlt) rfl ?_
    refine FL_store H12 (hat := At0) (cs' := List.replicate (j + 1) (B u) ++ List.replicate (k - (j + 1)) (Value.int .u8 0)) (ho := by simp; omega) (hs := set_rep hlt _ _) (h := ?_)
    intro w27 H27
    refine FL_nil (Qblk_normal (Qseq_normal ?_))
    refine FW_region ?_
    refine FL_move (h := ?_)
    first | refine FL_val (Gives.addI rfl rfl rfl (by omega)) rfl ?_ | refine FL_val (Gives.add rfl rfl) rfl ?_
    refine FL_assign (h := ?_)
    refine FL_nil ?_
    exact Qround_normal (j + 1) ⟨rfl, rfl, rfl, trivial⟩ ⟨by omega, H27⟩ (by omega)
  · skip
    have hjk : j = k := by omega
    subst hjk
    refine FW_exit (Qseq_exit (Qround_exit (Qblk_exit (Qseq_normal ?_))))
    refine FW_seq ?_
    refine FW_region ?_
    refine FL_move (h := ?_)
    refine FL_assign (h := ?_)
    refine FL_nil (Qseq_normal ?_)
    refine FW_ret (Qfn_ret (hR := ?_))
    rw [Nat.sub_self, List.replicate_zero, List.append_nil] at H12
    have H2 := Sep.asRow H12 At0 (s := 1) (n := j) (by simp) (by unfold maxLen; omega)
    refine ⟨_, rfl, trivial, ?_⟩
    rw [hput, List.length_replicate, List.map_replicate]
    exact (Sep.first H2).turn
end
end Go.Proofs.Yteflbohpabdjkaa
/-
  The statements' helpers on disks, walked.
-/
namespace Go.Proofs.Yteflbohpabdjkaa
open Go Go.Mw
set_option maxRecDepth 4000

section
variable {p : Nat} {d : DM} {F : Nat → Prop} {w w₀ : World} {S : Nat → Prop} {rs : List HP}
theorem read_cases (hwf : d.wf) (k : Int) : ((d.read k).2 ≠ 0 ∧ d.look k ≠ 0) ∨ ((d.read k).2 = 0 ∧ d.look k = 0 ∧ ((d.read k).1.getD []) = d.sec k ∧ ((d.read k).1.getD []).length = 128) := by
  unfold DM.read
  by_cases h : d.look k = 0
  · rw [if_neg (by simp [h])]
    exact .inr ⟨rfl, h, rfl, DM.sec_length hwf k⟩
  · rw [if_pos h]
    exact .inl ⟨h, h⟩
theorem sectors_ok (h : (diskH p d).ok F w) : Rets Try.prog 19 [.pointer (some ⟨p, 0, none⟩)] w fun v w' => ∃ v', v = v' ∧ True ∧ Turn noB (rowH 5 1 v' (secB d).length ((secB d).map B)) w w' := by
  obtain ⟨hwf, _⟩ := diskH_blk h
  have H := Sep.start0 w
  refine rets1 Try.func19 rfl rfl rfl rfl ?_
  refine FW_seq ?_
  refine FW_region ?_
  refine FL_assign (h := ?_)
  refine FL_nil (Qseq_normal ?_)
  refine FW_seq ?_
  refine FW_region ?_
  refine FL_assign (h := ?_)
  refine FL_nil (Qseq_normal ?_)
  refine FW_seq ?_
  refine FW_seq ?_
  refine FW_region ?_
  refine FL_assign (h := ?_)
  refine FL_nil (Qseq_normal ?_)
  refine FW_block ?_
  refine FW_loop' (fun x : Nat × Value => [(0, .pointer (some ⟨p, 0, none⟩)), (3, x.2), (4, I x.1)])
    (fun x w' => x.1 ≤ 5 ∧ (∀ k : Nat, k < x.1 → d.look k = 0) ∧ Sep w noB [rowH 5 1 x.2 (x.1 * 128) ((secsTo d x.1).map B)] w') (fun x _ => 5 - x.1) (0, .slice none 0 0) ⟨rfl, rfl, rfl, trivial⟩ ⟨Nat.zero_le _, fun k hk => absurd hk (Nat.not_lt_zero k), H.nilRow _ _⟩ (fun x τ w5 hI => ?_)
  obtain ⟨j, vo⟩ := x
  obtain ⟨hj, hlk, H5⟩ := hI
  simp only at hj hlk
  try simp only [upds, like, upd_ds, und_ds]
  refine FW_seq ?_
  refine FW_seq ?_
  refine FW_region ?_
  refine FL_move (h := ?_)
  refine FL_val (Gives.lss rfl rfl) rfl ?_
  refine FL_nil (Qseq_normal ?_)
  first | refine FW_condP rfl (fun hc8 => ?_) (fun hc8 => ?_) | refine FW_cond rfl (fun hc8 => ?_) (fun hc8 => ?_)
  · skip
    have hlt : j < 5 := by omega
    refine FW_skip (Qseq_normal ?_)
    refine FW_seq ?_
    refine FW_block ?_
    refine FW_seq ?_
    refine FW_region ?_
    refine FL_move (h := ?_)
    refine FL_move (h := ?_)
    refine FL_callN H5 (read_ok (HP.stay h H5.kept) (at_ := j)) rfl rfl (fun y w13 _ H13 _ => ?_)
    obtain ⟨As, cs, hs, _⟩ := Sep.rowForm H13 At0
    subst hs
    have hrc := read_cases hwf (j : Int)
    refine FL_move (h := ?_)
    refine FL_val (Gives.extract rfl rfl) rfl ?_
    refine FL_val (Gives.extract rfl rfl) rfl ?_
    refine FL_assign (h := ?_)
    refine FL_assign (h := ?_)
    refine FL_nil (Qseq_normal ?_)
    refine FW_seq ?_
    refine FW_seq ?_
    refine FW_region ?_
    refine FL_move (h := ?_)
    refine FL_val (Gives.neq rfl rfl) rfl ?_
    refine FL_move (h := ?_)
    first | refine FL_splitP (t := 19) rfl (fun hs22 => ?_) (fun hs22 => ?_) | refine FL_split (t := 19) rfl (fun hs22 => ?_) (fun hs22 => ?_)
    · skip
      have hne := hs22
      refine FL_off rfl rfl rfl ?_
      refine FL_off rfl rfl rfl ?_
      refine FL_off rfl rfl rfl ?_
      refine FL_pickT (h := ?_)
      refine FL_nil (Qseq_normal ?_)
      refine FW_cond_true rfl ?_
      refine FW_seq ?_
      refine FW_region ?_
      refine FL_assign (h := ?_)
      refine FL_nil (Qseq_normal ?_)
      refine FW_ret (Qseq_ret (Qblk_ret (Qseq_ret (Qround_ret (Qblk_ret (Qseq_ret (Qfn_ret (hR := ?_))))))))
      have hb : secB d = [] := by
        unfold secB
        rw [if_neg]
        rintro ⟨hd, h5⟩
        have h0 := look_lt hd (k := (j : Int)) (by omega) (by omega)
        rcases hrc with ⟨_, h2⟩ | ⟨h1, _, _, h4⟩
        · exact h2 h0
        · first | exact hne h1 | (apply hC; rw [h4]; rfl)
      rw [hb]
      exact ⟨_, rfl, trivial, ((H13.drop0.drop0).nilRow _ _).turn⟩
    · skip
      have hne := hs22
      refine FL_on rfl rfl ?_
      refine FL_move (h := ?_)
      refine FL_on rfl rfl ?_
      refine FL_val (Gives.lenSlice rfl) rfl ?_
      refine FL_on rfl rfl ?_
      refine FL_val (Gives.neq rfl rfl) rfl ?_
      refine FL_pickF (h := ?_)
      refine FL_nil (Qseq_normal ?_)
      first | refine FW_condP rfl (fun hc32 => ?_) (fun hc32 => ?_) | refine FW_cond rfl (fun hc32 => ?_) (fun hc32 => ?_)
      · skip
        have hC := hc32
        refine FW_seq ?_
        refine FW_region ?_
        refine FL_assign (h := ?_)
        refine FL_nil (Qseq_normal ?_)
        refine FW_ret (Qseq_ret (Qblk_ret (Qseq_ret (Qround_ret (Qblk_ret (Qseq_ret (Qfn_ret (hR := ?_))))))))
        have hb : secB d = [] := by
          unfold secB
          rw [if_neg]
          rintro ⟨hd, h5⟩
          have h0 := look_lt hd (k := (j : Int)) (by omega) (by omega)
          rcases hrc with ⟨_, h2⟩ | ⟨h1, _, _, h4⟩
          · exact h2 h0
          · first | exact hne h1 | (apply hC; rw [h4]; rfl)
        rw [hb]
        exact ⟨_, rfl, trivial, ((H13.drop0.drop0).nilRow _ _).turn⟩
      · skip
        have hrd : d.look j = 0 ∧ ((d.read j).1.getD []) = d.sec j ∧ ((d.read j).1.getD []).length = 128 := by
          rcases hrc with ⟨h1, _⟩ | ⟨_, h⟩
          · exact absurd (by simpa using hne) h1
          · exact h
        refine FW_skip (Qseq_normal ?_)
        refine FW_region ?_
        refine FL_move (h := ?_)
        refine FL_move (h := ?_)
        refine FL_append H13 (hx := by exact rfl) (hy := by exact rfl) (hat := At1) (H13.rowAt At0) (byte_one _) (h63 := by unfold maxLen; omega) (hbytes := by omega) (h := fun vv w40 H40 => ?_)
        refine FL_assign (h := ?_)
        refine FL_nil (Qblk_normal (Qseq_normal ?_))
        refine FW_region ?_
        refine FL_move (h := ?_)
        first | refine FL_val (Gives.addI rfl rfl rfl (by omega)) rfl ?_ | refine FL_val (Gives.add rfl rfl) rfl ?_
        refine FL_assign (h := ?_)
        refine FL_nil ?_
        refine Qround_normal (j + 1, vv) ⟨rfl, rfl, rfl, trivial⟩ ⟨by simp only; omega, fun k hk => ?_, ?_⟩ (by simp only; omega)
        · rcases Nat.lt_succ_iff_lt_or_eq.1 hk with h1 | h1
          · exact hlk k h1
          · subst h1; exact hrd.1
        · have e : (j + 1) * 128 = j * 128 + ((d.read j).1.getD []).length := by rw [hrd.2.2]; omega
          simp only [secsTo, List.map_append, e]
          rw [← hrd.2.1]
          exact H40.drop0
  · skip
    have hj5 : j = 5 := by omega
    subst hj5
    refine FW_exit (Qseq_exit (Qround_exit (Qblk_exit (Qseq_normal ?_))))
    refine FW_seq ?_
    refine FW_region ?_
    refine FL_move (h := ?_)
    refine FL_assign (h := ?_)
    refine FL_nil (Qseq_normal ?_)
    refine FW_ret (Qfn_ret (hR := ?_))
    have hb : secB d = secsTo d 5 := by
      unfold secB
      have h4 := look_zero (hlk 4 (by decide))
      rw [if_pos ⟨h4.1, by have := h4.2.2; omega⟩]
    rw [hb, secsTo_length hwf]
    exact ⟨_, rfl, trivial, H5.turn⟩
theorem begins_ne0 {b : List UInt8} {c : UInt8} (hl : b.length = 128) (h : b[0] ≠ c) : b ≠ c :: List.replicate 127 0 := by
  intro e
  apply h
  have : b[0]? = (c :: List.replicate 127 0)[0]? := by rw [e]
  rw [List.getElem?_eq_getElem (by omega)] at this
  injection this
theorem begins_ne1 {b : List UInt8} {c : UInt8} (hl : b.length = 128) {j : Nat} (h1 : 1 ≤ j) (hj : j < b.length) (h : b[j] ≠ 0) : b ≠ c :: List.replicate 127 0 := by
  intro e
  apply h
  have h0 : b[j]? = (c :: List.replicate 127 0)[j]? := by rw [e]
  rw [List.getElem?_eq_getElem hj] at h0
  obtain ⟨i, rfl⟩ : ∃ i, j = i + 1 := ⟨j - 1, by omega⟩
  rw [List.getElem?_cons_succ, List.getElem?_replicate, if_pos (by omega)] at h0
  injection h0
theorem beginsEq {b : List UInt8} {c : UInt8} (hl : b.length = 128) (h0 : b[0] = c) (h : ∀ k, 1 ≤ k → k < 128 → b[k]? = some 0) : b = c :: List.replicate 127 0 := by
  apply List.ext_getElem?
  intro i
  cases i with
  | zero => rw [List.getElem?_eq_getElem (by omega), h0]; rfl
  | succ i =>
    rw [List.getElem?_cons_succ, List.getElem?_replicate]
    split
    · exact h (i + 1) (by omega) (by omega)
    · rw [List.getElem?_eq_none (by omega)]
theorem begins_ok (h : (diskH p d).ok F w) (at_ : Int) (c : UInt8) : Rets Try.prog 61 [.pointer (some ⟨p, 0, none⟩), I at_, B c] w fun v w' => v = .bool (beginsM d at_ c) ∧ Kept noB w w' := by
  obtain ⟨hwf, _⟩ := diskH_blk h
  have H := Sep.start0 w
  have hrc := read_cases hwf at_
  refine rets3 Try.func61 rfl rfl rfl rfl ?_
  refine FW_seq ?_
  refine FW_region ?_
  refine FL_assign (h := ?_)
  refine FL_nil (Qseq_normal ?_)
  refine FW_seq ?_
  refine FW_region ?_
  refine FL_move (h := ?_)
  refine FL_move (h := ?_)
  refine FL_callN H (read_ok (HP.stay h H.kept)) rfl rfl (fun y w5 _ H5 _ => ?_)
  obtain ⟨As, cs, hs, _⟩ := Sep.rowForm H5 At0
  subst hs
  refine FL_move (h := ?_)
  refine FL_val (Gives.extract rfl rfl) rfl ?_
  refine FL_val (Gives.extract rfl rfl) rfl ?_
  refine FL_assign (h := ?_)
  refine FL_assign (h := ?_)
  refine FL_nil (Qseq_normal ?_)
  refine FW_seq ?_
  refine FW_seq ?_
  refine FW_region ?_
  refine FL_move (h := ?_)
  refine FL_val (Gives.neq rfl rfl) rfl ?_
  refine FL_move (h := ?_)
  first | refine FL_splitP (t := 18) rfl (fun hs14 => ?_) (fun hs14 => ?_) | refine FL_split (t := 18) rfl (fun hs14 => ?_) (fun hs14 => ?_)
  · skip
    have hL : d.look at_ ≠ 0 := by
      rcases hrc with ⟨_, h2⟩ | ⟨h1, _⟩
      · exact h2
      · exact absurd h1 hs14
    have hb : beginsM d at_ c = false := by unfold beginsM; rw [decide_eq_false hL]; rfl
    refine FL_off rfl rfl rfl ?_
    refine FL_off rfl rfl rfl ?_
    refine FL_off rfl rfl rfl ?_
    refine FL_pickT (h := ?_)
    refine FL_move (h := ?_)
    refine FL_off rfl rfl rfl ?_
    refine FL_off rfl rfl rfl ?_
    refine FL_off rfl rfl rfl ?_
    refine FL_off rfl rfl rfl ?_
    refine FL_off rfl rfl rfl ?_
    refine FL_pickT (h := ?_)
    refine FL_nil (Qseq_normal ?_)
    refine FW_cond_true rfl ?_
    refine FW_seq ?_
    refine FW_region ?_
    refine FL_assign (h := ?_)
    refine FL_nil (Qseq_normal ?_)
    refine FW_ret (Qseq_ret (Qfn_ret (hR := ?_)))
    refine ⟨?_, H5.kept⟩
    first
      | (rw [hb]; rfl)
      | (rw [hbe, beq_false_of_ne (begins_ne0 hlen fun e => hC (by rw [e]))]; rfl)
  · skip
    have hrd : d.look at_ = 0 ∧ ((d.read at_).1.getD []) = d.sec at_ ∧ ((d.read at_).1.getD []).length = 128 := by
      rcases hrc with ⟨h1, _⟩ | ⟨_, h⟩
      · exact absurd (by simpa using hs14) h1
      · exact h
    rw [hrd.2.1, DM.sec_length hwf] at H5
    have hr := Sep.rowAt H5 At0
    obtain ⟨ad, hA, hcell⟩ := hr.at_ (by omega)
    subst hA
    have hlen := DM.sec_length hwf at_
    have hbe : beginsM d at_ c = (d.sec at_ == c :: List.replicate 127 0) := by unfold beginsM; rw [decide_eq_true hrd.1]; rfl
    refine FL_on rfl rfl ?_
    refine FL_move (h := ?_)
    refine FL_on rfl rfl ?_
    refine FL_val (Gives.lenSlice rfl) rfl ?_
    refine FL_on rfl rfl ?_
    refine FL_val (Gives.neq rfl rfl) rfl ?_
    refine FL_pickF (h := ?_)
    refine FL_move (h := ?_)
    first | refine FL_splitP (t := 23) rfl (fun hs27 => ?_) (fun hs27 => ?_) | refine FL_split (t := 23) rfl (fun hs27 => ?_) (fun hs27 => ?_)
    · skip
      (first | (rw [hrd.2.2] at hs27; exact absurd rfl hs27) | (exfalso; exact hs27 (by rw [hrd.2.2]; rfl))) --done
    · skip
      refine FL_on rfl rfl ?_
      refine FL_move (h := ?_)
      refine FL_on rfl rfl ?_
      refine FL_val (Gives.idx (m := ((d.read at_).1.getD []).length) (i := 0) rfl rfl (by rw [hrd.2.2]; decide)) rfl ?_
      refine FL_on rfl rfl ?_
      refine FL_loadC (hcell (0 * 1) (B ((d.sec at_)[0]'(by omega))) (by simp [hlen])) (h := ?_)
      refine FL_on rfl rfl ?_
      refine FL_move (h := ?_)
      refine FL_on rfl rfl ?_
      refine FL_val (Gives.neq rfl rfl) rfl ?_
      refine FL_pickF (h := ?_)
      refine FL_nil (Qseq_normal ?_)
      first | refine FW_condP rfl (fun hc35 => ?_) (fun hc35 => ?_) | refine FW_cond rfl (fun hc35 => ?_) (fun hc35 => ?_)
      · skip
        have hC := hc35
        refine FW_seq ?_
        refine FW_region ?_
        refine FL_assign (h := ?_)
        refine FL_nil (Qseq_normal ?_)
        refine FW_ret (Qseq_ret (Qfn_ret (hR := ?_)))
        refine ⟨?_, H5.kept⟩
        first
          | (rw [hb]; rfl)
          | (rw [hbe, beq_false_of_ne (begins_ne0 hlen fun e => hC (by rw [e]))]; rfl)
      · skip
        have hC := hc35
        refine FW_skip (Qseq_normal ?_)
        refine FW_seq ?_
        refine FW_seq ?_
        refine FW_region ?_
        refine FL_assign (h := ?_)
        refine FL_nil (Qseq_normal ?_)
        refine FW_block ?_
        refine FW_loop' (fun i : Nat => [(7, .slice (some ad) ((d.read at_).1.getD []).length cs), (9, I i)])
          (fun i w' => 1 ≤ i ∧ i ≤ 128 ∧ (∀ k, 1 ≤ k → k < i → (d.sec at_)[k]? = some 0) ∧ w5 = w') (fun i _ => 128 - i) 1 ⟨rfl, rfl, trivial⟩ ⟨by decide, by decide, fun k h1 h2 => by omega, rfl⟩ (fun j τ wj hI => ?_)
        obtain ⟨hj1, hj, hz, rfl⟩ := hI
        try simp only [upds, like, upd_ds, und_ds]
        refine FW_seq ?_
        refine FW_seq ?_
        refine FW_region ?_
        refine FL_move (h := ?_)
        refine FL_val (Gives.lss rfl rfl) rfl ?_
        refine FL_nil (Qseq_normal ?_)
        first | refine FW_condP rfl (fun hc44 => ?_) (fun hc44 => ?_) | refine FW_cond rfl (fun hc44 => ?_) (fun hc44 => ?_)
        · skip
          have hlt : j < (d.sec at_).length := by omega
          refine FW_skip (Qseq_normal ?_)
          refine FW_seq ?_
          refine FW_block ?_
          refine FW_seq ?_
          refine FW_region ?_
          refine FL_move (h := ?_)
          refine FL_move (h := ?_)
          refine FL_val (Gives.idx (m := ((d.read at_).1.getD []).length) (i := j) rfl rfl (by rw [hrd.2.2]; omega)) rfl ?_
          refine FL_loadC (hcell (j * 1) (B ((d.sec at_)[j]'hlt)) (by simp [hlt])) (h := ?_)
          refine FL_val (Gives.neq rfl rfl) rfl ?_
          refine FL_nil (Qseq_normal ?_)
          first | refine FW_condP rfl (fun hc51 => ?_) (fun hc51 => ?_) | refine FW_cond rfl (fun hc51 => ?_) (fun hc51 => ?_)
          · skip
            have hz0 := hc51
            refine FW_seq ?_
            refine FW_region ?_
            refine FL_assign (h := ?_)
            refine FL_nil (Qseq_normal ?_)
            refine FW_ret (Qblk_ret (Qseq_ret (Qround_ret (Qblk_ret (Qseq_ret (Qfn_ret (hR := ?_)))))))
            refine ⟨?_, H5.kept⟩
            rw [hbe, beq_false_of_ne (begins_ne1 hlen hj1 hlt fun e => hz0 (by rw [e]; rfl))]; rfl
          · skip
            have hz0 := hc51
            refine FW_skip (Qblk_normal (Qseq_normal ?_))
            refine FW_region ?_
            refine FL_move (h := ?_)
            first | refine FL_val (Gives.addI rfl rfl rfl (by omega)) rfl ?_ | refine FL_val (Gives.add rfl rfl) rfl ?_
            refine FL_assign (h := ?_)
            refine FL_nil ?_
            refine Qround_normal (j + 1) ⟨rfl, rfl, trivial⟩ ⟨by omega, by omega, fun k h1 h2 => ?_, rfl⟩ (by omega)
            rcases Nat.lt_succ_iff_lt_or_eq.1 h2 with h3 | h3
            · exact hz k h1 h3
            · subst h3
              rw [List.getElem?_eq_getElem hlt]
              exact congrArg some (UInt8.toNat_inj.1 (by simpa using hz0))
        · skip
          have hj5 : j = 128 := by omega
          subst hj5
          refine FW_exit (Qseq_exit (Qround_exit (Qblk_exit (Qseq_normal ?_))))
          refine FW_seq ?_
          refine FW_region ?_
          refine FL_assign (h := ?_)
          refine FL_nil (Qseq_normal ?_)
          refine FW_ret (Qfn_ret (hR := ?_))
          refine ⟨?_, H5.kept⟩
          rw [hbe, beginsEq hlen (UInt8.toNat_inj.1 (show ((d.sec at_)[0]'(by omega)).toNat = c.toNat by omega)) hz]; simp [resPack]
theorem writes_ok {A : Option Addr} {c : Nat} {l : List PutM} (hg : d.good) (hsm : d.small 100000) (hl : ∀ x ∈ l, x.fit) (hr : RowAt w A l.length 3 (putCells l)) (hA : Off A l.length F) (h : (diskH p d).ok F w) :
    Rets Try.prog 23 [.pointer (some ⟨p, 0, none⟩), .slice A l.length c] w fun v w' => v = .bool true ∧ Turn F (diskH p (d.puts (l.take 50))) w w' := by
  have H := Sep.start1 h
  refine rets2 Try.func23 rfl rfl rfl rfl ?_
  refine FW_seq ?_
  refine FW_region ?_
  refine FL_assign (h := ?_)
  refine FL_nil (Qseq_normal ?_)
  refine FW_seq ?_
  refine FW_seq ?_
  refine FW_region ?_
  refine FL_assign (h := ?_)
  refine FL_nil (Qseq_normal ?_)
  refine FW_block ?_
  refine FW_loop' (fun i : Nat => [(0, .pointer (some ⟨p, 0, none⟩)), (1, .slice A l.length c), (5, I i)])
    (fun i w' => i ≤ l.length ∧ i ≤ 50 ∧ Sep w F [diskH p (d.puts (l.take i))] w') (fun i _ => l.length - i) 0 ⟨rfl, rfl, rfl, trivial⟩ ⟨Nat.zero_le _, Nat.zero_le _, H⟩ (fun i τ w4 hI => ?_)
  obtain ⟨hi, hi50, H4⟩ := hI
  try simp only [upds, like, upd_ds, und_ds]
  refine FW_seq ?_
  refine FW_seq ?_
  refine FW_region ?_
  refine FL_move (h := ?_)
  refine FL_move (h := ?_)
  refine FL_val (Gives.lenSlice rfl) rfl ?_
  refine FL_val (Gives.lss rfl rfl) rfl ?_
  refine FL_move (h := ?_)
  first | refine FL_splitP (t := 10) rfl (fun hs10 => ?_) (fun hs10 => ?_) | refine FL_split (t := 10) rfl (fun hs10 => ?_) (fun hs10 => ?_)
  · skip
    have hc1 := hs10
    refine FL_on rfl rfl ?_
    refine FL_move (h := ?_)
    refine FL_on rfl rfl ?_
    refine FL_val (Gives.lss rfl rfl) rfl ?_
    refine FL_pickT (h := ?_)
    refine FL_nil (Qseq_normal ?_)
    first | refine FW_condP rfl (fun hc15 => ?_) (fun hc15 => ?_) | refine FW_cond rfl (fun hc15 => ?_) (fun hc15 => ?_)
    · skip
      have hlt : i < l.length := by omega
      have hlt50 : i < 50 := by omega
      have hrow := hr.keepS H4.kept hA
      obtain ⟨ad, hAd, _⟩ := hrow.at_ (by omega)
      subst hAd
      have hx := hl _ (List.getElem_mem hlt)
      refine FW_skip (Qseq_normal ?_)
      refine FW_seq ?_
      refine FW_block ?_
      refine FW_seq ?_
      refine FW_drawS rfl H4 (h := fun hok17 w19 H19 => ?_)
      refine FGmove hok17 0 (h := ?_)
      refine FGmove hok17 1 (h := ?_)
      refine FGmove hok17 2 (h := ?_)
      refine FGp hok17 3 rfl rfl (fun _ => (Gives.idx rfl rfl hlt)) (by kernel_rfl) ?_
      first | refine FGp hok17 4 rfl rfl (fun _ => (Gives.field0 rfl)) (by kernel_rfl) ?_ | refine FGp hok17 4 rfl rfl (fun _ => (Gives.field rfl)) (by kernel_rfl) ?_ | refine FGp hok17 4 rfl rfl (fun _ => (Gives.fieldA rfl)) (by kernel_rfl) ?_
      refine FGl hok17 5 rfl rfl (Gives.loadC rfl ((hr.keepS H19.kept hA).elemC rfl i hlt (us := [I l[i].at_, I l[i].byte, I l[i].many]) (putCells_get l i hlt) 0 _ rfl)) (by kernel_rfl) ?_
      refine FGmove hok17 7 (h := ?_)
      refine FGmove hok17 8 (h := ?_)
      refine FGp hok17 9 rfl rfl (fun _ => (Gives.idx rfl rfl hlt)) (by kernel_rfl) ?_
      refine FGl hok17 10 rfl rfl (Gives.loadCN rfl ((hr.keepS H19.kept hA).elem rfl i hlt (us := [I l[i].at_, I l[i].byte, I l[i].many]) (putCells_get l i hlt)) rfl) (by kernel_rfl) ?_
      refine FGcallS hok17 6 [(10, false), (9, true), (8, true), (7, true), (0, true)] H19 (bring_ok l[i].at_ 5 hx.1 (by omega)) (h := fun w26 H26 => ⟨(Stab_cons rfl rfl (Gives.loadCN rfl ((hr.keepS H26.kept hA).elem rfl i hlt (us := [I l[i].at_, I l[i].byte, I l[i].many]) (putCells_get l i hlt)) rfl) rfl (Stab_pure (Stab_pure (Stab_pure (Stab_pure (Stab_nil)))))), ?_⟩)
      refine FGcallN hok17 11 [(0, true)] H26 (bytes_ok l[i] hx) (h := fun y w28 _ H28 _ => ⟨Stab_pure (Stab_nil), ?_⟩)
      obtain ⟨Ay, cy, hy, _⟩ := Sep.rowForm H28 At0
      subst hy
      have hgi := good_puts hg (l.take i)
      have hsi := small_puts hsm (l.take i)
      have hw := write_good hgi (a := l[i].at_ % 5) (b := putB l[i]) (by omega) (putB_length _)
      have hll : (l.take i).length ≤ 50 := by rw [List.length_take]; omega
      refine FGcall1R hok17 12 [] H28 At0 (v := I 0) (q := diskH p (d.puts (l.take (i + 1)))) (fun F' hp hrr hoff => ?_) (h := fun w30 H30 => ⟨Stab_nil, ?_⟩)
      · have h1 := write_ok (c := cy) (at_ := l[i].at_ % 5) (by have := hsi.1; omega) (by have := hsi.2.1; omega) (by have := hsi.2.2; unfold fits; omega) hrr hoff hp
        rw [hw] at h1
        rw [List.take_succ_eq_append_getElem hlt, puts_snoc]
        exact h1
      refine FGp hok17 13 rfl rfl (fun _ => (Gives.neq rfl rfl)) (by kernel_rfl) ?_
      refine FG_end hok17 (by kernel_rfl) ?_
      refine Qseq_normal ?_
      first | refine FW_condP rfl (fun hc32 => ?_) (fun hc32 => ?_) | refine FW_cond rfl (fun hc32 => ?_) (fun hc32 => ?_)
      · skip
        exact absurd rfl hc32 --done
      · skip
        refine FW_skip (Qblk_normal (Qseq_normal ?_))
        refine FW_region ?_
        refine FL_move (h := ?_)
        first | refine FL_val (Gives.addI rfl rfl rfl (by omega)) rfl ?_ | refine FL_val (Gives.add rfl rfl) rfl ?_
        refine FL_assign (h := ?_)
        refine FL_nil ?_
        exact Qround_normal (i + 1) ⟨rfl, rfl, rfl, trivial⟩ ⟨by omega, by omega, H30.drop0⟩ (by omega)
    · skip
      first
        | (have htk : l.take 50 = l.take i := by (have : i = 50 := by omega); subst this; rfl)
        | skip
      refine FW_exit (Qseq_exit (Qround_exit (Qblk_exit (Qseq_normal ?_))))
      refine FW_seq ?_
      refine FW_region ?_
      refine FL_assign (h := ?_)
      refine FL_nil (Qseq_normal ?_)
      refine FW_ret (Qfn_ret (hR := ?_))
      exact ⟨rfl, by rw [htk]; exact H4.turn⟩
  · skip
    have htk : l.take 50 = l.take i := by rw [List.take_of_length_le (l := l) (i := i) (by omega), List.take_of_length_le (by omega)]
    refine FL_off rfl rfl rfl ?_
    refine FL_off rfl rfl rfl ?_
    refine FL_pickF (h := ?_)
    refine FL_nil (Qseq_normal ?_)
    refine FW_cond_false rfl ?_
    refine FW_exit (Qseq_exit (Qround_exit (Qblk_exit (Qseq_normal ?_))))
    refine FW_seq ?_
    refine FW_region ?_
    refine FL_assign (h := ?_)
    refine FL_nil (Qseq_normal ?_)
    refine FW_ret (Qfn_ret (hR := ?_))
    exact ⟨rfl, by rw [htk]; exact H4.turn⟩
theorem five_flush {e : DM} (hg : e.good) (hs : e.small 50) (h : (diskH p e).ok F w) : Rets Try.prog 28 [.pointer (some ⟨p, 0, none⟩)] w fun v w' => v = I 0 ∧ Turn F (diskH p e.flushed) w w' := by
  have h1 := flush_ok (by have := hs.1; omega) (by have := hs.2.1; omega) (by have := hs.2.2; unfold fits; omega) h
  rw [flush_good hg] at h1
  exact h1
theorem good_five (l : List PutM) : (fiveM l).good := good_flushed (good_puts good_new _)
theorem small_five (l : List PutM) : (fiveM l).small 60 := (small_flushed ((small_puts (small_new 5) (l.take 50)).mono (by rw [List.length_take]; omega : 0 + (l.take 50).length ≤ 59)))
theorem five_ok {A : Option Addr} {c : Nat} {l : List PutM} (hl : ∀ x ∈ l, x.fit) (hr : RowAt w A l.length 3 (putCells l)) :
    Rets Try.prog 18 [.slice A l.length c] w fun v w' => ∃ p, v = .pointer (some ⟨p, 0, none⟩) ∧ True ∧ Turn noB (diskH p (fiveM l)) w w' := by
  have H := Sep.start0 w
  have hps := good_puts good_new (l.take 50)
  have hsm := (small_puts (small_new 5) (l.take 50)).mono (by rw [List.length_take]; omega : 0 + (l.take 50).length ≤ 50)
  refine rets1 Try.func18 rfl rfl rfl rfl ?_
  refine FW_seq ?_
  refine FW_region ?_
  refine FL_assign (h := ?_)
  refine FL_nil (Qseq_normal ?_)
  refine FW_seq ?_
  refine FW_region ?_
  refine FL_callN H (new_ok 5 (by omega)) rfl rfl (fun p w3 _ H3 _ => ?_)
  refine FL_move (h := ?_)
  refine FL_val (Gives.extract rfl rfl) rfl ?_
  refine FL_val (Gives.extract rfl rfl) rfl ?_
  refine FL_assign (h := ?_)
  refine FL_assign (h := ?_)
  refine FL_nil (Qseq_normal ?_)
  refine FW_seq ?_
  refine FW_seq ?_
  refine FW_region ?_
  refine FL_move (h := ?_)
  refine FL_val (Gives.neq rfl rfl) rfl ?_
  refine FL_move (h := ?_)
  first | refine FL_splitP (t := 11) rfl (fun hs12 => ?_) (fun hs12 => ?_) | refine FL_split (t := 11) rfl (fun hs12 => ?_) (fun hs12 => ?_)
  · skip
    exact absurd hs12 (by decide) --done
  · skip
    refine FL_on rfl rfl ?_
    refine FL_move (h := ?_)
    refine FL_on rfl rfl ?_
    refine FL_move (h := ?_)
    refine FL_on rfl rfl ?_
    refine FL_call1 H3 At0 (fun F' hp hF' => writes_ok good_new ((small_new 5).mono (by omega)) hl (hr.keepS H3.kept fun _ _ _ => id) (Off.of (F := F') (S := noB) (fun _ _ _ => id) hr (fun b hb => hF' b hb) (by decide)) hp) (h := fun w17 H17 => ?_)
    refine FL_on rfl rfl ?_
    first | refine FL_val (Gives.notP rfl) rfl ?_ | refine FL_val (Gives.not rfl) rfl ?_
    refine FL_pickF (h := ?_)
    refine FL_move (h := ?_)
    first | refine FL_splitP (t := 17) rfl (fun hs21 => ?_) (fun hs21 => ?_) | refine FL_split (t := 17) rfl (fun hs21 => ?_) (fun hs21 => ?_)
    · skip
      exact absurd hs21 (by decide) --done
    · skip
      refine FL_on rfl rfl ?_
      refine FL_move (h := ?_)
      refine FL_on rfl rfl ?_
      refine FL_call1 H17 At0 (v := I 0) (q := diskH p (fiveM l)) (fun F' hp _ => five_flush hps hsm hp) (h := fun w25 H25 => ?_)
      refine FL_on rfl rfl ?_
      refine FL_val (Gives.neq rfl rfl) rfl ?_
      refine FL_pickF (h := ?_)
      refine FL_nil (Qseq_normal ?_)
      first | refine FW_condP rfl (fun hc28 => ?_) (fun hc28 => ?_) | refine FW_cond rfl (fun hc28 => ?_) (fun hc28 => ?_)
      · skip
        exact absurd hc28 (by decide) --done
      · skip
        refine FW_skip (Qseq_normal ?_)
        refine FW_seq ?_
        refine FW_region ?_
        refine FL_move (h := ?_)
        refine FL_assign (h := ?_)
        refine FL_nil (Qseq_normal ?_)
        refine FW_ret (Qfn_ret (hR := ?_))
        exact ⟨p, rfl, trivial, H25.turn⟩
end
end Go.Proofs.Yteflbohpabdjkaa
/-
  The chapter's examples, walked.
-/
namespace Go.Proofs.Yteflbohpabdjkaa
open Go Go.Mw
set_option maxRecDepth 8000

def k0 : DM := DM.new 2
def k1 : DM := (k0.write 0 [1]).2
def k2 : DM := k1.flush.2
def k3 : DM := (k2.write 0 [2]).2
def k4 : DM := (k3.write 1 [3]).2
def k5 : DM := k4.crash [1, 7]
def k6 : DM := k5.boot
def k7 : DM := k6.failAt 2 [0]
def k8 : DM := (k7.write 0 [5]).2
def k9 : DM := k8.flush.2
def k10 : DM := k9.boot
theorem pair_eq {α β : Type} {x : α × β} {a : α} (h : x.1 = a) : x = (a, x.2) := by rw [← h]
theorem k01 : k0.write 0 [1] = (0, k1) := pair_eq (by kernel_rfl)
theorem k12 : k1.flush = (0, k2) := pair_eq (by kernel_rfl)
theorem k23 : k2.write 0 [2] = (0, k3) := pair_eq (by kernel_rfl)
theorem k34 : k3.write 1 [3] = (0, k4) := pair_eq (by kernel_rfl)
theorem k78 : k7.write 0 [5] = (0, k8) := pair_eq (by kernel_rfl)
theorem k89 : k8.flush = (290, k9) := pair_eq (by kernel_rfl)
theorem k1010 : k10.write 2 [] = (6, k10) := by kernel_rfl
theorem k1011 : k10.write 0 (List.replicate 129 0) = (5, k10) := by kernel_rfl
theorem kb4 : beginsM k4 0 2 = true := by kernel_rfl
theorem kb60 : beginsM k6 0 1 = true := by kernel_rfl
theorem kb61 : beginsM k6 1 3 = true := by kernel_rfl
theorem kb10 : beginsM k10 0 5 = true := by kernel_rfl
theorem ks0 : k0.small 100 := by unfold DM.small; decide
theorem ks1 : k1.small 100 := by unfold DM.small; decide
theorem ks2 : k2.small 100 := by unfold DM.small; decide
theorem ks3 : k3.small 100 := by unfold DM.small; decide
theorem ks4 : k4.small 100 := by unfold DM.small; decide
theorem ks6 : k6.small 100 := by unfold DM.small; decide
theorem ks7 : k7.small 100 := by unfold DM.small; decide
theorem ks8 : k8.small 100 := by unfold DM.small; decide
theorem ks10 : k10.small 100 := by unfold DM.small; decide
theorem ka5 : (!k5.dead) = false := by kernel_rfl
theorem ka6 : (!k6.dead) = true := by kernel_rfl
theorem ko10 : k10.ops = 6 := by kernel_rfl
section
variable {p : Nat} {d : DM} {F : Nat → Prop} {w w₀ : World} {S : Nat → Prop} {rs : List HP}
theorem write_at {a e : Int} {b : List UInt8} {A : Option Addr} {c : Nat} {d' : DM} (hs : d.small 1000000) (hd : d.write a b = (e, d')) (hr : RowAt w A b.length 1 (b.map B)) (hA : Off A b.length F) (h : (diskH p d).ok F w) :
    Rets Try.prog 24 [.pointer (some ⟨p, 0, none⟩), I a, .slice A b.length c] w fun v w' => v = I e ∧ Turn F (diskH p d') w w' := by
  have h1 := write_ok (c := c) (at_ := a) (by have := hs.1; omega) (by have := hs.2.1; omega) (by have := hs.2.2; unfold fits; omega) hr hA h
  rw [hd] at h1
  exact h1
theorem flush_at {e : Int} {d' : DM} (hs : d.small 1000000) (hd : d.flush = (e, d')) (h : (diskH p d).ok F w) :
    Rets Try.prog 28 [.pointer (some ⟨p, 0, none⟩)] w fun v w' => v = I e ∧ Turn F (diskH p d') w w' := by
  have h1 := flush_ok (by have := hs.1; omega) (by have := hs.2.1; omega) (by have := hs.2.2; unfold fits; omega) h
  rw [hd] at h1
  exact h1
theorem begins_at {put : HP → List HP} {at_ : Int} {c : UInt8} {b : Bool} (H : Sep w₀ S rs w) (hat : At rs (diskH p d) put) (hb : beginsM d at_ c = b) : Rets Try.prog 61 [.pointer (some ⟨p, 0, none⟩), I at_, B c] w fun v w' => v = .bool b ∧ Kept noB w w' := by
  obtain ⟨F, hp, _⟩ := H.focus hat
  have := begins_ok hp at_ c
  rw [hb] at this
  exact this
theorem alive_at {put : HP → List HP} {b : Bool} (H : Sep w₀ S rs w) (hat : At rs (diskH p d) put) (hb : (!d.dead) = b) : Rets Try.prog 29 [.pointer (some ⟨p, 0, none⟩)] w fun v w' => v = .bool b ∧ Kept noB w w' := by
  obtain ⟨F, hp, _⟩ := H.focus hat
  refine Rets.mono (alive_ok hp) fun v w' ⟨h1, h2⟩ => ?_
  subst h2
  exact ⟨by rw [h1, hb], Kept.refl _ _⟩
theorem ops_at {put : HP → List HP} {k : Int} (H : Sep w₀ S rs w) (hat : At rs (diskH p d) put) (hb : d.ops = k) : Rets Try.prog 30 [.pointer (some ⟨p, 0, none⟩)] w fun v w' => v = I k ∧ Kept noB w w' := by
  obtain ⟨F, hp, _⟩ := H.focus hat
  refine Rets.mono (ops_ok hp) fun v w' ⟨h1, h2⟩ => ?_
  subst h2
  exact ⟨by rw [h1, hb], Kept.refl _ _⟩
theorem read_at {put : HP → List HP} (H : Sep w₀ S rs w) (hat : At rs (diskH p d) put) (at_ : Int) : Rets Try.prog 37 [.pointer (some ⟨p, 0, none⟩), I at_] w fun v w' => ∃ s, v = .tuple #[s, I (d.read at_).2] ∧ True ∧ Turn noB (rowH 99 1 s ((d.read at_).1.getD []).length (((d.read at_).1.getD []).map B)) w w' := by
  obtain ⟨F, hp, _⟩ := H.focus hat
  exact read_ok hp
set_option maxHeartbeats 4000000 in
theorem works_ok : Rets Try.prog 17 [] w fun v w' => v = .bool true ∧ Kept noB w w' := by
  have H := Sep.start0 w
  refine rets0 Try.func17 rfl rfl rfl ?_
  refine FW_seq ?_
  refine FW_region ?_
  refine FL_assign (h := ?_)
  refine FL_nil (Qseq_normal ?_)
  refine FW_seq ?_
  refine FW_region ?_
  refine FL_callN H (new_ok 2 (by omega)) rfl rfl (fun p w3 _ H3 _ => ?_)
  refine FL_move (h := ?_)
  refine FL_val (Gives.extract rfl rfl) rfl ?_
  refine FL_val (Gives.extract rfl rfl) rfl ?_
  refine FL_assign (h := ?_)
  refine FL_assign (h := ?_)
  refine FL_nil (Qseq_normal ?_)
  refine FW_cut (fun _ : Unit => [(1, .pointer (some ⟨p, 0, none⟩))]) (fun _ w' => Sep w noB [diskH p k4] w') ?_ ?_
  · skip
    refine FW_seq ?_
    refine FW_region ?_
    refine FL_move (h := ?_)
    refine FL_val (Gives.neq rfl rfl) rfl ?_
    refine FL_move (h := ?_)
    first | refine FL_splitP (t := 11) rfl (fun hs13 => ?_) (fun hs13 => ?_) | refine FL_split (t := 11) rfl (fun hs13 => ?_) (fun hs13 => ?_)
    · skip
      exact absurd hs13 (by decide) --done
    · skip
      refine FL_on rfl rfl ?_
      refine FL_move (h := ?_)
      refine FL_on rfl rfl ?_
      refine FL_val (Gives.eqlNil rfl rfl) rfl ?_
      refine FL_pickF (h := ?_)
      refine FL_move (h := ?_)
      first | refine FL_splitP (t := 15) rfl (fun hs19 => ?_) (fun hs19 => ?_) | refine FL_split (t := 15) rfl (fun hs19 => ?_) (fun hs19 => ?_)
      · skip
        cases hs19 --done
      · skip
        refine FL_on rfl rfl ?_
        refine FL_move (h := ?_)
        refine FL_on rfl rfl ?_
        refine FL_buildSlice H3 (Elems.one rfl rfl Elems.nil) rfl rfl rfl (fun b22 w23 H23 _ => ?_)
        refine FL_on rfl rfl ?_
        refine FL_call1R (us := [1].map B) (m := 1) (Sep.asRow H23 At0 (s := 1) (n := 1) rfl (by decide)) At0 (fun F' hp hrr hoff => write_at (b := [1]) (c := 1) (ks0.mono (by decide)) k01 hrr hoff hp) (h := fun w25 H0 => ?_)
        have H25 := H0.drop0
        refine FL_on rfl rfl ?_
        refine FL_val (Gives.neq rfl rfl) rfl ?_
        refine FL_pickF (h := ?_)
        refine FL_move (h := ?_)
        first | refine FL_splitP (t := 21) rfl (fun hs29 => ?_) (fun hs29 => ?_) | refine FL_split (t := 21) rfl (fun hs29 => ?_) (fun hs29 => ?_)
        · skip
          exact absurd hs29 (by decide) --done
        · skip
          refine FL_on rfl rfl ?_
          refine FL_move (h := ?_)
          refine FL_on rfl rfl ?_
          refine FL_call1 H25 At0 (fun F' hp _ => flush_at (ks1.mono (by decide)) k12 hp) (h := fun w33 H33 => ?_)
          refine FL_on rfl rfl ?_
          refine FL_val (Gives.neq rfl rfl) rfl ?_
          refine FL_pickF (h := ?_)
          refine FL_move (h := ?_)
          first | refine FL_splitP (t := 26) rfl (fun hs37 => ?_) (fun hs37 => ?_) | refine FL_split (t := 26) rfl (fun hs37 => ?_) (fun hs37 => ?_)
          · skip
            exact absurd hs37 (by decide) --done
          · skip
            refine FL_on rfl rfl ?_
            refine FL_move (h := ?_)
            refine FL_on rfl rfl ?_
            refine FL_buildSlice H33 (Elems.one rfl rfl Elems.nil) rfl rfl rfl (fun b40 w41 H41 _ => ?_)
            refine FL_on rfl rfl ?_
            refine FL_call1R (us := [2].map B) (m := 1) (Sep.asRow H41 At0 (s := 1) (n := 1) rfl (by decide)) At0 (fun F' hp hrr hoff => write_at (b := [2]) (c := 1) (ks2.mono (by decide)) k23 hrr hoff hp) (h := fun w43 H0 => ?_)
            have H43 := H0.drop0
            refine FL_on rfl rfl ?_
            refine FL_val (Gives.neq rfl rfl) rfl ?_
            refine FL_pickF (h := ?_)
            refine FL_move (h := ?_)
            first | refine FL_splitP (t := 32) rfl (fun hs47 => ?_) (fun hs47 => ?_) | refine FL_split (t := 32) rfl (fun hs47 => ?_) (fun hs47 => ?_)
            · skip
              exact absurd hs47 (by decide) --done
            · skip
              refine FL_on rfl rfl ?_
              refine FL_move (h := ?_)
              refine FL_on rfl rfl ?_
              refine FL_buildSlice H43 (Elems.one rfl rfl Elems.nil) rfl rfl rfl (fun b50 w51 H51 _ => ?_)
              refine FL_on rfl rfl ?_
              refine FL_call1R (us := [3].map B) (m := 1) (Sep.asRow H51 At0 (s := 1) (n := 1) rfl (by decide)) At0 (fun F' hp hrr hoff => write_at (b := [3]) (c := 1) (ks3.mono (by decide)) k34 hrr hoff hp) (h := fun w53 H0 => ?_)
              have H53 := H0.drop0
              refine FL_on rfl rfl ?_
              refine FL_val (Gives.neq rfl rfl) rfl ?_
              refine FL_pickF (h := ?_)
              refine FL_move (h := ?_)
              first | refine FL_splitP (t := 38) rfl (fun hs57 => ?_) (fun hs57 => ?_) | refine FL_split (t := 38) rfl (fun hs57 => ?_) (fun hs57 => ?_)
              · skip
                exact absurd hs57 (by decide) --done
              · skip
                refine FL_on rfl rfl ?_
                refine FL_move (h := ?_)
                refine FL_on rfl rfl ?_
                refine FL_callQ H53 (begins_at H53 At0 kb4) (h := fun w61 H61 _ => ?_)
                refine FL_on rfl rfl ?_
                first | refine FL_val (Gives.notP rfl) rfl ?_ | refine FL_val (Gives.not rfl) rfl ?_
                refine FL_pickF (h := ?_)
                refine FL_nil (Qseq_normal ?_)
                first | refine FW_condP rfl (fun hc64 => ?_) (fun hc64 => ?_) | refine FW_cond rfl (fun hc64 => ?_) (fun hc64 => ?_)
                · skip
                  exact absurd hc64 (by decide) --done
                · skip
                  refine FW_skip ?_
                  exact Qcut_normal () ⟨rfl, trivial⟩ H61
  · skip
    intro _ τ w68 H68
    simp only [upds, like, upd_ds, und_ds]
    refine FW_seq ?_
    refine FW_region ?_
    refine FL_move (h := ?_)
    refine FL_buildSlice H68 (Elems.one rfl rfl (Elems.one rfl rfl Elems.nil)) rfl rfl rfl (fun b70 w71 H71 _ => ?_)
    refine FL_call1R (us := [1, 7].map I) (m := 2) (Sep.asRow H71 At0 (s := 1) (n := 2) rfl (by decide)) At0 (fun F' hp hrr hoff => crash_ok (d := k4) (keep := [1, 7]) (c := 2) (Nat.le_trans ks4.1 (by decide)) (by decide) hrr hoff hp) (h := fun w73 H0 => ?_)
    have H73 : Sep w noB [diskH p k5] w73 := H0.drop0
    refine FL_nil (Qseq_normal ?_)
    refine FW_seq ?_
    refine FW_region ?_
    refine FL_move (h := ?_)
    refine FL_callN H73 (read_at H73 At0 0) rfl rfl (fun y w76 _ H0 _ => ?_)
    have H76 := H0.drop0
    refine FL_move (h := ?_)
    refine FL_val (Gives.extract rfl rfl) rfl ?_
    refine FL_val (Gives.extract rfl rfl) rfl ?_
    refine FL_assign (h := ?_)
    refine FL_assign (h := ?_)
    refine FL_nil (Qseq_normal ?_)
    refine FW_cut (fun _ : Unit => [(1, .pointer (some ⟨p, 0, none⟩))]) (fun _ w' => Sep w noB [diskH p k5] w') ?_ ?_
    · skip
      refine FW_seq ?_
      refine FW_region ?_
      refine FL_move (h := ?_)
      refine FL_callQ H76 (alive_at H76 At0 ka5) (h := fun w85 H85 _ => ?_)
      refine FL_move (h := ?_)
      first | refine FL_splitP (t := 53) rfl (fun hs87 => ?_) (fun hs87 => ?_) | refine FL_split (t := 53) rfl (fun hs87 => ?_) (fun hs87 => ?_)
      · skip
        exact absurd hs87 (by decide) --done
      · skip
        refine FL_on rfl rfl ?_
        refine FL_move (h := ?_)
        refine FL_on rfl rfl ?_
        refine FL_val (Gives.neq rfl rfl) rfl ?_
        refine FL_pickF (h := ?_)
        refine FL_nil (Qseq_normal ?_)
        first | refine FW_condP rfl (fun hc92 => ?_) (fun hc92 => ?_) | refine FW_cond rfl (fun hc92 => ?_) (fun hc92 => ?_)
        · skip
          exact absurd hc92 (by decide) --done
        · skip
          refine FW_skip ?_
          exact Qcut_normal () ⟨rfl, trivial⟩ H85
    · skip
      intro _ τ w96 H96
      simp only [upds, like, upd_ds]
      refine FW_seq ?_
      refine FW_region ?_
      refine FL_move (h := ?_)
      refine FL_call1 H96 At0 (q := diskH p k6) (fun F' hp _ => boot_ok hp) (h := fun w99 H99 => ?_)
      refine FL_nil (Qseq_normal ?_)
      refine FW_cut (fun _ : Unit => [(1, .pointer (some ⟨p, 0, none⟩))]) (fun _ w' => Sep w noB [diskH p k6] w') ?_ ?_
      · skip
        refine FW_seq ?_
        refine FW_region ?_
        refine FL_move (h := ?_)
        refine FL_callQ H99 (alive_at H99 At0 ka6) (h := fun w103 H103 _ => ?_)
        first | refine FL_val (Gives.notP rfl) rfl ?_ | refine FL_val (Gives.not rfl) rfl ?_
        refine FL_move (h := ?_)
        first | refine FL_splitP (t := 62) rfl (fun hs106 => ?_) (fun hs106 => ?_) | refine FL_split (t := 62) rfl (fun hs106 => ?_) (fun hs106 => ?_)
        · skip
          exact absurd hs106 (by decide) --done
        · skip
          refine FL_on rfl rfl ?_
          refine FL_move (h := ?_)
          refine FL_on rfl rfl ?_
          refine FL_callQ H103 (begins_at H103 At0 kb60) (h := fun w110 H110 _ => ?_)
          refine FL_on rfl rfl ?_
          first | refine FL_val (Gives.notP rfl) rfl ?_ | refine FL_val (Gives.not rfl) rfl ?_
          refine FL_pickF (h := ?_)
          refine FL_move (h := ?_)
          first | refine FL_splitP (t := 67) rfl (fun hs114 => ?_) (fun hs114 => ?_) | refine FL_split (t := 67) rfl (fun hs114 => ?_) (fun hs114 => ?_)
          · skip
            exact absurd hs114 (by decide) --done
          · skip
            refine FL_on rfl rfl ?_
            refine FL_move (h := ?_)
            refine FL_on rfl rfl ?_
            refine FL_callQ H110 (begins_at H110 At0 kb61) (h := fun w118 H118 _ => ?_)
            refine FL_on rfl rfl ?_
            first | refine FL_val (Gives.notP rfl) rfl ?_ | refine FL_val (Gives.not rfl) rfl ?_
            refine FL_pickF (h := ?_)
            refine FL_nil (Qseq_normal ?_)
            first | refine FW_condP rfl (fun hc121 => ?_) (fun hc121 => ?_) | refine FW_cond rfl (fun hc121 => ?_) (fun hc121 => ?_)
            · skip
              exact absurd hc121 (by decide) --done
            · skip
              refine FW_skip ?_
              exact Qcut_normal () ⟨rfl, trivial⟩ H118
      · skip
        intro _ τ w125 H125
        simp only [upds, like, upd_ds]
        refine FW_seq ?_
        refine FW_region ?_
        refine FL_move (h := ?_)
        refine FL_buildSlice H125 (Elems.one rfl rfl Elems.nil) rfl rfl rfl (fun b127 w128 H128 _ => ?_)
        refine FL_call1R (us := [0].map I) (m := 1) (Sep.asRow H128 At0 (s := 1) (n := 1) rfl (by decide)) At0 (q := diskH p k7) (fun F' hp hrr hoff => fail_ok (d := k6) (keep := [0]) (c := 1) (by have := ks6.2.2; omega) (by decide) hrr hoff hp) (h := fun w130 H0 => ?_)
        have H130 := H0.drop0
        refine FL_nil (Qseq_normal ?_)
        refine FW_cut (fun _ : Unit => [(1, .pointer (some ⟨p, 0, none⟩))]) (fun _ w' => Sep w noB [diskH p k9] w') ?_ ?_
        · skip
          refine FW_seq ?_
          refine FW_region ?_
          refine FL_move (h := ?_)
          refine FL_buildSlice H130 (Elems.one rfl rfl Elems.nil) rfl rfl rfl (fun b133 w134 H134 _ => ?_)
          refine FL_call1R (us := [5].map B) (m := 1) (Sep.asRow H134 At0 (s := 1) (n := 1) rfl (by decide)) At0 (fun F' hp hrr hoff => write_at (b := [5]) (c := 1) (ks7.mono (by decide)) k78 hrr hoff hp) (h := fun w136 H0 => ?_)
          have H136 := H0.drop0
          refine FL_val (Gives.neq rfl rfl) rfl ?_
          refine FL_move (h := ?_)
          first | refine FL_splitP (t := 79) rfl (fun hs139 => ?_) (fun hs139 => ?_) | refine FL_split (t := 79) rfl (fun hs139 => ?_) (fun hs139 => ?_)
          · skip
            exact absurd hs139 (by decide) --done
          · skip
            refine FL_on rfl rfl ?_
            refine FL_move (h := ?_)
            refine FL_on rfl rfl ?_
            refine FL_call1 H136 At0 (fun F' hp _ => flush_at (ks8.mono (by decide)) k89 hp) (h := fun w143 H143 => ?_)
            refine FL_on rfl rfl ?_
            refine FL_val (Gives.neq rfl rfl) rfl ?_
            refine FL_pickF (h := ?_)
            refine FL_nil (Qseq_normal ?_)
            first | refine FW_condP rfl (fun hc146 => ?_) (fun hc146 => ?_) | refine FW_cond rfl (fun hc146 => ?_) (fun hc146 => ?_)
            · skip
              exact absurd hc146 (by decide) --done
            · skip
              refine FW_skip ?_
              exact Qcut_normal () ⟨rfl, trivial⟩ H143
        · skip
          intro _ τ w150 H150
          simp only [upds, like, upd_ds]
          refine FW_seq ?_
          refine FW_region ?_
          refine FL_move (h := ?_)
          refine FL_call1 H150 At0 (q := diskH p k10) (fun F' hp _ => boot_ok hp) (h := fun w153 H153 => ?_)
          refine FL_nil (Qseq_normal ?_)
          refine FW_seq ?_
          refine FW_region ?_
          refine FL_move (h := ?_)
          refine FL_callQ H153 (begins_at H153 At0 kb10) (h := fun w156 H156 _ => ?_)
          refine FL_move (h := ?_)
          first | refine FL_splitP (t := 88) rfl (fun hs158 => ?_) (fun hs158 => ?_) | refine FL_split (t := 88) rfl (fun hs158 => ?_) (fun hs158 => ?_)
          · skip
            refine FL_on rfl rfl ?_
            refine FL_move (h := ?_)
            refine FL_on rfl rfl ?_
            refine FL_callQ H156 (ops_at H156 At0 ko10) (h := fun w161 H161 _ => ?_)
            refine FL_on rfl rfl ?_
            refine FL_val (Gives.eql rfl rfl) rfl ?_
            refine FL_pickT (h := ?_)
            refine FL_move (h := ?_)
            first | refine FL_splitP (t := 93) rfl (fun hs165 => ?_) (fun hs165 => ?_) | refine FL_split (t := 93) rfl (fun hs165 => ?_) (fun hs165 => ?_)
            · skip
              refine FL_on rfl rfl ?_
              refine FL_move (h := ?_)
              refine FL_on rfl rfl ?_
              refine FL_call1 H161 At0 (fun F' hp _ => write_at (b := []) (A := none) (c := 0) (ks10.mono (by decide)) k1010 (RowAt.nil _ _ _) (fun h => absurd h (by decide)) hp) (h := fun w168 H168 => ?_)
              refine FL_on rfl rfl ?_
              refine FL_val (Gives.eql rfl rfl) rfl ?_
              refine FL_pickT (h := ?_)
              refine FL_move (h := ?_)
              first | refine FL_splitP (t := 98) rfl (fun hs172 => ?_) (fun hs172 => ?_) | refine FL_split (t := 98) rfl (fun hs172 => ?_) (fun hs172 => ?_)
              · skip
                refine FL_on rfl rfl ?_
                refine FL_move (h := ?_)
                refine FL_on rfl rfl ?_
                refine FL_make1 H168 (k := 129) (by decide) (by decide) (h := ?_)
                intro bb w175 H175 _
                refine FL_on rfl rfl ?_
                refine FL_call1R (us := (List.replicate 129 0).map B) (m := 129) (Sep.asRow H175 At0 (s := 1) (n := 129) rfl (by decide)) At0 (fun F' hp hrr hoff => write_at (b := List.replicate 129 0) (c := 129) (ks10.mono (by decide)) k1011 hrr hoff hp) (h := fun w177 H0 => ?_)
                have H177 := H0.drop0
                refine FL_on rfl rfl ?_
                refine FL_val (Gives.eql rfl rfl) rfl ?_
                refine FL_pickT (h := ?_)
                refine FL_move (h := ?_)
                first | refine FL_splitP (t := 104) rfl (fun hs181 => ?_) (fun hs181 => ?_) | refine FL_split (t := 104) rfl (fun hs181 => ?_) (fun hs181 => ?_)
                · skip
                  refine FL_on rfl rfl ?_
                  refine FL_move (h := ?_)
                  refine FL_on rfl rfl ?_
                  refine FL_callQ H177 (ops_at H177 At0 ko10) (h := fun w184 H184 _ => ?_)
                  refine FL_on rfl rfl ?_
                  refine FL_val (Gives.eql rfl rfl) rfl ?_
                  refine FL_pickT (h := ?_)
                  refine FL_assign (h := ?_)
                  refine FL_nil (Qseq_normal ?_)
                  refine FW_ret (Qfn_ret (hR := ?_))
                  exact ⟨rfl, H184.kept⟩
                · skip
                  exact absurd hs181 (by decide) --done
              · skip
                exact absurd hs172 (by decide) --done
            · skip
              exact absurd hs165 (by decide) --done
          · skip
            exact absurd hs158 (by decide) --done
end
end Go.Proofs.Yteflbohpabdjkaa
/-
  DiskKeeps, walked; and the plain law under it.
-/
namespace Go.Proofs.Yteflbohpabdjkaa
open Go Go.Mw
set_option maxRecDepth 8000

/-- What shows is what would stay, were all kept. -/
def DM.sync (d : DM) : Prop := DM.keptAll d.opn d.kept = d.now
theorem sync_new (n : Int) : (DM.new n).sync := rfl
theorem sync_put1 {d : DM} (h : d.sync) (a : Int) (b : List UInt8) : (d.put1 a b).sync := by
  show DM.keptAll (d.opn ++ [(a, pad b)]) d.kept = setAt d.now a (pad b)
  rw [keptAll_append, show DM.keptAll d.opn d.kept = d.now from h]
  rfl
theorem sync_puts {d : DM} (h : d.sync) (l : List PutM) : (d.puts l).sync := by
  induction l generalizing d with
  | nil => exact h
  | cons x l ih => exact ih (sync_put1 h _ _)
theorem sync_flushed {d : DM} (h : d.sync) : d.flushed.kept = d.flushed.now ∧ d.flushed.now = d.now := ⟨h, rfl⟩
theorem five_sync (l : List PutM) : (fiveM l).kept = (fiveM l).now ∧ (fiveM l).opn = [] := ⟨(sync_flushed (sync_puts (sync_new 5) _)).1, rfl⟩
theorem secsTo_congr {d e : DM} (h : d.now = e.now) : ∀ k, secsTo d k = secsTo e k
  | 0 => rfl
  | k + 1 => by simp only [secsTo, secsTo_congr h k, DM.sec, h]
theorem secB_good {d : DM} (h : d.good) : secB d = secsTo d 5 := by
  unfold secB
  rw [if_pos ⟨h.2.1, by rw [h.2.2.1]; decide⟩]
theorem crash_good {d : DM} (h : d.good) (keep : List Int) : d.crash keep = d.fall keep := by
  unfold DM.crash
  rw [h.2.1, if_neg (by simp)]
theorem good_fall {d : DM} (h : d.good) (keep : List Int) : (d.fall keep).boot.good := ⟨h.1.fall keep, rfl, h.2.2.1, rfl, h.2.2.2.2⟩
theorem secB_crash {d : DM} (h : d.good) (keep : List Int) : secB ((d.crash keep).boot) = secsTo { d with now := keptBy keep 0 d.opn d.kept } 5 := by
  rw [crash_good h, secB_good (good_fall h keep)]
  exact secsTo_congr rfl 5
theorem keeps_law (l : List PutM) (keep : List Int) : secB (((fiveM l).crash keep).boot) = secB (fiveM l) := by
  rw [secB_crash (good_five l), secB_good (good_five l)]
  refine secsTo_congr ?_ 5
  show keptBy keep 0 (fiveM l).opn (fiveM l).kept = (fiveM l).now
  rw [(five_sync l).2, (five_sync l).1]
  rfl
theorem secB_len {d : DM} (h : d.good) : (secB d).length = 640 := by rw [secB_good h, secsTo_length h.1]
section
variable {p : Nat} {d : DM} {F : Nat → Prop} {w w₀ : World} {S : Nat → Prop} {rs : List HP} {put : HP → List HP}
theorem sectors_at (H : Sep w₀ S rs w) (hat : At rs (diskH p d) put) : Rets Try.prog 19 [.pointer (some ⟨p, 0, none⟩)] w fun v w' => ∃ v', v = v' ∧ True ∧ Turn noB (rowH 5 1 v' (secB d).length ((secB d).map B)) w w' := by
  obtain ⟨F, hp, _⟩ := H.focus hat
  exact sectors_ok hp
/-- A crash, with numbers that stand in a row outside. -/
theorem crash_at {A : Option Addr} {c : Nat} {keep : List Int} (hs : d.small 1000000) (H : Sep w₀ S rs w) (hkl : keep.length ≤ 1000000) (hr : RowAt w₀ A keep.length 1 (keep.map I)) (hA : Off A keep.length S) (h : (diskH p d).ok F w) (hF : ∀ b, F b → S b ∨ w₀.heap.size ≤ b) :
    Rets Try.prog 20 [.pointer (some ⟨p, 0, none⟩), .slice A keep.length c] w fun v w' => v = .tuple #[] ∧ Turn F (diskH p (d.crash keep)) w w' :=
  crash_ok (by have := hs.1; omega) (by omega) (hr.keepS H.kept hA) (hA.of hr hF (by decide)) h
theorem eqBytes_at {A A' : Option Addr} {c c' n n' : Nat} {a b : List UInt8} (ha : RowAt w A n 1 (a.map B)) (hb : RowAt w A' n' 1 (b.map B)) : Rets Try.prog 22 [.slice A n c, .slice A' n' c'] w fun v w' => v = .bool (a == b) ∧ w = w' := by
  have h1 : n = a.length := by have := ha.len; simp at this; exact this.symm
  have h2 : n' = b.length := by have := hb.len; simp at this; exact this.symm
  subst h1 h2
  exact eqBytes_ok ha hb
theorem min100 (n : Nat) : min (n : Int) 100 = ((min n 100 : Nat) : Int) := by omega
theorem take_map (keep : List Int) (n : Nat) : (keep.map I).take (n * 1) = (keep.take n).map I := by rw [Nat.mul_one, List.map_take]
set_option maxHeartbeats 2000000 in
theorem keeps_ok {A K : Option Addr} {c ck : Nat} {l : List PutM} {keep : List Int} (hl : ∀ x ∈ l, x.fit) (hr : RowAt w A l.length 3 (putCells l)) (hk : RowAt w K keep.length 1 (keep.map I)) (hck : keep.length ≤ ck) :
    Rets Try.prog 3 [.slice A l.length c, .slice K keep.length ck] w fun v w' => v = .bool true ∧ Kept noB w w' := by
  have H := Sep.start0 w
  refine rets2 Try.func3 rfl rfl rfl rfl ?_
  have hm : min keep.length 100 = (keep.take (min keep.length 100)).length := by rw [List.length_take]; omega
  refine FW_seq ?_
  refine FW_region ?_
  refine FL_assign (h := ?_)
  refine FL_nil (Qseq_normal ?_)
  refine FW_seq ?_
  refine FW_seq ?_
  refine FW_region ?_
  refine FL_callQ H works_ok (h := fun w3 H3 _ => ?_)
  first | refine FL_val (Gives.notP rfl) rfl ?_ | refine FL_val (Gives.not rfl) rfl ?_
  refine FL_nil (Qseq_normal ?_)
  first | refine FW_condP rfl (fun hc5 => ?_) (fun hc5 => ?_) | refine FW_cond rfl (fun hc5 => ?_) (fun hc5 => ?_)
  · skip
    exact absurd hc5 (by decide) --done
  · skip
    refine FW_skip (Qseq_normal ?_)
    refine FW_seq ?_
    refine FW_region ?_
    refine FL_move (h := ?_)
    refine FL_callN H3 (five_ok hl (hr.keepS H3.kept fun _ _ _ => id)) rfl rfl (fun p w9 _ H9 _ => ?_)
    refine FL_assign (h := ?_)
    refine FL_nil (Qseq_normal ?_)
    refine FW_seq ?_
    refine FW_seq ?_
    refine FW_region ?_
    refine FL_move (h := ?_)
    refine FL_val (Gives.eqlNil rfl rfl) rfl ?_
    refine FL_nil (Qseq_normal ?_)
    first | refine FW_condP rfl (fun hc13 => ?_) (fun hc13 => ?_) | refine FW_cond rfl (fun hc13 => ?_) (fun hc13 => ?_)
    · skip
      cases hc13 --done
    · skip
      refine FW_skip (Qseq_normal ?_)
      refine FW_seq ?_
      refine FW_region ?_
      refine FL_move (h := ?_)
      refine FL_callN H9 (sectors_at H9 At0) rfl rfl (fun y w17 _ H17 _ => ?_)
      obtain ⟨Ay, cy, hy, _⟩ := Sep.rowForm H17 At0
      subst hy
      refine FL_assign (h := ?_)
      refine FL_nil (Qseq_normal ?_)
      refine FW_seq ?_
      refine FW_region ?_
      refine FL_move (h := ?_)
      refine FL_move (h := ?_)
      refine FL_move (h := ?_)
      refine FL_val (Gives.lenSlice rfl) rfl ?_
      refine FL_val (Gives.min rfl rfl) rfl ?_
      rw [min100]
      refine FL_val (Gives.sliceTo rfl rfl (by omega)) rfl ?_
      rw [hm]
      refine FL_call1 H17 At1 (fun F' hp hF' => crash_at (A := K) (c := ck) (keep := keep.take (min keep.length 100)) ((small_five l).mono (by decide)) H17 (by rw [List.length_take]; omega) (by rw [← hm, ← take_map]; exact hk.take (by omega)) (fun _ _ _ => id) hp hF') (h := fun w26 H26 => ?_)
      refine FL_nil (Qseq_normal ?_)
      refine FW_seq ?_
      refine FW_region ?_
      refine FL_move (h := ?_)
      refine FL_call1 H26 At1 (fun F' hp _ => boot_ok hp) (h := fun w29 H29 => ?_)
      refine FL_nil (Qseq_normal ?_)
      refine FW_seq ?_
      refine FW_region ?_
      refine FL_move (h := ?_)
      refine FL_callN H29 (sectors_at H29 At1) rfl rfl (fun z w32 _ H32 _ => ?_)
      obtain ⟨Az, cz, hz, _⟩ := Sep.rowForm H32 At0
      subst hz
      refine FL_assign (h := ?_)
      refine FL_nil (Qseq_normal ?_)
      refine FW_seq ?_
      refine FW_region ?_
      refine FL_move (h := ?_)
      refine FL_val (Gives.lenSlice rfl) rfl ?_
      refine FL_val (Gives.eql rfl rfl) rfl ?_
      refine FL_move (h := ?_)
      first | refine FL_splitP (t := 30) rfl (fun hs38 => ?_) (fun hs38 => ?_) | refine FL_split (t := 30) rfl (fun hs38 => ?_) (fun hs38 => ?_)
      · skip
        refine FL_on rfl rfl ?_
        refine FL_move (h := ?_)
        refine FL_on rfl rfl ?_
        refine FL_move (h := ?_)
        refine FL_on rfl rfl ?_
        refine FL_callS (eqBytes_at (H32.rowAt At1) (H32.rowAt At0)) (h := ?_)
        refine FL_pickT (h := ?_)
        refine FL_assign (h := ?_)
        refine FL_nil (Qseq_normal ?_)
        refine FW_ret (Qfn_ret (hR := ?_))
        rw [keeps_law]
        exact ⟨by simp [resPack], H32.kept⟩
      · skip
        exact absurd (by rw [secB_len (good_five l)]; rfl) hs38 --done
end
end Go.Proofs.Yteflbohpabdjkaa
/-
  DiskAlone and DiskAll, walked; and the plain laws under them.
-/
namespace Go.Proofs.Yteflbohpabdjkaa
open Go Go.Mw
set_option maxRecDepth 8000

def twoPuts : List PutM := [⟨0, 9, 128⟩, ⟨1, 8, 3⟩]
theorem puts_kept (d : DM) (l : List PutM) : (d.puts l).kept = d.kept := by
  induction l generalizing d with
  | nil => rfl
  | cons x l ih => exact ih _
theorem puts_opn (d : DM) (l : List PutM) : (d.puts l).opn = d.opn ++ l.map fun x => (x.at_ % 5, pad (putB x)) := by
  induction l generalizing d with
  | nil => simp [DM.puts]
  | cons x l ih =>
    have h := ih (d.put1 (x.at_ % 5) (putB x))
    have e : (d.put1 (x.at_ % 5) (putB x)).opn = d.opn ++ [(x.at_ % 5, pad (putB x))] := rfl
    rw [e] at h
    show ((d.put1 (x.at_ % 5) (putB x)).puts l).opn = _
    rw [h]
    simp
theorem keptBy_all {keep : List Int} : ∀ {k : Nat} {l : List (Int × List UInt8)} {f : Int → Option (List UInt8)}, (∀ i, k ≤ i → i < k + l.length → keep.contains (i : Int) = true) → keptBy keep k l f = DM.keptAll l f
  | _, [], _, _ => rfl
  | k, x :: l, f, h => by
    unfold keptBy DM.keptAll
    rw [if_pos (h k (Nat.le_refl _) (by simp))]
    exact keptBy_all (k := k + 1) (l := l) fun i h1 h2 => h i (by omega) (by simp only [List.length_cons]; omega)
theorem keptBy_none : ∀ {k : Nat} {l : List (Int × List UInt8)} {f : Int → Option (List UInt8)}, keptBy [] k l f = f
  | _, [], _ => rfl
  | k, x :: l, f => by
    unfold keptBy
    rw [if_neg (by simp)]
    exact keptBy_none
/-- All numbers of fifty. -/
def downTo (k : Nat) : List Int := (List.range k).map fun i : Nat => 49 - (i : Int)
theorem downTo_all {i : Nat} (h : i < 50) : (downTo 50).contains (i : Int) = true := by
  rw [List.contains_iff_mem]
  exact List.mem_map.2 ⟨49 - i, List.mem_range.2 (by omega), by omega⟩
theorem downTo_succ (k : Nat) : downTo (k + 1) = downTo k ++ [49 - (k : Int)] := by
  unfold downTo
  rw [List.range_succ, List.map_append]
  rfl
theorem five_opn (l m : List PutM) : ((fiveM l).puts m).opn = m.map fun x => (x.at_ % 5, pad (putB x)) := by
  rw [puts_opn]; rfl
theorem five_sync' (l m : List PutM) : ((fiveM l).puts m).sync := sync_puts (d := fiveM l) (five_sync l).1 m
theorem all_law1 (l m : List PutM) : secB ((((fiveM l).puts (m.take 50)).crash (downTo 50)).boot) = secB ((fiveM l).puts (m.take 50)) := by
  have hg := good_puts (good_five l) (m.take 50)
  rw [secB_crash hg, secB_good hg]
  refine secsTo_congr ?_ 5
  show keptBy (downTo 50) 0 _ _ = _
  rw [keptBy_all fun i _ h => downTo_all (by rw [five_opn] at h; simp at h; omega)]
  exact five_sync' l _
theorem all_law2 (l m : List PutM) : secB ((((fiveM l).puts (m.take 50)).crash []).boot) = secB (fiveM l) := by
  have hg := good_puts (good_five l) (m.take 50)
  rw [secB_crash hg, secB_good (good_five l)]
  refine secsTo_congr ?_ 5
  show keptBy [] 0 _ _ = _
  rw [keptBy_none, puts_kept, (five_sync l).1]
section
variable {p : Nat} {d : DM} {F : Nat → Prop} {w w₀ : World} {S : Nat → Prop} {rs : List HP} {put : HP → List HP}
theorem writes_at {A : Option Addr} {c : Nat} {l : List PutM} (hg : d.good) (hs : d.small 100000) (hl : ∀ x ∈ l, x.fit) (H : Sep w₀ S rs w) (hr : RowAt w₀ A l.length 3 (putCells l)) (hA : Off A l.length S) (h : (diskH p d).ok F w) (hF : ∀ b, F b → S b ∨ w₀.heap.size ≤ b) :
    Rets Try.prog 23 [.pointer (some ⟨p, 0, none⟩), .slice A l.length c] w fun v w' => v = .bool true ∧ Turn F (diskH p (d.puts (l.take 50))) w w' :=
  writes_ok hg hs hl (hr.keepS H.kept hA) (hA.of hr hF (by decide)) h
theorem eqSame {A A' : Option Addr} {c c' n n' : Nat} {a : List UInt8} (ha : RowAt w A n 1 (a.map B)) (hb : RowAt w A' n' 1 (a.map B)) : Rets Try.prog 22 [.slice A n c, .slice A' n' c'] w fun v w' => v = .bool true ∧ w = w' :=
  Rets.mono (eqBytes_at ha hb) fun v w' ⟨h1, h2⟩ => ⟨by rw [h1, beq_self_eq_true], h2⟩
set_option maxHeartbeats 4000000 in
theorem alone_ok {A O K : Option Addr} {c co ck : Nat} {l m : List PutM} {keep : List Int} (hl : ∀ x ∈ l, x.fit) (hr : RowAt w A l.length 3 (putCells l)) (hm : ∀ x ∈ m, x.fit) (hro : RowAt w O m.length 3 (putCells m)) (hk : RowAt w K keep.length 1 (keep.map I)) (hck : keep.length ≤ ck) :
    Rets Try.prog 7 [.slice A l.length c, .slice O m.length co, .slice K keep.length ck] w fun v w' => v = .bool true ∧ Kept noB w w' := by
  have H := Sep.start0 w
  refine rets3 Try.func7 rfl rfl rfl rfl ?_
  have hmn : min keep.length 100 = (keep.take (min keep.length 100)).length := by rw [List.length_take]; omega
  have hg1 := good_five l
  have hs1 := small_five l
  have hg2 := good_puts hg1 (m.take 50)
  have hs2 : ((fiveM l).puts (m.take 50)).small 110 := (small_puts hs1 (m.take 50)).mono (by rw [List.length_take]; omega)
  have hs3 : (((fiveM l).puts (m.take 50)).puts twoPuts).small 112 := small_puts hs2 twoPuts
  have htwo : ∀ x ∈ twoPuts, x.fit := by
    intro x hx
    simp [twoPuts] at hx
    rcases hx with rfl | rfl <;> exact ⟨by unfold fits; decide, by unfold fits; decide, by unfold fits; decide⟩
  refine FW_seq ?_
  refine FW_region ?_
  refine FL_assign (h := ?_)
  refine FL_nil (Qseq_normal ?_)
  refine FW_seq ?_
  refine FW_region ?_
  refine FL_move (h := ?_)
  refine FL_callN H (five_ok hl (hr.keepS H.kept fun _ _ _ => id)) rfl rfl (fun p w4 _ H4 _ => ?_)
  refine FL_assign (h := ?_)
  refine FL_nil (Qseq_normal ?_)
  refine FW_seq ?_
  refine FW_seq ?_
  refine FW_region ?_
  refine FL_move (h := ?_)
  refine FL_val (Gives.eqlNil rfl rfl) rfl ?_
  refine FL_move (h := ?_)
  first | refine FL_splitP (t := 15) rfl (fun hs9 => ?_) (fun hs9 => ?_) | refine FL_split (t := 15) rfl (fun hs9 => ?_) (fun hs9 => ?_)
  · skip
    cases hs9 --done
  · skip
    refine FL_on rfl rfl ?_
    refine FL_move (h := ?_)
    refine FL_on rfl rfl ?_
    refine FL_move (h := ?_)
    refine FL_on rfl rfl ?_
    refine FL_call1 H4 At0 (fun F' hp hF' => writes_at (hg1) (hs1.mono (by decide)) hm H4 hro (fun _ _ _ => id) hp hF') (h := fun w14 H14 => ?_)
    refine FL_on rfl rfl ?_
    first | refine FL_val (Gives.notP rfl) rfl ?_ | refine FL_val (Gives.not rfl) rfl ?_
    refine FL_pickF (h := ?_)
    refine FL_nil (Qseq_normal ?_)
    first | refine FW_condP rfl (fun hc17 => ?_) (fun hc17 => ?_) | refine FW_cond rfl (fun hc17 => ?_) (fun hc17 => ?_)
    · skip
      exact absurd hc17 (by decide) --done
    · skip
      refine FW_skip (Qseq_normal ?_)
      refine FW_seq ?_
      refine FW_region ?_
      refine FL_move (h := ?_)
      refine FL_callN H14 (sectors_at H14 At0) rfl rfl (fun y w21 _ H21 _ => ?_)
      obtain ⟨Ay, cy, hy, _⟩ := Sep.rowForm H21 At0
      subst hy
      refine FL_assign (h := ?_)
      refine FL_nil (Qseq_normal ?_)
      refine FW_seq ?_
      refine FW_region ?_
      refine FL_move (h := ?_)
      refine FL_callT H21 At1 (fun F' hp _ => copy_ok (by have := hs2.1; omega) (by have := hs2.2.1; omega) hp) (h := fun q w25 _ H0 => ?_)
      have H25 := H0.front1.star0
      refine FL_assign (h := ?_)
      refine FL_nil (Qseq_normal ?_)
      refine FW_seq ?_
      refine FW_seq ?_
      refine FW_region ?_
      refine FL_move (h := ?_)
      refine FL_val (Gives.eqlNil rfl rfl) rfl ?_
      refine FL_move (h := ?_)
      first | refine FL_splitP (t := 27) rfl (fun hs30 => ?_) (fun hs30 => ?_) | refine FL_split (t := 27) rfl (fun hs30 => ?_) (fun hs30 => ?_)
      · skip
        cases hs30 --done
      · skip
        refine FL_on rfl rfl ?_
        refine FL_move (h := ?_)
        refine FL_on rfl rfl ?_
        refine FL_val (Gives.build (out := [I 0, I 9, I 128]) (Fills.one rfl rfl rfl (by simp) rfl (Fills.one rfl rfl rfl (by simp) rfl (Fills.one rfl rfl rfl (by simp) rfl Fills.nil)))) rfl ?_
        refine FL_on rfl rfl ?_
        refine FL_val (Gives.build (out := [I 1, I 8, I 3]) (Fills.one rfl rfl rfl (by simp) rfl (Fills.one rfl rfl rfl (by simp) rfl (Fills.one rfl rfl rfl (by simp) rfl Fills.nil)))) rfl ?_
        refine FL_on rfl rfl ?_
        refine FL_buildSlice H25 (Elems.many (us := [I 0, I 9, I 128]) rfl rfl (Elems.many (us := [I 1, I 8, I 3]) rfl rfl Elems.nil)) rfl rfl rfl (fun b35 w36 H36 _ => ?_)
        refine FL_on rfl rfl ?_
        refine FL_call1R (us := putCells twoPuts) (m := 2) (Sep.asRow H36 At0 (s := 3) (n := 2) rfl (by decide)) At0 (fun F' hp hrr hoff => writes_ok (l := twoPuts) (c := 2) hg2 (hs2.mono (by decide)) htwo hrr hoff hp) (h := fun w38 H0 => ?_)
        have H38 := H0.drop0
        refine FL_on rfl rfl ?_
        first | refine FL_val (Gives.notP rfl) rfl ?_ | refine FL_val (Gives.not rfl) rfl ?_
        refine FL_pickF (h := ?_)
        refine FL_nil (Qseq_normal ?_)
        first | refine FW_condP rfl (fun hc41 => ?_) (fun hc41 => ?_) | refine FW_cond rfl (fun hc41 => ?_) (fun hc41 => ?_)
        · skip
          exact absurd hc41 (by decide) --done
        · skip
          refine FW_skip (Qseq_normal ?_)
          refine FW_seq ?_
          refine FW_region ?_
          refine FL_move (h := ?_)
          refine FL_callN H38 (sectors_at H38 At1) rfl rfl (fun y2 w45 _ H45 _ => ?_)
          obtain ⟨Ay2, cy2, hy2, _⟩ := Sep.rowForm H45 At0
          subst hy2
          refine FL_move (h := ?_)
          refine FL_callS (eqSame (H45.rowAt At0) (H45.rowAt At3)) (h := ?_)
          refine FL_assign (h := ?_)
          refine FL_nil (Qseq_normal ?_)
          refine FW_seq ?_
          refine FW_region ?_
          refine FL_move (h := ?_)
          refine FL_move (h := ?_)
          refine FL_move (h := ?_)
          refine FL_val (Gives.lenSlice rfl) rfl ?_
          refine FL_val (Gives.min rfl rfl) rfl ?_
          rw [min100]
          refine FL_val (Gives.sliceTo rfl rfl (by omega)) rfl ?_
          rw [hmn]
          refine FL_call1 H45 At1 (fun F' hp hF' => crash_at (A := K) (c := ck) (keep := keep.take (min keep.length 100)) (hs3.mono (by decide)) H45 (by rw [List.length_take]; omega) (by rw [← hmn, ← take_map]; exact hk.take (by omega)) (fun _ _ _ => id) hp hF') (h := fun w56 H56 => ?_)
          refine FL_nil (Qseq_normal ?_)
          refine FW_seq ?_
          refine FW_region ?_
          refine FL_move (h := ?_)
          refine FL_move (h := ?_)
          first | refine FL_splitP (t := 47) rfl (fun hs59 => ?_) (fun hs59 => ?_) | refine FL_split (t := 47) rfl (fun hs59 => ?_) (fun hs59 => ?_)
          · skip
            refine FL_on rfl rfl ?_
            refine FL_move (h := ?_)
            refine FL_on rfl rfl ?_
            refine FL_callQ H56 (alive_at H56 At2 (b := true) (by rw [hg2.2.1]; rfl)) (h := fun w62 H62 _ => ?_)
            refine FL_pickT (h := ?_)
            refine FL_move (h := ?_)
            first | refine FL_splitP (t := 51) rfl (fun hs65 => ?_) (fun hs65 => ?_) | refine FL_split (t := 51) rfl (fun hs65 => ?_) (fun hs65 => ?_)
            · skip
              refine FL_on rfl rfl ?_
              refine FL_move (h := ?_)
              refine FL_on rfl rfl ?_
              refine FL_callN H62 (sectors_at H62 At2) rfl rfl (fun y3 w68 _ H68 _ => ?_)
              obtain ⟨Ay3, cy3, hy3, _⟩ := Sep.rowForm H68 At0
              subst hy3
              refine FL_on rfl rfl ?_
              refine FL_move (h := ?_)
              refine FL_on rfl rfl ?_
              refine FL_callS (eqSame (H68.rowAt At0) (H68.rowAt At4)) (h := ?_)
              refine FL_pickT (h := ?_)
              refine FL_move (h := ?_)
              first | refine FL_splitP (t := 57) rfl (fun hs73 => ?_) (fun hs73 => ?_) | refine FL_split (t := 57) rfl (fun hs73 => ?_) (fun hs73 => ?_)
              · skip
                refine FL_on rfl rfl ?_
                refine FL_move (h := ?_)
                refine FL_on rfl rfl ?_
                refine FL_val (Gives.lenSlice rfl) rfl ?_
                refine FL_on rfl rfl ?_
                refine FL_val (Gives.eql rfl rfl) rfl ?_
                refine FL_pickT (h := ?_)
                refine FL_move (h := ?_)
                first | refine FL_splitP (t := 62) rfl (fun hs79 => ?_) (fun hs79 => ?_) | refine FL_split (t := 62) rfl (fun hs79 => ?_) (fun hs79 => ?_)
                · skip
                  refine FL_on rfl rfl ?_
                  refine FL_callQ H68 works_ok (h := fun w81 H81 _ => ?_)
                  refine FL_pickT (h := ?_)
                  refine FL_assign (h := ?_)
                  refine FL_nil (Qseq_normal ?_)
                  refine FW_ret (Qfn_ret (hR := ?_))
                  exact ⟨rfl, H81.kept⟩
                · skip
                  exact absurd (by rw [secB_len hg2]; rfl) hs79 --done
              · skip
                exact absurd hs73 (by decide) --done
            · skip
              exact absurd hs65 (by decide) --done
          · skip
            exact absurd hs59 (by decide) --done
set_option maxHeartbeats 4000000 in
theorem all_ok {A O : Option Addr} {c co : Nat} {l m : List PutM} (hl : ∀ x ∈ l, x.fit) (hr : RowAt w A l.length 3 (putCells l)) (hm : ∀ x ∈ m, x.fit) (hro : RowAt w O m.length 3 (putCells m)) :
    Rets Try.prog 5 [.slice A l.length c, .slice O m.length co] w fun v w' => v = .bool true ∧ Kept noB w w' := by
  have H := Sep.start0 w
  refine rets2 Try.func5 rfl rfl rfl rfl ?_
  have hg1 := good_five l
  have hs1 := small_five l
  have hg2 := good_puts hg1 (m.take 50)
  have hs2 : ((fiveM l).puts (m.take 50)).small 110 := (small_puts hs1 (m.take 50)).mono (by rw [List.length_take]; omega)
  refine FW_seq ?_
  refine FW_region ?_
  refine FL_assign (h := ?_)
  refine FL_nil (Qseq_normal ?_)
  refine FW_seq ?_
  refine FW_region ?_
  refine FL_move (h := ?_)
  refine FL_callN H (five_ok hl (hr.keepS H.kept fun _ _ _ => id)) rfl rfl (fun p w4 _ H4 _ => ?_)
  refine FL_move (h := ?_)
  refine FL_callN H4 (five_ok hl (hr.keepS H4.kept fun _ _ _ => id)) rfl rfl (fun q w7 _ H7 _ => ?_)
  refine FL_assign (h := ?_)
  refine FL_assign (h := ?_)
  refine FL_nil (Qseq_normal ?_)
  refine FW_seq ?_
  refine FW_seq ?_
  refine FW_region ?_
  refine FL_move (h := ?_)
  refine FL_val (Gives.eqlNil rfl rfl) rfl ?_
  refine FL_move (h := ?_)
  first | refine FL_splitP (t := 17) rfl (fun hs13 => ?_) (fun hs13 => ?_) | refine FL_split (t := 17) rfl (fun hs13 => ?_) (fun hs13 => ?_)
  · skip
    cases hs13 --done
  · skip
    refine FL_on rfl rfl ?_
    refine FL_move (h := ?_)
    refine FL_on rfl rfl ?_
    refine FL_val (Gives.eqlNil rfl rfl) rfl ?_
    refine FL_pickF (h := ?_)
    refine FL_nil (Qseq_normal ?_)
    first | refine FW_condP rfl (fun hc18 => ?_) (fun hc18 => ?_) | refine FW_cond rfl (fun hc18 => ?_) (fun hc18 => ?_)
    · skip
      cases hc18 --done
    · skip
      refine FW_skip (Qseq_normal ?_)
      refine FW_seq ?_
      refine FW_region ?_
      refine FL_move (h := ?_)
      refine FL_callN H7 (sectors_at H7 At1) rfl rfl (fun y w22 _ H22 _ => ?_)
      obtain ⟨Ay, cy, hy, _⟩ := Sep.rowForm H22 At0
      subst hy
      refine FL_assign (h := ?_)
      refine FL_nil (Qseq_normal ?_)
      refine FW_seq ?_
      refine FW_seq ?_
      refine FW_region ?_
      refine FL_move (h := ?_)
      refine FL_move (h := ?_)
      refine FL_call1 H22 At2 (fun F' hp hF' => writes_at hg1 (hs1.mono (by decide)) hm H22 hro (fun _ _ _ => id) hp hF') (h := fun w27 H27 => ?_)
      first | refine FL_val (Gives.notP rfl) rfl ?_ | refine FL_val (Gives.not rfl) rfl ?_
      refine FL_move (h := ?_)
      first | refine FL_splitP (t := 27) rfl (fun hs30 => ?_) (fun hs30 => ?_) | refine FL_split (t := 27) rfl (fun hs30 => ?_) (fun hs30 => ?_)
      · skip
        exact absurd hs30 (by decide) --done
      · skip
        refine FL_on rfl rfl ?_
        refine FL_move (h := ?_)
        refine FL_on rfl rfl ?_
        refine FL_move (h := ?_)
        refine FL_on rfl rfl ?_
        refine FL_call1 H27 At1 (fun F' hp hF' => writes_at hg1 (hs1.mono (by decide)) hm H27 hro (fun _ _ _ => id) hp hF') (h := fun w35 H35 => ?_)
        refine FL_on rfl rfl ?_
        first | refine FL_val (Gives.notP rfl) rfl ?_ | refine FL_val (Gives.not rfl) rfl ?_
        refine FL_pickF (h := ?_)
        refine FL_nil (Qseq_normal ?_)
        first | refine FW_condP rfl (fun hc38 => ?_) (fun hc38 => ?_) | refine FW_cond rfl (fun hc38 => ?_) (fun hc38 => ?_)
        · skip
          exact absurd hc38 (by decide) --done
        · skip
          refine FW_skip (Qseq_normal ?_)
          refine FW_seq ?_
          refine FW_region ?_
          refine FL_move (h := ?_)
          refine FL_callN H35 (sectors_at H35 At2) rfl rfl (fun y2 w42 _ H42 _ => ?_)
          obtain ⟨Ay2, cy2, hy2, _⟩ := Sep.rowForm H42 At0
          subst hy2
          refine FL_assign (h := ?_)
          refine FL_nil (Qseq_normal ?_)
          refine FW_seq ?_
          refine FW_region ?_
          refine FL_assign (h := ?_)
          refine FL_nil (Qseq_normal ?_)
          refine FW_seq ?_
          refine FW_seq ?_
          refine FW_region ?_
          refine FL_assign (h := ?_)
          refine FL_nil (Qseq_normal ?_)
          refine FW_block ?_
          refine FW_loop' (fun x : Nat × Value => [(5, .pointer (some ⟨p, 0, none⟩)), (6, .pointer (some ⟨q, 0, none⟩)), (7, .slice Ay (secB (fiveM l)).length cy), (8, .slice Ay2 (secB ((fiveM l).puts (m.take 50))).length cy2), (9, x.2), (10, I x.1)])
            (fun x w' => x.1 ≤ 50 ∧ Sep w noB [rowH 3 1 x.2 x.1 ((downTo x.1).map I), rowH 5 1 (.slice Ay2 (secB ((fiveM l).puts (m.take 50))).length cy2) (secB ((fiveM l).puts (m.take 50))).length ((secB ((fiveM l).puts (m.take 50))).map B), rowH 5 1 (.slice Ay (secB (fiveM l)).length cy) (secB (fiveM l)).length ((secB (fiveM l)).map B), diskH q ((fiveM l).puts (m.take 50)), diskH p ((fiveM l).puts (m.take 50))] w') (fun x _ => 50 - x.1) (0, .slice none 0 0) ⟨rfl, rfl, rfl, rfl, rfl, rfl, trivial⟩ ⟨by decide, H42.nilRow _ _⟩ (fun x τ w47 hI => ?_)
          obtain ⟨j, va⟩ := x
          obtain ⟨hj, H47⟩ := hI
          simp only at hj
          try simp only [upds, like, upd_ds, und_ds]
          refine FW_seq ?_
          refine FW_seq ?_
          refine FW_region ?_
          refine FL_move (h := ?_)
          refine FL_val (Gives.lss rfl rfl) rfl ?_
          refine FL_nil (Qseq_normal ?_)
          first | refine FW_condP rfl (fun hc50 => ?_) (fun hc50 => ?_) | refine FW_cond rfl (fun hc50 => ?_) (fun hc50 => ?_)
          · skip
            have hlt : j < 50 := by omega
            refine FW_skip (Qseq_normal ?_)
            refine FW_seq ?_
            refine FW_block ?_
            refine FW_region ?_
            refine FL_move (h := ?_)
            refine FL_move (h := ?_)
            first | refine FL_val (Gives.subI rfl rfl rfl (by omega)) rfl ?_ | refine FL_val (Gives.sub rfl rfl) rfl ?_
            refine FL_buildSlice H47 (Elems.one (v := I (49 - j)) rfl rfl Elems.nil) rfl rfl rfl (fun b55 w56 H56 _ => ?_)
            refine FL_append H56 (hx := by exact rfl) (hy := by exact rfl) (hat := At1) (H56.blkRow At0 (m := 1) (s := 1) rfl) (by intro u hu; rw [List.mem_singleton.1 hu]; rfl) (h63 := by simp only; unfold maxLen; omega) (hbytes := by simp only; omega) (h := fun vv w58 H58 => ?_)
            refine FL_assign (h := ?_)
            refine FL_nil (Qblk_normal (Qseq_normal ?_))
            refine FW_region ?_
            refine FL_move (h := ?_)
            first | refine FL_val (Gives.addI rfl rfl rfl (by omega)) rfl ?_ | refine FL_val (Gives.add rfl rfl) rfl ?_
            refine FL_assign (h := ?_)
            refine FL_nil ?_
            refine Qround_normal (j + 1, vv) ⟨rfl, rfl, rfl, rfl, rfl, rfl, trivial⟩ ⟨by simp only; omega, ?_⟩ (by simp only; omega)
            simp only [downTo_succ, List.map_append]
            exact H58.drop0
          · skip
            have hj5 : j = 50 := by omega
            subst hj5
            obtain ⟨Aa, ca, ha, _⟩ := Sep.rowForm H47 At0
            simp only at ha
            subst ha
            refine FW_exit (Qseq_exit (Qround_exit (Qblk_exit (Qseq_normal ?_))))
            refine FW_seq ?_
            refine FW_region ?_
            refine FL_move (h := ?_)
            refine FL_move (h := ?_)
            refine FL_call1R (m := 50) (us := (downTo 50).map I) H47 At3 (fun F' hp hrr hoff => crash_ok (keep := downTo 50) (c := ca) (by have := hs2.1; omega) (by decide) hrr hoff hp) (h := fun w68 H68 => ?_)
            refine FL_nil (Qseq_normal ?_)
            refine FW_seq ?_
            refine FW_region ?_
            refine FL_move (h := ?_)
            refine FL_call1 H68 At3 (fun F' hp _ => crash_ok (A := none) (c := 0) (keep := []) (by have := hs2.1; omega) (by decide) (RowAt.nil _ _ _) (fun h => absurd h (by decide)) hp) (h := fun w71 H71 => ?_)
            refine FL_nil (Qseq_normal ?_)
            refine FW_seq ?_
            refine FW_region ?_
            refine FL_move (h := ?_)
            refine FL_call1 H71 At4 (fun F' hp _ => boot_ok hp) (h := fun w74 H74 => ?_)
            refine FL_nil (Qseq_normal ?_)
            refine FW_seq ?_
            refine FW_region ?_
            refine FL_move (h := ?_)
            refine FL_call1 H74 At3 (fun F' hp _ => boot_ok hp) (h := fun w77 H77 => ?_)
            refine FL_nil (Qseq_normal ?_)
            refine FW_seq ?_
            refine FW_region ?_
            refine FL_move (h := ?_)
            refine FL_callN H77 (sectors_at H77 At4) rfl rfl (fun y3 w80 _ H80 _ => ?_)
            rw [all_law1] at H80
            obtain ⟨Ay3, cy3, hy3, _⟩ := Sep.rowForm H80 At0
            subst hy3
            refine FL_move (h := ?_)
            refine FL_callS (eqSame (H80.rowAt At0) (H80.rowAt At2)) (h := ?_)
            refine FL_move (h := ?_)
            first | refine FL_splitP (t := 57) rfl (fun hs84 => ?_) (fun hs84 => ?_) | refine FL_split (t := 57) rfl (fun hs84 => ?_) (fun hs84 => ?_)
            · skip
              refine FL_on rfl rfl ?_
              refine FL_move (h := ?_)
              refine FL_on rfl rfl ?_
              refine FL_callN H80 (sectors_at H80 At4) rfl rfl (fun y4 w87 _ H87 _ => ?_)
              rw [all_law2] at H87
              obtain ⟨Ay4, cy4, hy4, _⟩ := Sep.rowForm H87 At0
              subst hy4
              refine FL_on rfl rfl ?_
              refine FL_move (h := ?_)
              refine FL_on rfl rfl ?_
              refine FL_callS (eqSame (H87.rowAt At0) (H87.rowAt At4)) (h := ?_)
              refine FL_pickT (h := ?_)
              refine FL_move (h := ?_)
              first | refine FL_splitP (t := 63) rfl (fun hs92 => ?_) (fun hs92 => ?_) | refine FL_split (t := 63) rfl (fun hs92 => ?_) (fun hs92 => ?_)
              · skip
                refine FL_on rfl rfl ?_
                refine FL_move (h := ?_)
                refine FL_on rfl rfl ?_
                refine FL_val (Gives.lenSlice rfl) rfl ?_
                refine FL_on rfl rfl ?_
                refine FL_val (Gives.eql rfl rfl) rfl ?_
                refine FL_pickT (h := ?_)
                refine FL_move (h := ?_)
                first | refine FL_splitP (t := 68) rfl (fun hs98 => ?_) (fun hs98 => ?_) | refine FL_split (t := 68) rfl (fun hs98 => ?_) (fun hs98 => ?_)
                · skip
                  refine FL_on rfl rfl ?_
                  refine FL_callQ H87 works_ok (h := fun w100 H100 _ => ?_)
                  refine FL_pickT (h := ?_)
                  refine FL_assign (h := ?_)
                  refine FL_nil (Qseq_normal ?_)
                  refine FW_ret (Qfn_ret (hR := ?_))
                  exact ⟨rfl, H100.kept⟩
                · skip
                  exact absurd (by rw [secB_len hg1]; rfl) hs98 --done
              · skip
                exact absurd hs92 (by decide) --done
            · skip
              exact absurd hs84 (by decide) --done
end
end Go.Proofs.Yteflbohpabdjkaa
/-
  DiskStays, walked; and the plain law under it.
-/
namespace Go.Proofs.Yteflbohpabdjkaa
open Go Go.Mw
set_option maxRecDepth 8000

def opsOf (l : List PutM) : List (Int × List UInt8) := l.map fun x => (x.at_ % 5, pad (putB x))
theorem keptBy_snoc (keep : List Int) (k : Nat) (a : List (Int × List UInt8)) (x : Int × List UInt8) (f : Int → Option (List UInt8)) :
    keptBy keep k (a ++ [x]) f = if keep.contains ((k + a.length : Nat) : Int) then setAt (keptBy keep k a f) x.1 x.2 else keptBy keep k a f := by
  rw [keptBy_eq, keptBy_eq, keptL_append, keptAll_append]
  simp only [keptL]
  split <;> rfl
theorem setAt_same (f : Int → Option (List UInt8)) (a : Int) (b : List UInt8) : setAt (setAt f a b) a b = setAt f a b := by
  funext j
  unfold setAt
  split <;> rfl
/-- What stands behind the first i of the writes, those that are kept. -/
def stayTo (kp : List Int) (m : List PutM) (f : Int → Option (List UInt8)) (i : Nat) : Int → Option (List UInt8) := keptBy kp 0 (opsOf (m.take i)) f
theorem stayTo_succ {kp : List Int} {m : List PutM} {f : Int → Option (List UInt8)} {i : Nat} (h : i < m.length) :
    stayTo kp m f (i + 1) = if kp.contains (i : Int) then setAt (stayTo kp m f i) (m[i].at_ % 5) (pad (putB m[i])) else stayTo kp m f i := by
  unfold stayTo
  have e : opsOf (m.take (i + 1)) = opsOf (m.take i) ++ [(m[i].at_ % 5, pad (putB m[i]))] := by
    unfold opsOf
    rw [List.take_succ_eq_append_getElem h, List.map_append]
    rfl
  rw [e, keptBy_snoc]
  have hl : (opsOf (m.take i)).length = i := by
    unfold opsOf
    rw [List.length_map, List.length_take]
    omega
  rw [hl, Nat.zero_add]
theorem stays_law {l m : List PutM} {kp : List Int} {e : DM} (he : e.good) (hn : e.now = stayTo kp m (fiveM l).now 50) : secB ((((fiveM l).puts (m.take 50)).crash kp).boot) = secB e := by
  rw [secB_crash (good_puts (good_five l) _), secB_good he]
  refine secsTo_congr ?_ 5
  show keptBy kp 0 _ _ = _
  rw [hn, five_opn, puts_kept, (five_sync l).1]
  rfl
theorem contains_take {kp : List Int} {k : Nat} (h : k < kp.length) (i : Int) : (kp.take (k + 1)).contains i = ((kp.take k).contains i || kp[k] == i) := by
  rw [List.take_succ_eq_append_getElem h, Bool.eq_iff_iff]
  simp only [List.contains_iff_mem, List.mem_append, List.mem_singleton, Bool.or_eq_true, beq_iff_eq]
  constructor
  · rintro (h | h)
    · exact .inl h
    · exact .inr h.symm
  · rintro (h | h)
    · exact .inl h
    · exact .inr h.symm
section
variable {p : Nat} {d : DM} {F : Nat → Prop} {w w₀ : World} {S : Nat → Prop} {rs : List HP} {put : HP → List HP}
set_option maxHeartbeats 8000000 in
theorem stays_ok {A O K : Option Addr} {c co ck : Nat} {l m : List PutM} {keep : List Int} (hl : ∀ x ∈ l, x.fit) (hr : RowAt w A l.length 3 (putCells l)) (hm : ∀ x ∈ m, x.fit) (hro : RowAt w O m.length 3 (putCells m)) (hk : RowAt w K keep.length 1 (keep.map I)) (hck : keep.length ≤ ck) :
    Rets Try.prog 4 [.slice A l.length c, .slice O m.length co, .slice K keep.length ck] w fun v w' => v = .bool true ∧ Kept noB w w' := by
  have H := Sep.start0 w
  refine rets3 Try.func4 rfl rfl rfl rfl ?_
  have hmn : min keep.length 100 = (keep.take (min keep.length 100)).length := by rw [List.length_take]; omega
  have hkr : RowAt w K (keep.take (min keep.length 100)).length 1 ((keep.take (min keep.length 100)).map I) := by rw [← hmn, ← take_map]; exact hk.take (by omega)
  have hkl : (keep.take (min keep.length 100)).length ≤ 100 := by omega
  have hg1 := good_five l
  have hs1 := small_five l
  have hg2 := good_puts hg1 (m.take 50)
  have hs2 : ((fiveM l).puts (m.take 50)).small 110 := (small_puts hs1 (m.take 50)).mono (by rw [List.length_take]; omega)
  refine FW_seq ?_
  refine FW_region ?_
  refine FL_assign (h := ?_)
  refine FL_nil (Qseq_normal ?_)
  refine FW_seq ?_
  refine FW_region ?_
  refine FL_move (h := ?_)
  refine FL_move (h := ?_)
  refine FL_val (Gives.lenSlice rfl) rfl ?_
  refine FL_val (Gives.min rfl rfl) rfl ?_
  rw [min100]
  refine FL_val (Gives.sliceTo rfl rfl (by omega)) rfl ?_
  rw [hmn]
  generalize keep.take (min keep.length 100) = kp at hkr hkl
  refine FL_assign (h := ?_)
  refine FL_nil (Qseq_normal ?_)
  refine FW_seq ?_
  refine FW_region ?_
  refine FL_move (h := ?_)
  refine FL_callN H (five_ok hl (hr.keepS H.kept fun _ _ _ => id)) rfl rfl (fun p w10 _ H10 _ => ?_)
  refine FL_move (h := ?_)
  refine FL_callN H10 (five_ok hl (hr.keepS H10.kept fun _ _ _ => id)) rfl rfl (fun q w13 _ H13 _ => ?_)
  refine FL_assign (h := ?_)
  refine FL_assign (h := ?_)
  refine FL_nil (Qseq_normal ?_)
  refine FW_seq ?_
  refine FW_seq ?_
  refine FW_region ?_
  refine FL_move (h := ?_)
  refine FL_val (Gives.eqlNil rfl rfl) rfl ?_
  refine FL_move (h := ?_)
  first | refine FL_splitP (t := 24) rfl (fun hs19 => ?_) (fun hs19 => ?_) | refine FL_split (t := 24) rfl (fun hs19 => ?_) (fun hs19 => ?_)
  · skip
    cases hs19 --done
  · skip
    refine FL_on rfl rfl ?_
    refine FL_move (h := ?_)
    refine FL_on rfl rfl ?_
    refine FL_val (Gives.eqlNil rfl rfl) rfl ?_
    refine FL_pickF (h := ?_)
    refine FL_move (h := ?_)
    first | refine FL_splitP (t := 28) rfl (fun hs25 => ?_) (fun hs25 => ?_) | refine FL_split (t := 28) rfl (fun hs25 => ?_) (fun hs25 => ?_)
    · skip
      cases hs25 --done
    · skip
      refine FL_on rfl rfl ?_
      refine FL_move (h := ?_)
      refine FL_on rfl rfl ?_
      refine FL_move (h := ?_)
      refine FL_on rfl rfl ?_
      refine FL_call1 H13 At1 (fun F' hp hF' => writes_at hg1 (hs1.mono (by decide)) hm H13 hro (fun _ _ _ => id) hp hF') (h := fun w30 H30 => ?_)
      refine FL_on rfl rfl ?_
      first | refine FL_val (Gives.notP rfl) rfl ?_ | refine FL_val (Gives.not rfl) rfl ?_
      refine FL_pickF (h := ?_)
      refine FL_nil (Qseq_normal ?_)
      first | refine FW_condP rfl (fun hc33 => ?_) (fun hc33 => ?_) | refine FW_cond rfl (fun hc33 => ?_) (fun hc33 => ?_)
      · skip
        exact absurd hc33 (by decide) --done
      · skip
        refine FW_skip (Qseq_normal ?_)
        refine FW_seq ?_
        refine FW_region ?_
        refine FL_move (h := ?_)
        refine FL_move (h := ?_)
        refine FL_call1 H30 At1 (fun F' hp hF' => crash_at (A := K) (c := ck) (keep := kp) (hs2.mono (by decide)) H30 (by omega) hkr (fun _ _ _ => id) hp hF') (h := fun w38 H38 => ?_)
        refine FL_nil (Qseq_normal ?_)
        refine FW_seq ?_
        refine FW_region ?_
        refine FL_move (h := ?_)
        refine FL_call1 H38 At1 (fun F' hp _ => boot_ok hp) (h := fun w41 H41 => ?_)
        refine FL_nil (Qseq_normal ?_)
        refine FW_seq ?_
        refine FW_seq ?_
        refine FW_region ?_
        refine FL_assign (h := ?_)
        refine FL_nil (Qseq_normal ?_)
        refine FW_block ?_
        refine FW_loop' (fun x : Nat × DM => [(1, .slice O m.length co), (2, .slice K kp.length ck), (7, .pointer (some ⟨p, 0, none⟩)), (8, .pointer (some ⟨q, 0, none⟩)), (9, I x.1)])
          (fun x w' => x.1 ≤ m.length ∧ x.1 ≤ 50 ∧ x.2.good ∧ x.2.small (60 + 100 * x.1) ∧ x.2.now = stayTo kp m (fiveM l).now x.1 ∧ Sep w noB [diskH q x.2, diskH p (((fiveM l).puts (m.take 50)).crash kp).boot] w') (fun x _ => m.length - x.1) (0, fiveM l) ⟨rfl, rfl, rfl, rfl, rfl, trivial⟩ ⟨Nat.zero_le _, Nat.zero_le _, hg1, hs1.mono (by simp), rfl, H41⟩ (fun x τ w44 hI => ?_)
        obtain ⟨i, e⟩ := x
        obtain ⟨hi, hi50, heg, hes, hen, H44⟩ := hI
        simp only at hi hi50 heg hes hen
        try simp only [upds, like, upd_ds, und_ds]
        refine FW_seq ?_
        refine FW_seq ?_
        refine FW_region ?_
        refine FL_move (h := ?_)
        refine FL_move (h := ?_)
        refine FL_val (Gives.lenSlice rfl) rfl ?_
        refine FL_val (Gives.lss rfl rfl) rfl ?_
        refine FL_move (h := ?_)
        first | refine FL_splitP (t := 43) rfl (fun hs50 => ?_) (fun hs50 => ?_) | refine FL_split (t := 43) rfl (fun hs50 => ?_) (fun hs50 => ?_)
        · skip
          have hc1 := hs50
          refine FL_on rfl rfl ?_
          refine FL_move (h := ?_)
          refine FL_on rfl rfl ?_
          refine FL_val (Gives.lss rfl rfl) rfl ?_
          refine FL_pickT (h := ?_)
          refine FL_nil (Qseq_normal ?_)
          first | refine FW_condP rfl (fun hc55 => ?_) (fun hc55 => ?_) | refine FW_cond rfl (fun hc55 => ?_) (fun hc55 => ?_)
          · skip
            have hlt : i < m.length := by omega
            have hlt50 : i < 50 := by omega
            obtain ⟨ad, hAd, _⟩ := hro.at_ (by omega)
            subst hAd
            have hx := hm _ (List.getElem_mem hlt)
            refine FW_skip (Qseq_normal ?_)
            refine FW_seq ?_
            refine FW_block ?_
            refine FW_seq ?_
            refine FW_region ?_
            refine FL_assign (h := ?_)
            refine FL_nil (Qseq_normal ?_)
            refine FW_block ?_
            refine FW_loop' (fun y : Nat × DM => [(1, .slice (some ad) m.length co), (2, .slice K kp.length ck), (7, .pointer (some ⟨p, 0, none⟩)), (8, .pointer (some ⟨q, 0, none⟩)), (9, I i), (10, I y.1)])
              (fun y w' => y.1 ≤ kp.length ∧ y.2.good ∧ y.2.small (60 + 100 * i + y.1) ∧ y.2.now = (if (kp.take y.1).contains (i : Int) then setAt (stayTo kp m (fiveM l).now i) (m[i].at_ % 5) (pad (putB m[i])) else stayTo kp m (fiveM l).now i) ∧ Sep w noB [diskH q y.2, diskH p (((fiveM l).puts (m.take 50)).crash kp).boot] w') (fun y _ => kp.length - y.1) (0, e) ⟨rfl, rfl, rfl, rfl, rfl, rfl, trivial⟩ ⟨Nat.zero_le _, heg, hes, by rw [hen, List.take_zero, if_neg (by simp)], H44⟩ (fun y τ w59 hI => ?_)
            obtain ⟨k, g⟩ := y
            obtain ⟨hk1, hgg, hgs, hgn, H59⟩ := hI
            simp only at hk1 hgg hgs hgn
            try simp only [upds, like, upd_ds]
            refine FW_seq ?_
            refine FW_seq ?_
            refine FW_region ?_
            refine FL_move (h := ?_)
            refine FL_move (h := ?_)
            refine FL_val (Gives.lenSlice rfl) rfl ?_
            refine FL_val (Gives.lss rfl rfl) rfl ?_
            refine FL_nil (Qseq_normal ?_)
            first | refine FW_condP rfl (fun hc64 => ?_) (fun hc64 => ?_) | refine FW_cond rfl (fun hc64 => ?_) (fun hc64 => ?_)
            · skip
              have hkt : k < kp.length := by omega
              obtain ⟨kd, hKd, hkc⟩ := (hkr.keepS H59.kept fun _ _ _ => id).at_ (by omega)
              subst hKd
              refine FW_skip (Qseq_normal ?_)
              refine FW_seq ?_
              refine FW_block ?_
              refine FW_seq ?_
              refine FW_region ?_
              refine FL_move (h := ?_)
              refine FL_move (h := ?_)
              refine FL_val (Gives.idx rfl rfl hkt) rfl ?_
              refine FL_loadC (hkc (k * 1) (I kp[k]) (by simp [hkt])) (h := ?_)
              refine FL_move (h := ?_)
              refine FL_val (Gives.eql rfl rfl) rfl ?_
              refine FL_nil (Qseq_normal ?_)
              first | refine FW_condP rfl (fun hc72 => ?_) (fun hc72 => ?_) | refine FW_cond rfl (fun hc72 => ?_) (fun hc72 => ?_)
              · skip
                have hki := hc72
                refine FW_drawS rfl H59 (h := fun hok74 w76 H76 => ?_)
                refine FGmove hok74 0 (h := ?_)
                refine FGmove hok74 1 (h := ?_)
                refine FGmove hok74 2 (h := ?_)
                refine FGp hok74 3 rfl rfl (fun _ => (Gives.idx rfl rfl hlt)) (by kernel_rfl) ?_
                first | refine FGp hok74 4 rfl rfl (fun _ => (Gives.field0 rfl)) (by kernel_rfl) ?_ | refine FGp hok74 4 rfl rfl (fun _ => (Gives.field rfl)) (by kernel_rfl) ?_ | refine FGp hok74 4 rfl rfl (fun _ => (Gives.fieldA rfl)) (by kernel_rfl) ?_
                refine FGl hok74 5 rfl rfl (Gives.loadC rfl ((hro.keepS H76.kept fun _ _ _ => id).elemC rfl i hlt (us := [I m[i].at_, I m[i].byte, I m[i].many]) (putCells_get m i hlt) 0 _ rfl)) (by kernel_rfl) ?_
                refine FGmove hok74 7 (h := ?_)
                refine FGmove hok74 8 (h := ?_)
                refine FGp hok74 9 rfl rfl (fun _ => (Gives.idx rfl rfl hlt)) (by kernel_rfl) ?_
                refine FGl hok74 10 rfl rfl (Gives.loadCN rfl ((hro.keepS H76.kept fun _ _ _ => id).elem rfl i hlt (us := [I m[i].at_, I m[i].byte, I m[i].many]) (putCells_get m i hlt)) rfl) (by kernel_rfl) ?_
                refine FGcallS hok74 6 [(10, false), (9, true), (8, true), (7, true), (0, true)] H76 (bring_ok m[i].at_ 5 hx.1 (by omega)) (h := fun w83 H83 => ⟨(Stab_cons rfl rfl (Gives.loadCN rfl ((hro.keepS H83.kept fun _ _ _ => id).elem rfl i hlt (us := [I m[i].at_, I m[i].byte, I m[i].many]) (putCells_get m i hlt)) rfl) rfl (Stab_pure (Stab_pure (Stab_pure (Stab_pure (Stab_nil)))))), ?_⟩)
                refine FGcallN hok74 11 [(0, true)] H83 (bytes_ok m[i] hx) (h := fun y w85 _ H85 _ => ⟨Stab_pure (Stab_nil), ?_⟩)
                obtain ⟨Ay, cy, hy, _⟩ := Sep.rowForm H85 At0
                subst hy
                refine FGcall1R hok74 12 [] H85 At0 (fun F' hp hrr hoff => write_at (c := cy) (hgs.mono (by omega)) (write_good hgg (a := m[i].at_ % 5) (b := putB m[i]) (by omega) (putB_length _)) hrr hoff hp) (h := fun w87 H87 => ⟨Stab_nil, ?_⟩)
                refine FG_end hok74 (by kernel_rfl) ?_
                refine Qblk_normal (Qseq_normal ?_)
                refine FW_region ?_
                refine FL_move (h := ?_)
                first | refine FL_val (Gives.addI rfl rfl rfl (by omega)) rfl ?_ | refine FL_val (Gives.add rfl rfl) rfl ?_
                refine FL_assign (h := ?_)
                refine FL_nil ?_
                first
                  | exact Qround_normal (k + 1, g.put1 (m[i].at_ % 5) (putB m[i])) ⟨rfl, rfl, rfl, rfl, rfl, rfl, trivial⟩ ⟨by simp only; omega, good_put1 hgg (putB_length _), (small_put1 hgs _ _).mono (by simp only; omega), by
                      show setAt g.now _ _ = _
                      simp only
                      rw [contains_take hkt, hgn, show (kp[k] == (i : Int)) = true from by simpa using hki, Bool.or_true, if_pos rfl]
                      split
                      · exact setAt_same _ _ _
                      · rfl, H87.drop0⟩ (by simp only; omega)
                  | exact Qround_normal (k + 1, g) ⟨rfl, rfl, rfl, rfl, rfl, rfl, trivial⟩ ⟨by simp only; omega, hgg, hgs.mono (by simp only; omega), by
                      simp only
                      rw [contains_take hkt, show (kp[k] == (i : Int)) = false from by simpa using hki, Bool.or_false]
                      exact hgn, H87⟩ (by simp only; omega)
              · skip
                have hki := hc72
                refine FW_skip (Qblk_normal (Qseq_normal ?_))
                refine FW_region ?_
                refine FL_move (h := ?_)
                first | refine FL_val (Gives.addI rfl rfl rfl (by omega)) rfl ?_ | refine FL_val (Gives.add rfl rfl) rfl ?_
                refine FL_assign (h := ?_)
                refine FL_nil ?_
                first
                  | exact Qround_normal (k + 1, g.put1 (m[i].at_ % 5) (putB m[i])) ⟨rfl, rfl, rfl, rfl, rfl, rfl, trivial⟩ ⟨by simp only; omega, good_put1 hgg (putB_length _), (small_put1 hgs _ _).mono (by simp only; omega), by
                      show setAt g.now _ _ = _
                      simp only
                      rw [contains_take hkt, hgn, show (kp[k] == (i : Int)) = true from by simpa using hki, Bool.or_true, if_pos rfl]
                      split
                      · exact setAt_same _ _ _
                      · rfl, H59.drop0⟩ (by simp only; omega)
                  | exact Qround_normal (k + 1, g) ⟨rfl, rfl, rfl, rfl, rfl, rfl, trivial⟩ ⟨by simp only; omega, hgg, hgs.mono (by simp only; omega), by
                      simp only
                      rw [contains_take hkt, show (kp[k] == (i : Int)) = false from by simpa using hki, Bool.or_false]
                      exact hgn, H59⟩ (by simp only; omega)
            · skip
              have hke : k = kp.length := by omega
              subst hke
              rw [List.take_length, ← stayTo_succ hlt] at hgn
              refine FW_exit (Qseq_exit (Qround_exit (Qblk_exit (Qblk_normal (Qseq_normal ?_)))))
              refine FW_region ?_
              refine FL_move (h := ?_)
              first | refine FL_val (Gives.addI rfl rfl rfl (by omega)) rfl ?_ | refine FL_val (Gives.add rfl rfl) rfl ?_
              refine FL_assign (h := ?_)
              refine FL_nil ?_
              exact Qround_normal (i + 1, g) ⟨rfl, rfl, rfl, rfl, rfl, trivial⟩ ⟨by simp only; omega, by simp only; omega, hgg, hgs.mono (by simp only; omega), hgn, H59⟩ (by simp only; omega)
          · skip
            first
              | (have hen50 : e.now = stayTo kp m (fiveM l).now 50 := by (have hi5 : i = 50 := by omega); rw [hen, hi5])
              | skip
            refine FW_exit (Qseq_exit (Qround_exit (Qblk_exit (Qseq_normal ?_))))
            refine FW_seq ?_
            refine FW_region ?_
            refine FL_move (h := ?_)
            refine FL_callN H44 (sectors_at H44 At1) rfl rfl (fun y w105 _ H105 _ => ?_)
            rw [stays_law heg hen50] at H105
            obtain ⟨Ay, cy, hy, _⟩ := Sep.rowForm H105 At0
            subst hy
            refine FL_move (h := ?_)
            refine FL_callN H105 (sectors_at H105 At1) rfl rfl (fun z w108 _ H108 _ => ?_)
            obtain ⟨Az, cz, hz, _⟩ := Sep.rowForm H108 At0
            subst hz
            refine FL_assign (h := ?_)
            refine FL_assign (h := ?_)
            refine FL_nil (Qseq_normal ?_)
            refine FW_seq ?_
            refine FW_region ?_
            refine FL_move (h := ?_)
            refine FL_val (Gives.lenSlice rfl) rfl ?_
            refine FL_val (Gives.eql rfl rfl) rfl ?_
            refine FL_move (h := ?_)
            first | refine FL_splitP (t := 81) rfl (fun hs115 => ?_) (fun hs115 => ?_) | refine FL_split (t := 81) rfl (fun hs115 => ?_) (fun hs115 => ?_)
            · skip
              refine FL_on rfl rfl ?_
              refine FL_move (h := ?_)
              refine FL_on rfl rfl ?_
              refine FL_move (h := ?_)
              refine FL_on rfl rfl ?_
              refine FL_callS (eqSame (H108.rowAt At1) (H108.rowAt At0)) (h := ?_)
              refine FL_pickT (h := ?_)
              refine FL_move (h := ?_)
              first | refine FL_splitP (t := 86) rfl (fun hs121 => ?_) (fun hs121 => ?_) | refine FL_split (t := 86) rfl (fun hs121 => ?_) (fun hs121 => ?_)
              · skip
                refine FL_on rfl rfl ?_
                refine FL_callQ H108 works_ok (h := fun w123 H123 _ => ?_)
                refine FL_pickT (h := ?_)
                refine FL_assign (h := ?_)
                refine FL_nil (Qseq_normal ?_)
                refine FW_ret (Qfn_ret (hR := ?_))
                exact ⟨rfl, H123.kept⟩
              · skip
                exact absurd hs121 (by decide) --done
            · skip
              exact absurd (by rw [secB_len heg]; rfl) hs115 --done
        · skip
          have hen50 : e.now = stayTo kp m (fiveM l).now 50 := by rw [hen]; unfold stayTo; rw [List.take_of_length_le (l := m) (i := i) (by omega), List.take_of_length_le (l := m) (i := 50) (by omega)]
          refine FL_off rfl rfl rfl ?_
          refine FL_off rfl rfl rfl ?_
          refine FL_pickF (h := ?_)
          refine FL_nil (Qseq_normal ?_)
          refine FW_cond_false rfl ?_
          refine FW_exit (Qseq_exit (Qround_exit (Qblk_exit (Qseq_normal ?_))))
          refine FW_seq ?_
          refine FW_region ?_
          refine FL_move (h := ?_)
          refine FL_callN H44 (sectors_at H44 At1) rfl rfl (fun y w133 _ H133 _ => ?_)
          rw [stays_law heg hen50] at H133
          obtain ⟨Ay, cy, hy, _⟩ := Sep.rowForm H133 At0
          subst hy
          refine FL_move (h := ?_)
          refine FL_callN H133 (sectors_at H133 At1) rfl rfl (fun z w136 _ H136 _ => ?_)
          obtain ⟨Az, cz, hz, _⟩ := Sep.rowForm H136 At0
          subst hz
          refine FL_assign (h := ?_)
          refine FL_assign (h := ?_)
          refine FL_nil (Qseq_normal ?_)
          refine FW_seq ?_
          refine FW_region ?_
          refine FL_move (h := ?_)
          refine FL_val (Gives.lenSlice rfl) rfl ?_
          refine FL_val (Gives.eql rfl rfl) rfl ?_
          refine FL_move (h := ?_)
          first | refine FL_splitP (t := 81) rfl (fun hs143 => ?_) (fun hs143 => ?_) | refine FL_split (t := 81) rfl (fun hs143 => ?_) (fun hs143 => ?_)
          · skip
            refine FL_on rfl rfl ?_
            refine FL_move (h := ?_)
            refine FL_on rfl rfl ?_
            refine FL_move (h := ?_)
            refine FL_on rfl rfl ?_
            refine FL_callS (eqSame (H136.rowAt At1) (H136.rowAt At0)) (h := ?_)
            refine FL_pickT (h := ?_)
            refine FL_move (h := ?_)
            first | refine FL_splitP (t := 86) rfl (fun hs149 => ?_) (fun hs149 => ?_) | refine FL_split (t := 86) rfl (fun hs149 => ?_) (fun hs149 => ?_)
            · skip
              refine FL_on rfl rfl ?_
              refine FL_callQ H136 works_ok (h := fun w151 H151 _ => ?_)
              refine FL_pickT (h := ?_)
              refine FL_assign (h := ?_)
              refine FL_nil (Qseq_normal ?_)
              refine FW_ret (Qfn_ret (hR := ?_))
              exact ⟨rfl, H151.kept⟩
            · skip
              exact absurd hs149 (by decide) --done
          · skip
            exact absurd (by rw [secB_len heg]; rfl) hs143 --done
end
end Go.Proofs.Yteflbohpabdjkaa
