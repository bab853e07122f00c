/-
  The slots, told plainly; numbers as bytes; and how they lie in memory.
-/
import Derived.Test.YteflbohpabdjkaaLawT
import Derived.Test.YteflbohpabdjkaaMwC
namespace Go.Proofs.Yteflbohpabdjkaa
open Go Go.Mw

/-- A number's byte, k places from the end. -/
def byteAt (n : Int) (k : Nat) : UInt8 := UInt8.ofNat (n.fdiv (2 ^ (8 * k)) % 256).toNat
/-- A number's last m bytes, the highest first. -/
def be (m : Nat) (n : Int) : List UInt8 := (List.range m).map fun i => byteAt n (m - 1 - i)
theorem be_length (m : Nat) (n : Int) : (be m n).length = m := by simp [be]
theorem byteAt_val (n : Int) (k : Nat) : ((byteAt n k).toNat : Int) = n.fdiv (2 ^ (8 * k)) % 256 := by
  unfold byteAt
  rw [UInt8.toNat_ofNat']
  omega
theorem be_take_succ {m i : Nat} (n : Int) (h : i < m) : (be m n).take (i + 1) = (be m n).take i ++ [byteAt n (m - 1 - i)] := by
  rw [List.take_succ_eq_append_getElem (by rw [be_length]; exact h)]
  simp [be]
def takeN (l : List UInt8) : Nat := l.foldl (fun n c => (n * 256 + c.toNat) % 18446744073709551616) 0
theorem takeN_snoc (l : List UInt8) (c : UInt8) : takeN (l ++ [c]) = (takeN l * 256 + c.toNat) % 18446744073709551616 := by simp [takeN]
theorem takeN_lt (l : List UInt8) : takeN l < 18446744073709551616 := by
  rcases List.eq_nil_or_concat l with rfl | ⟨l', c, rfl⟩
  · simp [takeN]
  · rw [List.concat_eq_append, takeN_snoc]; exact Nat.mod_lt _ (by decide)
/-- The sector that says what is kept. -/
def rootB (n many : Int) : List UInt8 := be 8 n ++ be 4 many ++ List.replicate 116 0
theorem rootB_length (n many : Int) : (rootB n many).length = 128 := by simp [rootB, be_length]

structure SM where
  n : Int
  many : Int
  bad : Bool
def slotCells (p : Nat) (s : SM) : List Value := [.pointer (some ⟨p, 0, none⟩), I s.n, I s.many, .bool s.bad]
def slotH (s p : Nat) (m : SM) : HP := blk s (slotCells p m) 95
/-- How many sectors an area has; how many bytes; where one begins. -/
def half (d : DM) : Int := (d.size - 1) / 2
def room (d : DM) : Int := half d * 128
def area (d : DM) (n : Int) : Int := 1 + n % 2 * half d
def go (x : Int × DM) (f : DM → Int × DM) : Int × DM := if x.1 = 0 then f x.2 else x
def chunk (b : List UInt8) (k : Nat) : List UInt8 := (b.drop (128 * k)).take 128
def wr (at_ : Int) (b : List UInt8) : Nat → Int × DM → Int × DM
  | 0, x => x
  | k + 1, x => go (wr at_ b k x) fun d => d.write (at_ + k) (chunk b k)
def nch (b : List UInt8) : Nat := (b.length + 127) / 128
def save1 (n : Int) (b : List UInt8) (d : DM) : Int × DM := go (go (go (wr (area d n) b (nch b) (0, d)) DM.flush) fun d => d.write 0 (rootB n b.length)) DM.flush
def mostNum : Int := 9007199254740991
def save (s : SM) (d : DM) (b : List UInt8) : Int × SM × DM :=
  if s.bad then (290, s, d) else if room d < b.length ∨ s.n = mostNum then (5, s, d) else
  if (save1 (s.n + 1) b d).1 ≠ 0 then ((save1 (s.n + 1) b d).1, { s with bad := true }, (save1 (s.n + 1) b d).2) else (0, ⟨s.n + 1, b.length, false⟩, (save1 (s.n + 1) b d).2)
/-- The sectors from one on, so many. -/
def secsFrom (d : DM) (at_ : Int) : Nat → List UInt8
  | 0 => []
  | k + 1 => secsFrom d at_ k ++ d.sec (at_ + k)
def load (s : SM) (d : DM) : List UInt8 × Int × SM :=
  if s.bad then ([], 290, s) else if s.n = 0 then ([], 300, s) else if 0 < s.many ∧ d.dead then ([], 290, { s with bad := true }) else
  ((secsFrom d (area d s.n) ((s.many.toNat + 127) / 128)).take s.many.toNat, 0, s)
/-- What slots of a disk are like. -/
structure SM.ok (s : SM) (d : DM) : Prop where
  n0 : 0 ≤ s.n
  n : s.n ≤ mostNum
  many0 : 0 ≤ s.many
  many : s.many ≤ room d
  size : 3 ≤ d.size
/-- What a root says: a number and a length, or nothing. -/
def rootOf (d : DM) (b : List UInt8) : Option (Int × Int) :=
  let n := takeN (b.take 8)
  let m := takeN ((b.drop 8).take 4)
  if b = rootB n m ∧ (n : Int) ≤ mostNum ∧ (m : Int) ≤ room d ∧ ¬ (n = 0 ∧ 0 < m) then some (n, m) else none
def openS (d : DM) : Int × SM := if d.size < 3 then (5, ⟨0, 0, false⟩) else if d.dead then (290, ⟨0, 0, false⟩) else
  match rootOf d (d.sec 0) with
  | some (n, m) => (0, ⟨n, m, false⟩)
  | none => (4, ⟨0, 0, false⟩)
end Go.Proofs.Yteflbohpabdjkaa
/-
  The slots' small functions, walked.
-/
namespace Go.Proofs.Yteflbohpabdjkaa
open Go Go.Mw
set_option maxRecDepth 4000

section
variable {p s : Nat} {d : DM} {m : SM} {F : Nat → Prop} {w w₀ : World} {S : Nat → Prop} {rs : List HP} {put : HP → List HP}
theorem put_ok {b o k c E : Nat} {cs : List Value} {n : Int} (hk : k ≤ 8) (ho : o + k ≤ cs.length) (h : (blk b cs E).ok F w) :
    Rets Try.prog 87 [.slice (some ⟨b, o, none⟩) k c, I n] w fun v w' => v = .tuple #[] ∧ Turn F (blk b (lay cs o ((be k n).map B)) E) w w' := by
  have H := Sep.start1 h
  refine rets2 Try.func87 rfl rfl rfl rfl ?_
  refine FW_seq ?_
  refine FW_region ?_
  refine FL_move (h := ?_)
  refine FL_val (Gives.lenSlice rfl) rfl ?_
  refine FL_move (h := ?_)
  refine FL_nil (Qseq_normal ?_)
  refine FW_block ?_
  refine FW_loop' (fun i : Nat => [(0, .slice (some ⟨b, o, none⟩) k c), (1, I n), (6, I k), (7, I i)])
    (fun i w' => i ≤ k ∧ Sep w F [blk b (lay cs o (((be k n).take i).map B)) E] w') (fun i _ => k - i) 0 ⟨rfl, rfl, rfl, rfl, trivial⟩ ⟨Nat.zero_le _, by rw [List.take_zero, List.map_nil, lay_nil]; exact H⟩ (fun i τ w5 hI => ?_)
  obtain ⟨hi, H5⟩ := hI
  try simp only [upds, like, upd_ds, und_ds]
  refine FW_seq ?_
  refine FW_region ?_
  refine FL_val (Gives.lss rfl rfl) rfl ?_
  refine FL_nil (Qseq_normal ?_)
  refine FW_seq ?_
  first | refine FW_condP rfl (fun hc7 => ?_) (fun hc7 => ?_) | refine FW_cond rfl (fun hc7 => ?_) (fun hc7 => ?_)
  · skip
    have hlt : i < k := by omega
    refine FW_skip (Qseq_normal ?_)
    refine FW_seq ?_
    refine FW_block ?_
    refine FW_seq ?_
    refine FW_region ?_
    refine FL_move (h := ?_)
    refine FL_assign (h := ?_)
    refine FL_nil (Qseq_normal ?_)
    refine FW_region ?_
    refine FL_move (h := ?_)
    refine FL_move (h := ?_)
    refine FL_move (h := ?_)
    refine FL_move (h := ?_)
    refine FL_val (Gives.lenSlice rfl) rfl ?_
    first | refine FL_val (Gives.subI rfl rfl rfl (by omega)) rfl ?_ | refine FL_val (Gives.sub rfl rfl) rfl ?_
    refine FL_move (h := ?_)
    first | refine FL_val (Gives.subI rfl rfl rfl (by omega)) rfl ?_ | refine FL_val (Gives.sub rfl rfl) rfl ?_
    first | refine FL_val (Gives.mulI rfl rfl rfl (by omega)) rfl ?_ | refine FL_val (Gives.mul rfl rfl) rfl ?_
    refine FL_val (Gives.shr rfl rfl (by omega)) rfl ?_
    rw [show min (8 * ((k : Int) - 1 - (i : Int))).toNat IntKind.i64.bits = 8 * (k - 1 - i) by show min _ 64 = _; omega]
    refine FL_val (Gives.conv rfl) rfl ?_
    rw [show IntKind.u8.wrap (n.fdiv (2 ^ (8 * (k - 1 - i)))) = ((byteAt n (k - 1 - i)).toNat : Int) by rw [byteAt_val]; rfl]
    refine FL_val (Gives.idxO rfl rfl hlt) rfl ?_
    have hll : ((be k n).take i |>.map B).length = i := by simp [be_length]; omega
    refine FL_store H5 (hy := by exact rfl) (hat := At0) (cs' := lay cs o (((be k n).take (i + 1)).map B)) (ho := by rw [lay_length (by omega)]; exact Nat.ble_eq_true_of_le (by omega)) (hs := by
      have e := lay_set (cs := cs) (us := ((be k n).take i).map B) (o := o) (v := B (byteAt n (k - 1 - i))) (by omega)
      rw [hll] at e
      rw [be_take_succ n hlt, List.map_append]
      exact e) (h := ?_)
    intro w24 H24
    refine FL_nil (Qblk_normal (Qseq_normal ?_))
    refine FW_region ?_
    first | refine FL_val (Gives.addI rfl rfl rfl (by omega)) rfl ?_ | refine FL_val (Gives.add rfl rfl) rfl ?_
    refine FL_move (h := ?_)
    refine FL_nil ?_
    exact Qround_normal (i + 1) ⟨rfl, rfl, rfl, rfl, trivial⟩ ⟨by omega, H24⟩ (by omega)
  · skip
    have hik : i = k := by omega
    subst hik
    refine FW_exit (Qseq_exit (Qround_exit (Qblk_exit (Qfn_normal (hR := ?_)))))
    rw [List.take_of_length_le (by rw [be_length]; omega)] at H5
    exact ⟨rfl, H5.turn⟩
theorem take_ok {A : Option Addr} {c : Nat} {l : List UInt8} (hl : l.length ≤ 1000) (hr : RowAt w A l.length 1 (l.map B)) :
    Rets Try.prog 80 [.slice A l.length c] w fun v w' => v = .int .u64 (takeN l) ∧ w = w' := by
  refine rets1 Try.func80 rfl rfl rfl rfl ?_
  refine FW_seq ?_
  refine FW_region ?_
  refine FL_assign (h := ?_)
  refine FL_nil (Qseq_normal ?_)
  refine FW_seq ?_
  refine FW_seq ?_
  refine FW_region ?_
  refine FL_move (h := ?_)
  refine FL_val (Gives.lenSlice rfl) rfl ?_
  refine FL_move (h := ?_)
  refine FL_nil (Qseq_normal ?_)
  refine FW_block ?_
  refine FW_loop' (fun i : Nat => [(2, .int .u64 (takeN (l.take i) : Nat)), (5, .slice A l.length c), (6, I l.length), (7, I i)])
    (fun i w' => i ≤ l.length ∧ w' = w) (fun i _ => l.length - i) 0 ⟨rfl, rfl, rfl, rfl, trivial⟩ ⟨Nat.zero_le _, rfl⟩ (fun i τ w2 hI => ?_)
  obtain ⟨hi, rfl⟩ := hI
  try simp only [upds, like, upd_ds, und_ds]
  refine FW_seq ?_
  refine FW_region ?_
  refine FL_val (Gives.lss rfl rfl) rfl ?_
  refine FL_nil (Qseq_normal ?_)
  refine FW_seq ?_
  first | refine FW_condP rfl (fun hc7 => ?_) (fun hc7 => ?_) | refine FW_cond rfl (fun hc7 => ?_) (fun hc7 => ?_)
  · skip
    have hlt : i < l.length := by omega
    obtain ⟨ad, hA, _⟩ := hr.at_ (by omega)
    subst hA
    have hcell : ∀ j u, [B l[i]][j]? = some u → (l.map B)[i * 1 + j]? = some u := by
      intro j u hj
      cases j with
      | zero => simpa [hlt] using hj
      | succ j => simp at hj
    refine FW_skip (Qseq_normal ?_)
    refine FW_seq ?_
    refine FW_block ?_
    refine FW_seq ?_
    refine FW_region ?_
    refine FL_val (Gives.idx rfl rfl hlt) rfl ?_
    refine FL_val (Gives.loadC rfl (hr.elemC rfl i hlt (us := [B l[i]]) hcell 0 _ rfl)) rfl ?_
    refine FL_assign (h := ?_)
    refine FL_nil (Qseq_normal ?_)
    refine FW_region ?_
    refine FL_move (h := ?_)
    refine FL_val (Gives.shl rfl rfl (by omega)) rfl ?_
    rw [show IntKind.u64.wrap ((takeN (l.take i) : Int) * 2 ^ min (8 : Int).toNat IntKind.u64.bits) = ((takeN (l.take i) * 256 % 18446744073709551616 : Nat) : Int) by
      show ((takeN (l.take i) : Int) * 256) % 18446744073709551616 = _
      omega]
    refine FL_move (h := ?_)
    refine FL_val (Gives.conv rfl) rfl ?_
    rw [show IntKind.u64.wrap ((l[i].toNat : Int)) = ((l[i].toNat : Nat) : Int) by
      show (l[i].toNat : Int) % 18446744073709551616 = _
      have := l[i].toNat_lt
      omega]
    refine FL_val (Gives.or rfl rfl) rfl ?_
    rw [show bits .or .u64 ((takeN (l.take i) * 256 % 18446744073709551616 : Nat) : Int) ((l[i].toNat : Nat) : Int) = ((takeN (l.take (i + 1)) : Nat) : Int) by
      have hb := l[i].toNat_lt
      have hq : takeN (l.take i) * 256 % 18446744073709551616 = (takeN (l.take i) % 72057594037927936) <<< 8 := by
        rw [Nat.shiftLeft_eq]
        omega
      rw [u64_or_nat _ _ (by omega) (by omega), hq, ← Nat.shiftLeft_add_eq_or_of_lt (by omega), List.take_succ_eq_append_getElem hlt, takeN_snoc, Nat.shiftLeft_eq]
      omega]
    refine FL_assign (h := ?_)
    refine FL_nil (Qblk_normal (Qseq_normal ?_))
    refine FW_region ?_
    first | refine FL_val (Gives.addI rfl rfl rfl (by omega)) rfl ?_ | refine FL_val (Gives.add rfl rfl) rfl ?_
    refine FL_move (h := ?_)
    refine FL_nil ?_
    exact Qround_normal (i + 1) ⟨rfl, rfl, rfl, rfl, trivial⟩ ⟨by omega, rfl⟩ (by omega)
  · skip
    have hik : i = l.length := by omega
    subst hik
    rw [List.take_length]
    refine FW_exit (Qseq_exit (Qround_exit (Qblk_exit (Qseq_normal ?_))))
    refine FW_seq ?_
    refine FW_region ?_
    refine FL_move (h := ?_)
    refine FL_assign (h := ?_)
    refine FL_nil (Qseq_normal ?_)
    refine FW_ret (Qfn_ret (hR := ?_))
    exact ⟨rfl, rfl⟩
theorem root_lay (n many : Int) : lay (lay (List.replicate 128 (Value.int .u8 0)) 0 ((be 8 n).map B)) 8 ((be 4 many).map B) = (rootB n many).map B := by
  have h8 : ((be 8 n).map B).length = 8 := by simp [be_length]
  have h4 : ((be 4 many).map B).length = 4 := by simp [be_length]
  have e1 : List.replicate 128 (Value.int .u8 0) = [] ++ (List.replicate 8 (Value.int .u8 0) ++ List.replicate 120 (Value.int .u8 0)) := rfl
  have e2 : ([] ++ (be 8 n).map B) ++ List.replicate 120 (Value.int .u8 0) = (be 8 n).map B ++ (List.replicate 4 (Value.int .u8 0) ++ List.replicate 116 (Value.int .u8 0)) := rfl
  rw [e1, lay_mid (a := []) (o := 0) rfl (by rw [h8]; rfl), e2, lay_mid h8 (by rw [h4]; rfl)]
  simp only [rootB, List.map_append, List.map_replicate]
  rfl
theorem of_ok (n many : Int) : Rets Try.prog 77 [I n, I many] w fun v w' => v = .agg ((rootB n many).map B).toArray ∧ Kept noB w w' := by
  have H := Sep.start0 w
  refine retsC2 Try.func77 rfl rfl rfl rfl ?_
  refine FW_seq ?_
  refine FW_region ?_
  refine FL_alloc H (h := ?_)
  intro b1 w2 H2 k1
  refine FL_nil (Qseq_normal ?_)
  refine FW_seq ?_
  refine FW_region ?_
  refine FL_val (Gives.sliceArrTo (h := 8) rfl rfl (by decide)) rfl ?_
  refine FL_move (h := ?_)
  refine FL_call1 H2 At0 (fun F' hp _ => put_ok (k := 8) (o := 0) (n := n) (by decide) (by decide) hp) (h := fun w6 H6 => ?_)
  refine FL_nil (Qseq_normal ?_)
  refine FW_seq ?_
  refine FW_region ?_
  refine FL_val (Gives.sliceArrBoth (l := 8) (h := 12) rfl rfl rfl (by decide) (by decide)) rfl ?_
  refine FL_move (h := ?_)
  refine FL_call1 H6 At0 (fun F' hp _ => put_ok (k := 4) (o := 8) (n := many) (by decide) (by rw [lay_length (by simp [be_length])]; decide) hp) (h := fun w10 H10 => ?_)
  refine FL_nil (Qseq_normal ?_)
  refine FW_seq ?_
  refine FW_region ?_
  rw [root_lay] at H10
  refine FL_loadN H10 (cs := (rootB n many).map B) (o := 0) (k := 128) (us := (rootB n many).map B) (hu := List.take_of_length_le (by simp [rootB_length])) (hk := by simp [rootB_length]) (h := ?_)
  refine FL_storeN (us := (rootB n many).map B) H10 (hk := by simp [rootB_length]) (hv := by intro u hu; obtain ⟨k, _, rfl⟩ := List.mem_map.1 hu; rfl) (ho := by omega) (hs := storeN_all rfl) (h := ?_)
  intro w13 H13
  refine FL_nil (Qseq_normal ?_)
  refine FW_ret (QfnC_ret (h := ?_))
  exact ⟨_, ⟨_, _, _, rfl, rfl, loadVar_blkN (cs := (rootB n many).map B) (o := 0) (k := 128) (H13.obj At0) (us := (rootB n many).map B) (List.take_of_length_le (by simp [rootB_length])) (by simp [rootB_length]), rfl⟩, rfl, H13.kept⟩
section small
variable {put' : HP → List HP}
theorem sizeS_at {k : Int} (H : Sep w₀ S rs w) (hat : At rs (diskH p d) put) (hb : d.size = k) : Rets Try.prog 45 [.pointer (some ⟨p, 0, none⟩)] w fun v w' => v = I k ∧ w = w' := by
  obtain ⟨F, hp, _⟩ := H.focus hat
  rw [← hb]
  exact size_ok hp
theorem noneS_at (H : Sep w₀ S rs w) (hat : At rs (slotH s p m) put) : Rets Try.prog 73 [.pointer (some ⟨s, 0, none⟩)] w fun v w' => v = .bool false ∧ w = w' := by
  have hb := H.obj hat
  refine rets1 Try.func73 rfl rfl rfl rfl ?_
  refine FW_seq ?_
  refine FW_region ?_
  refine FL_assign (h := ?_)
  refine FL_nil (Qseq_normal ?_)
  refine FW_seq ?_
  refine FW_region ?_
  refine FL_move (h := ?_)
  refine FL_val (Gives.eqlNil rfl rfl) rfl ?_
  refine FL_move (h := ?_)
  first | refine FL_splitP (t := 5) rfl (fun hs5 => ?_) (fun hs5 => ?_) | refine FL_split (t := 5) rfl (fun hs5 => ?_) (fun hs5 => ?_)
  · skip
    first | exact absurd rfl hs5 | exact (hs5 trivial).elim | exact absurd hs5 (by decide) | exact absurd hs5 (by simp) | omega --done
  · skip
    refine FL_on rfl rfl ?_
    refine FL_move (h := ?_)
    refine FL_on rfl rfl ?_
    refine FL_val (Gives.nilCheck rfl) rfl ?_
    refine FL_on rfl rfl ?_
    first | refine FL_val (Gives.field0 rfl) rfl ?_ | refine FL_val (Gives.field rfl) rfl ?_ | refine FL_val (Gives.fieldA rfl) rfl ?_
    refine FL_on rfl rfl ?_
    refine FL_loadB hb (h := ?_)
    refine FL_on rfl rfl ?_
    refine FL_val (Gives.eqlNil rfl rfl) rfl ?_
    refine FL_pickF (h := ?_)
    refine FL_assign (h := ?_)
    refine FL_nil (Qseq_normal ?_)
    refine FW_ret (Qfn_ret (hR := ?_))
    exact ⟨rfl, rfl⟩
theorem sectors_at' (H : Sep w₀ S rs w) (hat : At rs (slotH s p m) put) (hat' : At rs (diskH p d) put') : Rets Try.prog 84 [.pointer (some ⟨s, 0, none⟩)] w fun v w' => v = I (half d) ∧ w = w' := by
  have hb := H.obj hat
  obtain ⟨_, hp, _⟩ := H.focus hat'
  have hwf := (diskH_blk hp).1
  refine rets1 Try.func84 rfl rfl rfl rfl ?_
  refine FW_seq ?_
  refine FW_region ?_
  refine FL_assign (h := ?_)
  refine FL_nil (Qseq_normal ?_)
  refine FW_seq ?_
  refine FW_region ?_
  refine FL_move (h := ?_)
  refine FL_val (Gives.nilCheck rfl) rfl ?_
  first | refine FL_val (Gives.field0 rfl) rfl ?_ | refine FL_val (Gives.field rfl) rfl ?_ | refine FL_val (Gives.fieldA rfl) rfl ?_
  refine FL_loadB hb (h := ?_)
  refine FL_callS (sizeS_at H hat' rfl) (h := ?_)
  refine FL_val (Gives.subI rfl rfl rfl (by have := hwf.1; have := hwf.2.1; omega)) rfl ?_
  refine FL_val (Gives.quo rfl rfl (by decide)) rfl ?_
  rw [show IntKind.i64.wrap ((d.size - 1).tdiv 2) = half d by
    have := hwf.1
    have := hwf.2.1
    rw [Int.tdiv_eq_ediv_of_nonneg (by omega)]
    exact IntWalk.i64_in _ (by omega)]
  refine FL_assign (h := ?_)
  refine FL_nil (Qseq_normal ?_)
  refine FW_ret (Qfn_ret (hR := ?_))
  exact ⟨rfl, rfl⟩
theorem half_bd (hwf : d.wf) : 0 ≤ half d ∧ half d ≤ 32767 := by
  have := hwf.1
  have := hwf.2.1
  unfold half
  omega
theorem room_at (H : Sep w₀ S rs w) (hat : At rs (slotH s p m) put) (hat' : At rs (diskH p d) put') : Rets Try.prog 60 [.pointer (some ⟨s, 0, none⟩)] w fun v w' => v = I (room d) ∧ w = w' := by
  obtain ⟨_, hp, _⟩ := H.focus hat'
  have hh := half_bd (diskH_blk hp).1
  refine rets1 Try.func60 rfl rfl rfl rfl ?_
  refine FW_seq ?_
  refine FW_region ?_
  refine FL_assign (h := ?_)
  refine FL_nil (Qseq_normal ?_)
  refine FW_seq ?_
  refine FW_seq ?_
  refine FW_region ?_
  refine FL_move (h := ?_)
  refine FL_callS (noneS_at H hat) (h := ?_)
  refine FL_nil (Qseq_normal ?_)
  first | refine FW_condP rfl (fun hc4 => ?_) (fun hc4 => ?_) | refine FW_cond rfl (fun hc4 => ?_) (fun hc4 => ?_)
  · skip
    first | exact absurd rfl hc4 | exact (hc4 trivial).elim | exact absurd hc4 (by decide) | exact absurd hc4 (by simp) | omega --done
  · skip
    refine FW_skip (Qseq_normal ?_)
    refine FW_seq ?_
    refine FW_region ?_
    refine FL_move (h := ?_)
    refine FL_callS (sectors_at' H hat hat') (h := ?_)
    refine FL_val (Gives.mulI rfl rfl rfl (by omega)) rfl ?_
    refine FL_assign (h := ?_)
    refine FL_nil (Qseq_normal ?_)
    refine FW_ret (Qfn_ret (hR := ?_))
    exact ⟨rfl, rfl⟩
theorem number_at (H : Sep w₀ S rs w) (hat : At rs (slotH s p m) put) : Rets Try.prog 54 [.pointer (some ⟨s, 0, none⟩)] w fun v w' => v = I m.n ∧ w = w' := by
  have hb := H.obj hat
  refine rets1 Try.func54 rfl rfl rfl rfl ?_
  refine FW_seq ?_
  refine FW_region ?_
  refine FL_assign (h := ?_)
  refine FL_nil (Qseq_normal ?_)
  refine FW_seq ?_
  refine FW_seq ?_
  refine FW_region ?_
  refine FL_move (h := ?_)
  refine FL_callS (noneS_at H hat) (h := ?_)
  refine FL_nil (Qseq_normal ?_)
  first | refine FW_condP rfl (fun hc4 => ?_) (fun hc4 => ?_) | refine FW_cond rfl (fun hc4 => ?_) (fun hc4 => ?_)
  · skip
    first | exact absurd rfl hc4 | exact (hc4 trivial).elim | exact absurd hc4 (by decide) | exact absurd hc4 (by simp) | omega --done
  · skip
    refine FW_skip (Qseq_normal ?_)
    refine FW_seq ?_
    refine FW_region ?_
    refine FL_move (h := ?_)
    refine FL_val (Gives.nilCheck rfl) rfl ?_
    first | refine FL_val (Gives.field0 rfl) rfl ?_ | refine FL_val (Gives.field rfl) rfl ?_ | refine FL_val (Gives.fieldA rfl) rfl ?_
    refine FL_loadB hb (h := ?_)
    refine FL_assign (h := ?_)
    refine FL_nil (Qseq_normal ?_)
    refine FW_ret (Qfn_ret (hR := ?_))
    exact ⟨rfl, rfl⟩
theorem area_at {n : Int} (hn : 0 ≤ n) (H : Sep w₀ S rs w) (hat : At rs (slotH s p m) put) (hat' : At rs (diskH p d) put') : Rets Try.prog 75 [.pointer (some ⟨s, 0, none⟩), I n] w fun v w' => v = I (area d n) ∧ w = w' := by
  obtain ⟨_, hp, _⟩ := H.focus hat'
  have hh := half_bd (diskH_blk hp).1
  have hm : 0 ≤ n % 2 * half d ∧ n % 2 * half d ≤ 32767 := by
    rcases (show n % 2 = 0 ∨ n % 2 = 1 by omega) with h | h <;> rw [h] <;> omega
  refine rets2 Try.func75 rfl rfl rfl rfl ?_
  refine FW_seq ?_
  refine FW_region ?_
  refine FL_assign (h := ?_)
  refine FL_nil (Qseq_normal ?_)
  refine FW_seq ?_
  refine FW_region ?_
  refine FL_move (h := ?_)
  refine FL_val (Gives.rem rfl rfl (by decide)) rfl ?_
  rw [show n.tmod 2 = n % 2 from Int.tmod_eq_emod_of_nonneg hn]
  refine FL_move (h := ?_)
  refine FL_callS (sectors_at' H hat hat') (h := ?_)
  refine FL_val (Gives.mulI rfl rfl rfl (by omega)) rfl ?_
  refine FL_val (Gives.addI rfl rfl rfl (by omega)) rfl ?_
  refine FL_assign (h := ?_)
  refine FL_nil (Qseq_normal ?_)
  refine FW_ret (Qfn_ret (hR := ?_))
  exact ⟨rfl, rfl⟩
end small
end
end Go.Proofs.Yteflbohpabdjkaa
/-
  Save, walked, with its closures.
-/
namespace Go.Proofs.Yteflbohpabdjkaa
open Go Go.Mw
set_option maxRecDepth 8000

theorem small_go {k : Nat} {x : Int × DM} {f : DM → Int × DM} (h : x.2.small k) (hf : ∀ d : DM, d.small k → (f d).2.small (k + 1)) : (go x f).2.small (k + 1) := by
  unfold go
  split
  · exact hf _ h
  · exact h.mono (by omega)
theorem small_wr {k : Nat} {a : Int} {b : List UInt8} {x : Int × DM} (h : x.2.small k) : ∀ j, (wr a b j x).2.small (k + j)
  | 0 => h
  | j + 1 => by
    have := small_go (f := fun d => d.write (a + j) (chunk b j)) (small_wr (a := a) (b := b) h j) fun d hd => small_write hd _ _
    exact this
theorem off_cut {A : Option Addr} {n k cap : Nat} {F : Nat → Prop} (h : Off A n F) (j : Nat) : Off (if cap = k then A else A.map (·.add j)) (n - k) F := fun hn ad hA hb => by
  rcases A with _ | a
  · split at hA <;> cases hA
  · split at hA
    · injection hA with hA
      subst hA
      exact h (by omega) _ rfl hb
    · injection hA with hA
      subst hA
      rw [add_block] at hb
      exact h (by omega) _ rfl hb
theorem off_le {A : Option Addr} {n m : Nat} {F : Nat → Prop} (h : Off A n F) (hm : m ≤ n) : Off A m F := fun hn ad hA hb => h (by omega) ad hA hb
section
variable {p s be : Nat} {d : DM} {m : SM} {F : Nat → Prop} {w w₀ : World} {S : Nat → Prop} {rs : List HP} {put : HP → List HP}
theorem do_ok {g : FuncId} {fs cs : List Value} {x : Int × DM} {f : DM → Int × DM} [Enters Try.prog g] (H : Sep w₀ S (blk be [I x.1] 33 :: diskH p x.2 :: rs) w)
    (hg : x.1 = 0 → Rets Try.prog g (fs ++ [] ++ cs) w fun v w' => v = I (f x.2).1 ∧ Sep w₀ S (blk be [I 0] 33 :: diskH p (f x.2).2 :: rs) w') :
    Rets Try.prog 74 [.func (.func g) fs.toArray cs.toArray, .pointer (some ⟨be, 0, none⟩)] w fun v w' => v = .tuple #[] ∧ Sep w₀ S (blk be [I (go x f).1] 33 :: diskH p (go x f).2 :: rs) w' := by
  refine rets2 Try.func74 rfl rfl rfl rfl ?_
  refine FW_seq ?_
  refine FW_region ?_
  refine FL_load H (h := ?_)
  refine FL_val (Gives.eql rfl rfl) rfl ?_
  refine FL_nil (Qseq_normal ?_)
  first | refine FW_condP rfl (fun hc3 => ?_) (fun hc3 => ?_) | refine FW_cond rfl (fun hc3 => ?_) (fun hc3 => ?_)
  · skip
    have he : x.1 = 0 := hc3
    have hgo : go x f = f x.2 := by unfold go; rw [if_pos he]
    rw [hgo]
    refine FW_region ?_
    refine FL_move (h := ?_)
    refine FL_callV (fs := fs) (cs := cs) (vals := []) rfl (hg he) rfl rfl (fun v w7 hv => ?_)
    obtain ⟨rfl, H7⟩ := hv
    refine FL_store H7 (h := ?_)
    intro w9 H9
    refine FL_nil (Qfn_normal (hR := ?_))
    exact ⟨rfl, H9⟩
  · skip
    have he : ¬ x.1 = 0 := hc3
    have hgo : go x f = x := by unfold go; rw [if_neg he]
    rw [hgo]
    refine FW_skip (Qfn_normal (hR := ?_))
    exact ⟨rfl, H⟩
theorem flushV {x : DM} {e : Int} (he : e = 0) (hs : x.small 1000000) (H : Sep w₀ S (blk be [I e] 33 :: diskH p x :: rs) w) :
    Rets Try.prog 28 ([.pointer (some ⟨p, 0, none⟩)] ++ [] ++ []) w fun v w' => v = I x.flush.1 ∧ Sep w₀ S (blk be [I 0] 33 :: diskH p x.flush.2 :: rs) w' := by
  subst he
  obtain ⟨F', hp, hF', hput⟩ := H.focus At1
  refine Rets.mono (flush_ok (by have := hs.1; omega) (by have := hs.2.1; omega) (by have := hs.2.2; unfold fits; omega) hp) fun v w' ⟨h1, hk, F2, hq, hsub⟩ => ?_
  exact ⟨h1, hput _ F2 _ hk hq hsub⟩
theorem writeV {x : DM} {b8 b10 b2 : Nat} {at_ : Int} {A : Option Addr} {c : Nat} {l : List UInt8} {e : Int} (he : e = 0) (hs : x.small 1000000) (hr : RowAt w₀ A l.length 1 (l.map B)) (hA : Off A l.length S)
    (H : Sep w₀ S (blk be [I e] 33 :: diskH p x :: blk b10 [.slice A l.length c] 27 :: blk b8 [I at_] 3 :: blk b2 [.pointer (some ⟨s, 0, none⟩)] 70 :: slotH s p m :: rs) w) :
    Rets Try.prog 76 ([] ++ [] ++ [.pointer (some ⟨b2, 0, none⟩), .pointer (some ⟨b8, 0, none⟩), .pointer (some ⟨b10, 0, none⟩)]) w fun v w' => v = I (x.write at_ l).1 ∧
      Sep w₀ S (blk be [I 0] 33 :: diskH p (x.write at_ l).2 :: blk b10 [.slice A l.length c] 27 :: blk b8 [I at_] 3 :: blk b2 [.pointer (some ⟨s, 0, none⟩)] 70 :: slotH s p m :: rs) w' := by
  subst he
  refine rets3 Try.func76 rfl rfl rfl rfl ?_
  refine FW_seq ?_
  refine FW_region ?_
  refine FL_assign (h := ?_)
  refine FL_nil (Qseq_normal ?_)
  refine FW_seq ?_
  refine FW_drawS rfl H (h := fun hok2 w4 H4 => ?_)
  refine FGload hok2 0 H4 (h := ?_)
  refine FGp hok2 1 rfl rfl (fun _ => (Gives.nilCheck rfl)) (by kernel_rfl) ?_
  first | refine FGp hok2 2 rfl rfl (fun _ => (Gives.field0 rfl)) (by kernel_rfl) ?_ | refine FGp hok2 2 rfl rfl (fun _ => (Gives.field rfl)) (by kernel_rfl) ?_ | refine FGp hok2 2 rfl rfl (fun _ => (Gives.fieldA rfl)) (by kernel_rfl) ?_
  refine FGload hok2 3 (b := s) (cs := slotCells p m) H4 (hat := At5) (h := ?_)
  refine FGload hok2 4 H4 (h := ?_)
  refine FGload hok2 5 H4 (h := ?_)
  refine FGcall1 hok2 6 [] H4 At1 (fun F' hp hF' => write_ok (by have := hs.1; omega) (by have := hs.2.1; omega) (by have := hs.2.2; unfold fits; omega) (hr.keepS H4.kept hA) (hA.of hr hF' (by decide)) hp) (h := fun w12 H12 => ⟨Stab_nil, ?_⟩)
  refine FGp hok2 7 rfl rfl (fun _ => Gives.assign rfl) (by kernel_rfl) ?_
  refine FG_end hok2 (by kernel_rfl) ?_
  refine Qseq_normal ?_
  refine FW_ret (Qfn_ret (hR := ?_))
  exact ⟨rfl, H12⟩
theorem rootV {x : DM} {b11 b2 : Nat} {l : List UInt8} {e : Int} (he : e = 0) (hl : l.length = 128) (hs : x.small 1000000)
    (H : Sep w₀ S (blk be [I e] 33 :: diskH p x :: blk b11 (l.map B) 112 :: blk b2 [.pointer (some ⟨s, 0, none⟩)] 70 :: slotH s p m :: rs) w) :
    Rets Try.prog 78 ([] ++ [] ++ [.pointer (some ⟨b2, 0, none⟩), .pointer (some ⟨b11, 0, none⟩)]) w fun v w' => v = I (x.write 0 l).1 ∧
      Sep w₀ S (blk be [I 0] 33 :: diskH p (x.write 0 l).2 :: blk b11 (l.map B) 112 :: blk b2 [.pointer (some ⟨s, 0, none⟩)] 70 :: slotH s p m :: rs) w' := by
  subst he
  refine rets2 Try.func78 rfl rfl rfl rfl ?_
  refine FW_seq ?_
  refine FW_region ?_
  refine FL_assign (h := ?_)
  refine FL_nil (Qseq_normal ?_)
  refine FW_seq ?_
  refine FW_drawS rfl H (h := fun hok2 w4 H4 => ?_)
  refine FGload hok2 0 H4 (h := ?_)
  refine FGp hok2 1 rfl rfl (fun _ => (Gives.nilCheck rfl)) (by kernel_rfl) ?_
  first | refine FGp hok2 2 rfl rfl (fun _ => (Gives.field0 rfl)) (by kernel_rfl) ?_ | refine FGp hok2 2 rfl rfl (fun _ => (Gives.field rfl)) (by kernel_rfl) ?_ | refine FGp hok2 2 rfl rfl (fun _ => (Gives.fieldA rfl)) (by kernel_rfl) ?_
  refine FGload hok2 3 (b := s) (cs := slotCells p m) H4 (hat := At4) (h := ?_)
  refine FGp hok2 4 rfl rfl (fun _ => (Gives.sliceArr rfl)) (by kernel_rfl) ?_
  have HQ := H4.front2
  obtain ⟨F0, Fq, hp0, hq0, hdj0, hS0, hput0⟩ := HQ.focus1 At1
  refine FGcall hok2 5 [] rfl rfl (write_ok (b := l) (c := 128) (at_ := 0) (A := some ⟨b11, 0, none⟩) (by have := hs.1; omega) (by have := hs.2.1; omega) (by have := hs.2.2; unfold fits; omega)
    (by rw [hl]; exact (Sep.start1 hq0).blkRow At0 (by simp [hl])) (fun _ ad hA hb => by injection hA with hA; subst hA; exact hdj0 _ ((hq0.1 b11).2 rfl) hb) hp0) (by rw [hl]; rfl) (by kernel_rfl) (by kernel_rfl) (fun v w11 hv => ?_)
  obtain ⟨rfl, hk1, F1, hq1, hs1⟩ := hv
  have H11 := (hput0 _ F1 _ hk1 hq1 hs1).front1.front2.front1
  refine ⟨Stab_nil, ?_⟩
  refine FGp hok2 6 rfl rfl (fun _ => Gives.assign rfl) (by kernel_rfl) ?_
  refine FG_end hok2 (by kernel_rfl) ?_
  refine Qseq_normal ?_
  refine FW_ret (Qfn_ret (hR := ?_))
  exact ⟨rfl, H11⟩
end
end Go.Proofs.Yteflbohpabdjkaa
/-
  Save, walked.
-/
namespace Go.Proofs.Yteflbohpabdjkaa
open Go Go.Mw
set_option maxRecDepth 8000

theorem chunk_length (b : List UInt8) (k : Nat) : (chunk b k).length = min (b.length - 128 * k) 128 := by
  unfold chunk
  rw [List.length_take, List.length_drop]
  omega
theorem ones_B (l : List UInt8) : ∀ u ∈ l.map B, u.oneCell' = true := by
  intro u hu
  obtain ⟨k, _, rfl⟩ := List.mem_map.1 hu
  rfl
section
variable {p s : Nat} {d : DM} {m : SM} {F : Nat → Prop} {w w₀ : World} {S : Nat → Prop} {rs : List HP} {put : HP → List HP}
set_option maxHeartbeats 8000000 in
theorem saveS_ok {A : Option Addr} {c : Nat} {b : List UInt8} (hm : m.ok d) (hs : d.small 100000) (hc : b.length ≤ c) (hr : RowAt w A b.length 1 (b.map B)) (hA : Off A b.length F) (h : (star (slotH s p m) (diskH p d)).ok F w) :
    Rets Try.prog 48 [.pointer (some ⟨s, 0, none⟩), .slice A b.length c] w fun v w' => v = I (save m d b).1 ∧ Turn F (star (slotH s p (save m d b).2.1) (diskH p (save m d b).2.2)) w w' := by
  have H := (Sep.start1 h).star0
  have hwf : d.wf := by
    obtain ⟨_, hp, _⟩ := H.focus At1
    exact (diskH_blk hp).1
  have hh := half_bd hwf
  have hn0 := hm.n0
  have hn1 := hm.n
  unfold mostNum at hn1
  have har : 1 ≤ area d (m.n + 1) ∧ area d (m.n + 1) ≤ 32768 := by
    unfold area
    rcases (show (m.n + 1) % 2 = 0 ∨ (m.n + 1) % 2 = 1 by omega) with h | h <;> rw [h] <;> omega
  refine rets2 Try.func48 rfl rfl rfl rfl ?_
  refine FW_seq ?_
  refine FW_region ?_
  refine FL_box H (h := ?_)
  intro b2 w2 H2 _
  refine FL_assign (h := ?_)
  refine FL_nil (Qseq_normal ?_)
  refine FW_seq ?_
  refine FW_block ?_
  refine FW_seq ?_
  refine FW_region ?_
  refine FL_load H2 (h := ?_)
  refine FL_callS (noneS_at H2 At1) (h := ?_)
  refine FL_assign (h := ?_)
  refine FL_nil (Qseq_normal ?_)
  first | refine FW_condP rfl (fun hc7 => ?_) (fun hc7 => ?_) | refine FW_cond rfl (fun hc7 => ?_) (fun hc7 => ?_)
  · skip
    first | exact absurd rfl hc7 | exact (hc7 trivial).elim | exact absurd hc7 (by decide) | exact absurd hc7 (by simp) | omega --done
  · skip
    refine FW_seq ?_
    refine FW_region ?_
    refine FL_load H2 (h := ?_)
    refine FL_val (Gives.nilCheck rfl) rfl ?_
    first | refine FL_val (Gives.field0 rfl) rfl ?_ | refine FL_val (Gives.field rfl) rfl ?_ | refine FL_val (Gives.fieldA rfl) rfl ?_
    refine FL_load H2 (h := ?_)
    refine FL_assign (h := ?_)
    refine FL_nil (Qseq_normal ?_)
    first | refine FW_condP rfl (fun hc14 => ?_) (fun hc14 => ?_) | refine FW_cond rfl (fun hc14 => ?_) (fun hc14 => ?_)
    · skip
      have hbad : m.bad = true := hc14
      have hsv : save m d b = (290, m, d) := by unfold save; rw [if_pos hbad]
      refine FW_seq ?_
      refine FW_region ?_
      refine FL_assign (h := ?_)
      refine FL_nil (Qseq_normal ?_)
      refine FW_ret (Qblk_ret (Qseq_ret (Qfn_ret (hR := ?_))))
      exact ⟨by rw [hsv]; rfl, by rw [hsv]; exact H2.drop0.join0.turn⟩
    · skip
      have hbad : m.bad = false := hc14
      refine FW_seq ?_
      refine FW_region ?_
      refine FL_move (h := ?_)
      refine FL_val (Gives.lenSlice rfl) rfl ?_
      refine FL_load H2 (h := ?_)
      refine FL_callS (room_at H2 At1 At2) (h := ?_)
      refine FL_val (Gives.gtr rfl rfl) rfl ?_
      refine FL_move (h := ?_)
      first | refine FL_splitP (t := 26) rfl (fun hs25 => ?_) (fun hs25 => ?_) | refine FL_split (t := 26) rfl (fun hs25 => ?_) (fun hs25 => ?_)
      · skip
        have hcase : room d < b.length ∨ m.n = mostNum := .inl hs25
        refine FL_off rfl rfl rfl ?_
        refine FL_off rfl rfl rfl ?_
        refine FL_off rfl rfl rfl ?_
        refine FL_off rfl rfl rfl ?_
        refine FL_off rfl rfl rfl ?_
        refine FL_pickT (h := ?_)
        refine FL_assign (h := ?_)
        refine FL_nil (Qseq_normal ?_)
        refine FW_cond_true rfl ?_
        refine FW_seq ?_
        refine FW_region ?_
        refine FL_assign (h := ?_)
        refine FL_nil (Qseq_normal ?_)
        refine FW_ret (Qblk_ret (Qseq_ret (Qfn_ret (hR := ?_))))
        have hsv : save m d b = (5, m, d) := by unfold save; rw [if_neg (by rw [hbad]; simp), if_pos hcase]
        exact ⟨by rw [hsv]; rfl, by rw [hsv]; exact H2.drop0.join0.turn⟩
      · skip
        have hshort := hs25
        refine FL_on rfl rfl ?_
        refine FL_load H2 (h := ?_)
        refine FL_on rfl rfl ?_
        refine FL_val (Gives.nilCheck rfl) rfl ?_
        refine FL_on rfl rfl ?_
        first | refine FL_val (Gives.field0 rfl) rfl ?_ | refine FL_val (Gives.field rfl) rfl ?_ | refine FL_val (Gives.fieldA rfl) rfl ?_
        refine FL_on rfl rfl ?_
        refine FL_load H2 (h := ?_)
        refine FL_on rfl rfl ?_
        refine FL_val (Gives.eql rfl rfl) rfl ?_
        refine FL_pickF (h := ?_)
        refine FL_assign (h := ?_)
        refine FL_nil (Qseq_normal ?_)
        first | refine FW_condP rfl (fun hc39 => ?_) (fun hc39 => ?_) | refine FW_cond rfl (fun hc39 => ?_) (fun hc39 => ?_)
        · skip
          have hcase : room d < b.length ∨ m.n = mostNum := .inr hc39
          refine FW_seq ?_
          refine FW_region ?_
          refine FL_assign (h := ?_)
          refine FL_nil (Qseq_normal ?_)
          refine FW_ret (Qblk_ret (Qseq_ret (Qfn_ret (hR := ?_))))
          have hsv : save m d b = (5, m, d) := by unfold save; rw [if_neg (by rw [hbad]; simp), if_pos hcase]
          exact ⟨by rw [hsv]; rfl, by rw [hsv]; exact H2.drop0.join0.turn⟩
        · skip
          have hncase : ¬ (room d < b.length ∨ m.n = mostNum) := by
            rintro (h | h)
            · exact hshort h
            · exact hc39 h
          have hlen : (b.length : Int) ≤ room d := by omega
          have hnch : (nch b : Int) ≤ 32767 := by
            unfold room at hlen
            unfold nch
            omega
          have hsv : save m d b = if (save1 (m.n + 1) b d).1 ≠ 0 then ((save1 (m.n + 1) b d).1, { m with bad := true }, (save1 (m.n + 1) b d).2) else (0, ⟨m.n + 1, b.length, false⟩, (save1 (m.n + 1) b d).2) := by
            unfold save
            rw [if_neg (by rw [hbad]; simp), if_neg hncase]
          refine FW_skip (Qblk_normal (Qseq_normal ?_))
          refine FW_seq ?_
          refine FW_region ?_
          refine FL_alloc H2 (h := ?_)
          intro be w45 H45 _
          refine FL_store H45 (h := ?_)
          intro w47 H47
          refine FL_nil (Qseq_normal ?_)
          refine FW_seq ?_
          refine FW_region ?_
          refine FL_val (Gives.makeFunc rfl rfl) rfl ?_
          refine FL_assign (h := ?_)
          refine FL_nil (Qseq_normal ?_)
          refine FW_seq ?_
          refine FW_region ?_
          refine FL_load H47 (h := ?_)
          refine FL_val (Gives.nilCheck rfl) rfl ?_
          first | refine FL_val (Gives.field0 rfl) rfl ?_ | refine FL_val (Gives.field rfl) rfl ?_ | refine FL_val (Gives.fieldA rfl) rfl ?_
          refine FL_load H47 (h := ?_)
          refine FL_val (Gives.addI rfl rfl rfl (by omega)) rfl ?_
          refine FL_assign (h := ?_)
          refine FL_nil (Qseq_normal ?_)
          refine FW_seq ?_
          refine FW_region ?_
          refine FL_load H47 (h := ?_)
          refine FL_move (h := ?_)
          refine FL_callS (area_at (n := m.n + 1) (by omega) H47 At2 At3) (h := ?_)
          refine FL_alloc H47 (h := ?_)
          intro b8 w60 H60 _
          refine FL_store H60 (h := ?_)
          intro w62 H62
          refine FL_nil (Qseq_normal ?_)
          refine FW_seq ?_
          refine FW_seq ?_
          refine FW_region ?_
          refine FL_move (h := ?_)
          refine FL_assign (h := ?_)
          refine FL_nil (Qseq_normal ?_)
          refine FW_block ?_
          refine FW_loop' (fun x : Nat × Option Addr × Nat => [(1, .slice A b.length c), (2, .pointer (some ⟨b2, 0, none⟩)), (5, .pointer (some ⟨be, 0, none⟩)), (6, .func (.func 74) ([] : List Value).toArray [.pointer (some ⟨be, 0, none⟩)].toArray), (7, I (m.n + 1)), (8, .pointer (some ⟨b8, 0, none⟩)), (9, .slice x.2.1 (b.length - 128 * x.1) x.2.2)])
            (fun x w' => x.1 ≤ nch b ∧ b.length - 128 * x.1 ≤ x.2.2 ∧ RowAt w x.2.1 (b.length - 128 * x.1) 1 ((b.drop (128 * x.1)).map B) ∧ Off x.2.1 (b.length - 128 * x.1) F ∧
              Sep w F [blk b8 [I (area d (m.n + 1) + x.1)] 3, blk be [I (wr (area d (m.n + 1)) b x.1 (0, d)).1] 33, blk b2 [.pointer (some ⟨s, 0, none⟩)] 70, slotH s p m, diskH p (wr (area d (m.n + 1)) b x.1 (0, d)).2] w') (fun x _ => nch b - x.1) (0, A, c)
            ⟨rfl, rfl, rfl, rfl, rfl, rfl, rfl, trivial⟩ ⟨Nat.zero_le _, hc, hr, hA, by rw [show area d (m.n + 1) + ((0 : Nat) : Int) = area d (m.n + 1) by omega]; exact H62⟩ (fun x τ w66 hI => ?_)
          obtain ⟨k, Ak, ck⟩ := x
          obtain ⟨hk, hck, hrk, hAk, H66⟩ := hI
          dsimp only at hk hck hrk hAk H66
          try simp only [upds, like, upd_ds, und_ds]
          refine FW_seq ?_
          refine FW_seq ?_
          refine FW_region ?_
          refine FL_move (h := ?_)
          refine FL_val (Gives.lenSlice rfl) rfl ?_
          refine FL_val (Gives.gtr rfl rfl) rfl ?_
          refine FL_nil (Qseq_normal ?_)
          first | refine FW_condP rfl (fun hc70 => ?_) (fun hc70 => ?_) | refine FW_cond rfl (fun hc70 => ?_) (fun hc70 => ?_)
          · skip
            have hpos : 0 < b.length - 128 * k := by omega
            have hk1 : k < nch b := by unfold nch; omega
            have hcl := chunk_length b k
            refine FW_skip (Qseq_normal ?_)
            refine FW_seq ?_
            refine FW_block ?_
            refine FW_seq ?_
            refine FW_region ?_
            refine FL_move (h := ?_)
            refine FL_move (h := ?_)
            refine FL_val (Gives.lenSlice rfl) rfl ?_
            refine FL_val (gives_minN (k := 128) (m := (chunk b k).length) hcl.symm rfl rfl rfl) rfl ?_
            refine FL_val (Gives.sliceTo rfl rfl (by omega)) rfl ?_
            refine FL_alloc H66 (h := ?_)
            intro b10 w78 H78 _
            refine FL_store H78 (h := ?_)
            intro w80 H80
            refine FL_nil (Qseq_normal ?_)
            refine FW_seq ?_
            refine FW_region ?_
            refine FL_move (h := ?_)
            refine FL_load H80 (h := ?_)
            refine FL_val (Gives.lenSlice rfl) rfl ?_
            refine FL_val (Gives.sliceFrom rfl rfl (by omega)) rfl ?_
            refine FL_assign (h := ?_)
            refine FL_nil (Qseq_normal ?_)
            refine FW_region ?_
            refine FL_move (h := ?_)
            refine FL_val (Gives.makeFunc rfl rfl) rfl ?_
            refine FL_callV (fs := []) (cs := [.pointer (some ⟨be, 0, none⟩)]) (vals := [.func (.func 76) ([] : List Value).toArray [.pointer (some ⟨b2, 0, none⟩), .pointer (some ⟨b8, 0, none⟩), .pointer (some ⟨b10, 0, none⟩)].toArray]) rfl
              (do_ok (g := 76) (fs := []) (x := wr (area d (m.n + 1)) b k (0, d)) (f := fun d' => d'.write (area d (m.n + 1) + k) (chunk b k)) H80.front4.front4.front3.front3.front5.front5 (fun he => writeV (l := chunk b k) he ((small_wr (x := (0, d)) hs k).mono (by omega)) (by
                have h1 := hrk.take (k := (chunk b k).length) (by omega)
                rw [Nat.mul_one, ← List.map_take] at h1
                have e : (b.drop (128 * k)).take (chunk b k).length = chunk b k := by
                  rw [hcl]
                  unfold chunk
                  rcases Nat.le_total (b.length - 128 * k) 128 with h | h
                  · rw [Nat.min_eq_left h, List.take_of_length_le (by simp), List.take_of_length_le (by simp; omega)]
                  · rw [Nat.min_eq_right h]
                rw [e] at h1
                exact h1) (off_le hAk (by omega)) H80.front4.front4.front3.front3.front5.front5)) rfl rfl (fun v w89 hv => ?_)
            obtain ⟨rfl, H89⟩ := hv
            refine FL_nil (Qblk_normal (Qseq_normal ?_))
            refine FW_region ?_
            refine FL_load H89 (h := ?_)
            refine FL_val (Gives.addI rfl rfl (show _ = area d (m.n + 1) + ((k + 1 : Nat) : Int) by omega) (by omega)) rfl ?_
            refine FL_store H89 (h := ?_)
            intro w93 H93
            refine FL_nil ?_
            have h2 := H93.front2
            have h3 := h2.drop0
            have hnl : b.length - 128 * k - (chunk b k).length = b.length - 128 * (k + 1) := by omega
            have hdr : (b.drop (128 * k)).drop (chunk b k).length = b.drop (128 * (k + 1)) := by
              rw [List.drop_drop, hcl]
              rcases Nat.le_total (b.length - 128 * k) 128 with h | h
              · rw [Nat.min_eq_left h, List.drop_of_length_le (by omega), List.drop_of_length_le (by omega)]
              · rw [Nat.min_eq_right h]; rfl
            refine Qround_normal (k + 1, if ck = (chunk b k).length then Ak else Ak.map (·.add ((chunk b k).length * 1)), ck - (chunk b k).length) ⟨rfl, rfl, rfl, rfl, rfl, rfl, by rw [← hnl]; rfl, trivial⟩ ⟨by dsimp only; omega, by dsimp only; omega, ?_, ?_, h3.front4.front4.front2.front4⟩ (by dsimp only; omega)
            · have h1 := hrk.cut (k := (chunk b k).length) (cap := ck) (by omega) (by omega)
              rw [hnl, Nat.mul_one, ← List.map_drop, hdr] at h1
              dsimp only
              rw [Nat.mul_one]
              exact h1
            · have h1 := off_cut (k := (chunk b k).length) (cap := ck) hAk ((chunk b k).length * 1)
              rw [hnl] at h1
              exact h1
          · skip
            have hkn : k = nch b := by unfold nch at hk ⊢; omega
            subst hkn
            have hsm0 := small_wr (a := area d (m.n + 1)) (b := b) (x := (0, d)) hs (nch b)
            have hsm1 := small_go hsm0 (fun d hd => small_flush hd)
            have hsm2 := small_go hsm1 (fun d hd => small_write hd 0 (rootB (m.n + 1) b.length))
            refine FW_exit (Qseq_exit (Qround_exit (Qblk_exit (Qseq_normal ?_))))
            refine FW_seq ?_
            refine FW_region ?_
            refine FL_move (h := ?_)
            refine FL_load H66 (h := ?_)
            refine FL_val (Gives.nilCheck rfl) rfl ?_
            first | refine FL_val (Gives.field0 rfl) rfl ?_ | refine FL_val (Gives.field rfl) rfl ?_ | refine FL_val (Gives.fieldA rfl) rfl ?_
            refine FL_load H66 (h := ?_)
            refine FL_val (Gives.makeFunc rfl rfl) rfl ?_
            refine FL_callV (fs := []) (cs := [.pointer (some ⟨be, 0, none⟩)]) (vals := [.func (.func 28) [.pointer (some ⟨p, 0, none⟩)].toArray ([] : List Value).toArray]) rfl
              (do_ok (g := 28) (fs := [.pointer (some ⟨p, 0, none⟩)]) (cs := []) (x := wr (area d (m.n + 1)) b (nch b) (0, d)) (f := DM.flush) H66.front4.front2 (fun he => flushV he (hsm0.mono (by omega)) H66.front4.front2)) rfl rfl (fun v w103 hv => ?_)
            obtain ⟨rfl, H103⟩ := hv
            refine FL_nil (Qseq_normal ?_)
            refine FW_seq ?_
            refine FW_region ?_
            refine FL_move (h := ?_)
            refine FL_move (h := ?_)
            refine FL_val (Gives.lenSlice rfl) rfl ?_
            refine FL_callQ H103 (of_ok (m.n + 1) b.length) (h := fun w108 H108 _ => ?_)
            refine FL_alloc H108 (h := ?_)
            intro b11 w110 H110 _
            refine FL_storeN (us := (rootB (m.n + 1) b.length).map B) (cs := List.replicate 128 (Value.int .u8 0)) H110 (hk := by simp [rootB_length]) (hv := ones_B _) (ho := by simp [rootB_length]) (hs := storeN_all (by simp [rootB_length])) (h := ?_)
            intro w112 H112
            refine FL_nil (Qseq_normal ?_)
            refine FW_seq ?_
            refine FW_region ?_
            refine FL_move (h := ?_)
            refine FL_val (Gives.makeFunc rfl rfl) rfl ?_
            refine FL_callV (fs := []) (cs := [.pointer (some ⟨be, 0, none⟩)]) (vals := [.func (.func 78) ([] : List Value).toArray [.pointer (some ⟨b2, 0, none⟩), .pointer (some ⟨b11, 0, none⟩)].toArray]) rfl
              (do_ok (g := 78) (fs := []) (x := go (wr (area d (m.n + 1)) b (nch b) (0, d)) DM.flush) (f := fun d' => d'.write 0 (rootB (m.n + 1) b.length)) H112.front3.front5.front5.front3.front5.front5 (fun he => rootV he (rootB_length _ _) (hsm1.mono (by omega)) H112.front3.front5.front5.front3.front5.front5)) rfl rfl (fun v w116 hv => ?_)
            obtain ⟨rfl, H116⟩ := hv
            refine FL_nil (Qseq_normal ?_)
            refine FW_seq ?_
            refine FW_region ?_
            refine FL_move (h := ?_)
            refine FL_load H116 (h := ?_)
            refine FL_val (Gives.nilCheck rfl) rfl ?_
            first | refine FL_val (Gives.field0 rfl) rfl ?_ | refine FL_val (Gives.field rfl) rfl ?_ | refine FL_val (Gives.fieldA rfl) rfl ?_
            refine FL_load H116 (h := ?_)
            refine FL_val (Gives.makeFunc rfl rfl) rfl ?_
            refine FL_callV (fs := []) (cs := [.pointer (some ⟨be, 0, none⟩)]) (vals := [.func (.func 28) [.pointer (some ⟨p, 0, none⟩)].toArray ([] : List Value).toArray]) rfl
              (do_ok (g := 28) (fs := [.pointer (some ⟨p, 0, none⟩)]) (cs := []) (x := go (go (wr (area d (m.n + 1)) b (nch b) (0, d)) DM.flush) fun d' => d'.write 0 (rootB (m.n + 1) b.length)) (f := DM.flush) H116 (fun he => flushV he (hsm2.mono (by omega)) H116)) rfl rfl (fun v w124 hv => ?_)
            obtain ⟨rfl, H124⟩ := hv
            refine FL_nil (Qseq_normal ?_)
            refine FW_seq ?_
            refine FW_seq ?_
            refine FW_region ?_
            refine FL_load H124 (h := ?_)
            refine FL_val (Gives.neq rfl rfl) rfl ?_
            refine FL_nil (Qseq_normal ?_)
            first | refine FW_condP rfl (fun hc127 => ?_) (fun hc127 => ?_) | refine FW_cond rfl (fun hc127 => ?_) (fun hc127 => ?_)
            · skip
              have hne : (save1 (m.n + 1) b d).1 ≠ 0 := hc127
              rw [if_pos hne] at hsv
              refine FW_seq ?_
              refine FW_region ?_
              refine FL_load H124 (h := ?_)
              refine FL_val (Gives.nilCheck rfl) rfl ?_
              first | refine FL_val (Gives.field0 rfl) rfl ?_ | refine FL_val (Gives.field rfl) rfl ?_ | refine FL_val (Gives.fieldA rfl) rfl ?_
              refine FL_store H124 (b := s) (cs := slotCells p m) (cs' := slotCells p { m with bad := true }) (hat := At4) (hs := rfl) (h := ?_)
              intro w133 H133
              refine FL_nil (Qseq_normal ?_)
              refine FW_seq ?_
              refine FW_region ?_
              refine FL_load H133 (h := ?_)
              refine FL_assign (h := ?_)
              refine FL_nil (Qseq_normal ?_)
              refine FW_ret (Qseq_ret (Qfn_ret (hR := ?_)))
              exact ⟨by rw [hsv]; rfl, by rw [hsv]; exact (Sep.first (H133.front1.front4).join0).turn⟩
            · skip
              have heq : ¬ (save1 (m.n + 1) b d).1 ≠ 0 := hc127
              rw [if_neg heq] at hsv
              refine FW_skip (Qseq_normal ?_)
              refine FW_seq ?_
              refine FW_drawS rfl H124 (h := fun hok138 w140 H140 => ?_)
              refine FGload hok138 0 H140 (h := ?_)
              refine FGload hok138 1 H140 (h := ?_)
              refine FGmove hok138 2 (h := ?_)
              refine FGmove hok138 3 (h := ?_)
              refine FGp hok138 4 rfl rfl (fun _ => (Gives.lenSlice rfl)) (by kernel_rfl) ?_
              refine FGp hok138 5 rfl rfl (fun _ => (Gives.nilCheck rfl)) (by kernel_rfl) ?_
              first | refine FGp hok138 6 rfl rfl (fun _ => (Gives.field0 rfl)) (by kernel_rfl) ?_ | refine FGp hok138 6 rfl rfl (fun _ => (Gives.field rfl)) (by kernel_rfl) ?_ | refine FGp hok138 6 rfl rfl (fun _ => (Gives.fieldA rfl)) (by kernel_rfl) ?_
              refine FGstore hok138 7 [(4, true), (3, true), (1, false)] (b := s) (cs := slotCells p m) (cs' := slotCells p { m with n := m.n + 1 }) H140 (hat := At4) (hs := rfl) (h := fun w147 H147 => ⟨Stab_pure (Stab_pure (Stab_load H147 (h := Stab_nil))), ?_⟩)
              refine FGp hok138 8 rfl rfl (fun _ => (Gives.nilCheck rfl)) (by kernel_rfl) ?_
              first | refine FGp hok138 9 rfl rfl (fun _ => (Gives.field0 rfl)) (by kernel_rfl) ?_ | refine FGp hok138 9 rfl rfl (fun _ => (Gives.field rfl)) (by kernel_rfl) ?_ | refine FGp hok138 9 rfl rfl (fun _ => (Gives.fieldA rfl)) (by kernel_rfl) ?_
              refine FGstore hok138 10 [] (b := s) (cs := slotCells p { m with n := m.n + 1 }) (cs' := slotCells p ⟨m.n + 1, b.length, m.bad⟩) H147 (hat := At4) (hs := rfl) (h := fun w151 H151 => ⟨Stab_nil, ?_⟩)
              refine FG_end hok138 (by kernel_rfl) ?_
              refine Qseq_normal ?_
              refine FW_seq ?_
              refine FW_region ?_
              refine FL_assign (h := ?_)
              refine FL_nil (Qseq_normal ?_)
              refine FW_ret (Qfn_ret (hR := ?_))
              rw [hbad] at H151
              exact ⟨by rw [hsv]; rfl, by rw [hsv]; exact (Sep.first (H151.front1.front4).join0).turn⟩
end
end Go.Proofs.Yteflbohpabdjkaa
/-
  Numbers as bytes, and back; roots: plain laws.
-/
namespace Go.Proofs.Yteflbohpabdjkaa
open Go Go.Mw

theorem byteAt_div (n : Int) (k : Nat) : byteAt (n / 256) k = byteAt n (k + 1) := by
  unfold byteAt
  congr 3
  rw [Int.fdiv_eq_ediv_of_nonneg _ (by exact Int.pow_nonneg (by decide)), Int.fdiv_eq_ediv_of_nonneg _ (by exact Int.pow_nonneg (by decide)), Int.ediv_ediv_of_nonneg (by decide)]
  congr 1
  rw [show 8 * (k + 1) = 8 * k + 8 by omega, Int.pow_add, Int.mul_comm]
  rfl
theorem be_succ (m : Nat) (n : Int) : be (m + 1) n = be m (n / 256) ++ [byteAt n 0] := by
  unfold be
  rw [List.range_succ, List.map_append]
  congr 1
  · apply List.map_congr_left
    intro i hi
    rw [List.mem_range] at hi
    rw [byteAt_div]
    congr 1
    omega
  · simp
theorem takeN_be : ∀ (m : Nat) (n : Int), m ≤ 8 → 0 ≤ n → n < 256 ^ m → (takeN (be m n) : Int) = n
  | 0, n, _, h0, h1 => by
    have : n = 0 := by simp at h1; omega
    subst this
    rfl
  | m + 1, n, hm, h0, h1 => by
    have ih := takeN_be m (n / 256) (by omega) (by omega) (by
      rw [Int.pow_succ] at h1
      exact Int.ediv_lt_of_lt_mul (by decide) h1)
    rw [be_succ, takeN_snoc]
    have hb := byteAt_val n 0
    have e : n.fdiv (2 ^ (8 * 0)) = n := by simp
    rw [e] at hb
    have hp : (256 : Int) ^ (m + 1) ≤ 18446744073709551616 := by
      rcases (show m = 0 ∨ m = 1 ∨ m = 2 ∨ m = 3 ∨ m = 4 ∨ m = 5 ∨ m = 6 ∨ m = 7 by omega) with rfl | rfl | rfl | rfl | rfl | rfl | rfl | rfl <;> decide
    omega
theorem rootB_take8 (n m : Int) : (rootB n m).take 8 = be 8 n := by
  unfold rootB
  rw [List.append_assoc, List.take_append_of_le_length (by rw [be_length]; decide), List.take_of_length_le (by rw [be_length]; decide)]
theorem rootB_mid (n m : Int) : ((rootB n m).drop 8).take 4 = be 4 m := by
  unfold rootB
  rw [List.append_assoc, List.drop_append_of_le_length (by rw [be_length]; decide), List.drop_of_length_le (by rw [be_length]; decide), List.nil_append, List.take_append_of_le_length (by rw [be_length]; decide), List.take_of_length_le (by rw [be_length]; decide)]
theorem takeN4_lt {l : List UInt8} (h : l.length = 4) : takeN l < 4294967296 := by
  match l, h with
  | [a, b, c, d], _ =>
    have := a.toNat_lt
    have := b.toNat_lt
    have := c.toNat_lt
    have := d.toNat_lt
    simp only [takeN, List.foldl_cons, List.foldl_nil]
    omega
/-- The root that the program looks at, and the one that the plain words say. -/
theorem root_iff {b : List UInt8} (_hb : b.length = 128) : (rootB ((takeN (b.take 8) % 9007199254740992 : Nat) : Int) (takeN ((b.drop 8).take 4)) = b) ↔ (b = rootB (takeN (b.take 8)) (takeN ((b.drop 8).take 4)) ∧ (takeN (b.take 8) : Int) ≤ mostNum) := by
  unfold mostNum
  constructor
  · intro h
    have h1 := congrArg (fun l => takeN (l.take 8)) h
    simp only [rootB_take8] at h1
    have h2 := takeN_be 8 ((takeN (b.take 8) % 9007199254740992 : Nat) : Int) (by decide) (by omega) (by
      have h8 : (256 : Int) ^ 8 = 18446744073709551616 := by decide
      omega)
    have h3 : takeN (b.take 8) % 9007199254740992 = takeN (b.take 8) := by omega
    rw [h3] at h
    exact ⟨h.symm, by omega⟩
  · rintro ⟨h, hn⟩
    rw [Nat.mod_eq_of_lt (by omega)]
    exact h.symm
end Go.Proofs.Yteflbohpabdjkaa
/-
  Load and Open, walked.
-/
namespace Go.Proofs.Yteflbohpabdjkaa
open Go Go.Mw
set_option maxRecDepth 8000

theorem secsFrom_length {d : DM} (h : d.wf) (a : Int) : ∀ k, (secsFrom d a k).length = 128 * k
  | 0 => rfl
  | k + 1 => by
    unfold secsFrom
    rw [List.length_append, secsFrom_length h a k, DM.sec_length h]
    omega
theorem read_in {d : DM} (hd : d.dead = false) {k : Int} (h0 : 0 ≤ k) (h1 : k < d.size) : d.read k = (some (d.sec k), 0) := by
  unfold DM.read
  have : d.look k = 0 := look_lt hd h0 h1
  rw [if_neg (by rw [this]; decide)]
theorem read_dead {d : DM} (hd : d.dead = true) (k : Int) : d.read k = (none, 290) := by
  have : d.look k = 290 := by unfold DM.look; rw [if_pos hd]
  unfold DM.read
  rw [if_pos (by rw [this]; decide), this]
def openH (x : Option Nat) (p : Nat) (m : SM) : HP := match x with
  | some s => slotH s p m
  | none => emp
section
variable {p s : Nat} {d : DM} {m : SM} {F : Nat → Prop} {w w₀ : World} {S : Nat → Prop} {rs : List HP} {put : HP → List HP}
theorem loadS_ok (hm : m.ok d) (h : (star (slotH s p m) (diskH p d)).ok F w) :
    Rets Try.prog 53 [.pointer (some ⟨s, 0, none⟩)] w fun v w' => ∃ v0, v = .tuple #[v0, I (load m d).2.1] ∧ True ∧ Turn F (star (preH 5 v0 (load m d).1.length ((load m d).1.map B)) (star (slotH s p (load m d).2.2) (diskH p d))) w w' := by
  have H := (Sep.start1 h).star0
  have hwf : d.wf := by
    obtain ⟨_, hp, _⟩ := H.focus At1
    exact (diskH_blk hp).1
  have hh := half_bd hwf
  have hm0 := hm.many0
  have hm1 := hm.many
  unfold room at hm1
  obtain ⟨mn, hmn⟩ : ∃ mn : Nat, m.many = mn := ⟨m.many.toNat, by omega⟩
  obtain ⟨a, ha⟩ : ∃ a, a = area d m.n := ⟨_, rfl⟩
  have har : 1 ≤ a ∧ a ≤ 1 + half d := by
    rw [ha]
    unfold area
    rcases (show m.n % 2 = 0 ∨ m.n % 2 = 1 by omega) with h | h <;> rw [h] <;> omega
  have hsz : 2 * half d + 1 ≤ d.size := by unfold half; omega
  refine rets1 Try.func53 rfl rfl rfl rfl ?_
  refine FW_seq ?_
  refine FW_region ?_
  refine FL_assign (h := ?_)
  refine FL_assign (h := ?_)
  refine FL_nil (Qseq_normal ?_)
  refine FW_seq ?_
  refine FW_block ?_
  refine FW_seq ?_
  refine FW_region ?_
  refine FL_move (h := ?_)
  refine FL_callS (noneS_at H At0) (h := ?_)
  refine FL_assign (h := ?_)
  refine FL_nil (Qseq_normal ?_)
  first | refine FW_condP rfl (fun hc6 => ?_) (fun hc6 => ?_) | refine FW_cond rfl (fun hc6 => ?_) (fun hc6 => ?_)
  · skip
    first | exact absurd rfl hc6 | exact (hc6 trivial).elim | exact absurd hc6 (by decide) | exact absurd hc6 (by simp) | omega --done
  · skip
    refine FW_seq ?_
    refine FW_region ?_
    refine FL_move (h := ?_)
    refine FL_val (Gives.nilCheck rfl) rfl ?_
    first | refine FL_val (Gives.field0 rfl) rfl ?_ | refine FL_val (Gives.field rfl) rfl ?_ | refine FL_val (Gives.fieldA rfl) rfl ?_
    refine FL_load H (h := ?_)
    refine FL_assign (h := ?_)
    refine FL_nil (Qseq_normal ?_)
    first | refine FW_condP rfl (fun hc13 => ?_) (fun hc13 => ?_) | refine FW_cond rfl (fun hc13 => ?_) (fun hc13 => ?_)
    · skip
      have hbad : m.bad = true := hc13
      have hld : load m d = ([], 290, m) := by unfold load; rw [if_pos hbad]
      refine FW_seq ?_
      refine FW_region ?_
      refine FL_assign (h := ?_)
      refine FL_assign (h := ?_)
      refine FL_nil (Qseq_normal ?_)
      refine FW_ret (Qblk_ret (Qseq_ret (Qfn_ret (hR := ?_))))
      exact ⟨_, by rw [hld]; rfl, trivial, by rw [hld]; exact ((H.join0).preNil.join0).turn⟩
    · skip
      have hbad : ¬ m.bad = true := by simpa using hc13
      refine FW_seq ?_
      refine FW_region ?_
      refine FL_move (h := ?_)
      refine FL_val (Gives.nilCheck rfl) rfl ?_
      first | refine FL_val (Gives.field0 rfl) rfl ?_ | refine FL_val (Gives.field rfl) rfl ?_ | refine FL_val (Gives.fieldA rfl) rfl ?_
      refine FL_load H (h := ?_)
      refine FL_val (Gives.eql rfl rfl) rfl ?_
      refine FL_assign (h := ?_)
      refine FL_nil (Qseq_normal ?_)
      first | refine FW_condP rfl (fun hc25 => ?_) (fun hc25 => ?_) | refine FW_cond rfl (fun hc25 => ?_) (fun hc25 => ?_)
      · skip
        have hz : m.n = 0 := hc25
        have hld : load m d = ([], 300, m) := by unfold load; rw [if_neg hbad, if_pos hz]
        refine FW_seq ?_
        refine FW_region ?_
        refine FL_assign (h := ?_)
        refine FL_assign (h := ?_)
        refine FL_nil (Qseq_normal ?_)
        refine FW_ret (Qblk_ret (Qseq_ret (Qfn_ret (hR := ?_))))
        exact ⟨_, by rw [hld]; rfl, trivial, by rw [hld]; exact ((H.join0).preNil.join0).turn⟩
      · skip
        have hz : ¬ m.n = 0 := hc25
        refine FW_skip (Qblk_normal (Qseq_normal ?_))
        refine FW_seq ?_
        refine FW_region ?_
        refine FL_assign (h := ?_)
        refine FL_nil (Qseq_normal ?_)
        refine FW_seq ?_
        refine FW_seq ?_
        refine FW_region ?_
        refine FL_move (h := ?_)
        refine FL_move (h := ?_)
        refine FL_val (Gives.nilCheck rfl) rfl ?_
        first | refine FL_val (Gives.field0 rfl) rfl ?_ | refine FL_val (Gives.field rfl) rfl ?_ | refine FL_val (Gives.fieldA rfl) rfl ?_
        refine FL_load H (h := ?_)
        refine FL_callS (area_at (n := m.n) hm.n0 H At0 At1) (h := ?_)
        rw [← ha]
        refine FL_assign (h := ?_)
        refine FL_nil (Qseq_normal ?_)
        refine FW_block ?_
        refine FW_loop' (fun x : Nat × Value => [(0, .pointer (some ⟨s, 0, none⟩)), (4, x.2), (5, I (a + x.1))])
          (fun x w' => x.1 ≤ (mn + 127) / 128 ∧ (0 < x.1 → d.dead = false) ∧ Sep w F [rowH 5 1 x.2 (128 * x.1) ((secsFrom d a x.1).map B), slotH s p m, diskH p d] w') (fun x _ => (mn + 127) / 128 - x.1) (0, .slice none 0 0)
          ⟨rfl, rfl, by rw [show a + (((0 : Nat), Value.slice none 0 0).1 : Int) = a by simp]; rfl, trivial⟩ ⟨Nat.zero_le _, fun h => absurd h (by decide), H.nilRow 5 1⟩ (fun x τ w40 hI => ?_)
        obtain ⟨k, vo⟩ := x
        obtain ⟨hk, hkd, H40⟩ := hI
        dsimp only at hk hkd H40
        obtain ⟨Ao, co, hvo, hco, _⟩ := Sep.rowForm H40 At0
        subst hvo
        try simp only [upds, like, upd_ds, und_ds]
        refine FW_seq ?_
        refine FW_seq ?_
        refine FW_region ?_
        refine FL_move (h := ?_)
        refine FL_val (Gives.lenSlice rfl) rfl ?_
        refine FL_move (h := ?_)
        refine FL_val (Gives.nilCheck rfl) rfl ?_
        first | refine FL_val (Gives.field0 rfl) rfl ?_ | refine FL_val (Gives.field rfl) rfl ?_ | refine FL_val (Gives.fieldA rfl) rfl ?_
        refine FL_loadB (b := s) (cs := slotCells p m) (H40.obj At1) (hv := rfl) (h := ?_)
        rw [hmn]
        refine FL_val (Gives.lss rfl rfl) rfl ?_
        refine FL_nil (Qseq_normal ?_)
        first | refine FW_condP rfl (fun hc48 => ?_) (fun hc48 => ?_) | refine FW_cond rfl (fun hc48 => ?_) (fun hc48 => ?_)
        · skip
          have hlt : 128 * k < mn := by omega
          have hin : 0 ≤ a + k ∧ a + k < d.size := by omega
          refine FW_skip (Qseq_normal ?_)
          refine FW_seq ?_
          refine FW_block ?_
          refine FW_seq ?_
          refine FW_region ?_
          refine FL_move (h := ?_)
          refine FL_val (Gives.nilCheck rfl) rfl ?_
          first | refine FL_val (Gives.field0 rfl) rfl ?_ | refine FL_val (Gives.field rfl) rfl ?_ | refine FL_val (Gives.fieldA rfl) rfl ?_
          refine FL_loadB (b := s) (cs := slotCells p m) (H40.obj At1) (hv := rfl) (h := ?_)
          refine FL_move (h := ?_)
          refine FL_callN H40 (read_at H40 At2 (a + k)) rfl rfl (fun y w56 _ H56 _ => ?_)
          obtain ⟨Ay, cy, hy, _⟩ := Sep.rowForm H56 At0
          subst hy
          refine FL_move (h := ?_)
          refine FL_val (Gives.extract rfl rfl) rfl ?_
          refine FL_val (Gives.extract rfl rfl) rfl ?_
          refine FL_assign (h := ?_)
          refine FL_assign (h := ?_)
          refine FL_nil (Qseq_normal ?_)
          refine FW_seq ?_
          refine FW_seq ?_
          refine FW_region ?_
          refine FL_move (h := ?_)
          refine FL_val (Gives.neq rfl rfl) rfl ?_
          refine FL_nil (Qseq_normal ?_)
          first | refine FW_condP rfl (fun hc64 => ?_) (fun hc64 => ?_) | refine FW_cond rfl (fun hc64 => ?_) (fun hc64 => ?_)
          · skip
            have hdd : d.dead = true := by
              cases hq : d.dead
              · rw [read_in hq hin.1 hin.2] at hc64
                exact absurd rfl hc64
              · rfl
            have hld : load m d = ([], 290, { m with bad := true }) := by unfold load; rw [if_neg hbad, if_neg hz, if_pos ⟨by omega, hdd⟩]
            refine FW_seq ?_
            refine FW_region ?_
            refine FL_move (h := ?_)
            refine FL_val (Gives.nilCheck rfl) rfl ?_
            first | refine FL_val (Gives.field0 rfl) rfl ?_ | refine FL_val (Gives.field rfl) rfl ?_ | refine FL_val (Gives.fieldA rfl) rfl ?_
            refine FL_store H56 (b := s) (cs := slotCells p m) (cs' := slotCells p { m with bad := true }) (hat := At2) (hs := rfl) (h := ?_)
            intro w70 H70
            refine FL_nil (Qseq_normal ?_)
            refine FW_seq ?_
            refine FW_region ?_
            refine FL_move (h := ?_)
            refine FL_assign (h := ?_)
            refine FL_assign (h := ?_)
            refine FL_nil (Qseq_normal ?_)
            refine FW_ret (Qseq_ret (Qblk_ret (Qseq_ret (Qround_ret (Qblk_ret (Qseq_ret (Qfn_ret (hR := ?_))))))))
            rw [read_dead hdd]
            exact ⟨_, by rw [hld]; rfl, trivial, by rw [hld]; exact ((H70.drop0.drop0.join0).preNil.join0).turn⟩
          · skip
            have hdd : d.dead = false := by
              cases hq : d.dead
              · rfl
              · rw [read_dead hq] at hc64
                exact absurd (show ((290 : Int) ≠ 0) by decide) hc64
            rw [read_in hdd hin.1 hin.2] at H56
            have hsl := DM.sec_length hwf (a + k)
            have hrl : ((some (d.sec (a + (k : Int))), (0 : Int)).1.getD []).length = 128 := hsl
            rw [read_in hdd hin.1 hin.2]
            refine FW_skip (Qseq_normal ?_)
            refine FW_region ?_
            refine FL_move (h := ?_)
            refine FL_move (h := ?_)
            rw [hrl] at H56 ⊢
            refine FL_append (t := 27) (e := 5) H56 (v := .slice Ao (128 * k) co) (k := 128 * k) (xs := (secsFrom d a k).map B) (by exact rfl) (by exact rfl) At1 (H56.rowAt At0) (ones_B _) (h63 := by unfold maxLen; omega) (hbytes := by omega) (h := fun vv w79 H79 => ?_)
            refine FL_assign (h := ?_)
            refine FL_nil (Qblk_normal (Qseq_normal ?_))
            refine FW_region ?_
            refine FL_move (h := ?_)
            first | refine FL_val (Gives.addI rfl rfl rfl (by omega)) rfl ?_ | refine FL_val (Gives.add rfl rfl) rfl ?_
            refine FL_assign (h := ?_)
            refine FL_nil ?_
            have e : (secsFrom d a k).map B ++ ((some (d.sec (a + (k : Int))), (0 : Int)).1.getD []).map B = (secsFrom d a (k + 1)).map B := by rw [← List.map_append]; rfl
            rw [e] at H79
            exact Qround_normal (k + 1, vv) ⟨rfl, rfl, by show I (a + k + 1) = I (a + ((k + 1 : Nat) : Int)); congr 1; omega, trivial⟩ ⟨by dsimp only; omega, fun _ => hdd, H79.drop0⟩ (by dsimp only; omega)
        · skip
          have hge : mn ≤ 128 * k := by omega
          refine FW_exit (Qseq_exit (Qround_exit (Qblk_exit (Qseq_normal ?_))))
          refine FW_seq ?_
          refine FW_drawS rfl H40 (h := fun hok86 w88 H88 => ?_)
          refine FGmove hok86 0 (h := ?_)
          refine FGmove hok86 1 (h := ?_)
          refine FGp hok86 2 rfl rfl (fun _ => (Gives.nilCheck rfl)) (by kernel_rfl) ?_
          first | refine FGp hok86 3 rfl rfl (fun _ => (Gives.field0 rfl)) (by kernel_rfl) ?_ | refine FGp hok86 3 rfl rfl (fun _ => (Gives.field rfl)) (by kernel_rfl) ?_ | refine FGp hok86 3 rfl rfl (fun _ => (Gives.fieldA rfl)) (by kernel_rfl) ?_
          refine FGl hok86 4 rfl rfl (Gives.load1 rfl (H88.obj (b := s) (o := .cells (slotCells p m).toArray _ (0, 0)) At1) (o := 2) rfl) (by kernel_rfl) ?_
          rw [hmn]
          refine FGmove hok86 5 (h := ?_)
          refine FGp hok86 6 rfl rfl (fun _ => (Gives.nilCheck rfl)) (by kernel_rfl) ?_
          first | refine FGp hok86 7 rfl rfl (fun _ => (Gives.field0 rfl)) (by kernel_rfl) ?_ | refine FGp hok86 7 rfl rfl (fun _ => (Gives.field rfl)) (by kernel_rfl) ?_ | refine FGp hok86 7 rfl rfl (fun _ => (Gives.fieldA rfl)) (by kernel_rfl) ?_
          refine FGl hok86 8 rfl rfl (Gives.load1 rfl (H88.obj (b := s) (o := .cells (slotCells p m).toArray _ (0, 0)) At1) (o := 2) rfl) (by kernel_rfl) ?_
          rw [hmn]
          refine FGp hok86 9 rfl rfl (fun _ => (Gives.slice3 (h := mn) (d := mn) rfl rfl rfl (Nat.le_refl _) (by omega))) (by kernel_rfl) ?_
          refine FGp hok86 10 rfl rfl (fun _ => Gives.assign rfl) (by kernel_rfl) ?_
          refine FGp hok86 11 rfl rfl (fun _ => Gives.assign rfl) (by kernel_rfl) ?_
          refine FG_end hok86 (by kernel_rfl) ?_
          refine Qseq_normal ?_
          refine FW_ret (Qfn_ret (hR := ?_))
          have hkk : k = (mn + 127) / 128 := by omega
          have hld : load m d = ((secsFrom d a ((mn + 127) / 128)).take mn, 0, m) := by
            unfold load
            rw [if_neg hbad, if_neg hz, if_neg (by
              rintro ⟨h1, h2⟩
              rw [hkd (by omega)] at h2
              cases h2), ← ha, hmn, Int.toNat_natCast]
          have hl2 : ((secsFrom d a ((mn + 127) / 128)).take mn).length = mn := by rw [List.length_take, secsFrom_length hwf]; omega
          have H2 := Sep.rowCut (m := mn) (d := mn) H88 (by omega) (Nat.le_refl _)
          rw [← List.map_take, hkk] at H2
          refine ⟨_, by rw [hld]; rfl, trivial, ?_⟩
          rw [hld]
          dsimp only
          rw [hl2]
          exact ((H2.front2.front2.join0).front1.join0).turn
end
end Go.Proofs.Yteflbohpabdjkaa
/-
  Open, walked.
-/
namespace Go.Proofs.Yteflbohpabdjkaa
open Go Go.Mw
set_option maxRecDepth 8000

section
variable {p s : Nat} {d : DM} {m : SM} {F : Nat → Prop} {w w₀ : World} {S : Nat → Prop} {rs : List HP} {put : HP → List HP}
instance : EqOk Try.prog 112 := ⟨by kernel_rfl⟩
theorem rowCells {w : World} {ad : Addr} {n k : Nat} {xs : List Value} (h : RowAt w (some ad) n k xs) (hn : 0 < n) : ∀ j u, xs[j]? = some u → w.cell? (ad.add j) = some u := by
  obtain ⟨a, h1, h2⟩ := h.at_ hn
  injection h1 with h1
  subst h1
  exact h2
theorem rooms_at (H : Sep w₀ S (slotH s p m :: rs) w) (h : (diskH p d).ok F w) : Rets Try.prog 60 [.pointer (some ⟨s, 0, none⟩)] w fun v w' => v = I (room d) ∧ w = w' := by
  have hb := H.obj At0
  have hh := half_bd (diskH_blk h).1
  have hwf := (diskH_blk h).1
  refine rets1 Try.func60 rfl rfl rfl rfl ?_
  refine FW_seq ?_
  refine FW_region ?_
  refine FL_assign (h := ?_)
  refine FL_nil (Qseq_normal ?_)
  refine FW_seq ?_
  refine FW_seq ?_
  refine FW_region ?_
  refine FL_move (h := ?_)
  refine FL_callS (noneS_at H At0) (h := ?_)
  refine FL_nil (Qseq_normal ?_)
  first | refine FW_condP rfl (fun hc4 => ?_) (fun hc4 => ?_) | refine FW_cond rfl (fun hc4 => ?_) (fun hc4 => ?_)
  · skip
    first | exact absurd rfl hc4 | exact (hc4 trivial).elim | exact absurd hc4 (by decide) | exact absurd hc4 (by simp) | omega --done
  · skip
    refine FW_skip (Qseq_normal ?_)
    refine FW_seq ?_
    refine FW_region ?_
    refine FL_move (h := ?_)
    refine FL_callS (v := I (half d)) ?_ (h := ?_)
    · refine rets1 Try.func84 rfl rfl rfl rfl ?_
      refine FW_seq ?_
      refine FW_region ?_
      refine FL_assign (h := ?_)
      refine FL_nil (Qseq_normal ?_)
      refine FW_seq ?_
      refine FW_region ?_
      refine FL_move (h := ?_)
      refine FL_val (Gives.nilCheck rfl) rfl ?_
      refine FL_val (Gives.field0 rfl) rfl ?_
      refine FL_loadB hb (h := ?_)
      refine FL_callS (size_ok h) (h := ?_)
      refine FL_val (Gives.subI rfl rfl rfl (by have := hwf.1; have := hwf.2.1; omega)) rfl ?_
      refine FL_val (Gives.quo rfl rfl (by decide)) rfl ?_
      rw [show IntKind.i64.wrap ((d.size - 1).tdiv 2) = half d by
        have := hwf.1
        have := hwf.2.1
        rw [Int.tdiv_eq_ediv_of_nonneg (by omega)]
        exact IntWalk.i64_in _ (by omega)]
      refine FL_assign (h := ?_)
      refine FL_nil (Qseq_normal ?_)
      refine FW_ret (Qfn_ret (hR := ?_))
      exact ⟨rfl, rfl⟩
    refine FL_val (Gives.mulI rfl rfl rfl (by omega)) rfl ?_
    refine FL_assign (h := ?_)
    refine FL_nil (Qseq_normal ?_)
    refine FW_ret (Qfn_ret (hR := ?_))
    exact ⟨rfl, rfl⟩
set_option maxHeartbeats 4000000 in
theorem openS_ok (h : (diskH p d).ok F w) :
    Rets Try.prog 52 [.pointer (some ⟨p, 0, none⟩)] w fun v w' => ∃ x : Option Nat, v = .tuple #[.pointer (x.map fun s => ⟨s, 0, none⟩), I (openS d).1] ∧ (x.isSome = decide ((openS d).1 = 0)) ∧ Turn noB (openH x p (openS d).2) w w' := by
  have H := Sep.start0 w
  have hwf := (diskH_blk h).1
  refine rets1 Try.func52 rfl rfl rfl rfl ?_
  refine FW_seq ?_
  refine FW_region ?_
  refine FL_assign (h := ?_)
  refine FL_assign (h := ?_)
  refine FL_nil (Qseq_normal ?_)
  refine FW_seq ?_
  refine FW_seq ?_
  refine FW_region ?_
  refine FL_move (h := ?_)
  refine FL_callS (size_ok h) (h := ?_)
  refine FL_val (Gives.eql rfl rfl) rfl ?_
  refine FL_nil (Qseq_normal ?_)
  first | refine FW_condP rfl (fun hc6 => ?_) (fun hc6 => ?_) | refine FW_cond rfl (fun hc6 => ?_) (fun hc6 => ?_)
  · skip
    have := hwf.1
    omega --done
  · skip
    refine FW_skip (Qseq_normal ?_)
    refine FW_seq ?_
    refine FW_seq ?_
    refine FW_region ?_
    refine FL_move (h := ?_)
    refine FL_callS (size_ok h) (h := ?_)
    refine FL_val (Gives.lss rfl rfl) rfl ?_
    refine FL_nil (Qseq_normal ?_)
    first | refine FW_condP rfl (fun hc11 => ?_) (fun hc11 => ?_) | refine FW_cond rfl (fun hc11 => ?_) (fun hc11 => ?_)
    · skip
      have ho : openS d = (5, ⟨0, 0, false⟩) := by unfold openS; rw [if_pos hc11]
      refine FW_seq ?_
      refine FW_region ?_
      refine FL_assign (h := ?_)
      refine FL_assign (h := ?_)
      refine FL_nil (Qseq_normal ?_)
      refine FW_ret (Qseq_ret (Qfn_ret (hR := ?_)))
      exact ⟨none, by rw [ho]; rfl, by rw [ho]; rfl, (Turn.refl (emp_ok (fun _ => id)))⟩
    · skip
      have h3 : ¬ d.size < 3 := hc11
      refine FW_skip (Qseq_normal ?_)
      refine FW_seq ?_
      refine FW_region ?_
      refine FL_move (h := ?_)
      refine FL_callN H (read_ok (HP.stay h H.kept) (at_ := 0)) rfl rfl (fun y w19 _ H19 _ => ?_)
      obtain ⟨Ay, cy, hy, hcy, _⟩ := Sep.rowForm H19 At0
      subst hy
      refine FL_move (h := ?_)
      refine FL_val (Gives.extract rfl rfl) rfl ?_
      refine FL_val (Gives.extract rfl rfl) rfl ?_
      refine FL_assign (h := ?_)
      refine FL_assign (h := ?_)
      refine FL_nil (Qseq_normal ?_)
      refine FW_seq ?_
      refine FW_seq ?_
      refine FW_region ?_
      refine FL_move (h := ?_)
      refine FL_val (Gives.neq rfl rfl) rfl ?_
      refine FL_nil (Qseq_normal ?_)
      first | refine FW_condP rfl (fun hc27 => ?_) (fun hc27 => ?_) | refine FW_cond rfl (fun hc27 => ?_) (fun hc27 => ?_)
      · skip
        have hdd : d.dead = true := by
          cases hq : d.dead
          · rw [read_in hq (by decide) (by omega)] at hc27
            exact absurd rfl hc27
          · rfl
        have ho : openS d = (290, ⟨0, 0, false⟩) := by unfold openS; rw [if_neg h3, if_pos hdd]
        refine FW_seq ?_
        refine FW_region ?_
        refine FL_move (h := ?_)
        refine FL_assign (h := ?_)
        refine FL_assign (h := ?_)
        refine FL_nil (Qseq_normal ?_)
        refine FW_ret (Qseq_ret (Qfn_ret (hR := ?_)))
        rw [read_dead hdd]
        exact ⟨none, by rw [ho]; rfl, by rw [ho]; rfl, (H19.drop0.kept.mono fun _ h => h), fun _ => False, emp_ok (fun _ => id), fun _ h => h.elim⟩
      · skip
        have hdd : d.dead = false := by
          cases hq : d.dead
          · rfl
          · rw [read_dead hq] at hc27
            exact absurd (show ((290 : Int) ≠ 0) by decide) hc27
        obtain ⟨b, hb⟩ : ∃ b, b = d.sec 0 := ⟨_, rfl⟩
        have hbl : b.length = 128 := by rw [hb]; exact DM.sec_length hwf 0
        rw [read_in hdd (by decide) (by omega)] at H19 hcy ⊢
        have hr0 : ((some (d.sec 0), (0 : Int)).1.getD []) = b := hb.symm
        rw [hr0, hbl] at H19
        rw [hr0, hbl] at hcy ⊢
        have ho : openS d = match rootOf d b with | some (n, m) => (0, ⟨n, m, false⟩) | none => (4, ⟨0, 0, false⟩) := by unfold openS; rw [if_neg h3, if_neg (by rw [hdd]; simp), ← hb] <;> rfl
        obtain ⟨ady, hady, _⟩ := (Sep.rowAt H19 At0).at_ (by decide)
        subst hady
        have hri := root_iff hbl
        obtain ⟨n8, hn8⟩ : ∃ n8, n8 = takeN (b.take 8) := ⟨_, rfl⟩
        obtain ⟨n4, hn4⟩ : ∃ n4, n4 = takeN ((b.drop 8).take 4) := ⟨_, rfl⟩
        rw [← hn8, ← hn4] at hri
        have hrf : rootOf d b = if b = rootB n8 n4 ∧ (n8 : Int) ≤ mostNum ∧ (n4 : Int) ≤ room d ∧ ¬ (n8 = 0 ∧ 0 < n4) then some ((n8 : Int), (n4 : Int)) else none := by rw [hn8, hn4]; rfl
        have hn4l : n4 < 4294967296 := by rw [hn4]; exact takeN4_lt (by rw [List.length_take, List.length_drop, hbl]; decide)
        have hn8l : n8 < 18446744073709551616 := by rw [hn8]; exact takeN_lt _
        refine FW_skip (Qseq_normal ?_)
        refine FW_seq ?_
        refine FW_drawS rfl H19 (h := fun hok34 w36 H36 => ?_)
        refine FGmove hok34 0 (h := ?_)
        refine FGp hok34 1 rfl rfl (fun _ => (Gives.sliceTo (h := 8) rfl rfl (by omega))) (by kernel_rfl) ?_
        refine FGmove hok34 3 (h := ?_)
        refine FGp hok34 4 rfl rfl (fun _ => (Gives.sliceBoth (l := 8) (h := 12) rfl rfl rfl (by decide) (by omega))) (by kernel_rfl) ?_
        refine FGcallS hok34 2 [(4, true), (3, true)] H36 (by
          have h1 := take_ok (A := some ady) (c := cy) (l := b.take 8) (by rw [List.length_take]; omega) (by
            have h2 := (H36.rowAt At0).take (k := 8) (by decide)
            rw [← List.map_take] at h2
            rw [List.length_take, hbl]
            exact h2)
          rw [List.length_take, hbl, ← hn8] at h1
          exact h1) (h := fun w40 H40 => ⟨Stab_pure (Stab_pure (Stab_nil)), ?_⟩)
        refine FGcallS hok34 5 [] H40 (by
          have h1 := take_ok (A := if cy = 8 then some ady else (some ady).map (·.add (8 * 1))) (c := cy - 8) (l := (b.drop 8).take 4) (by rw [List.length_take]; omega) (by
            have h2 := (H40.rowAt At0).mid (l := 8) (h := 12) (cap := cy) (by decide) (by decide) (by omega)
            rw [← List.map_drop, ← List.map_take] at h2
            rw [List.length_take, List.length_drop, hbl]
            exact h2)
          rw [List.length_take, List.length_drop, hbl, ← hn4] at h1
          exact h1) (h := fun w42 H42 => ⟨Stab_nil, ?_⟩)
        refine FGp hok34 6 rfl rfl (fun _ => (Gives.conv rfl)) (by kernel_rfl) ?_
        rw [show IntKind.i64.wrap (n4 : Int) = (n4 : Int) from IntWalk.i64_in _ (by omega)]
        refine FGp hok34 7 rfl rfl (fun _ => Gives.assign rfl) (by kernel_rfl) ?_
        refine FGp hok34 8 rfl rfl (fun _ => Gives.assign rfl) (by kernel_rfl) ?_
        refine FG_end hok34 (by kernel_rfl) ?_
        refine Qseq_normal ?_
        refine FW_seq ?_
        refine FW_region ?_
        refine FL_move (h := ?_)
        refine FL_move (h := ?_)
        refine FL_val (Gives.and rfl rfl) rfl ?_
        rw [show bits .and .u64 (n8 : Int) 9007199254740991 = ((n8 % 9007199254740992 : Nat) : Int) by
          rw [show (9007199254740991 : Int) = ((9007199254740991 : Nat) : Int) from rfl, u64_and_nat _ _ (by omega) (by omega)]
          congr 1
          exact Nat.and_two_pow_sub_one_eq_mod n8 53]
        refine FL_val (Gives.conv rfl) rfl ?_
        rw [show IntKind.i64.wrap ((n8 % 9007199254740992 : Nat) : Int) = ((n8 % 9007199254740992 : Nat) : Int) from IntWalk.i64_in _ (by omega)]
        refine FL_move (h := ?_)
        refine FL_val (Gives.build (out := slotCells p ⟨(n8 % 9007199254740992 : Nat), n4, false⟩) (Fills.one rfl rfl rfl (by simp) rfl (Fills.one rfl rfl rfl (by simp) rfl (Fills.one rfl rfl rfl (by simp) rfl Fills.nil)))) rfl ?_
        refine FL_box H42 (h := ?_)
        intro bs w53 H0 _
        have H53 : Sep w noB (slotH bs p ⟨(n8 % 9007199254740992 : Nat), n4, false⟩ :: rowH 99 1 (.slice (some ady) 128 cy) 128 (b.map B) :: []) w53 := H0
        refine FL_assign (h := ?_)
        refine FL_nil (Qseq_normal ?_)
        refine FW_seq ?_
        refine FW_seq ?_
        refine FW_drawS rfl H53 (h := fun hok55 w57 H57 => ?_)
        refine FGmove hok55 0 (h := ?_)
        refine FGp hok55 1 rfl rfl (fun _ => (Gives.nilCheck rfl)) (by kernel_rfl) ?_
        first | refine FGp hok55 2 rfl rfl (fun _ => (Gives.field0 rfl)) (by kernel_rfl) ?_ | refine FGp hok55 2 rfl rfl (fun _ => (Gives.field rfl)) (by kernel_rfl) ?_ | refine FGp hok55 2 rfl rfl (fun _ => (Gives.fieldA rfl)) (by kernel_rfl) ?_
        refine FGload hok55 3 (b := bs) (cs := slotCells p ⟨(n8 % 9007199254740992 : Nat), n4, false⟩) H57 (hat := At0) (h := ?_)
        refine FGmove hok55 4 (h := ?_)
        refine FGmove hok55 6 (h := ?_)
        refine FGp hok55 7 rfl rfl (fun _ => (Gives.arrayAt rfl (Nat.le_refl _))) (by kernel_rfl) ?_
        refine FGl hok55 8 rfl rfl (Gives.loadCN (us := b.map B) rfl (rowCells (H57.rowAt At1) (by decide)) (by rw [List.length_map, hbl])) (by kernel_rfl) ?_
        refine FGcallQ hok55 5 [(8, false), (7, true), (6, true)] H57 (of_ok (n8 % 9007199254740992 : Nat) n4) (h := fun w64 H64 _ => ⟨(Stab_cons rfl rfl (Gives.loadCN (us := b.map B) rfl (rowCells (H64.rowAt At1) (by decide)) (by rw [List.length_map, hbl])) rfl (Stab_pure (Stab_pure (Stab_nil)))), ?_⟩)
        refine FGp hok55 9 rfl rfl (fun _ => (Gives.neqBytes (rootB_length _ _) hbl rfl rfl)) (by kernel_rfl) ?_
        refine FGmove hok55 10 (h := ?_)
        first | refine FG_splitP (t := 47) rfl (fun hs66 => ?_) (fun hs66 => ?_) | refine FG_split (t := 47) rfl (fun hs66 => ?_) (fun hs66 => ?_)
        · skip
          have hno : rootOf d b = none := by
            rw [hrf, if_neg]
            rintro ⟨h1, h2, _⟩
            have := hri.2 ⟨h1, h2⟩
            rw [this] at hs66
            simp at hs66
          refine FGoff hok55 11 rfl rfl (by kernel_rfl) ?_
          refine FGoff hok55 12 rfl rfl (by kernel_rfl) ?_
          refine FGoff hok55 13 rfl rfl (by kernel_rfl) ?_
          refine FGoff hok55 14 rfl rfl (by kernel_rfl) ?_
          refine FGp hok55 15 rfl rfl (fun _ => Gives.pickT rfl rfl) (by kernel_rfl) ?_
          refine FGmove hok55 16 (h := ?_)
          refine FGoff hok55 17 rfl rfl (by kernel_rfl) ?_
          refine FGoff hok55 18 rfl rfl (by kernel_rfl) ?_
          refine FGoff hok55 19 rfl rfl (by kernel_rfl) ?_
          refine FGoff hok55 20 rfl rfl (by kernel_rfl) ?_
          refine FGoff hok55 21 rfl rfl (by kernel_rfl) ?_
          refine FGoff hok55 22 rfl rfl (by kernel_rfl) ?_
          refine FGp hok55 23 rfl rfl (fun _ => Gives.pickT rfl rfl) (by kernel_rfl) ?_
          refine FG_end hok55 (by kernel_rfl) ?_
          refine Qseq_normal ?_
          refine FW_cond_true rfl ?_
          refine FW_seq ?_
          refine FW_region ?_
          refine FL_assign (h := ?_)
          refine FL_assign (h := ?_)
          refine FL_nil (Qseq_normal ?_)
          refine FW_ret (Qseq_ret (Qfn_ret (hR := ?_)))
          rw [hno] at ho
          exact ⟨none, by rw [ho]; rfl, by rw [ho]; rfl, (H64.kept.mono fun _ h => h), fun _ => False, emp_ok (fun _ => id), fun _ h => h.elim⟩
        · skip
          have hyes : b = rootB n8 n4 ∧ (n8 : Int) ≤ mostNum := hri.1 (by simpa using hs66)
          refine FGmove hok55 11 (h := ?_)
          refine FGmove hok55 12 (h := ?_)
          refine FGcallS hok55 13 [(11, true)] H64 (rooms_at H64 (HP.stay h H64.kept)) (h := fun w75 H75 => ⟨Stab_pure (Stab_nil), ?_⟩)
          refine FGp hok55 14 rfl rfl (fun _ => (Gives.gtr rfl rfl)) (by kernel_rfl) ?_
          refine FGp hok55 15 rfl rfl (fun _ => Gives.pickF rfl rfl) (by kernel_rfl) ?_
          refine FGmove hok55 16 (h := ?_)
          first | refine FG_splitP (t := 53) rfl (fun hs78 => ?_) (fun hs78 => ?_) | refine FG_split (t := 53) rfl (fun hs78 => ?_) (fun hs78 => ?_)
          · skip
            have hno : rootOf d b = none := by
              rw [hrf, if_neg]
              rintro ⟨_, _, h3, _⟩
              omega
            refine FGoff hok55 17 rfl rfl (by kernel_rfl) ?_
            refine FGoff hok55 18 rfl rfl (by kernel_rfl) ?_
            refine FGoff hok55 19 rfl rfl (by kernel_rfl) ?_
            refine FGoff hok55 20 rfl rfl (by kernel_rfl) ?_
            refine FGoff hok55 21 rfl rfl (by kernel_rfl) ?_
            refine FGoff hok55 22 rfl rfl (by kernel_rfl) ?_
            refine FGp hok55 23 rfl rfl (fun _ => Gives.pickT rfl rfl) (by kernel_rfl) ?_
            refine FG_end hok55 (by kernel_rfl) ?_
            refine Qseq_normal ?_
            refine FW_cond_true rfl ?_
            refine FW_seq ?_
            refine FW_region ?_
            refine FL_assign (h := ?_)
            refine FL_assign (h := ?_)
            refine FL_nil (Qseq_normal ?_)
            refine FW_ret (Qseq_ret (Qfn_ret (hR := ?_)))
            rw [hno] at ho
            exact ⟨none, by rw [ho]; rfl, by rw [ho]; rfl, (H75.kept.mono fun _ h => h), fun _ => False, emp_ok (fun _ => id), fun _ h => h.elim⟩
          · skip
            have hroom := hs78
            refine FGmove hok55 17 (h := ?_)
            refine FGp hok55 18 rfl rfl (fun _ => (Gives.eql rfl rfl)) (by kernel_rfl) ?_
            refine FGmove hok55 19 (h := ?_)
            first | refine FG_splitP (t := 56) rfl (fun hs86 => ?_) (fun hs86 => ?_) | refine FG_split (t := 56) rfl (fun hs86 => ?_) (fun hs86 => ?_)
            · skip
              have hz8 := hs86
              refine FGmove hok55 20 (h := ?_)
              refine FGp hok55 21 rfl rfl (fun _ => (Gives.gtr rfl rfl)) (by kernel_rfl) ?_
              refine FGp hok55 22 rfl rfl (fun _ => Gives.pickT rfl rfl) (by kernel_rfl) ?_
              refine FGp hok55 23 rfl rfl (fun _ => Gives.pickF rfl rfl) (by kernel_rfl) ?_
              refine FG_end hok55 (by kernel_rfl) ?_
              refine Qseq_normal ?_
              first | refine FW_condP rfl (fun hc91 => ?_) (fun hc91 => ?_) | refine FW_cond rfl (fun hc91 => ?_) (fun hc91 => ?_)
              · skip
                have hno : rootOf d b = none := by
                  rw [hrf, if_neg]
                  rintro ⟨_, _, _, h4⟩
                  omega
                refine FW_seq ?_
                refine FW_region ?_
                refine FL_assign (h := ?_)
                refine FL_assign (h := ?_)
                refine FL_nil (Qseq_normal ?_)
                refine FW_ret (Qseq_ret (Qfn_ret (hR := ?_)))
                rw [hno] at ho
                exact ⟨none, by rw [ho]; rfl, by rw [ho]; rfl, (H75.kept.mono fun _ h => h), fun _ => False, emp_ok (fun _ => id), fun _ h => h.elim⟩
              · skip
                have hz4 := hc91
                refine FW_skip (Qseq_normal ?_)
                refine FW_seq ?_
                refine FW_region ?_
                refine FL_move (h := ?_)
                refine FL_assign (h := ?_)
                refine FL_assign (h := ?_)
                refine FL_nil (Qseq_normal ?_)
                refine FW_ret (Qfn_ret (hR := ?_))
                have hsome : rootOf d b = some ((n8 : Int), (n4 : Int)) := by
                  rw [hrf, if_pos ⟨hyes.1, hyes.2, by omega, by omega⟩]
                rw [hsome] at ho
                have hmod : ((n8 % 9007199254740992 : Nat) : Int) = (n8 : Int) := by
                  have := hyes.2
                  unfold mostNum at this
                  omega
                rw [hmod] at H75
                exact ⟨some bs, by rw [ho]; rfl, by rw [ho]; rfl, by rw [ho]; exact (Sep.first H75).turn⟩
            · skip
              have hz8 := hs86
              refine FGoff hok55 20 rfl rfl (by kernel_rfl) ?_
              refine FGoff hok55 21 rfl rfl (by kernel_rfl) ?_
              refine FGp hok55 22 rfl rfl (fun _ => Gives.pickF rfl rfl) (by kernel_rfl) ?_
              refine FGp hok55 23 rfl rfl (fun _ => Gives.pickF rfl rfl) (by kernel_rfl) ?_
              refine FG_end hok55 (by kernel_rfl) ?_
              refine Qseq_normal ?_
              refine FW_cond_false rfl ?_
              refine FW_skip (Qseq_normal ?_)
              refine FW_seq ?_
              refine FW_region ?_
              refine FL_move (h := ?_)
              refine FL_assign (h := ?_)
              refine FL_assign (h := ?_)
              refine FL_nil (Qseq_normal ?_)
              refine FW_ret (Qfn_ret (hR := ?_))
              have hsome : rootOf d b = some ((n8 : Int), (n4 : Int)) := by
                rw [hrf, if_pos ⟨hyes.1, hyes.2, by omega, by omega⟩]
              rw [hsome] at ho
              have hmod : ((n8 % 9007199254740992 : Nat) : Int) = (n8 : Int) := by
                have := hyes.2
                unfold mostNum at this
                omega
              rw [hmod] at H75
              exact ⟨some bs, by rw [ho]; rfl, by rw [ho]; rfl, by rw [ho]; exact (Sep.first H75).turn⟩
end
end Go.Proofs.Yteflbohpabdjkaa
