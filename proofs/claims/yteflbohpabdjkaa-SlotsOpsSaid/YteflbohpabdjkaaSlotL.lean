/-
  What a Save does to a disk, wherever it falls: plain laws.
-/
import Derived.Test.YteflbohpabdjkaaSlotF
namespace Go.Proofs.Yteflbohpabdjkaa
open Go Go.Mw

def zeroS : List UInt8 := List.replicate 128 0
def totS (f : Int → Option (List UInt8)) : Int → List UInt8 := fun k => (f k).getD zeroS
/-- The sectors' contents keep some bytes, under a number. -/
structure Holds (f : Int → List UInt8) (h : Int) (b : List UInt8) (n : Int) : Prop where
  root : f 0 = rootB n b.length
  data : ∀ k, k < nch b → f (1 + n % 2 * h + k) = pad (chunk b k)
  zero : n = 0 → b = []
  n0 : 0 ≤ n
  nm : n ≤ mostNum
  len : (b.length : Int) ≤ h * 128
theorem sec_tot (d : DM) (k : Int) : d.sec k = totS d.now k := rfl
theorem take_take_chunk (b : List UInt8) (j : Nat) : b.take (128 * (j + 1)) = b.take (128 * j) ++ chunk b j := by
  unfold chunk
  rw [show 128 * (j + 1) = 128 * j + 128 by omega, List.take_add]
theorem secs_concat {d : DM} {a : Int} {b : List UInt8} (hwf : d.wf) (h : ∀ k, k < nch b → d.sec (a + k) = pad (chunk b k)) : ∀ j, j ≤ nch b → (secsFrom d a j).take b.length = b.take (128 * j)
  | 0, _ => by simp [secsFrom]
  | j + 1, hj => by
    have ih := secs_concat hwf h j (by omega)
    have hl := secsFrom_length hwf a j
    have hlt : 128 * j < b.length := by unfold nch at hj; omega
    rw [List.take_of_length_le (by omega)] at ih
    unfold secsFrom
    rw [h j (by omega), List.take_append, List.take_of_length_le (by omega), hl, ih, take_take_chunk]
    congr 1
    have hc := chunk_length b j
    unfold pad
    rcases Nat.le_total (b.length - 128 * j) 128 with h1 | h1
    · rw [show b.length - 128 * j = (chunk b j).length by omega, List.take_left]
    · rw [show 128 - (chunk b j).length = 0 by omega, List.replicate_zero, List.append_nil, List.take_of_length_le (by omega)]
theorem rootB_inj {d : DM} {n m : Int} (hn : 0 ≤ n ∧ n ≤ mostNum) (hm : 0 ≤ m ∧ m ≤ room d) (hr : room d ≤ 4194304) (hz : n = 0 → m = 0) : rootOf d (rootB n m) = some (n, m) := by
  have h8 := takeN_be 8 n (by decide) hn.1 (by
    have h8 : (256 : Int) ^ 8 = 18446744073709551616 := by decide
    have := hn.2
    unfold mostNum at this
    omega)
  have h4 := takeN_be 4 m (by decide) hm.1 (by
    have h8 : (256 : Int) ^ 4 = 4294967296 := by decide
    omega)
  unfold rootOf
  simp only [rootB_take8, rootB_mid, h8, h4]
  rw [if_pos]
  refine ⟨trivial, hn.2, hm.2, ?_⟩
  rintro ⟨h1, h2⟩
  have := hz (by omega)
  omega
section
variable {d : DM} {b : List UInt8} {n : Int}
theorem room_le (hwf : d.wf) : 0 ≤ room d ∧ room d ≤ 4194304 := by
  have := half_bd hwf
  unfold room
  omega
theorem open_holds (hwf : d.wf) (hd : d.dead = false) (hs : 3 ≤ d.size) (h : Holds (totS d.now) (half d) b n) : openS d = (0, ⟨n, b.length, false⟩) := by
  unfold openS
  rw [if_neg (by omega), if_neg (by rw [hd]; simp), sec_tot, h.root, rootB_inj ⟨h.n0, h.nm⟩ ⟨by omega, h.len⟩ (room_le hwf).2 (fun e => by rw [h.zero e]; rfl)]
theorem ok_holds (hs : 3 ≤ d.size) (h : Holds (totS d.now) (half d) b n) : SM.ok ⟨n, b.length, false⟩ d := ⟨h.n0, h.nm, by show (0 : Int) ≤ b.length; omega, h.len, hs⟩
theorem load_holds (hwf : d.wf) (hd : d.dead = false) (h : Holds (totS d.now) (half d) b n) : load ⟨n, b.length, false⟩ d = (b, if n = 0 then 300 else 0, ⟨n, b.length, false⟩) := by
  unfold load
  dsimp only
  rw [if_neg (by simp)]
  split
  · rename_i hz
    rw [h.zero hz]
  · rw [if_neg (by rw [hd]; simp), Int.toNat_natCast]
    have := secs_concat (a := area d n) hwf (fun k hk => h.data k hk) (nch b) (Nat.le_refl _)
    rw [show (b.length + 127) / 128 = nch b from rfl, this, List.take_of_length_le (by unfold nch; omega)]
end
/-- The data's writes. -/
def dataW (a : Int) (b : List UInt8) (j : Nat) : List (Int × List UInt8) := (List.range j).map fun k : Nat => (a + (k : Int), pad (chunk b k))
theorem dataW_succ (a : Int) (b : List UInt8) (j : Nat) : dataW a b (j + 1) = dataW a b j ++ [(a + (j : Int), pad (chunk b j))] := by
  unfold dataW
  rw [List.range_succ, List.map_append]
  rfl
theorem write_put {d : DM} {k : Int} {c : List UInt8} (hd : d.dead = false) (h0 : 0 ≤ k) (h1 : k < d.size) (hc : c.length ≤ 128) : d.write k c = ((if (d.put k c).count.1 then 0 else 290), (d.put k c).count.2) := by
  unfold DM.write
  rw [if_neg (by rw [look_lt hd h0 h1]; decide), if_neg (by omega)]
theorem count_on {d : DM} (h : d.ops + 1 ≠ d.fail) : d.count = (true, { d with ops := d.ops + 1 }) := by
  unfold DM.count
  rw [if_neg h]
theorem count_fall {d : DM} (h : d.ops + 1 = d.fail) : d.count = (false, DM.fall { d with ops := d.ops + 1 } d.keep) := by
  unfold DM.count
  rw [if_pos h]
theorem go_zero {d : DM} {f : DM → Int × DM} : go (0, d) f = f d := by unfold go; rw [if_pos rfl]
theorem go_not {e : Int} {d : DM} {f : DM → Int × DM} (h : e ≠ 0) : go (e, d) f = (e, d) := by unfold go; rw [if_neg h]
theorem go_290 {d : DM} {f : DM → Int × DM} : go (290, d) f = (290, d) := go_not (by decide)
theorem keptAll_out {l : List (Int × List UInt8)} {k : Int} : ∀ {f : Int → Option (List UInt8)}, (∀ x ∈ l, k ≠ x.1) → DM.keptAll l f k = f k := by
  induction l with
  | nil => intro f _; rfl
  | cons x l ih =>
    intro f h
    show DM.keptAll l (setAt f x.1 x.2) k = f k
    rw [ih fun y hy => h y (List.mem_cons_of_mem _ hy)]
    unfold setAt
    rw [if_neg (h x List.mem_cons_self)]
theorem keptBy_out {keep : List Int} {k : Int} : ∀ {i : Nat} {l : List (Int × List UInt8)} {f : Int → Option (List UInt8)}, (∀ x ∈ l, k ≠ x.1) → keptBy keep i l f k = f k
  | _, [], _, _ => rfl
  | i, x :: l, f, h => by
    unfold keptBy
    rw [keptBy_out (i := i + 1) fun y hy => h y (List.mem_cons_of_mem _ hy)]
    split
    · unfold setAt
      rw [if_neg (h x List.mem_cons_self)]
    · rfl
theorem dataW_out {a : Int} {b : List UInt8} {j : Nat} {k : Int} (h : ∀ i : Nat, i < j → k ≠ a + (i : Int)) : ∀ x ∈ dataW a b j, k ≠ x.1 := by
  intro x hx
  obtain ⟨i, hi, rfl⟩ := List.mem_map.1 hx
  exact h i (List.mem_range.1 hi)
theorem dataW_in {a : Int} {b : List UInt8} {i : Nat} : ∀ {j : Nat} {f : Int → Option (List UInt8)}, i < j → DM.keptAll (dataW a b j) f (a + (i : Int)) = some (pad (chunk b i))
  | 0, _, h => absurd h (Nat.not_lt_zero _)
  | j + 1, f, h => by
    rw [dataW_succ, keptAll_append]
    show setAt (DM.keptAll (dataW a b j) f) (a + (j : Int)) (pad (chunk b j)) (a + (i : Int)) = _
    unfold setAt
    by_cases hij : i = j
    · subst hij; rw [if_pos rfl]
    · rw [if_neg (by omega)]
      exact dataW_in (by omega)
theorem pad_len {c : List UInt8} (h : c.length ≤ 128) : (pad c).length = 128 := by unfold pad; simp; omega
theorem dataW_len {a : Int} {b : List UInt8} {j : Nat} : ∀ x ∈ dataW a b j, x.2.length = 128 := by
  intro x hx
  obtain ⟨i, _, rfl⟩ := List.mem_map.1 hx
  exact pad_len (by rw [chunk_length]; omega)
section
variable {d : DM} {a : Int} {b : List UInt8}
/-- A disk at rest: it is, nothing is open. -/
structure Rest (d : DM) : Prop where
  wf : d.wf
  alive : d.dead = false
  opn : d.opn = []
  now : d.now = d.kept
def dataD (d : DM) (a : Int) (b : List UInt8) (j : Nat) : DM := { d with opn := dataW a b j, now := DM.keptAll (dataW a b j) d.now, ops := d.ops + j }
theorem wr_alive (hd : d.dead = false) (ho : d.opn = []) (ha : 0 ≤ a ∧ a + (nch b : Int) ≤ d.size) : ∀ j, j ≤ nch b → (d.fail - d.ops < 1 ∨ (j : Int) < d.fail - d.ops) → wr a b j (0, d) = (0, dataD d a b j)
  | 0, _, _ => by
    show (0, d) = (0, dataD d a b 0)
    congr 1
    cases d
    simp only at ho
    subst ho
    simp [dataD, dataW, DM.keptAll]
  | j + 1, hj, ht => by
    have ih := wr_alive hd ho ha j (by omega) (by omega)
    show go (wr a b j (0, d)) _ = _
    rw [ih, go_zero, write_put (d := dataD d a b j) hd (by omega) (by show a + (j : Int) < d.size; omega) (by rw [chunk_length]; omega), count_on (by show d.ops + (j : Int) + 1 ≠ d.fail; omega)]
    show (0, _) = (0, _)
    congr 1
    unfold dataD DM.put
    rw [dataW_succ, keptAll_append]
    dsimp only [DM.keptAll]
    rw [show d.ops + (j : Int) + 1 = d.ops + ((j + 1 : Nat) : Int) by omega]
theorem wr_falls (hd : d.dead = false) (ho : d.opn = []) (ha : 0 ≤ a ∧ a + (nch b : Int) ≤ d.size) (i : Nat) (hi : d.fail - d.ops = (i : Int) + 1) : ∀ j, i < j → j ≤ nch b → wr a b j (0, d) = (290, (dataD d a b (i + 1)).fall d.keep)
  | 0, h, _ => absurd h (Nat.not_lt_zero _)
  | j + 1, hij, hj => by
    show go (wr a b j (0, d)) _ = _
    by_cases he : i = j
    · subst he
      rw [wr_alive hd ho ha i (by omega) (by omega), go_zero, write_put (d := dataD d a b i) hd (by omega) (by show a + (i : Int) < d.size; omega) (by rw [chunk_length]; omega), count_fall (by show d.ops + (i : Int) + 1 = d.fail; omega)]
      show (290, _) = (290, _)
      congr 1
      unfold dataD DM.put DM.fall
      dsimp only
      rw [dataW_succ, show d.ops + (i : Int) + 1 = d.ops + ((i + 1 : Nat) : Int) by omega]
    · rw [wr_falls hd ho ha i hi j (by omega) (by omega), go_not (by decide)]
end
/-- A disk that has fallen. -/
structure Fallen (d d' : DM) : Prop where
  wf : d'.wf
  dead : d'.dead = true
  size : d'.size = d.size
  opn : d'.opn = []
  now : d'.now = d'.kept
theorem fall_fallen {d e : DM} (hwf : e.wf) (hs : e.size = d.size) (keep : List Int) : Fallen d (e.fall keep) := ⟨hwf.fall keep, rfl, hs, rfl, rfl⟩
/-- Outside of an area nothing has turned. -/
def SameBut (a : Int) (b : List UInt8) (f g : Int → Option (List UInt8)) : Prop := ∀ k, (∀ i : Nat, i < nch b → k ≠ a + (i : Int)) → g k = f k
/-- What was saved is there. -/
structure IsNew (a n : Int) (b : List UInt8) (f g : Int → Option (List UInt8)) : Prop where
  root : g 0 = some (rootB n b.length)
  data : ∀ i, i < nch b → g (a + (i : Int)) = some (pad (chunk b i))
  same : ∀ k, k ≠ 0 → (∀ i : Nat, i < nch b → k ≠ a + (i : Int)) → g k = f k
structure SavedD (d d' : DM) (a n : Int) (b : List UInt8) : Prop where
  rest : Rest d'
  size : d'.size = d.size
  ops : d'.ops = d.ops + (nch b : Int) + 3
  fail : d'.fail = d.fail
  keep : d'.keep = d.keep
  new : IsNew a n b d.kept d'.kept
theorem flush_on {d : DM} (hd : d.dead = false) (hs : 0 < d.size) (h : d.ops + 1 ≠ d.fail) : d.flush = (0, { d with ops := d.ops + 1, kept := DM.keptAll d.opn d.kept, opn := [] }) := by
  unfold DM.flush
  rw [if_neg (by rw [look_lt hd (by decide) hs]; decide), count_on h]
  rfl
theorem flush_fall {d : DM} (hd : d.dead = false) (hs : 0 < d.size) (h : d.ops + 1 = d.fail) : d.flush = (290, DM.fall { d with ops := d.ops + 1 } d.keep) := by
  unfold DM.flush
  rw [if_neg (by rw [look_lt hd (by decide) hs]; decide), count_fall h]
  rfl
theorem pad_root (n m : Int) : pad (rootB n m) = rootB n m := by
  unfold pad
  rw [rootB_length]
  simp
section
variable {d : DM} {b : List UInt8} {n : Int}
theorem dataD_wf {a : Int} (hwf : d.wf) (j : Nat) : (dataD d a b j).wf := ⟨hwf.1, hwf.2.1, hwf.2.2.1, keptAll_wf (dataW_len (a := a) (b := b) (j := j)) hwf.2.2.2.1, dataW_len (a := a) (b := b) (j := j)⟩
def keptD (d : DM) (a : Int) (b : List UInt8) : Int → Option (List UInt8) := DM.keptAll (dataW a b (nch b)) d.kept
def D1 (d : DM) (a : Int) (b : List UInt8) : DM := { d with ops := d.ops + (nch b : Int) + 1, kept := keptD d a b, now := keptD d a b, opn := [] }
def D2 (d : DM) (a n : Int) (b : List UInt8) : DM := { d with ops := d.ops + (nch b : Int) + 2, kept := keptD d a b, now := setAt (keptD d a b) 0 (rootB n b.length), opn := [(0, rootB n b.length)] }
def D3 (d : DM) (a n : Int) (b : List UInt8) : DM := { d with ops := d.ops + (nch b : Int) + 3, kept := setAt (keptD d a b) 0 (rootB n b.length), now := setAt (keptD d a b) 0 (rootB n b.length), opn := [] }
theorem D1_put (a : Int) : { ((D1 d a b).put 0 (rootB n b.length)) with ops := (D1 d a b).ops + 1 } = D2 d a n b := by
  unfold D1 D2 DM.put
  dsimp only
  rw [pad_root, List.nil_append, show d.ops + (nch b : Int) + 1 + 1 = d.ops + (nch b : Int) + 2 by omega]
theorem save_run (hr : Rest d) (hl : (b.length : Int) ≤ room d) (hs : 3 ≤ d.size) :
    ((d.fail - d.ops < 1 ∨ (nch b : Int) + 3 < d.fail - d.ops) → ∃ d', save1 n b d = (0, d') ∧ SavedD d d' (area d n) n b) ∧
    ((1 ≤ d.fail - d.ops ∧ d.fail - d.ops ≤ (nch b : Int) + 1) → ∃ d', save1 n b d = (290, d') ∧ Fallen d d' ∧ SameBut (area d n) b d.kept d'.kept) ∧
    (((nch b : Int) + 2 ≤ d.fail - d.ops ∧ d.fail - d.ops ≤ (nch b : Int) + 3) → ∃ d', save1 n b d = (290, d') ∧ Fallen d d' ∧ (SameBut (area d n) b d.kept d'.kept ∨ IsNew (area d n) n b d.kept d'.kept)) := by
  obtain ⟨hwf, hd, ho, hnow⟩ := hr
  have hh := half_bd hwf
  have hnch : (nch b : Int) ≤ half d := by
    unfold room at hl
    unfold nch
    omega
  have har : 1 ≤ area d n ∧ area d n ≤ 1 + half d := by
    unfold area
    rcases (show n % 2 = 0 ∨ n % 2 = 1 by omega) with h | h <;> rw [h] <;> omega
  have hsz : 2 * half d + 1 ≤ d.size := by unfold half; omega
  obtain ⟨a, ha⟩ : ∃ a, a = area d n := ⟨_, rfl⟩
  rw [← ha] at har ⊢
  have hab : 0 ≤ a ∧ a + (nch b : Int) ≤ d.size := by omega
  have hsv : save1 n b d = go (go (go (wr a b (nch b) (0, d)) DM.flush) fun d => d.write 0 (rootB n b.length)) DM.flush := by unfold save1; rw [ha]
  have hout : ∀ k : Int, (∀ i : Nat, i < nch b → k ≠ a + (i : Int)) → keptD d a b k = d.kept k := fun k hk => keptAll_out (dataW_out hk)
  have h1 : (d.fail - d.ops < 1 ∨ (nch b : Int) + 1 < d.fail - d.ops) → go (wr a b (nch b) (0, d)) DM.flush = (0, D1 d a b) := by
    intro ht
    rw [wr_alive hd ho hab (nch b) (Nat.le_refl _) (by omega), go_zero, flush_on (d := dataD d a b (nch b)) hd (by show 0 < d.size; omega) (by show d.ops + (nch b : Int) + 1 ≠ d.fail; omega)]
    unfold dataD D1 keptD
    dsimp only
    rw [hnow]
  have hK : ∀ k c, keptD d a b k = some c → c.length = 128 := keptAll_wf (dataW_len (a := a) (b := b) (j := nch b)) hwf.2.2.1
  have hw : (D1 d a b).write 0 (rootB n b.length) = ((if ((D1 d a b).put 0 (rootB n b.length)).count.1 then 0 else 290), ((D1 d a b).put 0 (rootB n b.length)).count.2) :=
    write_put (d := D1 d a b) (k := 0) (c := rootB n b.length) hd (by decide) (by show 0 < d.size; omega) (by rw [rootB_length]; decide)
  have h2 : (d.fail - d.ops < 1 ∨ (nch b : Int) + 2 < d.fail - d.ops) → go (go (wr a b (nch b) (0, d)) DM.flush) (fun d => d.write 0 (rootB n b.length)) = (0, D2 d a n b) := by
    intro ht
    rw [h1 (by omega), go_zero, hw, count_on (d := (D1 d a b).put 0 (rootB n b.length)) (by show d.ops + (nch b : Int) + 1 + 1 ≠ d.fail; omega)]
    exact congrArg (Prod.mk 0) (D1_put a)
  have hnew : IsNew a n b d.kept (setAt (keptD d a b) 0 (rootB n b.length)) := by
    refine ⟨by unfold setAt; rw [if_pos rfl], fun i hi => ?_, fun k hk hki => ?_⟩
    · unfold setAt
      rw [if_neg (by omega)]
      exact dataW_in hi
    · unfold setAt
      rw [if_neg hk, hout k hki]
  have hNw : ∀ k c, setAt (keptD d a b) 0 (rootB n b.length) k = some c → c.length = 128 := setAt_wf (rootB_length _ _) hK
  have hwf2 : (D2 d a n b).wf := ⟨hwf.1, hwf.2.1, hK, hNw, fun x hx => by rw [List.mem_singleton.1 hx]; exact rootB_length _ _⟩
  refine ⟨fun ht => ⟨D3 d a n b, ?_, ?_⟩, fun ht => ?_, fun ht => ?_⟩
  · rw [hsv, h2 (by omega), go_zero, flush_on (d := D2 d a n b) hd (by show 0 < d.size; omega) (by show d.ops + (nch b : Int) + 2 + 1 ≠ d.fail; omega)]
    unfold D2 D3
    dsimp only [DM.keptAll]
    rw [show d.ops + (nch b : Int) + 2 + 1 = d.ops + (nch b : Int) + 3 by omega]
  · exact ⟨⟨⟨hwf.1, hwf.2.1, hNw, hNw, fun _ hx => (by cases hx)⟩, hd, rfl, rfl⟩, rfl, rfl, rfl, rfl, hnew⟩
  · by_cases hf : d.fail - d.ops = (nch b : Int) + 1
    · refine ⟨DM.fall { (dataD d a b (nch b)) with ops := (dataD d a b (nch b)).ops + 1 } d.keep, ?_, ?_, ?_⟩
      · rw [hsv, wr_alive hd ho hab (nch b) (Nat.le_refl _) (by omega), go_zero, flush_fall (d := dataD d a b (nch b)) hd (by show 0 < d.size; omega) (by show d.ops + (nch b : Int) + 1 = d.fail; omega), go_290, go_290]
        rfl
      · exact fall_fallen (d := d) (e := { (dataD d a b (nch b)) with ops := (dataD d a b (nch b)).ops + 1 }) (dataD_wf hwf _) rfl _
      · exact fun k hk => keptBy_out (dataW_out hk)
    · obtain ⟨i, hi⟩ : ∃ i : Nat, d.fail - d.ops = (i : Int) + 1 := ⟨(d.fail - d.ops - 1).toNat, by omega⟩
      refine ⟨(dataD d a b (i + 1)).fall d.keep, ?_, ?_, ?_⟩
      · rw [hsv, wr_falls hd ho hab i hi (nch b) (by omega) (Nat.le_refl _), go_290, go_290, go_290]
      · exact fall_fallen (d := d) (dataD_wf hwf _) rfl _
      · exact fun k hk => keptBy_out (dataW_out fun j hj => hk j (by omega))
  · have hlast : ∀ keep : List Int, SameBut a b d.kept (keptBy keep 0 [(0, rootB n b.length)] (keptD d a b)) ∨ IsNew a n b d.kept (keptBy keep 0 [(0, rootB n b.length)] (keptD d a b)) := by
      intro keep
      show SameBut a b d.kept (if keep.contains ((0 : Nat) : Int) then setAt (keptD d a b) 0 (rootB n b.length) else keptD d a b) ∨ IsNew a n b d.kept (if keep.contains ((0 : Nat) : Int) then setAt (keptD d a b) 0 (rootB n b.length) else keptD d a b)
      split
      · exact .inr hnew
      · exact .inl hout
    by_cases hf : d.fail - d.ops = (nch b : Int) + 2
    · refine ⟨(D2 d a n b).fall d.keep, ?_, fall_fallen (d := d) hwf2 rfl _, hlast d.keep⟩
      rw [hsv, h1 (by omega), go_zero, hw, count_fall (d := (D1 d a b).put 0 (rootB n b.length)) (by show d.ops + (nch b : Int) + 1 + 1 = d.fail; omega)]
      rw [if_neg (by simp), go_290]
      exact congrArg (fun e => ((290 : Int), DM.fall e d.keep)) (D1_put a)
    · refine ⟨DM.fall { (D2 d a n b) with ops := (D2 d a n b).ops + 1 } d.keep, ?_, fall_fallen (d := d) (e := { (D2 d a n b) with ops := (D2 d a n b).ops + 1 }) hwf2 rfl _, hlast d.keep⟩
      rw [hsv, h2 (by omega), go_zero, flush_fall (d := D2 d a n b) hd (by show 0 < d.size; omega) (by show d.ops + (nch b : Int) + 2 + 1 = d.fail; omega)]
      rfl
end
end Go.Proofs.Yteflbohpabdjkaa
