/-
  What a Save does to a disk, wherever it falls: plain laws.
-/
import Derived.Test.YteflbohpabdjkaaSlotT
namespace Go.Proofs.Yteflbohpabdjkaa
open Go Go.Mw

def zeroS : List UInt8 := List.replicate 128 0
def totS (f : Int → Option (List UInt8)) : Int → List UInt8 := fun k => (f k).getD zeroS
/-- The sectors' contents keep some bytes, under a number. -/
structure Holds (f : Int → List UInt8) (h : Int) (b : List UInt8) (n : Int) : Prop where
  root : f 0 = rootB n b.length
  data : ∀ k, k < nch b → f (1 + n % 2 * h + k) = pad (chunk b k)
  zero : n = 0 → b = []
  n0 : 0 ≤ n
  nm : n ≤ mostNum
  len : (b.length : Int) ≤ h * 128
theorem sec_tot (d : DM) (k : Int) : d.sec k = totS d.now k := rfl
theorem take_take_chunk (b : List UInt8) (j : Nat) : b.take (128 * (j + 1)) = b.take (128 * j) ++ chunk b j := by
  unfold chunk
  rw [show 128 * (j + 1) = 128 * j + 128 by omega, List.take_add]
theorem secs_concat {d : DM} {a : Int} {b : List UInt8} (hwf : d.wf) (h : ∀ k, k < nch b → d.sec (a + k) = pad (chunk b k)) : ∀ j, j ≤ nch b → (secsFrom d a j).take b.length = b.take (128 * j)
  | 0, _ => by simp [secsFrom]
  | j + 1, hj => by
    have ih := secs_concat hwf h j (by omega)
    have hl := secsFrom_length hwf a j
    have hlt : 128 * j < b.length := by unfold nch at hj; omega
    rw [List.take_of_length_le (by omega)] at ih
    unfold secsFrom
    rw [h j (by omega), List.take_append, List.take_of_length_le (by omega), hl, ih, take_take_chunk]
    congr 1
    have hc := chunk_length b j
    unfold pad
    rcases Nat.le_total (b.length - 128 * j) 128 with h1 | h1
    · rw [show b.length - 128 * j = (chunk b j).length by omega, List.take_left]
    · rw [show 128 - (chunk b j).length = 0 by omega, List.replicate_zero, List.append_nil, List.take_of_length_le (by omega)]
theorem rootB_inj {d : DM} {n m : Int} (hn : 0 ≤ n ∧ n ≤ mostNum) (hm : 0 ≤ m ∧ m ≤ room d) (hr : room d ≤ 4194304) (hz : n = 0 → m = 0) : rootOf d (rootB n m) = some (n, m) := by
  have h8 := takeN_be 8 n (by decide) hn.1 (by
    have h8 : (256 : Int) ^ 8 = 18446744073709551616 := by decide
    have := hn.2
    unfold mostNum at this
    omega)
  have h4 := takeN_be 4 m (by decide) hm.1 (by
    have h8 : (256 : Int) ^ 4 = 4294967296 := by decide
    omega)
  unfold rootOf
  simp only [rootB_take8, rootB_mid, h8, h4]
  rw [if_pos]
  refine ⟨trivial, hn.2, hm.2, ?_⟩
  rintro ⟨h1, h2⟩
  have := hz (by omega)
  omega
section
variable {d : DM} {b : List UInt8} {n : Int}
theorem room_le (hwf : d.wf) : 0 ≤ room d ∧ room d ≤ 4194304 := by
  have := half_bd hwf
  unfold room
  omega
theorem open_holds (hwf : d.wf) (hd : d.dead = false) (hs : 3 ≤ d.size) (h : Holds (totS d.now) (half d) b n) : openS d = (0, ⟨n, b.length, false⟩) := by
  unfold openS
  rw [if_neg (by omega), if_neg (by rw [hd]; simp), sec_tot, h.root, rootB_inj ⟨h.n0, h.nm⟩ ⟨by omega, h.len⟩ (room_le hwf).2 (fun e => by rw [h.zero e]; rfl)]
theorem ok_holds (hs : 3 ≤ d.size) (h : Holds (totS d.now) (half d) b n) : SM.ok ⟨n, b.length, false⟩ d := ⟨h.n0, h.nm, by show (0 : Int) ≤ b.length; omega, h.len, hs⟩
theorem load_holds (hwf : d.wf) (hd : d.dead = false) (h : Holds (totS d.now) (half d) b n) : load ⟨n, b.length, false⟩ d = (b, if n = 0 then 300 else 0, ⟨n, b.length, false⟩) := by
  unfold load
  dsimp only
  rw [if_neg (by simp)]
  split
  · rename_i hz
    rw [h.zero hz]
  · rw [if_neg (by rw [hd]; simp), Int.toNat_natCast]
    have := secs_concat (a := area d n) hwf (fun k hk => h.data k hk) (nch b) (Nat.le_refl _)
    rw [show (b.length + 127) / 128 = nch b from rfl, this, List.take_of_length_le (by unfold nch; omega)]
end
/-- The data's writes. -/
def dataW (a : Int) (b : List UInt8) (j : Nat) : List (Int × List UInt8) := (List.range j).map fun k : Nat => (a + (k : Int), pad (chunk b k))
theorem dataW_succ (a : Int) (b : List UInt8) (j : Nat) : dataW a b (j + 1) = dataW a b j ++ [(a + (j : Int), pad (chunk b j))] := by
  unfold dataW
  rw [List.range_succ, List.map_append]
  rfl
theorem write_put {d : DM} {k : Int} {c : List UInt8} (hd : d.dead = false) (h0 : 0 ≤ k) (h1 : k < d.size) (hc : c.length ≤ 128) : d.write k c = ((if (d.put k c).count.1 then 0 else 290), (d.put k c).count.2) := by
  unfold DM.write
  rw [if_neg (by rw [look_lt hd h0 h1]; decide), if_neg (by omega)]
theorem count_on {d : DM} (h : d.ops + 1 ≠ d.fail) : d.count = (true, { d with ops := d.ops + 1 }) := by
  unfold DM.count
  rw [if_neg h]
theorem count_fall {d : DM} (h : d.ops + 1 = d.fail) : d.count = (false, DM.fall { d with ops := d.ops + 1 } d.keep) := by
  unfold DM.count
  rw [if_pos h]
theorem go_zero {d : DM} {f : DM → Int × DM} : go (0, d) f = f d := by unfold go; rw [if_pos rfl]
theorem go_not {e : Int} {d : DM} {f : DM → Int × DM} (h : e ≠ 0) : go (e, d) f = (e, d) := by unfold go; rw [if_neg h]
theorem go_290 {d : DM} {f : DM → Int × DM} : go (290, d) f = (290, d) := go_not (by decide)
theorem keptAll_out {l : List (Int × List UInt8)} {k : Int} : ∀ {f : Int → Option (List UInt8)}, (∀ x ∈ l, k ≠ x.1) → DM.keptAll l f k = f k := by
  induction l with
  | nil => intro f _; rfl
  | cons x l ih =>
    intro f h
    show DM.keptAll l (setAt f x.1 x.2) k = f k
    rw [ih fun y hy => h y (List.mem_cons_of_mem _ hy)]
    unfold setAt
    rw [if_neg (h x List.mem_cons_self)]
theorem keptBy_out {keep : List Int} {k : Int} : ∀ {i : Nat} {l : List (Int × List UInt8)} {f : Int → Option (List UInt8)}, (∀ x ∈ l, k ≠ x.1) → keptBy keep i l f k = f k
  | _, [], _, _ => rfl
  | i, x :: l, f, h => by
    unfold keptBy
    rw [keptBy_out (i := i + 1) fun y hy => h y (List.mem_cons_of_mem _ hy)]
    split
    · unfold setAt
      rw [if_neg (h x List.mem_cons_self)]
    · rfl
theorem dataW_out {a : Int} {b : List UInt8} {j : Nat} {k : Int} (h : ∀ i : Nat, i < j → k ≠ a + (i : Int)) : ∀ x ∈ dataW a b j, k ≠ x.1 := by
  intro x hx
  obtain ⟨i, hi, rfl⟩ := List.mem_map.1 hx
  exact h i (List.mem_range.1 hi)
theorem dataW_in {a : Int} {b : List UInt8} {i : Nat} : ∀ {j : Nat} {f : Int → Option (List UInt8)}, i < j → DM.keptAll (dataW a b j) f (a + (i : Int)) = some (pad (chunk b i))
  | 0, _, h => absurd h (Nat.not_lt_zero _)
  | j + 1, f, h => by
    rw [dataW_succ, keptAll_append]
    show setAt (DM.keptAll (dataW a b j) f) (a + (j : Int)) (pad (chunk b j)) (a + (i : Int)) = _
    unfold setAt
    by_cases hij : i = j
    · subst hij; rw [if_pos rfl]
    · rw [if_neg (by omega)]
      exact dataW_in (by omega)
theorem pad_len {c : List UInt8} (h : c.length ≤ 128) : (pad c).length = 128 := by unfold pad; simp; omega
theorem dataW_len {a : Int} {b : List UInt8} {j : Nat} : ∀ x ∈ dataW a b j, x.2.length = 128 := by
  intro x hx
  obtain ⟨i, _, rfl⟩ := List.mem_map.1 hx
  exact pad_len (by rw [chunk_length]; omega)
section
variable {d : DM} {a : Int} {b : List UInt8}
/-- A disk at rest: it is, nothing is open. -/
structure Rest (d : DM) : Prop where
  wf : d.wf
  alive : d.dead = false
  opn : d.opn = []
  now : d.now = d.kept
def dataD (d : DM) (a : Int) (b : List UInt8) (j : Nat) : DM := { d with opn := dataW a b j, now := DM.keptAll (dataW a b j) d.now, ops := d.ops + j }
theorem wr_alive (hd : d.dead = false) (ho : d.opn = []) (ha : 0 ≤ a ∧ a + (nch b : Int) ≤ d.size) : ∀ j, j ≤ nch b → (d.fail - d.ops < 1 ∨ (j : Int) < d.fail - d.ops) → wr a b j (0, d) = (0, dataD d a b j)
  | 0, _, _ => by
    show (0, d) = (0, dataD d a b 0)
    congr 1
    cases d
    simp only at ho
    subst ho
    simp [dataD, dataW, DM.keptAll]
  | j + 1, hj, ht => by
    have ih := wr_alive hd ho ha j (by omega) (by omega)
    show go (wr a b j (0, d)) _ = _
    rw [ih, go_zero, write_put (d := dataD d a b j) hd (by omega) (by show a + (j : Int) < d.size; omega) (by rw [chunk_length]; omega), count_on (by show d.ops + (j : Int) + 1 ≠ d.fail; omega)]
    show (0, _) = (0, _)
    congr 1
    unfold dataD DM.put
    rw [dataW_succ, keptAll_append]
    dsimp only [DM.keptAll]
    rw [show d.ops + (j : Int) + 1 = d.ops + ((j + 1 : Nat) : Int) by omega]
theorem wr_falls (hd : d.dead = false) (ho : d.opn = []) (ha : 0 ≤ a ∧ a + (nch b : Int) ≤ d.size) (i : Nat) (hi : d.fail - d.ops = (i : Int) + 1) : ∀ j, i < j → j ≤ nch b → wr a b j (0, d) = (290, (dataD d a b (i + 1)).fall d.keep)
  | 0, h, _ => absurd h (Nat.not_lt_zero _)
  | j + 1, hij, hj => by
    show go (wr a b j (0, d)) _ = _
    by_cases he : i = j
    · subst he
      rw [wr_alive hd ho ha i (by omega) (by omega), go_zero, write_put (d := dataD d a b i) hd (by omega) (by show a + (i : Int) < d.size; omega) (by rw [chunk_length]; omega), count_fall (by show d.ops + (i : Int) + 1 = d.fail; omega)]
      show (290, _) = (290, _)
      congr 1
      unfold dataD DM.put DM.fall
      dsimp only
      rw [dataW_succ, show d.ops + (i : Int) + 1 = d.ops + ((i + 1 : Nat) : Int) by omega]
    · rw [wr_falls hd ho ha i hi j (by omega) (by omega), go_not (by decide)]
end
/-- A disk that has fallen. -/
structure Fallen (d d' : DM) : Prop where
  wf : d'.wf
  dead : d'.dead = true
  size : d'.size = d.size
  opn : d'.opn = []
  now : d'.now = d'.kept
theorem fall_fallen {d e : DM} (hwf : e.wf) (hs : e.size = d.size) (keep : List Int) : Fallen d (e.fall keep) := ⟨hwf.fall keep, rfl, hs, rfl, rfl⟩
/-- Outside of an area nothing has turned. -/
def SameBut (a : Int) (b : List UInt8) (f g : Int → Option (List UInt8)) : Prop := ∀ k, (∀ i : Nat, i < nch b → k ≠ a + (i : Int)) → g k = f k
/-- What was saved is there. -/
structure IsNew (a n : Int) (b : List UInt8) (f g : Int → Option (List UInt8)) : Prop where
  root : g 0 = some (rootB n b.length)
  data : ∀ i, i < nch b → g (a + (i : Int)) = some (pad (chunk b i))
  same : ∀ k, k ≠ 0 → (∀ i : Nat, i < nch b → k ≠ a + (i : Int)) → g k = f k
structure SavedD (d d' : DM) (a n : Int) (b : List UInt8) : Prop where
  rest : Rest d'
  size : d'.size = d.size
  ops : d'.ops = d.ops + (nch b : Int) + 3
  fail : d'.fail = d.fail
  keep : d'.keep = d.keep
  new : IsNew a n b d.kept d'.kept
theorem flush_on {d : DM} (hd : d.dead = false) (hs : 0 < d.size) (h : d.ops + 1 ≠ d.fail) : d.flush = (0, { d with ops := d.ops + 1, kept := DM.keptAll d.opn d.kept, opn := [] }) := by
  unfold DM.flush
  rw [if_neg (by rw [look_lt hd (by decide) hs]; decide), count_on h]
  rfl
theorem flush_fall {d : DM} (hd : d.dead = false) (hs : 0 < d.size) (h : d.ops + 1 = d.fail) : d.flush = (290, DM.fall { d with ops := d.ops + 1 } d.keep) := by
  unfold DM.flush
  rw [if_neg (by rw [look_lt hd (by decide) hs]; decide), count_fall h]
  rfl
theorem pad_root (n m : Int) : pad (rootB n m) = rootB n m := by
  unfold pad
  rw [rootB_length]
  simp
section
variable {d : DM} {b : List UInt8} {n : Int}
theorem dataD_wf {a : Int} (hwf : d.wf) (j : Nat) : (dataD d a b j).wf := ⟨hwf.1, hwf.2.1, hwf.2.2.1, keptAll_wf (dataW_len (a := a) (b := b) (j := j)) hwf.2.2.2.1, dataW_len (a := a) (b := b) (j := j)⟩
def keptD (d : DM) (a : Int) (b : List UInt8) : Int → Option (List UInt8) := DM.keptAll (dataW a b (nch b)) d.kept
def D1 (d : DM) (a : Int) (b : List UInt8) : DM := { d with ops := d.ops + (nch b : Int) + 1, kept := keptD d a b, now := keptD d a b, opn := [] }
def D2 (d : DM) (a n : Int) (b : List UInt8) : DM := { d with ops := d.ops + (nch b : Int) + 2, kept := keptD d a b, now := setAt (keptD d a b) 0 (rootB n b.length), opn := [(0, rootB n b.length)] }
def D3 (d : DM) (a n : Int) (b : List UInt8) : DM := { d with ops := d.ops + (nch b : Int) + 3, kept := setAt (keptD d a b) 0 (rootB n b.length), now := setAt (keptD d a b) 0 (rootB n b.length), opn := [] }
theorem D1_put (a : Int) : { ((D1 d a b).put 0 (rootB n b.length)) with ops := (D1 d a b).ops + 1 } = D2 d a n b := by
  unfold D1 D2 DM.put
  dsimp only
  rw [pad_root, List.nil_append, show d.ops + (nch b : Int) + 1 + 1 = d.ops + (nch b : Int) + 2 by omega]
theorem save_run (hr : Rest d) (hl : (b.length : Int) ≤ room d) (hs : 3 ≤ d.size) :
    ((d.fail - d.ops < 1 ∨ (nch b : Int) + 3 < d.fail - d.ops) → ∃ d', save1 n b d = (0, d') ∧ SavedD d d' (area d n) n b) ∧
    ((1 ≤ d.fail - d.ops ∧ d.fail - d.ops ≤ (nch b : Int) + 1) → ∃ d', save1 n b d = (290, d') ∧ Fallen d d' ∧ SameBut (area d n) b d.kept d'.kept) ∧
    (((nch b : Int) + 2 ≤ d.fail - d.ops ∧ d.fail - d.ops ≤ (nch b : Int) + 3) → ∃ d', save1 n b d = (290, d') ∧ Fallen d d' ∧ (SameBut (area d n) b d.kept d'.kept ∨ IsNew (area d n) n b d.kept d'.kept)) := by
  obtain ⟨hwf, hd, ho, hnow⟩ := hr
  have hh := half_bd hwf
  have hnch : (nch b : Int) ≤ half d := by
    unfold room at hl
    unfold nch
    omega
  have har : 1 ≤ area d n ∧ area d n ≤ 1 + half d := by
    unfold area
    rcases (show n % 2 = 0 ∨ n % 2 = 1 by omega) with h | h <;> rw [h] <;> omega
  have hsz : 2 * half d + 1 ≤ d.size := by unfold half; omega
  obtain ⟨a, ha⟩ : ∃ a, a = area d n := ⟨_, rfl⟩
  rw [← ha] at har ⊢
  have hab : 0 ≤ a ∧ a + (nch b : Int) ≤ d.size := by omega
  have hsv : save1 n b d = go (go (go (wr a b (nch b) (0, d)) DM.flush) fun d => d.write 0 (rootB n b.length)) DM.flush := by unfold save1; rw [ha]
  have hout : ∀ k : Int, (∀ i : Nat, i < nch b → k ≠ a + (i : Int)) → keptD d a b k = d.kept k := fun k hk => keptAll_out (dataW_out hk)
  have h1 : (d.fail - d.ops < 1 ∨ (nch b : Int) + 1 < d.fail - d.ops) → go (wr a b (nch b) (0, d)) DM.flush = (0, D1 d a b) := by
    intro ht
    rw [wr_alive hd ho hab (nch b) (Nat.le_refl _) (by omega), go_zero, flush_on (d := dataD d a b (nch b)) hd (by show 0 < d.size; omega) (by show d.ops + (nch b : Int) + 1 ≠ d.fail; omega)]
    unfold dataD D1 keptD
    dsimp only
    rw [hnow]
  have hK : ∀ k c, keptD d a b k = some c → c.length = 128 := keptAll_wf (dataW_len (a := a) (b := b) (j := nch b)) hwf.2.2.1
  have hw : (D1 d a b).write 0 (rootB n b.length) = ((if ((D1 d a b).put 0 (rootB n b.length)).count.1 then 0 else 290), ((D1 d a b).put 0 (rootB n b.length)).count.2) :=
    write_put (d := D1 d a b) (k := 0) (c := rootB n b.length) hd (by decide) (by show 0 < d.size; omega) (by rw [rootB_length]; decide)
  have h2 : (d.fail - d.ops < 1 ∨ (nch b : Int) + 2 < d.fail - d.ops) → go (go (wr a b (nch b) (0, d)) DM.flush) (fun d => d.write 0 (rootB n b.length)) = (0, D2 d a n b) := by
    intro ht
    rw [h1 (by omega), go_zero, hw, count_on (d := (D1 d a b).put 0 (rootB n b.length)) (by show d.ops + (nch b : Int) + 1 + 1 ≠ d.fail; omega)]
    exact congrArg (Prod.mk 0) (D1_put a)
  have hnew : IsNew a n b d.kept (setAt (keptD d a b) 0 (rootB n b.length)) := by
    refine ⟨by unfold setAt; rw [if_pos rfl], fun i hi => ?_, fun k hk hki => ?_⟩
    · unfold setAt
      rw [if_neg (by omega)]
      exact dataW_in hi
    · unfold setAt
      rw [if_neg hk, hout k hki]
  have hNw : ∀ k c, setAt (keptD d a b) 0 (rootB n b.length) k = some c → c.length = 128 := setAt_wf (rootB_length _ _) hK
  have hwf2 : (D2 d a n b).wf := ⟨hwf.1, hwf.2.1, hK, hNw, fun x hx => by rw [List.mem_singleton.1 hx]; exact rootB_length _ _⟩
  refine ⟨fun ht => ⟨D3 d a n b, ?_, ?_⟩, fun ht => ?_, fun ht => ?_⟩
  · rw [hsv, h2 (by omega), go_zero, flush_on (d := D2 d a n b) hd (by show 0 < d.size; omega) (by show d.ops + (nch b : Int) + 2 + 1 ≠ d.fail; omega)]
    unfold D2 D3
    dsimp only [DM.keptAll]
    rw [show d.ops + (nch b : Int) + 2 + 1 = d.ops + (nch b : Int) + 3 by omega]
  · exact ⟨⟨⟨hwf.1, hwf.2.1, hNw, hNw, fun _ hx => (by cases hx)⟩, hd, rfl, rfl⟩, rfl, rfl, rfl, rfl, hnew⟩
  · by_cases hf : d.fail - d.ops = (nch b : Int) + 1
    · refine ⟨DM.fall { (dataD d a b (nch b)) with ops := (dataD d a b (nch b)).ops + 1 } d.keep, ?_, ?_, ?_⟩
      · rw [hsv, wr_alive hd ho hab (nch b) (Nat.le_refl _) (by omega), go_zero, flush_fall (d := dataD d a b (nch b)) hd (by show 0 < d.size; omega) (by show d.ops + (nch b : Int) + 1 = d.fail; omega), go_290, go_290]
        rfl
      · exact fall_fallen (d := d) (e := { (dataD d a b (nch b)) with ops := (dataD d a b (nch b)).ops + 1 }) (dataD_wf hwf _) rfl _
      · exact fun k hk => keptBy_out (dataW_out hk)
    · obtain ⟨i, hi⟩ : ∃ i : Nat, d.fail - d.ops = (i : Int) + 1 := ⟨(d.fail - d.ops - 1).toNat, by omega⟩
      refine ⟨(dataD d a b (i + 1)).fall d.keep, ?_, ?_, ?_⟩
      · rw [hsv, wr_falls hd ho hab i hi (nch b) (by omega) (Nat.le_refl _), go_290, go_290, go_290]
      · exact fall_fallen (d := d) (dataD_wf hwf _) rfl _
      · exact fun k hk => keptBy_out (dataW_out fun j hj => hk j (by omega))
  · have hlast : ∀ keep : List Int, SameBut a b d.kept (keptBy keep 0 [(0, rootB n b.length)] (keptD d a b)) ∨ IsNew a n b d.kept (keptBy keep 0 [(0, rootB n b.length)] (keptD d a b)) := by
      intro keep
      show SameBut a b d.kept (if keep.contains ((0 : Nat) : Int) then setAt (keptD d a b) 0 (rootB n b.length) else keptD d a b) ∨ IsNew a n b d.kept (if keep.contains ((0 : Nat) : Int) then setAt (keptD d a b) 0 (rootB n b.length) else keptD d a b)
      split
      · exact .inr hnew
      · exact .inl hout
    by_cases hf : d.fail - d.ops = (nch b : Int) + 2
    · refine ⟨(D2 d a n b).fall d.keep, ?_, fall_fallen (d := d) hwf2 rfl _, hlast d.keep⟩
      rw [hsv, h1 (by omega), go_zero, hw, count_fall (d := (D1 d a b).put 0 (rootB n b.length)) (by show d.ops + (nch b : Int) + 1 + 1 = d.fail; omega)]
      rw [if_neg (by simp), go_290]
      exact congrArg (fun e => ((290 : Int), DM.fall e d.keep)) (D1_put a)
    · refine ⟨DM.fall { (D2 d a n b) with ops := (D2 d a n b).ops + 1 } d.keep, ?_, fall_fallen (d := d) (e := { (D2 d a n b) with ops := (D2 d a n b).ops + 1 }) hwf2 rfl _, hlast d.keep⟩
      rw [hsv, h2 (by omega), go_zero, flush_fall (d := D2 d a n b) hd (by show 0 < d.size; omega) (by show d.ops + (nch b : Int) + 2 + 1 = d.fail; omega)]
      rfl
end
end Go.Proofs.Yteflbohpabdjkaa
/-
  Bytes of a Put, keeps, opened: walked.
-/
namespace Go.Proofs.Yteflbohpabdjkaa
open Go Go.Mw
set_option maxRecDepth 8000

structure PutS where
  from_ : Int
  many : Int
def PutS.fit (x : PutS) : Prop := fits x.from_ ∧ fits x.many
def putsCells (l : List PutS) : List Value := l.flatMap fun x => [I x.from_, I x.many]
def rising (f : Int) (k : Nat) : List UInt8 := (List.range k).map fun i : Nat => UInt8.ofNat ((f % 256 + (i : Int)) % 256).toNat
def putS (x : PutS) (most : Int) : List UInt8 := rising x.from_ (x.many % (most + 1)).toNat
theorem rising_length (f : Int) (k : Nat) : (rising f k).length = k := by simp [rising]
theorem rising_take_succ (f : Int) {k i : Nat} (h : i < k) : (rising f k).take (i + 1) = (rising f k).take i ++ [UInt8.ofNat ((f % 256 + (i : Int)) % 256).toNat] := by
  rw [List.take_succ_eq_append_getElem (by rw [rising_length]; exact h)]
  simp [rising]
theorem putS_length (x : PutS) {most : Nat} : ((putS x most).length : Int) ≤ most := by
  unfold putS
  rw [rising_length]
  have := Int.emod_lt_of_pos x.many (show 0 < (most : Int) + 1 by omega)
  have := Int.emod_nonneg x.many (show (most : Int) + 1 ≠ 0 by omega)
  omega
theorem putsCells_get (l : List PutS) (i : Nat) (hi : i < l.length) (j : Nat) (v : Value) (hv : [I l[i].from_, I l[i].many][j]? = some v) : (putsCells l)[i * 2 + j]? = some v := by
  induction l generalizing i with
  | nil => simp at hi
  | cons x l ih =>
    have e : putsCells (x :: l) = [I x.from_, I x.many] ++ putsCells l := rfl
    rw [e]
    cases i with
    | zero =>
      have hj := (List.getElem?_eq_some_iff.1 hv).1
      rw [Nat.zero_mul, Nat.zero_add, List.getElem?_append_left (show j < [I x.from_, I x.many].length from hj)]; exact hv
    | succ i =>
      rw [List.getElem?_append_right (by simp only [List.length_cons, List.length_nil]; omega)]
      have : (i + 1) * 2 + j - [I x.from_, I x.many].length = i * 2 + j := by simp only [List.length_cons, List.length_nil]; omega
      rw [this]
      exact ih i (by simpa using hi) hv
def keepsB (m : SM) (d : DM) (want : List UInt8) (n : Int) : Bool :=
  if m.n ≠ n then false else if n = 0 then decide ((load m d).1.length = 0) && decide ((load m d).2.1 = 300) else decide ((load m d).2.1 = 0) && ((load m d).1 == want)
def keepsS (m : SM) (d : DM) (n : Int) : SM := if m.n ≠ n then m else (load m d).2.2
theorem set_rise {k i : Nat} {l : List UInt8} {u : UInt8} (h : i < k) (hl : l.length = i) : (l.map B ++ List.replicate (k - i) (Value.int .u8 0)).set i (B u) = (l ++ [u]).map B ++ List.replicate (k - (i + 1)) (Value.int .u8 0) := by
  have e : k - i = (k - (i + 1)) + 1 := by omega
  rw [List.set_append_right _ _ (by simp [hl]), List.length_map, hl, Nat.sub_self, e, List.replicate_succ, List.set_cons_zero]
  simp
section
variable {p s : Nat} {d : DM} {m : SM} {F : Nat → Prop} {w w₀ : World} {S : Nat → Prop} {rs : List HP} {put : HP → List HP}
theorem putBytes_ok (x : PutS) (hx : x.fit) {most : Nat} (hm : most ≤ 1000) : Rets Try.prog 46 [.agg #[I x.from_, I x.many], I most] w fun v w' => ∃ v', v = v' ∧ True ∧ Turn noB (rowH 5 1 v' (putS x most).length ((putS x most).map B)) w w' := by
  have H := Sep.start0 w
  refine rets2 Try.func46 rfl rfl rfl rfl ?_
  have h1 := Int.emod_lt_of_pos x.many (show 0 < (most : Int) + 1 by omega)
  have h2 := Int.emod_nonneg x.many (show (most : Int) + 1 ≠ 0 by omega)
  obtain ⟨k, hk⟩ : ∃ k : Nat, x.many % ((most : Int) + 1) = k := ⟨(x.many % ((most : Int) + 1)).toNat, by omega⟩
  have hput : putS x most = rising x.from_ k := by
    unfold putS
    rw [hk, Int.toNat_natCast]
  have hkm : k ≤ most := by omega
  refine FW_seq ?_
  refine FW_region ?_
  refine FL_box H (h := ?_)
  intro b1 w2 H2 _
  refine FL_assign (h := ?_)
  refine FL_nil (Qseq_normal ?_)
  refine FW_seq ?_
  refine FW_region ?_
  first | refine FL_val (Gives.field0 rfl) rfl ?_ | refine FL_val (Gives.field rfl) rfl ?_ | refine FL_val (Gives.fieldA rfl) rfl ?_
  refine FL_load H2 (h := ?_)
  refine FL_move (h := ?_)
  first | refine FL_val (Gives.addI rfl rfl rfl (by omega)) rfl ?_ | refine FL_val (Gives.add rfl rfl) rfl ?_
  refine FL_callS (bring_ok x.many ((most : Int) + 1) hx.2 (by omega)) (h := ?_)
  rw [hk]
  refine FL_make1 H2 (k := k) (by unfold maxLen; omega) (by omega) (h := ?_)
  intro bb w10 H10 _
  refine FL_assign (h := ?_)
  refine FL_nil (Qseq_normal ?_)
  refine FW_seq ?_
  refine FW_seq ?_
  refine FW_region ?_
  refine FL_assign (h := ?_)
  refine FL_nil (Qseq_normal ?_)
  refine FW_block ?_
  refine FW_loop' (fun i : Nat => [(2, .pointer (some ⟨b1, 0, none⟩)), (5, .slice (some ⟨bb, 0, none⟩) k k), (6, I i)])
    (fun i w' => i ≤ k ∧ Sep w noB [blk bb (((rising x.from_ k).take i).map B ++ List.replicate (k - i) (Value.int .u8 0)) 5, blk b1 [I x.from_, I x.many] 67] w') (fun i _ => k - i) 0 ⟨rfl, rfl, rfl, trivial⟩ ⟨Nat.zero_le _, H10⟩ (fun j τ w14 hI => ?_)
  obtain ⟨hj, H14⟩ := hI
  try simp only [upds, like, upd_ds, und_ds]
  refine FW_seq ?_
  refine FW_seq ?_
  refine FW_region ?_
  refine FL_move (h := ?_)
  refine FL_move (h := ?_)
  refine FL_val (Gives.lenSlice rfl) rfl ?_
  refine FL_val (Gives.lss rfl rfl) rfl ?_
  refine FL_nil (Qseq_normal ?_)
  first | refine FW_condP rfl (fun hc19 => ?_) (fun hc19 => ?_) | refine FW_cond rfl (fun hc19 => ?_) (fun hc19 => ?_)
  · skip
    have hlt : j < k := by omega
    refine FW_skip (Qseq_normal ?_)
    refine FW_seq ?_
    refine FW_block ?_
    refine FW_region ?_
    refine FL_move (h := ?_)
    refine FL_move (h := ?_)
    first | refine FL_val (Gives.field0 rfl) rfl ?_ | refine FL_val (Gives.field rfl) rfl ?_ | refine FL_val (Gives.fieldA rfl) rfl ?_
    refine FL_load H14 (h := ?_)
    refine FL_callS (bring_ok x.from_ 256 hx.1 (by omega)) (h := ?_)
    refine FL_move (h := ?_)
    first | refine FL_val (Gives.addI rfl rfl rfl (by omega)) rfl ?_ | refine FL_val (Gives.add rfl rfl) rfl ?_
    refine FL_val (Gives.conv rfl) rfl ?_
    rw [show IntKind.u8.wrap (x.from_ % 256 + (j : Int)) = ((UInt8.ofNat ((x.from_ % 256 + (j : Int)) % 256).toNat).toNat : Int) by
      rw [UInt8.toNat_ofNat']
      show (x.from_ % 256 + (j : Int)) % 256 = _
      omega]
    refine FL_val (Gives.idxB rfl rfl hlt) rfl ?_
    have hll : ((rising x.from_ k).take j).length = j := by rw [List.length_take, rising_length]; omega
    refine FL_store H14 (hy := by exact rfl) (hat := At0) (cs' := ((rising x.from_ k).take (j + 1)).map B ++ List.replicate (k - (j + 1)) (Value.int .u8 0)) (ho := by rw [List.length_append, List.length_map, hll, List.length_replicate]; exact Nat.ble_eq_true_of_le (by omega)) (hs := by rw [rising_take_succ _ hlt]; exact set_rise hlt hll) (h := ?_)
    intro w31 H31
    refine FL_nil (Qblk_normal (Qseq_normal ?_))
    refine FW_region ?_
    refine FL_move (h := ?_)
    first | refine FL_val (Gives.addI rfl rfl rfl (by omega)) rfl ?_ | refine FL_val (Gives.add rfl rfl) rfl ?_
    refine FL_assign (h := ?_)
    refine FL_nil ?_
    exact Qround_normal (j + 1) ⟨rfl, rfl, rfl, trivial⟩ ⟨by omega, H31⟩ (by omega)
  · skip
    have hjk : j = k := by omega
    subst hjk
    refine FW_exit (Qseq_exit (Qround_exit (Qblk_exit (Qseq_normal ?_))))
    refine FW_seq ?_
    refine FW_region ?_
    refine FL_move (h := ?_)
    refine FL_assign (h := ?_)
    refine FL_nil (Qseq_normal ?_)
    refine FW_ret (Qfn_ret (hR := ?_))
    rw [Nat.sub_self, List.replicate_zero, List.append_nil, List.take_of_length_le (by rw [rising_length]; exact Nat.le_refl _)] at H14
    have H2 := Sep.asRow H14 At0 (s := 1) (n := j) (by simp [rising_length]) (by unfold maxLen; omega)
    refine ⟨_, rfl, trivial, ?_⟩
    rw [hput, rising_length]
    exact (Sep.first H2).turn
theorem keeps_nil {v : Value} {n : Int} : Rets Try.prog 50 [.pointer none, v, I n] w fun v w' => v = .bool false ∧ w = w' := by
  refine rets3 Try.func50 rfl rfl rfl rfl ?_
  refine FW_seq ?_
  refine FW_region ?_
  refine FL_assign (h := ?_)
  refine FL_nil (Qseq_normal ?_)
  refine FW_seq ?_
  refine FW_seq ?_
  refine FW_region ?_
  refine FL_move (h := ?_)
  refine FL_val (Gives.eqlNil rfl rfl) rfl ?_
  refine FL_move (h := ?_)
  first | refine FL_splitP (t := 11) rfl (fun hs5 => ?_) (fun hs5 => ?_) | refine FL_split (t := 11) rfl (fun hs5 => ?_) (fun hs5 => ?_)
  · skip
    refine FL_off rfl rfl rfl ?_
    refine FL_off rfl rfl rfl ?_
    refine FL_off rfl rfl rfl ?_
    refine FL_off rfl rfl rfl ?_
    refine FL_pickT (h := ?_)
    refine FL_nil (Qseq_normal ?_)
    refine FW_cond_true rfl ?_
    refine FW_seq ?_
    refine FW_region ?_
    refine FL_assign (h := ?_)
    refine FL_nil (Qseq_normal ?_)
    refine FW_ret (Qseq_ret (Qfn_ret (hR := ?_)))
    exact ⟨rfl, rfl⟩
  · skip
    first | exact absurd rfl hs5 | exact (hs5 trivial).elim | exact absurd hs5 (by decide) | exact absurd hs5 (by simp) | omega --done
theorem keeps_ok' {A : Option Addr} {c : Nat} {want : List UInt8} {n : Int} (hm : m.ok d) (hr : RowAt w A want.length 1 (want.map B)) (hA : Off A want.length F) (h : (star (slotH s p m) (diskH p d)).ok F w) :
    Rets Try.prog 50 [.pointer (some ⟨s, 0, none⟩), .slice A want.length c, I n] w fun v w' => v = .bool (keepsB m d want n) ∧ Turn F (star (slotH s p (keepsS m d n)) (diskH p d)) w w' := by
  have H := (Sep.start1 h).star0
  refine rets3 Try.func50 rfl rfl rfl rfl ?_
  refine FW_seq ?_
  refine FW_region ?_
  refine FL_assign (h := ?_)
  refine FL_nil (Qseq_normal ?_)
  refine FW_seq ?_
  refine FW_seq ?_
  refine FW_region ?_
  refine FL_move (h := ?_)
  refine FL_val (Gives.eqlNil rfl rfl) rfl ?_
  refine FL_move (h := ?_)
  first | refine FL_splitP (t := 11) rfl (fun hs5 => ?_) (fun hs5 => ?_) | refine FL_split (t := 11) rfl (fun hs5 => ?_) (fun hs5 => ?_)
  · skip
    first | exact absurd rfl hs5 | exact (hs5 trivial).elim | exact absurd hs5 (by decide) | exact absurd hs5 (by simp) | omega --done
  · skip
    refine FL_on rfl rfl ?_
    refine FL_move (h := ?_)
    refine FL_on rfl rfl ?_
    refine FL_callS (number_at H At0) (h := ?_)
    refine FL_on rfl rfl ?_
    refine FL_move (h := ?_)
    refine FL_on rfl rfl ?_
    refine FL_val (Gives.neq rfl rfl) rfl ?_
    refine FL_pickF (h := ?_)
    refine FL_nil (Qseq_normal ?_)
    first | refine FW_condP rfl (fun hc12 => ?_) (fun hc12 => ?_) | refine FW_cond rfl (fun hc12 => ?_) (fun hc12 => ?_)
    · skip
      have hne : m.n ≠ n := hc12
      have hkb : keepsB m d want n = false := by unfold keepsB; rw [if_pos hne]
      have hks : keepsS m d n = m := by unfold keepsS; rw [if_pos hne]
      refine FW_seq ?_
      refine FW_region ?_
      refine FL_assign (h := ?_)
      refine FL_nil (Qseq_normal ?_)
      refine FW_ret (Qseq_ret (Qfn_ret (hR := ?_)))
      rw [hkb, hks]
      exact ⟨rfl, H.join0.turn⟩
    · skip
      have hne : ¬ m.n ≠ n := hc12
      have hks : keepsS m d n = (load m d).2.2 := by unfold keepsS; rw [if_neg hne]
      have hkb : keepsB m d want n = if n = 0 then decide ((load m d).1.length = 0) && decide ((load m d).2.1 = 300) else decide ((load m d).2.1 = 0) && ((load m d).1 == want) := by unfold keepsB; rw [if_neg hne]
      rw [hks]
      refine FW_skip (Qseq_normal ?_)
      refine FW_seq ?_
      refine FW_region ?_
      refine FL_move (h := ?_)
      refine FL_callT H.join0 At0 (fun F' hp _ => loadS_ok hm hp) rfl rfl (fun y w19 _ H0 => ?_)
      have H19 := (H0.star0).front1.star0.front2
      obtain ⟨Ay, cy, hy, hyl⟩ := Sep.preForm H19 At0
      subst hy
      refine FL_move (h := ?_)
      refine FL_val (Gives.extract rfl rfl) rfl ?_
      refine FL_val (Gives.extract rfl rfl) rfl ?_
      refine FL_assign (h := ?_)
      refine FL_assign (h := ?_)
      refine FL_nil (Qseq_normal ?_)
      refine FW_seq ?_
      refine FW_seq ?_
      refine FW_region ?_
      refine FL_move (h := ?_)
      refine FL_val (Gives.eql rfl rfl) rfl ?_
      refine FL_nil (Qseq_normal ?_)
      first | refine FW_condP rfl (fun hc27 => ?_) (fun hc27 => ?_) | refine FW_cond rfl (fun hc27 => ?_) (fun hc27 => ?_)
      · skip
        have hn0 : n = 0 := hc27
        rw [if_pos hn0] at hkb
        refine FW_seq ?_
        refine FW_region ?_
        refine FL_move (h := ?_)
        refine FL_val (Gives.lenSlice rfl) rfl ?_
        refine FL_val (Gives.eql rfl rfl) rfl ?_
        refine FL_move (h := ?_)
        first | refine FL_splitP (t := 27) rfl (fun hs33 => ?_) (fun hs33 => ?_) | refine FL_split (t := 27) rfl (fun hs33 => ?_) (fun hs33 => ?_)
        · skip
          have hz := hs33
          refine FL_on rfl rfl ?_
          refine FL_move (h := ?_)
          refine FL_on rfl rfl ?_
          refine FL_val (Gives.eql rfl rfl) rfl ?_
          refine FL_pickT (h := ?_)
          refine FL_assign (h := ?_)
          refine FL_nil (Qseq_normal ?_)
          refine FW_ret (Qseq_ret (Qfn_ret (hR := ?_)))
          rw [hkb]
          first
            | exact ⟨by rw [decide_eq_true (show (load m d).1.length = 0 by omega)]; rfl, H19.drop0.join0.turn⟩
            | exact ⟨by rw [decide_eq_false (show ¬ (load m d).1.length = 0 by omega)]; rfl, H19.drop0.join0.turn⟩
        · skip
          have hz := hs33
          refine FL_off rfl rfl rfl ?_
          refine FL_off rfl rfl rfl ?_
          refine FL_pickF (h := ?_)
          refine FL_assign (h := ?_)
          refine FL_nil (Qseq_normal ?_)
          refine FW_ret (Qseq_ret (Qfn_ret (hR := ?_)))
          rw [hkb]
          first
            | exact ⟨by rw [decide_eq_true (show (load m d).1.length = 0 by omega)]; rfl, H19.drop0.join0.turn⟩
            | exact ⟨by rw [decide_eq_false (show ¬ (load m d).1.length = 0 by omega)]; rfl, H19.drop0.join0.turn⟩
      · skip
        have hn0 : ¬ n = 0 := hc27
        rw [if_neg hn0] at hkb
        refine FW_skip (Qseq_normal ?_)
        refine FW_seq ?_
        refine FW_region ?_
        refine FL_move (h := ?_)
        refine FL_val (Gives.eql rfl rfl) rfl ?_
        refine FL_move (h := ?_)
        first | refine FL_splitP (t := 33) rfl (fun hs48 => ?_) (fun hs48 => ?_) | refine FL_split (t := 33) rfl (fun hs48 => ?_) (fun hs48 => ?_)
        · skip
          have hz := hs48
          refine FL_on rfl rfl ?_
          refine FL_move (h := ?_)
          refine FL_on rfl rfl ?_
          refine FL_move (h := ?_)
          refine FL_on rfl rfl ?_
          refine FL_callS (eqBytes_at (H19.preRow At0) (hr.keepS H19.kept hA)) (h := ?_)
          refine FL_pickT (h := ?_)
          refine FL_assign (h := ?_)
          refine FL_nil (Qseq_normal ?_)
          refine FW_ret (Qfn_ret (hR := ?_))
          rw [hkb]
          first
            | exact ⟨by rw [decide_eq_true (show (load m d).2.1 = 0 from hz)]; rfl, H19.drop0.join0.turn⟩
            | exact ⟨by rw [decide_eq_false (show ¬ (load m d).2.1 = 0 from hz)]; rfl, H19.drop0.join0.turn⟩
        · skip
          have hz := hs48
          refine FL_off rfl rfl rfl ?_
          refine FL_off rfl rfl rfl ?_
          refine FL_off rfl rfl rfl ?_
          refine FL_pickF (h := ?_)
          refine FL_assign (h := ?_)
          refine FL_nil (Qseq_normal ?_)
          refine FW_ret (Qfn_ret (hR := ?_))
          rw [hkb]
          first
            | exact ⟨by rw [decide_eq_true (show (load m d).2.1 = 0 from hz)]; rfl, H19.drop0.join0.turn⟩
            | exact ⟨by rw [decide_eq_false (show ¬ (load m d).2.1 = 0 from hz)]; rfl, H19.drop0.join0.turn⟩
theorem opened_ok (ho : (openS d.boot).1 = 0) (h : (diskH p d).ok F w) :
    Rets Try.prog 49 [.pointer (some ⟨p, 0, none⟩)] w fun v w' => ∃ s : Nat, v = .pointer (some ⟨s, 0, none⟩) ∧ True ∧ Turn F (star (slotH s p (openS d.boot).2) (diskH p d.boot)) w w' := by
  have H := Sep.start1 h
  refine rets1 Try.func49 rfl rfl rfl rfl ?_
  refine FW_seq ?_
  refine FW_region ?_
  refine FL_assign (h := ?_)
  refine FL_nil (Qseq_normal ?_)
  refine FW_seq ?_
  refine FW_region ?_
  refine FL_move (h := ?_)
  refine FL_call1 H At0 (fun F' hp _ => boot_ok hp) (h := fun w4 H4 => ?_)
  refine FL_nil (Qseq_normal ?_)
  refine FW_seq ?_
  refine FW_region ?_
  refine FL_move (h := ?_)
  obtain ⟨F2, hp2, _⟩ := H4.focus At0
  refine FL_callN H4 (q := fun x => openH x p (openS d.boot).2) (val := fun x : Option Nat => .tuple #[.pointer (x.map fun s => ⟨s, 0, none⟩), I (openS d.boot).1]) (φ := fun x => x.isSome = decide ((openS d.boot).1 = 0)) (openS_ok hp2) rfl rfl (fun x w7 hx H7 _ => ?_)
  rw [ho] at hx
  obtain ⟨s, rfl⟩ : ∃ s, x = some s := by cases x with | none => cases hx | some s => exact ⟨s, rfl⟩
  rw [ho]
  refine FL_move (h := ?_)
  refine FL_val (Gives.extract rfl rfl) rfl ?_
  refine FL_val (Gives.extract rfl rfl) rfl ?_
  refine FL_assign (h := ?_)
  refine FL_assign (h := ?_)
  refine FL_nil (Qseq_normal ?_)
  refine FW_seq ?_
  refine FW_seq ?_
  refine FW_region ?_
  refine FL_move (h := ?_)
  refine FL_val (Gives.neq rfl rfl) rfl ?_
  refine FL_nil (Qseq_normal ?_)
  first | refine FW_condP rfl (fun hc15 => ?_) (fun hc15 => ?_) | refine FW_cond rfl (fun hc15 => ?_) (fun hc15 => ?_)
  · skip
    first | exact absurd rfl hc15 | exact (hc15 trivial).elim | exact absurd hc15 (by decide) | exact absurd hc15 (by simp) | omega --done
  · skip
    refine FW_skip (Qseq_normal ?_)
    refine FW_seq ?_
    refine FW_region ?_
    refine FL_move (h := ?_)
    refine FL_assign (h := ?_)
    refine FL_nil (Qseq_normal ?_)
    refine FW_ret (Qfn_ret (hR := ?_))
    exact ⟨s, rfl, trivial, H7.join0.turn⟩
end
end Go.Proofs.Yteflbohpabdjkaa
/-
  The statements' disks of thirteen sectors: plain laws; saved, walked.
-/
namespace Go.Proofs.Yteflbohpabdjkaa
open Go Go.Mw
set_option maxRecDepth 8000

/-- A disk that keeps some bytes under a number, and has nothing open. -/
structure Set13 (d : DM) (b : List UInt8) (n : Int) : Prop where
  wf : d.wf
  size : d.size = 13
  opn : d.opn = []
  now : d.now = d.kept
  holds : Holds (totS d.kept) 6 b n
structure SS (k : Nat) (d : DM) (b : List UInt8) (n : Int) : Prop where
  set : Set13 d b n
  alive : d.dead = false
  fail : d.fail = 0
  small : d.small k
section
variable {d : DM} {b c : List UInt8} {n : Int}
theorem Set13.boot (h : Set13 d b n) : Set13 d.boot b n := ⟨h.wf, h.size, h.opn, h.now, h.holds⟩
theorem Set13.failAt (h : Set13 d b n) (t : Int) (kp : List Int) : Set13 (d.failAt t kp) b n := by
  unfold DM.failAt
  split
  · exact h
  · split <;> exact ⟨h.wf, h.size, h.opn, h.now, h.holds⟩
theorem Set13.crash (h : Set13 d b n) (kp : List Int) : Set13 (d.crash kp) b n := by
  unfold DM.crash
  split
  · exact h
  · have hk : keptBy kp 0 d.opn d.kept = d.kept := by rw [h.opn]; rfl
    exact ⟨h.wf.fall kp, h.size, rfl, rfl, by show Holds (totS (keptBy kp 0 d.opn d.kept)) 6 b n; rw [hk]; exact h.holds⟩
theorem Set13.half (h : Set13 d b n) : half d = 6 := by unfold Go.Proofs.Yteflbohpabdjkaa.half; rw [h.size]; decide
theorem Set13.holds' (h : Set13 d b n) : Holds (totS d.now) (Go.Proofs.Yteflbohpabdjkaa.half d) b n := by rw [h.now, h.half]; exact h.holds
theorem Set13.open (h : Set13 d b n) (hd : d.dead = false) : openS d = (0, ⟨n, b.length, false⟩) := open_holds h.wf hd (by rw [h.size]; decide) h.holds'
theorem Set13.load (h : Set13 d b n) (hd : d.dead = false) : load ⟨n, b.length, false⟩ d = (b, if n = 0 then 300 else 0, ⟨n, b.length, false⟩) := load_holds h.wf hd h.holds'
theorem Set13.ok (h : Set13 d b n) : SM.ok ⟨n, b.length, false⟩ d := ok_holds (by rw [h.size]; decide) h.holds'
theorem Set13.keeps (h : Set13 d b n) (hd : d.dead = false) : keepsB ⟨n, b.length, false⟩ d b n = true ∧ keepsS ⟨n, b.length, false⟩ d n = ⟨n, b.length, false⟩ := by
  unfold keepsB keepsS
  rw [h.load hd, if_neg (show ¬ (SM.n ⟨n, b.length, false⟩ ≠ n) from fun h => h rfl), if_neg (show ¬ (SM.n ⟨n, b.length, false⟩ ≠ n) from fun h => h rfl)]
  refine ⟨?_, rfl⟩
  split
  · rename_i hz
    rw [h.holds.zero hz]
    simp
  · simp
theorem keeps_other {m : SM} {want : List UInt8} (hn : m.n ≠ n) : keepsB m d want n = false ∧ keepsS m d n = m := by
  unfold keepsB keepsS
  rw [if_pos hn, if_pos hn]
  exact ⟨rfl, rfl⟩
theorem holds_same {f g : Int → Option (List UInt8)} (hl : (b.length : Int) ≤ 768) (h : Holds (totS f) 6 c n) (hs : SameBut (1 + (n + 1) % 2 * 6) b f g) : Holds (totS g) 6 c n := by
  have hnb : (nch b : Int) ≤ 6 := by unfold nch; omega
  have hnc : (nch c : Int) ≤ 6 := by have := h.len; unfold nch; omega
  have key : ∀ k : Int, (k = 0 ∨ ∃ i : Nat, i < nch c ∧ k = 1 + n % 2 * 6 + (i : Int)) → totS g k = totS f k := by
    intro k hk
    unfold totS
    rw [hs k]
    intro i hi
    rcases (show n % 2 = 0 ∧ (n + 1) % 2 = 1 ∨ n % 2 = 1 ∧ (n + 1) % 2 = 0 by omega) with ⟨h1, h2⟩ | ⟨h1, h2⟩ <;> rw [h1] at hk <;> rw [h2] <;> rcases hk with rfl | ⟨j, hj, rfl⟩ <;> omega
  exact ⟨by rw [key 0 (.inl rfl)]; exact h.root, fun k hk => by rw [key _ (.inr ⟨k, hk, rfl⟩)]; exact h.data k hk, h.zero, h.n0, h.nm, h.len⟩
theorem holds_new {f g : Int → Option (List UInt8)} (hl : (b.length : Int) ≤ 768) (h0 : 0 < n) (h1 : n ≤ mostNum) (hs : IsNew (1 + n % 2 * 6) n b f g) : Holds (totS g) 6 b n :=
  ⟨by unfold totS; rw [hs.root]; rfl, fun k hk => by unfold totS; rw [hs.data k hk]; rfl, fun h => by omega, by omega, h1, by omega⟩
theorem small_save1 {k : Nat} (h : d.small k) : (save1 n b d).2.small (k + nch b + 3) := by
  unfold save1
  exact small_go (small_go (small_go (small_wr (x := (0, d)) h (nch b)) fun d hd => small_flush hd) fun d hd => small_write hd 0 _) fun d hd => small_flush hd
theorem save_eq {m : SM} (hb : m.bad = false) (hn : m.n ≠ mostNum) (hl : (b.length : Int) ≤ room d) : save m d b = if (save1 (m.n + 1) b d).1 ≠ 0 then ((save1 (m.n + 1) b d).1, { m with bad := true }, (save1 (m.n + 1) b d).2) else (0, ⟨m.n + 1, b.length, false⟩, (save1 (m.n + 1) b d).2) := by
  unfold save
  rw [if_neg (by rw [hb]; simp), if_neg (by rintro (h | h); omega; exact hn h)]
/-- What a Save comes to, with a fall at an operation t from here on (t above all: none). -/
theorem run_cases {k : Nat} (hS : SS k d c n) (hb : (b.length : Int) ≤ 768) (hn : n ≤ 1000) {t : Int} (ht : 1 ≤ t ∧ t ≤ 1000) (hk1 : k ≤ 10000) {kp : List Int} (hkp : kp.length ≤ k) {x : Int × SM × DM} (hx : save ⟨n, c.length, false⟩ (d.failAt t kp) b = x) :
    ((nch b : Int) + 3 < t ∧ x.1 = 0 ∧ x.2.1 = ⟨n + 1, b.length, false⟩ ∧ Set13 x.2.2 b (n + 1) ∧ x.2.2.dead = false ∨
    t ≤ (nch b : Int) + 3 ∧ x.1 = 290 ∧ x.2.1 = ⟨n, c.length, true⟩ ∧ x.2.2.dead = true ∧ (Set13 x.2.2 c n ∨ (nch b : Int) + 2 ≤ t ∧ Set13 x.2.2 b (n + 1))) ∧ x.2.2.small (k + 20) := by
  have hs := hS.small
  have hset := hS.set.failAt t kp
  have hnb : (nch b : Int) ≤ 6 := by unfold nch; omega
  have hf : d.failAt t kp = { d with fail := d.ops + t, keep := kp } := by
    unfold DM.failAt
    rw [if_neg (by rw [hS.alive]; simp), if_pos ⟨by omega, by have := hs.2.2.2; omega⟩]
  have hal : (d.failAt t kp).dead = false := by rw [hf]; exact hS.alive
  have hk : (d.failAt t kp).kept = d.kept := by rw [hf]
  have htf : (d.failAt t kp).fail - (d.failAt t kp).ops = t := by rw [hf]; show d.ops + t - d.ops = t; omega
  have hsm0 : (d.failAt t kp).small k := by rw [hf]; exact ⟨hs.1, hkp, hs.2.2.1, hs.2.2.2⟩
  generalize d.failAt t kp = e at hset hal hk htf hsm0 hx
  have hh := hset.half
  have hroom : room e = 768 := by unfold room; rw [hh]; decide
  have hr : Rest e := ⟨hset.wf, hal, hset.opn, hset.now⟩
  have hn0 := hS.set.holds.n0
  rw [save_eq rfl (by show n ≠ mostNum; unfold mostNum; omega) (by rw [hroom]; exact hb)] at hx
  have hsm : (save1 (n + 1) b e).2.small (k + 20) := (small_save1 hsm0).mono (by omega)
  have ha : area e (n + 1) = 1 + (n + 1) % 2 * 6 := by unfold area; rw [hh]
  obtain ⟨r1, r2, r3⟩ := save_run (n := n + 1) (b := b) hr (by rw [hroom]; exact hb) (by rw [hset.size]; decide)
  rw [ha, htf, hk] at r2 r3
  rw [ha, htf] at r1
  have hH : Holds (totS d.kept) 6 c n := hS.set.holds
  by_cases h1 : (nch b : Int) + 3 < t
  · obtain ⟨d', e1, hsv⟩ := r1 (.inr h1)
    rw [e1] at hsm hx
    rw [if_neg (by simp)] at hx
    subst hx
    exact ⟨.inl ⟨h1, rfl, rfl, ⟨hsv.rest.wf, hsv.size.trans hset.size, hsv.rest.opn, hsv.rest.now, holds_new hb (by omega) (by unfold mostNum; omega) hsv.new⟩, hsv.rest.alive⟩, hsm⟩
  · by_cases h2 : t ≤ (nch b : Int) + 1
    · obtain ⟨d', e1, hfl, hsm2⟩ := r2 ⟨ht.1, h2⟩
      rw [e1] at hsm hx
      dsimp only at hx
      rw [if_pos (by decide)] at hx
      subst hx
      exact ⟨.inr ⟨by omega, rfl, rfl, hfl.dead, .inl ⟨hfl.wf, hfl.size.trans hset.size, hfl.opn, hfl.now, holds_same hb hH hsm2⟩⟩, hsm⟩
    · obtain ⟨d', e1, hfl, hsm2⟩ := r3 ⟨by omega, by omega⟩
      rw [e1] at hsm hx
      dsimp only at hx
      rw [if_pos (by decide)] at hx
      subst hx
      refine ⟨.inr ⟨by omega, rfl, rfl, hfl.dead, ?_⟩, hsm⟩
      rcases hsm2 with h | h
      · exact .inl ⟨hfl.wf, hfl.size.trans hset.size, hfl.opn, hfl.now, holds_same hb hH h⟩
      · exact .inr ⟨by omega, hfl.wf, hfl.size.trans hset.size, hfl.opn, hfl.now, holds_new hb (by omega) (by unfold mostNum; omega) h⟩
/-- A Save where no fall is asked for. -/
theorem SS.save {k : Nat} (hS : SS k d c n) (hb : (b.length : Int) ≤ 768) (hn : n ≤ 1000) {x : Int × SM × DM} (hx : Go.Proofs.Yteflbohpabdjkaa.save ⟨n, c.length, false⟩ d b = x) :
    x.1 = 0 ∧ x.2.1 = ⟨n + 1, b.length, false⟩ ∧ SS (k + 10) x.2.2 b (n + 1) ∧ x.2.2.ops = d.ops + (nch b : Int) + 3 ∧ IsNew (1 + (n + 1) % 2 * 6) (n + 1) b d.kept x.2.2.kept := by
  have hs := hS.small
  have hnb : (nch b : Int) ≤ 6 := by unfold nch; omega
  have hh := hS.set.half
  have hroom : room d = 768 := by unfold room; rw [hh]; decide
  have hn0 := hS.set.holds.n0
  rw [save_eq rfl (by show n ≠ mostNum; unfold mostNum; omega) (by rw [hroom]; exact hb)] at hx
  have hsm : (save1 (n + 1) b d).2.small (k + 10) := (small_save1 (k := k) hs).mono (by omega)
  have ha : area d (n + 1) = 1 + (n + 1) % 2 * 6 := by unfold area; rw [hh]
  obtain ⟨r1, _, _⟩ := save_run (n := n + 1) (b := b) (d := d) ⟨hS.set.wf, hS.alive, hS.set.opn, hS.set.now⟩ (by rw [hroom]; exact hb) (by rw [hS.set.size]; decide)
  rw [ha, hS.fail] at r1
  obtain ⟨d', e, hsv⟩ := r1 (.inl (by have := hs.2.2.1; omega))
  rw [e] at hsm hx
  rw [if_neg (by simp)] at hx
  subst hx
  exact ⟨rfl, rfl, ⟨⟨hsv.rest.wf, hsv.size.trans hS.set.size, hsv.rest.opn, hsv.rest.now, holds_new hb (by omega) (by unfold mostNum; omega) hsv.new⟩, hsv.rest.alive, hsv.fail.trans hS.fail, hsm⟩, hsv.ops, hsv.new⟩
theorem zero_root : rootB 0 0 = zeroS := by kernel_rfl
theorem SS.new : SS 0 (DM.new 13) [] 0 :=
  ⟨⟨⟨by decide, by decide, fun _ _ h => (by cases h), fun _ _ h => (by cases h), fun _ h => (by cases h)⟩, rfl, rfl, rfl, ⟨zero_root.symm, fun k hk => absurd hk (by unfold nch; simp), fun _ => rfl, by decide, by decide, by decide⟩⟩, rfl, rfl, small_new 13⟩
theorem SS.mono {k j : Nat} (h : SS k d b n) (hk : k ≤ j) : SS j d b n := ⟨h.set, h.alive, h.fail, h.small.mono hk⟩
end
/-- What 'saved' answers. -/
structure SX where
  p : Nat
  s : Nat
  v : Value
  d : DM
  b : List UInt8
  n : Nat
def SX.ok (x : SX) : Prop := SS 100 x.d x.b x.n ∧ (x.b.length : Int) ≤ 768 ∧ x.n ≤ 8
def SX.val (x : SX) : Value := .tuple #[.pointer (some ⟨x.p, 0, none⟩), .pointer (some ⟨x.s, 0, none⟩), x.v, I x.n]
def SX.pc (x : SX) : HP := star (rowH 5 1 x.v x.b.length (x.b.map B)) (star (slotH x.s x.p ⟨x.n, x.b.length, false⟩) (diskH x.p x.d))
section
variable {p s : Nat} {d : DM} {m : SM} {F : Nat → Prop} {w w₀ : World} {S : Nat → Prop} {rs : List HP} {put : HP → List HP}
set_option maxHeartbeats 4000000 in
theorem saved_ok {A : Option Addr} {c : Nat} {l : List PutS} (hl : ∀ x ∈ l, x.fit) (hr : RowAt w A l.length 2 (putsCells l)) :
    Rets Try.prog 47 [.slice A l.length c] w fun v w' => ∃ x : SX, v = x.val ∧ (x.ok ∧ x.n = min l.length 8) ∧ Turn noB x.pc w w' := by
  have H := Sep.start0 w
  refine rets1 Try.func47 rfl rfl rfl rfl ?_
  refine FW_seq ?_
  refine FW_region ?_
  refine FL_assign (h := ?_)
  refine FL_assign (h := ?_)
  refine FL_assign (h := ?_)
  refine FL_assign (h := ?_)
  refine FL_nil (Qseq_normal ?_)
  refine FW_seq ?_
  refine FW_region ?_
  refine FL_callN H (new_ok 13 (by decide)) rfl rfl (fun p w6 _ H6 _ => ?_)
  refine FL_move (h := ?_)
  refine FL_val (Gives.extract rfl rfl) rfl ?_
  refine FL_val (Gives.extract rfl rfl) rfl ?_
  refine FL_assign (h := ?_)
  refine FL_assign (h := ?_)
  refine FL_nil (Qseq_normal ?_)
  refine FW_seq ?_
  refine FW_region ?_
  refine FL_move (h := ?_)
  obtain ⟨F2, hp2, _⟩ := H6.focus At0
  have hopen := SS.new.set.open rfl
  refine FL_callN H6 (q := fun x => openH x p (openS (DM.new 13)).2) (val := fun x : Option Nat => .tuple #[.pointer (x.map fun s => ⟨s, 0, none⟩), I (openS (DM.new 13)).1]) (φ := fun x => x.isSome = decide ((openS (DM.new 13)).1 = 0)) (openS_ok hp2) rfl rfl (fun x w14 hx H14 _ => ?_)
  rw [hopen] at hx H14 ⊢
  obtain ⟨s, rfl⟩ : ∃ s, x = some s := by cases x with | none => cases hx | some s => exact ⟨s, rfl⟩
  refine FL_move (h := ?_)
  refine FL_val (Gives.extract rfl rfl) rfl ?_
  refine FL_val (Gives.extract rfl rfl) rfl ?_
  refine FL_assign (h := ?_)
  refine FL_assign (h := ?_)
  refine FL_nil (Qseq_normal ?_)
  refine FW_seq ?_
  refine FW_seq ?_
  refine FW_region ?_
  refine FL_move (h := ?_)
  refine FL_val (Gives.neq rfl rfl) rfl ?_
  refine FL_move (h := ?_)
  first | refine FL_splitP (t := 24) rfl (fun hs23 => ?_) (fun hs23 => ?_) | refine FL_split (t := 24) rfl (fun hs23 => ?_) (fun hs23 => ?_)
  · skip
    first | exact absurd rfl hs23 | exact (hs23 trivial).elim | exact absurd hs23 (by decide) | exact absurd hs23 (by simp) | omega --done
  · skip
    refine FL_on rfl rfl ?_
    refine FL_move (h := ?_)
    refine FL_on rfl rfl ?_
    refine FL_val (Gives.neq rfl rfl) rfl ?_
    refine FL_pickF (h := ?_)
    refine FL_move (h := ?_)
    first | refine FL_splitP (t := 28) rfl (fun hs29 => ?_) (fun hs29 => ?_) | refine FL_split (t := 28) rfl (fun hs29 => ?_) (fun hs29 => ?_)
    · skip
      first | exact absurd rfl hs29 | exact (hs29 trivial).elim | exact absurd hs29 (by decide) | exact absurd hs29 (by simp) | omega --done
    · skip
      refine FL_on rfl rfl ?_
      refine FL_move (h := ?_)
      refine FL_on rfl rfl ?_
      refine FL_val (Gives.eqlNil rfl rfl) rfl ?_
      refine FL_pickF (h := ?_)
      refine FL_nil (Qseq_normal ?_)
      first | refine FW_condP rfl (fun hc34 => ?_) (fun hc34 => ?_) | refine FW_cond rfl (fun hc34 => ?_) (fun hc34 => ?_)
      · skip
        first | exact absurd rfl hc34 | exact (hc34 trivial).elim | exact absurd hc34 (by decide) | exact absurd hc34 (by simp) | omega --done
      · skip
        refine FW_skip (Qseq_normal ?_)
        refine FW_seq ?_
        refine FW_region ?_
        refine FL_assign (h := ?_)
        refine FL_nil (Qseq_normal ?_)
        refine FW_seq ?_
        refine FW_region ?_
        refine FL_assign (h := ?_)
        refine FL_nil (Qseq_normal ?_)
        refine FW_seq ?_
        refine FW_seq ?_
        refine FW_region ?_
        refine FL_assign (h := ?_)
        refine FL_nil (Qseq_normal ?_)
        refine FW_block ?_
        refine FW_loop' (fun x : Nat × DM × List UInt8 × Value => [(0, .slice A l.length c), (6, .pointer (some ⟨p, 0, none⟩)), (8, .pointer (some ⟨s, 0, none⟩)), (10, x.2.2.2), (11, I x.1), (12, I x.1)])
          (fun x w' => x.1 ≤ l.length ∧ x.1 ≤ 8 ∧ SS (10 * x.1) x.2.1 x.2.2.1 x.1 ∧ (x.2.2.1.length : Int) ≤ 768 ∧ Sep w noB [rowH 5 1 x.2.2.2 x.2.2.1.length (x.2.2.1.map B), slotH s p ⟨x.1, x.2.2.1.length, false⟩, diskH p x.2.1] w') (fun x _ => l.length - x.1) (0, DM.new 13, [], .slice none 0 0)
          ⟨rfl, rfl, rfl, rfl, rfl, rfl, trivial⟩ ⟨Nat.zero_le _, Nat.zero_le _, SS.new, by decide, H14.nilRow 5 1⟩ (fun x τ w40 hI => ?_)
        obtain ⟨i, d, b, vb⟩ := x
        obtain ⟨hi, hi8, hS, hbl, H40⟩ := hI
        dsimp only at hi hi8 hS hbl H40
        try simp only [upds, like, upd_ds, und_ds]
        refine FW_seq ?_
        refine FW_seq ?_
        refine FW_region ?_
        refine FL_move (h := ?_)
        refine FL_move (h := ?_)
        refine FL_val (Gives.lenSlice rfl) rfl ?_
        refine FL_val (Gives.lss rfl rfl) rfl ?_
        refine FL_move (h := ?_)
        first | refine FL_splitP (t := 36) rfl (fun hs46 => ?_) (fun hs46 => ?_) | refine FL_split (t := 36) rfl (fun hs46 => ?_) (fun hs46 => ?_)
        · skip
          have hc1 := hs46
          refine FL_on rfl rfl ?_
          refine FL_move (h := ?_)
          refine FL_on rfl rfl ?_
          refine FL_val (Gives.lss rfl rfl) rfl ?_
          refine FL_pickT (h := ?_)
          refine FL_nil (Qseq_normal ?_)
          first | refine FW_condP rfl (fun hc51 => ?_) (fun hc51 => ?_) | refine FW_cond rfl (fun hc51 => ?_) (fun hc51 => ?_)
          · skip
            have hlt : i < l.length := by omega
            have hlt8 : i < 8 := by omega
            have hrow := hr.keepS H40.kept (fun _ _ _ => id)
            obtain ⟨ad, hAd, _⟩ := hrow.at_ (by omega)
            subst hAd
            have hx := hl _ (List.getElem_mem hlt)
            refine FW_skip (Qseq_normal ?_)
            refine FW_seq ?_
            refine FW_block ?_
            refine FW_seq ?_
            refine FW_region ?_
            refine FL_move (h := ?_)
            refine FL_move (h := ?_)
            refine FL_val (Gives.idx rfl rfl hlt) rfl ?_
            refine FL_val (Gives.loadCN rfl ((hr.keepS H40.kept (fun _ _ _ => id)).elem rfl i hlt (us := [I l[i].from_, I l[i].many]) (putsCells_get l i hlt)) rfl) rfl ?_
            refine FL_callN H40 (putBytes_ok l[i] hx (most := 768) (by decide)) rfl rfl (fun y w58 _ H58 _ => ?_)
            obtain ⟨Ay, cy, hy, hcy, _⟩ := Sep.rowForm H58 At0
            subst hy
            refine FL_assign (h := ?_)
            refine FL_nil (Qseq_normal ?_)
            refine FW_seq ?_
            refine FW_seq ?_
            refine FW_region ?_
            refine FL_move (h := ?_)
            refine FL_move (h := ?_)
            have hpl := putS_length l[i] (most := 768)
            obtain ⟨hs1, hs2, hs3, _, _⟩ := hS.save hpl (by omega) rfl
            have h5 := H58.front1.drop0
            refine FL_call1R (h5.front2.front2.join0.front1) At0 (fun F' hp hrr hoff => saveS_ok hS.set.ok (hS.small.mono (by omega)) hcy hrr hoff hp) (h := fun w63 H0 => ?_)
            have H63 := H0.front1.star0.front2
            rw [hs2] at H63
            rw [hs1]
            refine FL_val (Gives.neq rfl rfl) rfl ?_
            refine FL_nil (Qseq_normal ?_)
            first | refine FW_condP rfl (fun hc65 => ?_) (fun hc65 => ?_) | refine FW_cond rfl (fun hc65 => ?_) (fun hc65 => ?_)
            · skip
              first | exact absurd rfl hc65 | exact (hc65 trivial).elim | exact absurd hc65 (by decide) | exact absurd hc65 (by simp) | omega --done
            · skip
              refine FW_skip (Qseq_normal ?_)
              refine FW_region ?_
              refine FL_move (h := ?_)
              first | refine FL_val (Gives.addI rfl rfl rfl (by omega)) rfl ?_ | refine FL_val (Gives.add rfl rfl) rfl ?_
              refine FL_assign (h := ?_)
              refine FL_nil (Qblk_normal (Qseq_normal ?_))
              refine FW_region ?_
              refine FL_move (h := ?_)
              first | refine FL_val (Gives.addI rfl rfl rfl (by omega)) rfl ?_ | refine FL_val (Gives.add rfl rfl) rfl ?_
              refine FL_assign (h := ?_)
              refine FL_nil ?_
              exact Qround_normal (i + 1, _, putS l[i] ((768 : Nat) : Int), _) ⟨rfl, rfl, rfl, rfl, rfl, rfl, trivial⟩ ⟨by dsimp only; omega, by dsimp only; omega, hs3.mono (by omega), hpl, H63⟩ (by dsimp only; omega)
          · skip
            have hmin : i = min l.length 8 := by omega
            refine FW_exit (Qseq_exit (Qround_exit (Qblk_exit (Qseq_normal ?_))))
            refine FW_seq ?_
            refine FW_region ?_
            refine FL_move (h := ?_)
            refine FL_move (h := ?_)
            refine FL_move (h := ?_)
            refine FL_move (h := ?_)
            refine FL_assign (h := ?_)
            refine FL_assign (h := ?_)
            refine FL_assign (h := ?_)
            refine FL_assign (h := ?_)
            refine FL_nil (Qseq_normal ?_)
            refine FW_ret (Qfn_ret (hR := ?_))
            exact ⟨⟨p, s, vb, d, b, i⟩, rfl, ⟨⟨hS.mono (by omega), hbl, hi8⟩, hmin⟩, (H40.front2.front2.join0.front1.join0).turn⟩
        · skip
          have hmin : i = min l.length 8 := by omega
          refine FL_off rfl rfl rfl ?_
          refine FL_off rfl rfl rfl ?_
          refine FL_pickF (h := ?_)
          refine FL_nil (Qseq_normal ?_)
          refine FW_cond_false rfl ?_
          refine FW_exit (Qseq_exit (Qround_exit (Qblk_exit (Qseq_normal ?_))))
          refine FW_seq ?_
          refine FW_region ?_
          refine FL_move (h := ?_)
          refine FL_move (h := ?_)
          refine FL_move (h := ?_)
          refine FL_move (h := ?_)
          refine FL_assign (h := ?_)
          refine FL_assign (h := ?_)
          refine FL_assign (h := ?_)
          refine FL_assign (h := ?_)
          refine FL_nil (Qseq_normal ?_)
          refine FW_ret (Qfn_ret (hR := ?_))
          exact ⟨⟨p, s, vb, d, b, i⟩, rfl, ⟨⟨hS.mono (by omega), hbl, hi8⟩, hmin⟩, (H40.front2.front2.join0.front1.join0).turn⟩
end
end Go.Proofs.Yteflbohpabdjkaa
/-
  The slots' examples, walked.
-/
namespace Go.Proofs.Yteflbohpabdjkaa
open Go Go.Mw
set_option maxRecDepth 8000

def beginsS (d : DM) (at_ : Int) (want : List UInt8) : Bool := decide ((d.read at_).2 = 0) && (((d.read at_).1.getD []).take want.length == want)
def z0 : DM := DM.new 5
def z1 : DM := (save ⟨0, 0, false⟩ z0 [1, 2]).2.2
def z2 : DM := (save ⟨1, 2, false⟩ z1 []).2.2
def z3 : DM := z2.failAt 3 [0]
def z4 : DM := (save ⟨2, 0, false⟩ z3 [9]).2.2
def z5 : DM := z4.boot
def w13 : List UInt8 := [0, 0, 0, 0, 0, 0, 0, 1, 0, 0, 0, 2, 0]
theorem zo0 : openS z0 = (0, ⟨0, 0, false⟩) := by kernel_rfl
theorem zk0 : keepsB ⟨0, 0, false⟩ z0 [] 0 = true := by kernel_rfl
theorem zk0' : keepsS ⟨0, 0, false⟩ z0 0 = ⟨0, 0, false⟩ := by kernel_rfl
theorem zr0 : room z0 = 256 := by kernel_rfl
theorem zs1 : (save ⟨0, 0, false⟩ z0 [1, 2]).1 = 0 := by kernel_rfl
theorem zs1' : (save ⟨0, 0, false⟩ z0 [1, 2]).2.1 = ⟨1, 2, false⟩ := by kernel_rfl
theorem zk1 : keepsB ⟨1, 2, false⟩ z1 [1, 2] 1 = true := by kernel_rfl
theorem zk1' : keepsS ⟨1, 2, false⟩ z1 1 = ⟨1, 2, false⟩ := by kernel_rfl
theorem zr1 : room z1 = 256 := by kernel_rfl
theorem zb1 : beginsS z1 0 w13 = true := by kernel_rfl
theorem zb2 : beginsS z1 3 [1, 2, 0] = true := by kernel_rfl
theorem zs2 : (save ⟨1, 2, false⟩ z1 []).1 = 0 := by kernel_rfl
theorem zs2' : (save ⟨1, 2, false⟩ z1 []).2.1 = ⟨2, 0, false⟩ := by kernel_rfl
theorem zk2 : keepsB ⟨2, 0, false⟩ z2 [] 2 = true := by kernel_rfl
theorem zk2' : keepsS ⟨2, 0, false⟩ z2 2 = ⟨2, 0, false⟩ := by kernel_rfl
theorem zr2 : room z2 = 256 := by kernel_rfl
theorem zr3 : room z3 = 256 := by kernel_rfl
theorem zs3 : save ⟨2, 0, false⟩ z2 (List.replicate 257 0) = (5, ⟨2, 0, false⟩, z2) := by
  unfold save
  rw [if_neg (by simp), if_pos (.inl (by rw [zr2]; decide))]
theorem zs4 : (save ⟨2, 0, false⟩ z3 [9]).1 = 290 := by kernel_rfl
theorem zs4' : (save ⟨2, 0, false⟩ z3 [9]).2.1 = ⟨2, 0, true⟩ := by kernel_rfl
theorem zr4 : room z4 = 256 := by kernel_rfl
theorem zs5 : save ⟨2, 0, true⟩ z4 [9] = (290, ⟨2, 0, true⟩, z4) := by
  unfold save
  rw [if_pos rfl]
theorem zo5 : openS z5 = (0, ⟨3, 1, false⟩) := by kernel_rfl
theorem zk5 : keepsB ⟨3, 1, false⟩ z5 [9] 3 = true := by kernel_rfl
theorem zr5 : room z5 = 256 := by kernel_rfl
theorem z0s : z0.small 100 := by unfold DM.small; decide
theorem z1s : z1.small 100 := by unfold DM.small; decide +kernel
theorem z2s : z2.small 100 := by unfold DM.small; decide +kernel
theorem z3s : z3.small 100 := by unfold DM.small; decide +kernel
theorem z4s : z4.small 100 := by unfold DM.small; decide +kernel
theorem ok_of {d : DM} {m : SM} (hr : room d = 256) (h0 : 0 ≤ m.n ∧ m.n ≤ 100) (h1 : 0 ≤ m.many ∧ m.many ≤ 256) (hs : d.size = 5) : m.ok d := ⟨h0.1, by unfold mostNum; omega, h1.1, by omega, by omega⟩
section
variable {p s : Nat} {d : DM} {m : SM} {F : Nat → Prop} {w w₀ : World} {S : Nat → Prop} {rs : List HP} {put : HP → List HP}
theorem beginsS_ok {A : Option Addr} {c : Nat} {want : List UInt8} {at_ : Int} (hw : want.length ≤ 128) (hr : RowAt w A want.length 1 (want.map B)) (h : (diskH p d).ok F w) (hread : (d.read at_).2 = 0 → ((d.read at_).1.getD []).length = 128) :
    Rets Try.prog 79 [.pointer (some ⟨p, 0, none⟩), I at_, .slice A want.length c] w fun v w' => v = .bool (beginsS d at_ want) ∧ Kept noB w w' := by
  have H := Sep.start0 w
  refine rets3 Try.func79 rfl rfl rfl rfl ?_
  refine FW_seq ?_
  refine FW_region ?_
  refine FL_assign (h := ?_)
  refine FL_nil (Qseq_normal ?_)
  refine FW_seq ?_
  refine FW_region ?_
  refine FL_move (h := ?_)
  refine FL_move (h := ?_)
  refine FL_callN H (read_ok (HP.stay h H.kept) (at_ := at_)) rfl rfl (fun y w5 _ H5 _ => ?_)
  obtain ⟨Ay, cy, hy, hcy, _⟩ := Sep.rowForm H5 At0
  subst hy
  refine FL_move (h := ?_)
  refine FL_val (Gives.extract rfl rfl) rfl ?_
  refine FL_val (Gives.extract rfl rfl) rfl ?_
  refine FL_assign (h := ?_)
  refine FL_assign (h := ?_)
  refine FL_nil (Qseq_normal ?_)
  refine FW_seq ?_
  refine FW_region ?_
  refine FL_move (h := ?_)
  refine FL_val (Gives.eql rfl rfl) rfl ?_
  refine FL_move (h := ?_)
  first | refine FL_splitP (t := 17) rfl (fun hs14 => ?_) (fun hs14 => ?_) | refine FL_split (t := 17) rfl (fun hs14 => ?_) (fun hs14 => ?_)
  · skip
    have he : (d.read at_).2 = 0 := hs14
    refine FL_on rfl rfl ?_
    refine FL_move (h := ?_)
    refine FL_on rfl rfl ?_
    refine FL_val (Gives.lenSlice rfl) rfl ?_
    refine FL_on rfl rfl ?_
    refine FL_val (Gives.eql rfl rfl) rfl ?_
    refine FL_pickT (h := ?_)
    refine FL_move (h := ?_)
    first | refine FL_splitP (t := 22) rfl (fun hs21 => ?_) (fun hs21 => ?_) | refine FL_split (t := 22) rfl (fun hs21 => ?_) (fun hs21 => ?_)
    · skip
      have hlen := hread he
      refine FL_on rfl rfl ?_
      refine FL_move (h := ?_)
      refine FL_on rfl rfl ?_
      refine FL_move (h := ?_)
      refine FL_on rfl rfl ?_
      refine FL_val (Gives.lenSlice rfl) rfl ?_
      refine FL_on rfl rfl ?_
      refine FL_val (Gives.sliceTo rfl rfl (by omega)) rfl ?_
      refine FL_on rfl rfl ?_
      refine FL_move (h := ?_)
      refine FL_on rfl rfl ?_
      have hrt : RowAt w5 Ay want.length 1 ((((d.read at_).1.getD []).take want.length).map B) := by
        have h1 := (H5.rowAt At0).take (k := want.length) (by omega)
        rwa [Nat.mul_one, ← List.map_take] at h1
      refine FL_callS (eqBytes_at hrt (hr.keep H5.kept)) (h := ?_)
      refine FL_pickT (h := ?_)
      refine FL_assign (h := ?_)
      refine FL_nil (Qseq_normal ?_)
      refine FW_ret (Qfn_ret (hR := ?_))
      first
        | exact ⟨by rw [hb]; rfl, H5.drop0.kept⟩
        | exact ⟨by unfold beginsS; rw [decide_eq_true he]; rfl, H5.drop0.kept⟩
    · skip
      have hlen := hread he
      omega --done
  · skip
    have he : ¬ (d.read at_).2 = 0 := hs14
    have hb : beginsS d at_ want = false := by unfold beginsS; rw [decide_eq_false he]; rfl
    refine FL_off rfl rfl rfl ?_
    refine FL_off rfl rfl rfl ?_
    refine FL_off rfl rfl rfl ?_
    refine FL_pickF (h := ?_)
    refine FL_move (h := ?_)
    refine FL_off rfl rfl rfl ?_
    refine FL_off rfl rfl rfl ?_
    refine FL_off rfl rfl rfl ?_
    refine FL_off rfl rfl rfl ?_
    refine FL_off rfl rfl rfl ?_
    refine FL_off rfl rfl rfl ?_
    refine FL_pickF (h := ?_)
    refine FL_assign (h := ?_)
    refine FL_nil (Qseq_normal ?_)
    refine FW_ret (Qfn_ret (hR := ?_))
    first
      | exact ⟨by rw [hb]; rfl, H5.drop0.kept⟩
      | exact ⟨by unfold beginsS; rw [decide_eq_true he]; rfl, H5.drop0.kept⟩
theorem read128 {d : DM} (hwf : d.wf) (k : Int) : (d.read k).2 = 0 → ((d.read k).1.getD []).length = 128 := by
  unfold DM.read
  split
  · rename_i h
    intro h2
    exact absurd h2 h
  · intro _
    exact DM.sec_length hwf k
theorem begins_at' {A : Option Addr} {c : Nat} {want : List UInt8} {at_ : Int} {put : HP → List HP} (hw : want.length ≤ 128) (hr : RowAt w A want.length 1 (want.map B)) (H : Sep w₀ S rs w) (hat : At rs (diskH p d) put) :
    Rets Try.prog 79 [.pointer (some ⟨p, 0, none⟩), I at_, .slice A want.length c] w fun v w' => v = .bool (beginsS d at_ want) ∧ Kept noB w w' := by
  obtain ⟨F, hp, _⟩ := H.focus hat
  exact beginsS_ok hw hr hp (read128 (diskH_blk hp).1 at_)
set_option maxHeartbeats 8000000 in
theorem worksS_ok : Rets Try.prog 51 [] w fun v w' => v = .bool true ∧ Kept noB w w' := by
  have H := Sep.start0 w
  refine rets0 Try.func51 rfl rfl rfl ?_
  refine FW_seq ?_
  refine FW_region ?_
  refine FL_assign (h := ?_)
  refine FL_nil (Qseq_normal ?_)
  refine FW_seq ?_
  refine FW_region ?_
  refine FL_callN H (new_ok 5 (by decide)) rfl rfl (fun p w3 _ H3 _ => ?_)
  refine FL_move (h := ?_)
  refine FL_val (Gives.extract rfl rfl) rfl ?_
  refine FL_val (Gives.extract rfl rfl) rfl ?_
  refine FL_assign (h := ?_)
  refine FL_assign (h := ?_)
  refine FL_nil (Qseq_normal ?_)
  refine FW_seq ?_
  refine FW_region ?_
  refine FL_move (h := ?_)
  obtain ⟨F2, hp2, _⟩ := H3.focus At0
  have hz : DM.new 5 = z0 := rfl
  rw [hz] at hp2 H3
  refine FL_callN H3 (q := fun x => openH x p (openS z0).2) (val := fun x : Option Nat => .tuple #[.pointer (x.map fun s => ⟨s, 0, none⟩), I (openS z0).1]) (φ := fun x => x.isSome = decide ((openS z0).1 = 0)) (openS_ok hp2) rfl rfl (fun x w11 hx H0 _ => ?_)
  rw [zo0] at hx H0 ⊢
  obtain ⟨s, rfl⟩ : ∃ s, x = some s := by cases x with | none => cases hx | some s => exact ⟨s, rfl⟩
  have H11 := Sep.join0 (p := slotH s p ⟨0, 0, false⟩) H0
  refine FL_move (h := ?_)
  refine FL_val (Gives.extract rfl rfl) rfl ?_
  refine FL_val (Gives.extract rfl rfl) rfl ?_
  refine FL_assign (h := ?_)
  refine FL_assign (h := ?_)
  refine FL_nil (Qseq_normal ?_)
  refine FW_seq ?_
  refine FW_seq ?_
  refine FW_region ?_
  refine FL_move (h := ?_)
  refine FL_val (Gives.neq rfl rfl) rfl ?_
  refine FL_move (h := ?_)
  first | refine FL_splitP (t := 16) rfl (fun hs20 => ?_) (fun hs20 => ?_) | refine FL_split (t := 16) rfl (fun hs20 => ?_) (fun hs20 => ?_)
  · skip
    first | exact absurd rfl hs20 | exact (hs20 trivial).elim | exact absurd hs20 (by decide) | exact absurd hs20 (by simp) | omega --done
  · skip
    refine FL_on rfl rfl ?_
    refine FL_move (h := ?_)
    refine FL_on rfl rfl ?_
    refine FL_val (Gives.neq rfl rfl) rfl ?_
    refine FL_pickF (h := ?_)
    refine FL_move (h := ?_)
    first | refine FL_splitP (t := 20) rfl (fun hs26 => ?_) (fun hs26 => ?_) | refine FL_split (t := 20) rfl (fun hs26 => ?_) (fun hs26 => ?_)
    · skip
      first | exact absurd rfl hs26 | exact (hs26 trivial).elim | exact absurd hs26 (by decide) | exact absurd hs26 (by simp) | omega --done
    · skip
      refine FL_on rfl rfl ?_
      refine FL_move (h := ?_)
      refine FL_on rfl rfl ?_
      refine FL_call1 H11 At0 (fun F' hp _ => keeps_ok' (want := []) (ok_of zr0 (by decide) (by decide) rfl) (RowAt.nil _ _ _) (fun h => absurd h (Nat.lt_irrefl 0)) hp) (h := fun w30 H30 => ?_)
      rw [zk0'] at H30
      rw [zk0]
      refine FL_on rfl rfl ?_
      first | refine FL_val (Gives.notP rfl) rfl ?_ | refine FL_val (Gives.not rfl) rfl ?_
      refine FL_pickF (h := ?_)
      refine FL_move (h := ?_)
      first | refine FL_splitP (t := 25) rfl (fun hs34 => ?_) (fun hs34 => ?_) | refine FL_split (t := 25) rfl (fun hs34 => ?_) (fun hs34 => ?_)
      · skip
        first | exact absurd rfl hs34 | exact (hs34 trivial).elim | exact absurd hs34 (by decide) | exact absurd hs34 (by simp) | omega --done
      · skip
        refine FL_on rfl rfl ?_
        refine FL_move (h := ?_)
        refine FL_on rfl rfl ?_
        refine FL_callS (room_at H30.star0 At0 At1) (h := ?_)
        rw [zr0]
        refine FL_on rfl rfl ?_
        refine FL_val (Gives.neq rfl rfl) rfl ?_
        refine FL_pickF (h := ?_)
        refine FL_move (h := ?_)
        first | refine FL_splitP (t := 30) rfl (fun hs41 => ?_) (fun hs41 => ?_) | refine FL_split (t := 30) rfl (fun hs41 => ?_) (fun hs41 => ?_)
        · skip
          first | exact absurd rfl hs41 | exact (hs41 trivial).elim | exact absurd hs41 (by decide) | exact absurd hs41 (by simp) | omega --done
        · skip
          refine FL_on rfl rfl ?_
          refine FL_move (h := ?_)
          refine FL_on rfl rfl ?_
          refine FL_buildSlice H30 (Elems.one rfl rfl (Elems.one rfl rfl Elems.nil)) rfl rfl rfl (fun b44 w45 H45 _ => ?_)
          refine FL_on rfl rfl ?_
          refine FL_call1R (us := ([1, 2] : List UInt8).map B) (m := 2) (Sep.asRow H45 At0 (s := 1) (n := 2) rfl (by decide)) At0 (fun F' hp hrr hoff => saveS_ok (b := [1, 2]) (c := 2) (ok_of zr0 (by decide) (by decide) rfl) (z0s.mono (by decide)) (by decide) hrr hoff hp) (h := fun w47 H0 => ?_)
          rw [zs1'] at H0
          rw [zs1]
          have H47 := H0.drop0
          refine FL_on rfl rfl ?_
          refine FL_val (Gives.neq rfl rfl) rfl ?_
          refine FL_pickF (h := ?_)
          refine FL_move (h := ?_)
          first | refine FL_splitP (t := 36) rfl (fun hs51 => ?_) (fun hs51 => ?_) | refine FL_split (t := 36) rfl (fun hs51 => ?_) (fun hs51 => ?_)
          · skip
            first | exact absurd rfl hs51 | exact (hs51 trivial).elim | exact absurd hs51 (by decide) | exact absurd hs51 (by simp) | omega --done
          · skip
            refine FL_on rfl rfl ?_
            refine FL_move (h := ?_)
            refine FL_on rfl rfl ?_
            refine FL_buildSlice H47 (Elems.one rfl rfl (Elems.one rfl rfl Elems.nil)) rfl rfl rfl (fun b54 w55 H55 _ => ?_)
            refine FL_on rfl rfl ?_
            refine FL_call1R (us := ([1, 2] : List UInt8).map B) (m := 2) (Sep.asRow H55 At0 (s := 1) (n := 2) rfl (by decide)) At0 (fun F' hp hrr hoff => keeps_ok' (d := z1) (want := [1, 2]) (c := 2) (ok_of zr1 (by decide) (by decide) rfl) hrr hoff hp) (h := fun w57 H0 => ?_)
            rw [zk1'] at H0
            rw [zk1]
            have H57 := H0.drop0
            refine FL_on rfl rfl ?_
            first | refine FL_val (Gives.notP rfl) rfl ?_ | refine FL_val (Gives.not rfl) rfl ?_
            refine FL_pickF (h := ?_)
            refine FL_move (h := ?_)
            first | refine FL_splitP (t := 42) rfl (fun hs61 => ?_) (fun hs61 => ?_) | refine FL_split (t := 42) rfl (fun hs61 => ?_) (fun hs61 => ?_)
            · skip
              first | exact absurd rfl hs61 | exact (hs61 trivial).elim | exact absurd hs61 (by decide) | exact absurd hs61 (by simp) | omega --done
            · skip
              refine FL_on rfl rfl ?_
              refine FL_move (h := ?_)
              refine FL_on rfl rfl ?_
              refine FL_buildSlice H57 (Elems.one rfl rfl (Elems.one rfl rfl (Elems.one rfl rfl (Elems.one rfl rfl (Elems.one rfl rfl (Elems.one rfl rfl (Elems.one rfl rfl (Elems.one rfl rfl (Elems.one rfl rfl (Elems.one rfl rfl (Elems.one rfl rfl (Elems.one rfl rfl (Elems.one rfl rfl Elems.nil))))))))))))) rfl rfl rfl (fun b64 w65 H65 _ => ?_)
              refine FL_on rfl rfl ?_
              refine FL_callQ H65 (begins_at' (d := z1) (want := w13) (at_ := 0) (by decide) (Sep.blkRow H65 At0 (m := 13) (s := 1) rfl) (H65.front1.star0) At1) (h := fun w67 H0 _ => ?_)
              rw [zb1]
              have H67 := H0.drop0
              refine FL_on rfl rfl ?_
              first | refine FL_val (Gives.notP rfl) rfl ?_ | refine FL_val (Gives.not rfl) rfl ?_
              refine FL_pickF (h := ?_)
              refine FL_move (h := ?_)
              first | refine FL_splitP (t := 48) rfl (fun hs71 => ?_) (fun hs71 => ?_) | refine FL_split (t := 48) rfl (fun hs71 => ?_) (fun hs71 => ?_)
              · skip
                first | exact absurd rfl hs71 | exact (hs71 trivial).elim | exact absurd hs71 (by decide) | exact absurd hs71 (by simp) | omega --done
              · skip
                refine FL_on rfl rfl ?_
                refine FL_move (h := ?_)
                refine FL_on rfl rfl ?_
                refine FL_buildSlice H67 (Elems.one rfl rfl (Elems.one rfl rfl (Elems.one rfl rfl Elems.nil))) rfl rfl rfl (fun b74 w75 H75 _ => ?_)
                refine FL_on rfl rfl ?_
                refine FL_callQ H75 (begins_at' (d := z1) (want := [1, 2, 0]) (at_ := 3) (by decide) (Sep.blkRow H75 At0 (m := 3) (s := 1) rfl) (H75.front1.star0) At1) (h := fun w77 H0 _ => ?_)
                rw [zb2]
                have H77 := H0.drop0
                refine FL_on rfl rfl ?_
                first | refine FL_val (Gives.notP rfl) rfl ?_ | refine FL_val (Gives.not rfl) rfl ?_
                refine FL_pickF (h := ?_)
                refine FL_nil (Qseq_normal ?_)
                first | refine FW_condP rfl (fun hc80 => ?_) (fun hc80 => ?_) | refine FW_cond rfl (fun hc80 => ?_) (fun hc80 => ?_)
                · skip
                  first | exact absurd rfl hc80 | exact (hc80 trivial).elim | exact absurd hc80 (by decide) | exact absurd hc80 (by simp) | omega --done
                · skip
                  refine FW_skip (Qseq_normal ?_)
                  refine FW_seq ?_
                  refine FW_seq ?_
                  refine FW_region ?_
                  refine FL_move (h := ?_)
                  refine FL_call1 H77 At0 (fun F' hp _ => saveS_ok (d := z1) (b := []) (ok_of zr1 (by decide) (by decide) rfl) (z1s.mono (by decide)) (Nat.le_refl _) (RowAt.nil _ _ _) (fun h => absurd h (Nat.lt_irrefl 0)) hp) (h := fun w84 H84 => ?_)
                  rw [zs2'] at H84
                  rw [zs2]
                  refine FL_val (Gives.neq rfl rfl) rfl ?_
                  refine FL_move (h := ?_)
                  first | refine FL_splitP (t := 57) rfl (fun hs87 => ?_) (fun hs87 => ?_) | refine FL_split (t := 57) rfl (fun hs87 => ?_) (fun hs87 => ?_)
                  · skip
                    first | exact absurd rfl hs87 | exact (hs87 trivial).elim | exact absurd hs87 (by decide) | exact absurd hs87 (by simp) | omega --done
                  · skip
                    refine FL_on rfl rfl ?_
                    refine FL_move (h := ?_)
                    refine FL_on rfl rfl ?_
                    refine FL_call1 H84 At0 (fun F' hp _ => keeps_ok' (d := z2) (want := []) (ok_of zr2 (by decide) (by decide) rfl) (RowAt.nil _ _ _) (fun h => absurd h (Nat.lt_irrefl 0)) hp) (h := fun w91 H91 => ?_)
                    rw [zk2'] at H91
                    rw [zk2]
                    refine FL_on rfl rfl ?_
                    first | refine FL_val (Gives.notP rfl) rfl ?_ | refine FL_val (Gives.not rfl) rfl ?_
                    refine FL_pickF (h := ?_)
                    refine FL_move (h := ?_)
                    first | refine FL_splitP (t := 62) rfl (fun hs95 => ?_) (fun hs95 => ?_) | refine FL_split (t := 62) rfl (fun hs95 => ?_) (fun hs95 => ?_)
                    · skip
                      first | exact absurd rfl hs95 | exact (hs95 trivial).elim | exact absurd hs95 (by decide) | exact absurd hs95 (by simp) | omega --done
                    · skip
                      refine FL_on rfl rfl ?_
                      refine FL_move (h := ?_)
                      refine FL_on rfl rfl ?_
                      refine FL_make1 H91 (k := 257) (by decide) (by decide) (h := ?_)
                      intro bb w99 H99 _
                      refine FL_on rfl rfl ?_
                      refine FL_call1R (us := (List.replicate 257 (0 : UInt8)).map B) (m := 257) (Sep.asRow H99 At0 (s := 1) (n := 257) (by rw [List.length_replicate]) (by decide)) At0 (fun F' hp hrr hoff => by
                        have h1 := saveS_ok (d := z2) (b := List.replicate 257 0) (c := 257) (ok_of zr2 (by decide) (by decide) rfl) (z2s.mono (by decide)) (by rw [List.length_replicate]; decide) (by rw [List.length_replicate]; exact hrr) (by rw [List.length_replicate]; exact hoff) hp
                        rw [zs3, List.length_replicate] at h1
                        exact h1) (h := fun w101 H0 => ?_)
                      have H101 := H0.drop0
                      refine FL_on rfl rfl ?_
                      refine FL_val (Gives.neq rfl rfl) rfl ?_
                      refine FL_pickF (h := ?_)
                      refine FL_nil (Qseq_normal ?_)
                      first | refine FW_condP rfl (fun hc104 => ?_) (fun hc104 => ?_) | refine FW_cond rfl (fun hc104 => ?_) (fun hc104 => ?_)
                      · skip
                        first | exact absurd rfl hc104 | exact (hc104 trivial).elim | exact absurd hc104 (by decide) | exact absurd hc104 (by simp) | omega --done
                      · skip
                        refine FW_skip (Qseq_normal ?_)
                        refine FW_seq ?_
                        refine FW_region ?_
                        refine FL_move (h := ?_)
                        refine FL_buildSlice H101 (Elems.one rfl rfl Elems.nil) rfl rfl rfl (fun b107 w108 H108 _ => ?_)
                        refine FL_call1R (us := ([0] : List Int).map I) (m := 1) (Sep.asRow (H108.front1.star0.front2) At0 (s := 1) (n := 1) rfl (by decide)) At1 (fun F' hp hrr hoff => fail_ok (d := z2) (keep := [0]) (A := some _) (c := 1) (by have := z2s.2.2; omega) (by decide) hrr hoff hp) (h := fun w110 H0 => ?_)
                        have H110 := H0.drop0.join0
                        refine FL_nil (Qseq_normal ?_)
                        refine FW_seq ?_
                        refine FW_seq ?_
                        refine FW_region ?_
                        refine FL_move (h := ?_)
                        refine FL_buildSlice H110 (Elems.one rfl rfl Elems.nil) rfl rfl rfl (fun b112 w113 H113 _ => ?_)
                        refine FL_call1R (us := ([9] : List UInt8).map B) (m := 1) (Sep.asRow H113 At0 (s := 1) (n := 1) rfl (by decide)) At0 (fun F' hp hrr hoff => saveS_ok (d := z3) (b := [9]) (c := 1) (ok_of zr3 (by decide) (by decide) rfl) (z3s.mono (by decide)) (by decide) hrr hoff hp) (h := fun w115 H0 => ?_)
                        rw [zs4'] at H0
                        rw [zs4]
                        have H115 := H0.drop0
                        refine FL_val (Gives.neq rfl rfl) rfl ?_
                        refine FL_move (h := ?_)
                        first | refine FL_splitP (t := 75) rfl (fun hs118 => ?_) (fun hs118 => ?_) | refine FL_split (t := 75) rfl (fun hs118 => ?_) (fun hs118 => ?_)
                        · skip
                          first | exact absurd rfl hs118 | exact (hs118 trivial).elim | exact absurd hs118 (by decide) | exact absurd hs118 (by simp) | omega --done
                        · skip
                          refine FL_on rfl rfl ?_
                          refine FL_move (h := ?_)
                          refine FL_on rfl rfl ?_
                          refine FL_buildSlice H115 (Elems.one rfl rfl Elems.nil) rfl rfl rfl (fun b121 w122 H122 _ => ?_)
                          refine FL_on rfl rfl ?_
                          refine FL_call1R (us := ([9] : List UInt8).map B) (m := 1) (Sep.asRow H122 At0 (s := 1) (n := 1) rfl (by decide)) At0 (fun F' hp hrr hoff => saveS_ok (d := z4) (b := [9]) (c := 1) (ok_of zr4 (by decide) (by decide) rfl) (z4s.mono (by decide)) (by decide) hrr hoff hp) (h := fun w124 H0 => ?_)
                          rw [zs5] at H0
                          rw [zs5]
                          have H124 := H0.drop0
                          refine FL_on rfl rfl ?_
                          refine FL_val (Gives.neq rfl rfl) rfl ?_
                          refine FL_pickF (h := ?_)
                          refine FL_nil (Qseq_normal ?_)
                          first | refine FW_condP rfl (fun hc127 => ?_) (fun hc127 => ?_) | refine FW_cond rfl (fun hc127 => ?_) (fun hc127 => ?_)
                          · skip
                            first | exact absurd rfl hc127 | exact (hc127 trivial).elim | exact absurd hc127 (by decide) | exact absurd hc127 (by simp) | omega --done
                          · skip
                            refine FW_skip (Qseq_normal ?_)
                            refine FW_seq ?_
                            refine FW_region ?_
                            refine FL_move (h := ?_)
                            refine FL_call1 H124.star0 At1 (fun F' hp _ => boot_ok hp) (h := fun w131 H131 => ?_)
                            refine FL_nil (Qseq_normal ?_)
                            refine FW_seq ?_
                            refine FW_region ?_
                            refine FL_move (h := ?_)
                            obtain ⟨F3, hp3, _⟩ := H131.focus At1
                            refine FL_callN H131 (q := fun x => openH x p (openS z5).2) (val := fun x : Option Nat => .tuple #[.pointer (x.map fun s => ⟨s, 0, none⟩), I (openS z5).1]) (φ := fun x => x.isSome = decide ((openS z5).1 = 0)) (openS_ok hp3) rfl rfl (fun x w134 hx H0 _ => ?_)
                            rw [zo5] at hx H0 ⊢
                            obtain ⟨s2, rfl⟩ : ∃ s, x = some s := by cases x with | none => cases hx | some s => exact ⟨s, rfl⟩
                            have H134 := Sep.join0 (p := slotH s2 p ⟨3, 1, false⟩) H0.front1.drop0
                            refine FL_move (h := ?_)
                            refine FL_val (Gives.extract rfl rfl) rfl ?_
                            refine FL_val (Gives.extract rfl rfl) rfl ?_
                            refine FL_assign (h := ?_)
                            refine FL_assign (h := ?_)
                            refine FL_nil (Qseq_normal ?_)
                            refine FW_seq ?_
                            refine FW_region ?_
                            refine FL_move (h := ?_)
                            refine FL_val (Gives.eql rfl rfl) rfl ?_
                            refine FL_move (h := ?_)
                            first | refine FL_splitP (t := 90) rfl (fun hs143 => ?_) (fun hs143 => ?_) | refine FL_split (t := 90) rfl (fun hs143 => ?_) (fun hs143 => ?_)
                            · skip
                              refine FL_on rfl rfl ?_
                              refine FL_move (h := ?_)
                              refine FL_on rfl rfl ?_
                              refine FL_buildSlice H134 (Elems.one rfl rfl Elems.nil) rfl rfl rfl (fun b145 w146 H146 _ => ?_)
                              refine FL_on rfl rfl ?_
                              refine FL_call1R (us := ([9] : List UInt8).map B) (m := 1) (Sep.asRow H146 At0 (s := 1) (n := 1) rfl (by decide)) At0 (fun F' hp hrr hoff => keeps_ok' (d := z5) (want := [9]) (c := 1) (ok_of zr5 (by decide) (by decide) rfl) hrr hoff hp) (h := fun w148 H148 => ?_)
                              rw [zk5]
                              refine FL_pickT (h := ?_)
                              refine FL_assign (h := ?_)
                              refine FL_nil (Qseq_normal ?_)
                              refine FW_ret (Qfn_ret (hR := ?_))
                              exact ⟨rfl, H148.kept⟩
                            · skip
                              first | exact absurd rfl hs143 | exact (hs143 trivial).elim | exact absurd hs143 (by decide) | exact absurd hs143 (by simp) | omega --done
end
end Go.Proofs.Yteflbohpabdjkaa
