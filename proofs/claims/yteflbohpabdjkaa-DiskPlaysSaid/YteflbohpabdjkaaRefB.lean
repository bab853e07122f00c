/-
  The reference's disk: counts and fall, walked.
-/
import Derived.Test.YteflbohpabdjkaaRefA
namespace Go.Proofs.Yteflbohpabdjkaa
open Go Go.Mw
set_option maxRecDepth 8000

section
variable {q : Nat} {a : AM} {F : Nat → Prop} {w w₀ : World} {S : Nat → Prop} {rs : List HP}
theorem counts_ok (hb : fits (a.ops + 1) ∧ fits (a.left - 1)) (h : (refA q a).ok F w) : Rets Try.prog 70 [.pointer (some ⟨q, 0, none⟩)] w fun v w' => v = .bool a.fails ∧ Turn F (refA q a.counts) w w' := by
  obtain ⟨m, rfl, H⟩ := Sep.openA (Sep.start1 h)
  obtain ⟨vk, vo, ve, pool, hok, H⟩ := Sep.openRef H
  obtain ⟨hb1, hb2⟩ := hb
  unfold fits at hb1 hb2
  have e1 : m.abs.ops = m.ops := rfl
  have e2 : m.abs.left = m.left := rfl
  rw [e1] at hb1
  rw [e2] at hb2
  refine rets1 Try.func70 rfl rfl rfl rfl ?_
  refine FW_seq ?_
  refine FW_region ?_
  refine FL_assign (h := ?_)
  refine FL_nil (Qseq_normal ?_)
  refine FW_seq ?_
  refine FW_region ?_
  refine FL_move (h := ?_)
  refine FL_move (h := ?_)
  refine FL_val (Gives.nilCheck rfl) rfl ?_
  first | refine FL_val (Gives.field0 rfl) rfl ?_ | refine FL_val (Gives.field rfl) rfl ?_ | refine FL_val (Gives.fieldA rfl) rfl ?_
  refine FL_load H (h := ?_)
  first | refine FL_val (Gives.addI rfl rfl rfl (by omega)) rfl ?_ | refine FL_val (Gives.add rfl rfl) rfl ?_
  refine FL_val (Gives.nilCheck rfl) rfl ?_
  first | refine FL_val (Gives.field0 rfl) rfl ?_ | refine FL_val (Gives.field rfl) rfl ?_ | refine FL_val (Gives.fieldA rfl) rfl ?_
  refine FL_store H (h := ?_)
  intro w11 H11
  refine FL_nil (Qseq_normal ?_)
  refine FW_seq ?_
  refine FW_region ?_
  refine FL_move (h := ?_)
  refine FL_move (h := ?_)
  refine FL_val (Gives.nilCheck rfl) rfl ?_
  first | refine FL_val (Gives.field0 rfl) rfl ?_ | refine FL_val (Gives.field rfl) rfl ?_ | refine FL_val (Gives.fieldA rfl) rfl ?_
  refine FL_load H11 (h := ?_)
  first | refine FL_val (Gives.subI rfl rfl rfl (by omega)) rfl ?_ | refine FL_val (Gives.sub rfl rfl) rfl ?_
  refine FL_val (Gives.nilCheck rfl) rfl ?_
  first | refine FL_val (Gives.field0 rfl) rfl ?_ | refine FL_val (Gives.field rfl) rfl ?_ | refine FL_val (Gives.fieldA rfl) rfl ?_
  refine FL_store H11 (h := ?_)
  intro w21 H21
  refine FL_nil (Qseq_normal ?_)
  refine FW_seq ?_
  refine FW_region ?_
  refine FL_move (h := ?_)
  refine FL_val (Gives.nilCheck rfl) rfl ?_
  first | refine FL_val (Gives.field0 rfl) rfl ?_ | refine FL_val (Gives.field rfl) rfl ?_ | refine FL_val (Gives.fieldA rfl) rfl ?_
  refine FL_load H21 (h := ?_)
  refine FL_val (Gives.eql rfl rfl) rfl ?_
  refine FL_assign (h := ?_)
  refine FL_nil (Qseq_normal ?_)
  refine FW_ret (Qfn_ret (hR := ?_))
  exact ⟨rfl, (Sep.shutA (m := { m with ops := m.ops + 1, left := m.left - 1 }) (Sep.shutRef ⟨hok.kept, hok.opn, hok.len, hok.at_, hok.many, hok.klen⟩ H21)).turn⟩
theorem keptT_snoc (keep : List Int) : ∀ (k : Nat) (l : List (Int × List UInt8)) (x : Int × List UInt8) (f : Int → List UInt8), keptT keep k (l ++ [x]) f = if keep.contains ((k + l.length : Nat) : Int) then setT (keptT keep k l f) x.1 x.2 else keptT keep k l f
  | k, [], x, f => by simp only [List.nil_append, keptT, List.length_nil, Nat.add_zero]
  | k, y :: l, x, f => by
    have e : k + (y :: l).length = k + 1 + l.length := by simp only [List.length_cons]; omega
    simp only [List.cons_append, keptT, keptT_snoc keep (k + 1) l x, e]
theorem setT_same (f : Int → List UInt8) (a : Int) (b : List UInt8) : setT (setT f a b) a b = setT f a b := by
  funext j
  unfold setT
  split <;> rfl
def opsR (l : List (Int × Nat × List UInt8)) : List (Int × List UInt8) := l.map fun x => (x.1, x.2.2)
theorem opsR_snoc {keep : List Int} {l : List (Int × Nat × List UInt8)} {f : Int → List UInt8} {i : Nat} (h : i < l.length) :
    keptT keep 0 (opsR (l.take (i + 1))) f = if keep.contains (i : Int) then setT (keptT keep 0 (opsR (l.take i)) f) l[i].1 l[i].2.2 else keptT keep 0 (opsR (l.take i)) f := by
  have e : opsR (l.take (i + 1)) = opsR (l.take i) ++ [(l[i].1, l[i].2.2)] := by
    unfold opsR
    rw [List.take_succ_eq_append_getElem h, List.map_append]
    rfl
  rw [e, keptT_snoc]
  have hl : (opsR (l.take i)).length = i := by
    unfold opsR
    rw [List.length_map, List.length_take]
    omega
  rw [hl, Nat.zero_add]
theorem ok_set {m : RM} {pool fills kept : List (Nat × List UInt8)} {x : Int × Nat × List UInt8} {an : Nat} (hok : RM.ok { m with kept := kept } pool) (hx : x ∈ m.opn) (hxa : x.1 = an) (hfl : kept.length + fills.length = max kept.length (an + 1)) (hz : ∀ z ∈ fills, z.2 = zeroSec) :
    RM.ok { m with kept := setK kept fills an x.2 } (fills.reverse ++ pool) := by
  have hat := hok.at_ x hx
  refine ⟨fun y hy => ?_, fun y hy => List.mem_append_right _ (hok.opn y hy), fun y hy => ?_, hok.at_, hok.many, ?_⟩
  · rcases List.mem_or_eq_of_mem_set hy with h | h
    · rcases List.mem_append.1 h with h | h
      · exact List.mem_append_right _ (hok.kept y h)
      · exact List.mem_append_left _ (List.mem_reverse.2 h)
    · subst h
      exact List.mem_append_right _ (hok.opn x hx)
  · rcases List.mem_append.1 hy with h | h
    · rw [hz y (List.mem_reverse.1 h)]; exact zero_len
    · exact hok.len y h
  · have hk := hok.klen
    simp only at hk hat ⊢
    unfold setK
    rw [List.length_set, List.length_append]
    omega
set_option maxHeartbeats 4000000 in
theorem fallR_ok {m : RM} {y : Value × Value × Value × List (Nat × List UInt8)} {A : Option Addr} {c : Nat} {keep : List Int} (hok : m.ok y.2.2.2) (hkl : (keep.length : Int) ≤ 1000000) (hol : (m.opn.length : Int) ≤ 1000000) (h : (starL (refParts q m y)).ok F w)
    (hst : ∀ w' l1 l2, Sep w F (l1 ++ rowH 3 1 y.2.2.1 m.keep.length (m.keep.map I) :: l2) w' → RowAt w' A keep.length 1 (keep.map I)) :
    Rets Try.prog 71 [.pointer (some ⟨q, 0, none⟩), .slice A keep.length c] w fun v w' => v = .tuple #[] ∧ Turn F (refA q (m.abs.fall keep)) w w' := by
  obtain ⟨vk, vo, ve, pool⟩ := y
  have H := (Sep.start1 h).parts
  unfold refParts at H
  dsimp only at hok hst
  obtain ⟨Ao, co, ho, _⟩ := H.rowForm At2
  dsimp only at ho
  subst ho
  refine rets2 Try.func71 rfl rfl rfl rfl ?_
  refine FW_seq ?_
  refine FW_seq ?_
  refine FW_region ?_
  refine FL_assign (h := ?_)
  refine FL_nil (Qseq_normal ?_)
  refine FW_block ?_
  refine FW_loop' (fun x : Nat × Value × List (Nat × List UInt8) × List (Nat × List UInt8) => [(0, .pointer (some ⟨q, 0, none⟩)), (1, .slice A keep.length c), (4, I x.1)])
    (fun x w' => x.1 ≤ m.opn.length ∧ RM.ok { m with kept := x.2.2.1 } x.2.2.2 ∧ kf x.2.2.1 = keptT keep 0 (opsR (m.opn.take x.1)) (kf m.kept) ∧ Sep w F (blk q (refCells m x.2.1 (.slice Ao m.opn.length co) ve) 106 :: rowH 27 1 x.2.1 x.2.2.1.length (x.2.2.1.map fun x => secV x.1) :: rowH 108 2 (.slice Ao m.opn.length co) m.opn.length (refOpen m.opn) :: rowH 3 1 ve m.keep.length (m.keep.map I) :: poolH 5 (poolOf x.2.2.2) :: []) w') (fun x _ => m.opn.length - x.1) (0, vk, m.kept, pool) ⟨rfl, rfl, rfl, trivial⟩ ⟨Nat.zero_le _, hok, rfl, H⟩ (fun x τ w3 hI => ?_)
  obtain ⟨i, vk1, kept1, pool1⟩ := x
  obtain ⟨hi, hok1, hkf1, H3⟩ := hI
  dsimp only at hi hok1 hkf1 H3
  try simp only [upds, like, upd_ds, und_ds]
  refine FW_seq ?_
  refine FW_seq ?_
  refine FW_region ?_
  refine FL_move (h := ?_)
  refine FL_move (h := ?_)
  refine FL_val (Gives.nilCheck rfl) rfl ?_
  first | refine FL_val (Gives.field0 rfl) rfl ?_ | refine FL_val (Gives.field rfl) rfl ?_ | refine FL_val (Gives.fieldA rfl) rfl ?_
  refine FL_load H3 (h := ?_)
  refine FL_val (Gives.lenSlice rfl) rfl ?_
  refine FL_val (Gives.lss rfl rfl) rfl ?_
  refine FL_nil (Qseq_normal ?_)
  first | refine FW_condP rfl (fun hc11 => ?_) (fun hc11 => ?_) | refine FW_cond rfl (fun hc11 => ?_) (fun hc11 => ?_)
  · skip
    have hlt : i < m.opn.length := by omega
    have hor := Sep.rowAt H3 At2
    obtain ⟨ad, hAd, _⟩ := hor.at_ (by omega)
    subst hAd
    have hmem := List.getElem_mem hlt
    obtain ⟨an, han⟩ : ∃ an : Nat, m.opn[i].1 = an := ⟨m.opn[i].1.toNat, by have := hok.at_ _ hmem; omega⟩
    refine FW_skip (Qseq_normal ?_)
    refine FW_seq ?_
    refine FW_block ?_
    refine FW_seq ?_
    refine FW_region ?_
    refine FL_assign (h := ?_)
    refine FL_nil (Qseq_normal ?_)
    refine FW_block ?_
    refine FW_loop' (fun y : Nat × Value × List (Nat × List UInt8) × List (Nat × List UInt8) => [(0, .pointer (some ⟨q, 0, none⟩)), (1, .slice A keep.length c), (4, I i), (5, I y.1)])
      (fun y w' => y.1 ≤ keep.length ∧ RM.ok { m with kept := y.2.2.1 } y.2.2.2 ∧ kf y.2.2.1 = (if (keep.take y.1).contains (i : Int) then setT (keptT keep 0 (opsR (m.opn.take i)) (kf m.kept)) m.opn[i].1 m.opn[i].2.2 else keptT keep 0 (opsR (m.opn.take i)) (kf m.kept)) ∧ Sep w F (blk q (refCells m y.2.1 (.slice (some ad) m.opn.length co) ve) 106 :: rowH 27 1 y.2.1 y.2.2.1.length (y.2.2.1.map fun x => secV x.1) :: rowH 108 2 (.slice (some ad) m.opn.length co) m.opn.length (refOpen m.opn) :: rowH 3 1 ve m.keep.length (m.keep.map I) :: poolH 5 (poolOf y.2.2.2) :: []) w') (fun y _ => keep.length - y.1) (0, vk1, kept1, pool1) ⟨rfl, rfl, rfl, rfl, trivial⟩ ⟨Nat.zero_le _, hok1, by rw [hkf1, List.take_zero, if_neg (by simp)], H3⟩ (fun y τ w15 hI => ?_)
    obtain ⟨k, vk2, kept2, pool2⟩ := y
    obtain ⟨hk1, hok2, hkf2, H15⟩ := hI
    dsimp only at hk1 hok2 hkf2 H15
    obtain ⟨Ak2, ck2, hvk2, _⟩ := Sep.rowForm H15 At1
    subst hvk2
    try simp only [upds, like, upd_ds]
    refine FW_seq ?_
    refine FW_seq ?_
    refine FW_region ?_
    refine FL_move (h := ?_)
    refine FL_move (h := ?_)
    refine FL_val (Gives.lenSlice rfl) rfl ?_
    refine FL_val (Gives.lss rfl rfl) rfl ?_
    refine FL_nil (Qseq_normal ?_)
    first | refine FW_condP rfl (fun hc20 => ?_) (fun hc20 => ?_) | refine FW_cond rfl (fun hc20 => ?_) (fun hc20 => ?_)
    · skip
      have hkt : k < keep.length := by omega
      obtain ⟨kd, hKd, hkc⟩ := (hst _ [_, _, _] _ H15).at_ (by omega)
      subst hKd
      refine FW_skip (Qseq_normal ?_)
      refine FW_seq ?_
      refine FW_block ?_
      refine FW_seq ?_
      refine FW_region ?_
      refine FL_move (h := ?_)
      refine FL_move (h := ?_)
      refine FL_val (Gives.idx rfl rfl hkt) rfl ?_
      refine FL_loadC (hkc (k * 1) (I keep[k]) (by simp [hkt])) (h := ?_)
      refine FL_move (h := ?_)
      refine FL_val (Gives.eql rfl rfl) rfl ?_
      refine FL_nil (Qseq_normal ?_)
      first | refine FW_condP rfl (fun hc28 => ?_) (fun hc28 => ?_) | refine FW_cond rfl (fun hc28 => ?_) (fun hc28 => ?_)
      · skip
        have hki := hc28
        refine FW_drawS rfl H15 (h := fun hok30 w32 H32 => ?_)
        refine FGmove hok30 0 (h := ?_)
        refine FGmove hok30 1 (h := ?_)
        refine FGp hok30 2 rfl rfl (fun _ => (Gives.nilCheck rfl)) (by kernel_rfl) ?_
        first | refine FGp hok30 3 rfl rfl (fun _ => (Gives.field0 rfl)) (by kernel_rfl) ?_ | refine FGp hok30 3 rfl rfl (fun _ => (Gives.field rfl)) (by kernel_rfl) ?_ | refine FGp hok30 3 rfl rfl (fun _ => (Gives.fieldA rfl)) (by kernel_rfl) ?_
        refine FGload hok30 4 H32 (h := ?_)
        refine FGmove hok30 5 (h := ?_)
        refine FGp hok30 6 rfl rfl (fun _ => (Gives.nilCheck rfl)) (by kernel_rfl) ?_
        first | refine FGp hok30 7 rfl rfl (fun _ => (Gives.field0 rfl)) (by kernel_rfl) ?_ | refine FGp hok30 7 rfl rfl (fun _ => (Gives.field rfl)) (by kernel_rfl) ?_ | refine FGp hok30 7 rfl rfl (fun _ => (Gives.fieldA rfl)) (by kernel_rfl) ?_
        refine FGload hok30 8 H32 (h := ?_)
        refine FGmove hok30 9 (h := ?_)
        refine FGp hok30 10 rfl rfl (fun _ => (Gives.idx rfl rfl hlt)) (by kernel_rfl) ?_
        first | refine FGp hok30 11 rfl rfl (fun _ => (Gives.field0 rfl)) (by kernel_rfl) ?_ | refine FGp hok30 11 rfl rfl (fun _ => (Gives.field rfl)) (by kernel_rfl) ?_ | refine FGp hok30 11 rfl rfl (fun _ => (Gives.fieldA rfl)) (by kernel_rfl) ?_
        refine FGl hok30 12 rfl rfl (Gives.loadC rfl ((Sep.rowAt H32 At2).elemC rfl i hlt (us := [I m.opn[i].1, secV m.opn[i].2.1]) (refOpen_get m.opn i hlt) 0 _ rfl)) (by kernel_rfl) ?_
        rw [han]
        refine FGmove hok30 13 (h := ?_)
        refine FGp hok30 14 rfl rfl (fun _ => (Gives.nilCheck rfl)) (by kernel_rfl) ?_
        first | refine FGp hok30 15 rfl rfl (fun _ => (Gives.field0 rfl)) (by kernel_rfl) ?_ | refine FGp hok30 15 rfl rfl (fun _ => (Gives.field rfl)) (by kernel_rfl) ?_ | refine FGp hok30 15 rfl rfl (fun _ => (Gives.fieldA rfl)) (by kernel_rfl) ?_
        refine FGload hok30 16 H32 (h := ?_)
        refine FGmove hok30 17 (h := ?_)
        refine FGp hok30 18 rfl rfl (fun _ => (Gives.idx rfl rfl hlt)) (by kernel_rfl) ?_
        first | refine FGp hok30 19 rfl rfl (fun _ => (Gives.field0 rfl)) (by kernel_rfl) ?_ | refine FGp hok30 19 rfl rfl (fun _ => (Gives.field rfl)) (by kernel_rfl) ?_ | refine FGp hok30 19 rfl rfl (fun _ => (Gives.fieldA rfl)) (by kernel_rfl) ?_
        refine FGl hok30 20 rfl rfl (Gives.loadC rfl ((Sep.rowAt H32 At2).elemC rfl i hlt (us := [I m.opn[i].1, secV m.opn[i].2.1]) (refOpen_get m.opn i hlt) 1 _ rfl)) (by kernel_rfl) ?_
        have hkl2 : kept2.length ≤ 65536 ∧ an < 65536 := by
          have h1 := hok2.klen
          have h2 := hok2.many
          have h3 := hok.at_ _ hmem
          dsimp only at h1 h2
          omega
        refine FGcallN hok30 21 [(0, true)] H32 (set_ok (b := m.opn[i].2.1) m.opn[i].2 rfl (Sep.rowAt H32 At1) hkl2.1 hkl2.2) (h := fun z w49 hz H49 _ => ⟨Stab_pure (Stab_nil), ?_⟩)
        obtain ⟨vz, fills⟩ := z
        dsimp only at hz H49 ⊢
        have H3 := H49.star0
        obtain ⟨Az, cz, hvz, _⟩ := Sep.rowForm H3 At0
        subst hvz
        refine FGp hok30 22 rfl rfl (fun _ => (Gives.nilCheck rfl)) (by kernel_rfl) ?_
        first | refine FGp hok30 23 rfl rfl (fun _ => (Gives.field0 rfl)) (by kernel_rfl) ?_ | refine FGp hok30 23 rfl rfl (fun _ => (Gives.field rfl)) (by kernel_rfl) ?_ | refine FGp hok30 23 rfl rfl (fun _ => (Gives.fieldA rfl)) (by kernel_rfl) ?_
        refine FGstore hok30 24 [] H3 (h := fun w53 H53 => ⟨Stab_nil, ?_⟩)
        refine FG_end hok30 (by kernel_rfl) ?_
        refine Qblk_normal (Qseq_normal ?_)
        refine FW_region ?_
        refine FL_move (h := ?_)
        first | refine FL_val (Gives.addI rfl rfl rfl (by omega)) rfl ?_ | refine FL_val (Gives.add rfl rfl) rfl ?_
        refine FL_assign (h := ?_)
        refine FL_nil ?_
        first
          | (refine Qround_normal (k + 1, .slice Az (setK kept2 fills an m.opn[i].2).length cz, setK kept2 fills an m.opn[i].2, fills.reverse ++ pool2) ⟨rfl, rfl, rfl, rfl, trivial⟩ ⟨by dsimp only; omega, ok_set hok2 hmem han hz.1 hz.2, ?_, ?_⟩ (by dsimp only; omega)
             · dsimp only
               rw [kf_set hz.2 (by omega), ← han, hkf2, contains_take hkt, show (keep[k] == (i : Int)) = true from by simpa using hki, Bool.or_true, if_pos rfl]
               split
               · exact setT_same _ _ _
               · rfl
             · have H4 := Sep.poolJoin H53.front6.front2
               have e : poolOf fills.reverse ++ poolOf pool2 = poolOf (fills.reverse ++ pool2) := (List.map_append).symm
               rw [e] at H4
               exact H4.front3.drop0.front4.front4.front3.front4)
          | exact Qround_normal (k + 1, .slice Ak2 kept2.length ck2, kept2, pool2) ⟨rfl, rfl, rfl, rfl, trivial⟩ ⟨by dsimp only; omega, hok2, by
              dsimp only
              rw [contains_take hkt, show (keep[k] == (i : Int)) = false from by simpa using hki, Bool.or_false]
              exact hkf2, H53⟩ (by dsimp only; omega)
      · skip
        have hki := hc28
        refine FW_skip (Qblk_normal (Qseq_normal ?_))
        refine FW_region ?_
        refine FL_move (h := ?_)
        first | refine FL_val (Gives.addI rfl rfl rfl (by omega)) rfl ?_ | refine FL_val (Gives.add rfl rfl) rfl ?_
        refine FL_assign (h := ?_)
        refine FL_nil ?_
        first
          | (refine Qround_normal (k + 1, .slice Az (setK kept2 fills an m.opn[i].2).length cz, setK kept2 fills an m.opn[i].2, fills.reverse ++ pool2) ⟨rfl, rfl, rfl, rfl, trivial⟩ ⟨by dsimp only; omega, ok_set hok2 hmem han hz.1 hz.2, ?_, ?_⟩ (by dsimp only; omega)
             · dsimp only
               rw [kf_set hz.2 (by omega), ← han, hkf2, contains_take hkt, show (keep[k] == (i : Int)) = true from by simpa using hki, Bool.or_true, if_pos rfl]
               split
               · exact setT_same _ _ _
               · rfl
             · have H4 := Sep.poolJoin H15.front6.front2
               have e : poolOf fills.reverse ++ poolOf pool2 = poolOf (fills.reverse ++ pool2) := (List.map_append).symm
               rw [e] at H4
               exact H4.front3.drop0.front4.front4.front3.front4)
          | exact Qround_normal (k + 1, .slice Ak2 kept2.length ck2, kept2, pool2) ⟨rfl, rfl, rfl, rfl, trivial⟩ ⟨by dsimp only; omega, hok2, by
              dsimp only
              rw [contains_take hkt, show (keep[k] == (i : Int)) = false from by simpa using hki, Bool.or_false]
              exact hkf2, H15⟩ (by dsimp only; omega)
    · skip
      have hke : k = keep.length := by omega
      subst hke
      rw [List.take_length, ← opsR_snoc hlt] at hkf2
      refine FW_exit (Qseq_exit (Qround_exit (Qblk_exit (Qblk_normal (Qseq_normal ?_)))))
      refine FW_region ?_
      refine FL_move (h := ?_)
      first | refine FL_val (Gives.addI rfl rfl rfl (by omega)) rfl ?_ | refine FL_val (Gives.add rfl rfl) rfl ?_
      refine FL_assign (h := ?_)
      refine FL_nil ?_
      exact Qround_normal (i + 1, .slice Ak2 kept2.length ck2, kept2, pool2) ⟨rfl, rfl, rfl, trivial⟩ ⟨by dsimp only; omega, hok2, hkf2, H15⟩ (by dsimp only; omega)
  · skip
    have hie : i = m.opn.length := by omega
    subst hie
    rw [List.take_length] at hkf1
    refine FW_exit (Qseq_exit (Qround_exit (Qblk_exit (Qseq_normal ?_))))
    refine FW_seq ?_
    refine FW_region ?_
    refine FL_move (h := ?_)
    refine FL_val (Gives.nilCheck rfl) rfl ?_
    first | refine FL_val (Gives.field0 rfl) rfl ?_ | refine FL_val (Gives.field rfl) rfl ?_ | refine FL_val (Gives.fieldA rfl) rfl ?_
    refine FL_store H3 (h := ?_)
    intro w73 H73
    refine FL_nil (Qseq_normal ?_)
    refine FW_seq ?_
    refine FW_region ?_
    refine FL_move (h := ?_)
    refine FL_val (Gives.nilCheck rfl) rfl ?_
    first | refine FL_val (Gives.field0 rfl) rfl ?_ | refine FL_val (Gives.field rfl) rfl ?_ | refine FL_val (Gives.fieldA rfl) rfl ?_
    refine FL_store H73 (h := ?_)
    intro w78 H78
    refine FL_nil (Qseq_normal ?_)
    refine FW_seq ?_
    refine FW_region ?_
    refine FL_move (h := ?_)
    refine FL_val (Gives.nilCheck rfl) rfl ?_
    first | refine FL_val (Gives.field0 rfl) rfl ?_ | refine FL_val (Gives.field rfl) rfl ?_ | refine FL_val (Gives.fieldA rfl) rfl ?_
    refine FL_store H78 (h := ?_)
    intro w83 H83
    refine FL_nil (Qseq_normal ?_)
    refine FW_region ?_
    refine FL_move (h := ?_)
    refine FL_val (Gives.nilCheck rfl) rfl ?_
    first | refine FL_val (Gives.field0 rfl) rfl ?_ | refine FL_val (Gives.field rfl) rfl ?_ | refine FL_val (Gives.fieldA rfl) rfl ?_
    refine FL_store H83 (h := ?_)
    intro w88 H88
    refine FL_nil (Qfn_normal (hR := ?_))
    have H5 := ((H88.nilRow 3 1).nilRow 108 2).front4.drop0.front4.drop0.front3.front3
    have e : RM.abs { m with kept := kept1, opn := [], dead := true, left := 0, keep := [] } = m.abs.fall keep := by
      unfold RM.abs AM.fall
      dsimp only
      rw [hkf1]
      rfl
    have H6 := Sep.shutA (Sep.shutRef (m := { m with kept := kept1, opn := [], dead := true, left := 0, keep := [] }) ⟨hok1.kept, fun _ h => (by cases h), hok1.len, fun _ h => (by cases h), hok1.many, hok1.klen⟩ H5)
    rw [e] at H6
    exact ⟨rfl, H6.turn⟩
end
end Go.Proofs.Yteflbohpabdjkaa
