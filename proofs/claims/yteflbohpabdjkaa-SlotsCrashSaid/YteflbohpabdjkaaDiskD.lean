/-
  The disk falls: the range over what stays, walked.
-/
import Derived.Test.YteflbohpabdjkaaDiskC
namespace Go.Proofs.Yteflbohpabdjkaa
open Go Go.Mw
set_option maxRecDepth 4000

/-- The open writes whose numbers, from i on, are kept. -/
def keptL (keep : List Int) : Nat → List (Int × List UInt8) → List (Int × List UInt8)
  | _, [] => []
  | i, x :: l => if keep.contains (i : Int) then x :: keptL keep (i + 1) l else keptL keep (i + 1) l
theorem keptL_append (keep : List Int) : ∀ (i : Nat) (a b : List (Int × List UInt8)), keptL keep i (a ++ b) = keptL keep i a ++ keptL keep (i + a.length) b
  | i, [], b => by simp [keptL]
  | i, x :: a, b => by
    have e : i + 1 + a.length = i + (x :: a).length := by simp only [List.length_cons]; omega
    simp only [List.cons_append, keptL, keptL_append keep (i + 1) a b, e]
    split <;> simp
theorem keptBy_eq (keep : List Int) : ∀ (i : Nat) (l : List (Int × List UInt8)) (f : Int → Option (List UInt8)), keptBy keep i l f = DM.keptAll (keptL keep i l) f
  | _, [], _ => rfl
  | i, x :: l, f => by
    simp only [keptBy, keptL]
    split
    · rw [keptBy_eq keep (i + 1) l]; rfl
    · exact keptBy_eq keep (i + 1) l f
theorem keptAll_append : ∀ (a b : List (Int × List UInt8)) (f : Int → Option (List UInt8)), DM.keptAll (a ++ b) f = DM.keptAll b (DM.keptAll a f)
  | [], _, _ => rfl
  | x :: a, b, f => keptAll_append a b (setAt f x.1 x.2)
theorem dmap_set (f : Int → Option (List UInt8)) (k : Int) (b : List UInt8) : (fun j => if j = k then some (blkV b) else dmap f j) = dmap (setAt f k b) := by
  funext j
  unfold dmap setAt
  split <;> simp
def oneOpen (x : Int × List UInt8) : List Value := I x.1 :: x.2.map B
theorem openCells_get (l : List (Int × List UInt8)) (hl : ∀ x ∈ l, x.2.length = 128) (i : Nat) (hi : i < l.length) (j : Nat) (v : Value) (hv : (oneOpen l[i])[j]? = some v) : (openCells l)[i * 129 + j]? = some v := by
  induction l generalizing i with
  | nil => simp at hi
  | cons x l ih =>
    have hx : (oneOpen x).length = 129 := by simp [oneOpen, hl x List.mem_cons_self]
    have e : openCells (x :: l) = oneOpen x ++ openCells l := by simp [openCells, oneOpen]
    rw [e]
    cases i with
    | zero =>
      have hj : j < (oneOpen x).length := (List.getElem?_eq_some_iff.1 hv).1
      rw [Nat.zero_mul, Nat.zero_add, List.getElem?_append_left hj]; exact hv
    | succ i =>
      rw [List.getElem?_append_right (by rw [hx, Nat.add_mul]; omega)]
      have : (i + 1) * 129 + j - (oneOpen x).length = i * 129 + j := by rw [hx, Nat.add_mul]; omega
      rw [this]
      exact ih (fun y hy => hl y (List.mem_cons_of_mem _ hy)) i (by simpa using hi) hv

section
variable {w w₀ : World} {S : Nat → Prop} {rs : List HP}
theorem stay_ok (p : Nat) (v : Value) : Rets Try.prog 85 [.pointer (some ⟨p, 0, none⟩), v] w fun u w' => ∃ x : Nat × Nat, u = .func (.func 88) #[] #[.pointer (some ⟨x.1, 0, none⟩), .pointer (some ⟨x.2, 0, none⟩)] ∧ True ∧ Turn noB (starL [blk x.1 [.pointer (some ⟨p, 0, none⟩)] 25, blk x.2 v.cells.toList 23]) w w' := by
  have H := Sep.start0 w
  refine rets2 Try.func85 rfl rfl rfl rfl ?_
  refine FW_seq ?_
  refine FW_region ?_
  refine FL_box H (h := ?_)
  intro b1 w2 H2 k1
  refine FL_box H2 (cs := v.cells.toList) (hcs := by simp) (h := ?_)
  intro b3 w4 H4 k3
  refine FL_assign (h := ?_)
  refine FL_nil (Qseq_normal ?_)
  refine FW_seq ?_
  refine FW_region ?_
  refine FL_val (Gives.makeFunc rfl rfl) rfl ?_
  refine FL_assign (h := ?_)
  refine FL_nil (Qseq_normal ?_)
  refine FW_ret (Qfn_ret (hR := ?_))
  exact ⟨(_, _), rfl, trivial, (Sep.bundle (rs := []) (Sep.front1 H4)).turn⟩
/-- What the walk of the range holds: the disk, with what has been kept so far, and three variables. -/
def rangeJ (p : Nat) (d : DM) (bk bn : Nat) (vo vk : Value) (b2 b3 b0 : Nat) (ka : Value) (pre : List (Int × List UInt8)) : List HP :=
  [blk b2 [.pointer (some ⟨p, 0, none⟩)] 25, blk b3 [ka] 23, blk b0 [.pointer (some ⟨p, 0, none⟩)] 25, blk p (diskCells d bk bn vo vk) 64, mapI bk (dmap (DM.keptAll pre d.kept)), mapI bn (dmap d.now), rowH 101 129 vo d.opn.length (openCells d.opn), rowH 3 1 vk d.keep.length (d.keep.map I)]
def opV (x : Int × List UInt8) : Value := .agg (oneOpen x).toArray
theorem keptL_take {keep : List Int} {l : List (Int × List UInt8)} {i : Nat} (h : i < l.length) : keptL keep 0 (l.take (i + 1)) = keptL keep 0 (l.take i) ++ if keep.contains (i : Int) then [l[i]] else [] := by
  rw [List.take_succ_eq_append_getElem h, keptL_append]
  congr 1
  simp only [keptL, Nat.zero_add, List.length_take, Nat.min_eq_left (Nat.le_of_lt h)]
theorem keptL_pre {keep : List Int} {l : List (Int × List UInt8)} {i : Nat} (h : i < l.length) (hc : keep.contains (i : Int) = true) : keptL keep 0 (l.take i) ++ [l[i]] <+: keptL keep 0 l := by
  have h1 := keptL_take (keep := keep) h
  rw [if_pos hc] at h1
  rw [← h1]
  have h2 := keptL_append keep 0 (l.take (i + 1)) (l.drop (i + 1))
  rw [List.take_append_drop] at h2
  rw [h2]
  exact List.prefix_append _ _
theorem keptL_mem {keep : List Int} {x : Int × List UInt8} : ∀ {i : Nat} {l : List (Int × List UInt8)}, x ∈ keptL keep i l → x ∈ l
  | _, [], h => h
  | i, y :: l, h => by
    simp only [keptL] at h
    split at h
    · rcases List.mem_cons.1 h with rfl | h
      · exact List.mem_cons_self
      · exact List.mem_cons_of_mem _ (keptL_mem h)
    · exact List.mem_cons_of_mem _ (keptL_mem h)
theorem oneOpen_one (x : Int × List UInt8) : ∀ u ∈ oneOpen x, u.oneCell' = true := by
  intro u hu
  rcases List.mem_cons.1 hu with rfl | h
  · rfl
  · obtain ⟨b, _, rfl⟩ := List.mem_map.1 h; rfl
theorem storeN_all {cs us : List Value} (h : us.length = cs.length) : cs.take 0 ++ us ++ cs.drop (0 + us.length) = us := by
  rw [List.take_zero, List.nil_append, Nat.zero_add, h, List.drop_length, List.append_nil]
theorem stay1_ok {p : Nat} {d : DM} {bk bn : Nat} {vo vk : Value} {b2 b3 b0 : Nat} {A : Option Addr} {c : Nat} {keep : List Int} (hwf : d.wf) (hfit : d.opn.length ≤ 1000000000000) (hkl : keep.length ≤ 1000000000000)
    (hst : ∀ w' l1 l2, Sep w₀ S (l1 ++ rowH 3 1 vk d.keep.length (d.keep.map I) :: l2) w' → RowAt w' A keep.length 1 (keep.map I)) (l D : Nat) (ro : Obj)
    (H : Sep w₀ S (obj l ro :: obj D (.deferred (some [])) :: rangeJ p d bk bn vo vk b2 b3 b0 (.slice A keep.length c) []) w)
    (hy : ∀ (pre : List (Int × List UInt8)) (x : Int × List UInt8) (W : World), pre ++ [x] <+: keptL keep 0 d.opn → Sep w₀ S (obj l ro :: obj D (.deferred (some [])) :: rangeJ p d bk bn vo vk b2 b3 b0 (.slice A keep.length c) pre) W → YieldOk Try.prog l [opV x] W fun W' => Sep w₀ S (obj l ro :: obj D (.deferred (some [])) :: rangeJ p d bk bn vo vk b2 b3 b0 (.slice A keep.length c) (pre ++ [x])) W') :
    Rets Try.prog 88 [.func (.yield l) #[] #[], .pointer (some ⟨b2, 0, none⟩), .pointer (some ⟨b3, 0, none⟩)] w fun _ W' => Sep w₀ S (obj l ro :: obj D (.deferred (some [])) :: rangeJ p d bk bn vo vk b2 b3 b0 (.slice A keep.length c) (keptL keep 0 d.opn)) W' := by
  obtain ⟨Ao, co, hvo, hco, hlo, hno⟩ := H.rowForm (put := _) (At8 (a := obj l ro))
  subst hvo
  refine rets3 Try.func88 rfl rfl rfl rfl ?_
  refine FW_seq ?_
  refine FW_region ?_
  refine FL_load H (h := ?_)
  refine FL_val (Gives.nilCheck rfl) rfl ?_
  first | refine FL_val (Gives.field0 rfl) rfl ?_ | refine FL_val (Gives.field rfl) rfl ?_ | refine FL_val (Gives.fieldA rfl) rfl ?_
  refine FL_load H (h := ?_)
  refine FL_val (Gives.lenSlice rfl) rfl ?_
  refine FL_move (h := ?_)
  refine FL_nil (Qseq_normal ?_)
  refine FW_block ?_
  refine FW_loop' (fun i : Nat => [(0, .func (.yield l) #[] #[]), (2, .pointer (some ⟨b3, 0, none⟩)), (9, .slice Ao d.opn.length co), (10, I d.opn.length), (11, I i)])
    (fun i w' => i ≤ d.opn.length ∧ Sep w₀ S (obj l ro :: obj D (.deferred (some [])) :: rangeJ p d bk bn (.slice Ao d.opn.length co) vk b2 b3 b0 (.slice A keep.length c) (keptL keep 0 (d.opn.take i))) w') (fun i _ => d.opn.length - i) 0 ⟨rfl, rfl, rfl, rfl, rfl, trivial⟩ ⟨Nat.zero_le _, H⟩ (fun x τ w8 hI => ?_)
  obtain ⟨hx, H8⟩ := hI
  try simp only [upds, like, upd_ds, und_ds]
  refine FW_seq ?_
  refine FW_region ?_
  refine FL_val (Gives.lss rfl rfl) rfl ?_
  refine FL_nil (Qseq_normal ?_)
  refine FW_seq ?_
  first | refine FW_condP rfl (fun hc10 => ?_) (fun hc10 => ?_) | refine FW_cond rfl (fun hc10 => ?_) (fun hc10 => ?_)
  · skip
    have hlt : x < d.opn.length := by omega
    have hr := Sep.rowAt H8 At8
    obtain ⟨ad, hA, hcell⟩ := hr.at_ (by omega)
    subst hA
    have hlen : (oneOpen d.opn[x]).length = 129 := by simp [oneOpen, hwf.2.2.2.2 _ (List.getElem_mem hlt)]
    refine FW_skip (Qseq_normal ?_)
    refine FW_seq ?_
    refine FW_block ?_
    refine FW_seq ?_
    refine FW_region ?_
    refine FL_move (h := ?_)
    refine FL_val (Gives.idx rfl rfl hlt) rfl ?_
    refine FL_loadCN (us := oneOpen d.opn[x]) (fun j u hj => by rw [add_add]; exact hcell _ _ (openCells_get d.opn hwf.2.2.2.2 x hlt j u hj)) (hk := hlen) (h := ?_)
    refine FL_alloc H8 (h := ?_)
    intro b15 w16 H16 k15
    refine FL_assign (h := ?_)
    refine FL_storeN (us := oneOpen d.opn[x]) H16 (hk := hlen) (hv := oneOpen_one _) (ho := by rw [hlen]; decide) (hs := storeN_all (by rw [hlen]; rfl)) (h := ?_)
    intro w19 H19
    refine FL_nil (Qseq_normal ?_)
    refine FW_seq ?_
    refine FW_region ?_
    refine FL_load H19 (h := ?_)
    refine FL_move (h := ?_)
    refine FL_callS (contains_ok (hst _ [_, _, _, _, _, _, _, _, _, _] _ H19) (by omega) x) (h := ?_)
    refine FL_move (h := ?_)
    first | refine FL_splitP (t := 19) rfl (fun hs24 => ?_) (fun hs24 => ?_) | refine FL_split (t := 19) rfl (fun hs24 => ?_) (fun hs24 => ?_)
    · skip
      have hcon := hs24
      refine FL_on rfl rfl ?_
      refine FL_move (h := ?_)
      refine FL_on rfl rfl ?_
      refine FL_loadN (cs := oneOpen d.opn[x]) (us := oneOpen d.opn[x]) (o := 0) H19 (hu := by rw [List.drop_zero]; exact List.take_of_length_le (Nat.le_of_eq hlen)) (hk := hlen) (h := ?_)
      refine FL_on rfl rfl ?_
      refine FL_yield rfl (hy _ _ _ (keptL_pre hlt hcon) H19.drop0) rfl rfl (fun w29 H29 => ?_)
      refine FL_on rfl rfl ?_
      first | refine FL_val (Gives.notP rfl) rfl ?_ | refine FL_val (Gives.not rfl) rfl ?_
      refine FL_pickT (h := ?_)
      refine FL_nil (Qseq_normal ?_)
      first | refine FW_condP rfl (fun hc32 => ?_) (fun hc32 => ?_) | refine FW_cond rfl (fun hc32 => ?_) (fun hc32 => ?_)
      · skip
        cases hc32 --done
      · skip
        refine FW_skip (Qblk_normal (Qseq_normal ?_))
        refine FW_region ?_
        first | refine FL_val (Gives.addI rfl rfl rfl (by omega)) rfl ?_ | refine FL_val (Gives.add rfl rfl) rfl ?_
        refine FL_move (h := ?_)
        refine FL_nil ?_
        refine Qround_normal (x + 1) ⟨rfl, rfl, rfl, rfl, rfl, trivial⟩ ⟨by omega, ?_⟩ (by omega)
        rw [keptL_take hlt, hcon]
        first | exact H29 | (simp only [Bool.false_eq_true, if_false, List.append_nil]; exact H29.drop0)
    · skip
      have hcon := hs24
      refine FL_off rfl rfl rfl ?_
      refine FL_off rfl rfl rfl ?_
      refine FL_off rfl rfl rfl ?_
      refine FL_off rfl rfl rfl ?_
      refine FL_pickF (h := ?_)
      refine FL_nil (Qseq_normal ?_)
      refine FW_cond_false rfl ?_
      refine FW_skip (Qblk_normal (Qseq_normal ?_))
      refine FW_region ?_
      first | refine FL_val (Gives.addI rfl rfl rfl (by omega)) rfl ?_ | refine FL_val (Gives.add rfl rfl) rfl ?_
      refine FL_move (h := ?_)
      refine FL_nil ?_
      refine Qround_normal (x + 1) ⟨rfl, rfl, rfl, rfl, rfl, trivial⟩ ⟨by omega, ?_⟩ (by omega)
      rw [keptL_take hlt, hcon]
      first | exact H19 | (simp only [Bool.false_eq_true, if_false, List.append_nil]; exact H19.drop0)
  · skip
    have hx : x = d.opn.length := by omega
    subst hx
    rw [List.take_length] at H8
    refine FW_exit (Qseq_exit (Qround_exit (Qblk_exit (Qfn_normal (hR := ?_)))))
    exact H8
end
end Go.Proofs.Yteflbohpabdjkaa
