/-
  A disk that is none: no disk at all, or the zero one.
-/
import Derived.Test.YteflbohpabdjkaaDiskT
import Derived.Test.YteflbohpabdjkaaMwC
import Derived.Test.YteflbohpabdjkaaPlayD
namespace Go.Proofs.Yteflbohpabdjkaa
open Go Go.Mw
set_option maxRecDepth 4000

def NoDisk (w : World) (v : Value) : Prop := v = .pointer none ∨ ∃ (p : Nat) (cs : List Value), v = .pointer (some ⟨p, 0, none⟩) ∧ w.heap[p]? = some (.cells cs.toArray 64 (0, 0)) ∧ cs[0]? = some (I 0)
section
variable {w : World} {u : Value}
theorem none_zero {p : Nat} {cs : List Value} (hb : w.heap[p]? = some (.cells cs.toArray 64 (0, 0))) (hc : cs[0]? = some (I 0)) :
    Rets Try.prog 62 [.pointer (some ⟨p, 0, none⟩)] w fun v w' => v = .bool true ∧ w = w' := by
  refine rets1 Try.func62 rfl rfl rfl rfl ?_
  refine FW_seq ?_
  refine FW_region ?_
  refine FL_assign (h := ?_)
  refine FL_nil (Qseq_normal ?_)
  refine FW_seq ?_
  refine FW_region ?_
  refine FL_move (h := ?_)
  refine FL_val (Gives.eqlNil rfl rfl) rfl ?_
  refine FL_move (h := ?_)
  first | refine FL_splitP (t := 5) rfl (fun hs5 => ?_) (fun hs5 => ?_) | refine FL_split (t := 5) rfl (fun hs5 => ?_) (fun hs5 => ?_)
  · skip
    simp at hs5 --done
  · skip
    refine FL_on rfl rfl ?_
    refine FL_move (h := ?_)
    refine FL_on rfl rfl ?_
    refine FL_val (Gives.nilCheck rfl) rfl ?_
    refine FL_on rfl rfl ?_
    first | refine FL_val (Gives.field0 rfl) rfl ?_ | refine FL_val (Gives.field rfl) rfl ?_ | refine FL_val (Gives.fieldA rfl) rfl ?_
    refine FL_on rfl rfl ?_
    refine FL_val (Gives.load1 rfl hb hc) rfl ?_
    refine FL_on rfl rfl ?_
    refine FL_val (Gives.eql rfl rfl) rfl ?_
    refine FL_pickF (h := ?_)
    refine FL_assign (h := ?_)
    refine FL_nil (Qseq_normal ?_)
    refine FW_ret (Qfn_ret (hR := ?_))
    exact ⟨rfl, rfl⟩
theorem NoDisk.none (h : NoDisk w u) : Rets Try.prog 62 [u] w fun v w' => v = .bool true ∧ w = w' := by
  rcases h with rfl | ⟨p, cs, rfl, hb, hc⟩
  · exact none_nil
  · exact none_zero hb hc
theorem NoDisk.look (h : NoDisk w u) (at_ : Int) : Rets Try.prog 64 [u, I at_] w fun v w' => v = I 1 ∧ w = w' := by
  refine rets2 Try.func64 rfl rfl rfl rfl ?_
  refine FW_seq ?_
  refine FW_region ?_
  refine FL_assign (h := ?_)
  refine FL_nil (Qseq_normal ?_)
  refine FW_seq ?_
  refine FW_block ?_
  refine FW_seq ?_
  refine FW_region ?_
  refine FL_move (h := ?_)
  refine FL_callS h.none (h := ?_)
  refine FL_assign (h := ?_)
  refine FL_nil (Qseq_normal ?_)
  first | refine FW_condP rfl (fun hc5 => ?_) (fun hc5 => ?_) | refine FW_cond rfl (fun hc5 => ?_) (fun hc5 => ?_)
  · skip
    refine FW_seq ?_
    refine FW_region ?_
    refine FL_assign (h := ?_)
    refine FL_nil (Qseq_normal ?_)
    refine FW_ret (Qblk_ret (Qseq_ret (Qfn_ret (hR := ?_))))
    exact ⟨rfl, rfl⟩
  · skip
    first | exact absurd rfl hc5 | exact (hc5 trivial).elim | exact absurd hc5 (by decide) | exact absurd hc5 (by simp) | omega --done
theorem NoDisk.size (h : NoDisk w u) : Rets Try.prog 45 [u] w fun v w' => v = I 0 ∧ w = w' := by
  refine rets1 Try.func45 rfl rfl rfl rfl ?_
  refine FW_seq ?_
  refine FW_region ?_
  refine FL_assign (h := ?_)
  refine FL_nil (Qseq_normal ?_)
  refine FW_seq ?_
  refine FW_seq ?_
  refine FW_region ?_
  refine FL_move (h := ?_)
  refine FL_callS h.none (h := ?_)
  refine FL_nil (Qseq_normal ?_)
  first | refine FW_condP rfl (fun hc4 => ?_) (fun hc4 => ?_) | refine FW_cond rfl (fun hc4 => ?_) (fun hc4 => ?_)
  · skip
    refine FW_seq ?_
    refine FW_region ?_
    refine FL_assign (h := ?_)
    refine FL_nil (Qseq_normal ?_)
    refine FW_ret (Qseq_ret (Qfn_ret (hR := ?_)))
    exact ⟨rfl, rfl⟩
  · skip
    first | exact absurd rfl hc4 | exact (hc4 trivial).elim | exact absurd hc4 (by decide) | exact absurd hc4 (by simp) | omega --done
theorem NoDisk.ops (h : NoDisk w u) : Rets Try.prog 30 [u] w fun v w' => v = I 0 ∧ w = w' := by
  refine rets1 Try.func30 rfl rfl rfl rfl ?_
  refine FW_seq ?_
  refine FW_region ?_
  refine FL_assign (h := ?_)
  refine FL_nil (Qseq_normal ?_)
  refine FW_seq ?_
  refine FW_seq ?_
  refine FW_region ?_
  refine FL_move (h := ?_)
  refine FL_callS h.none (h := ?_)
  refine FL_nil (Qseq_normal ?_)
  first | refine FW_condP rfl (fun hc4 => ?_) (fun hc4 => ?_) | refine FW_cond rfl (fun hc4 => ?_) (fun hc4 => ?_)
  · skip
    refine FW_seq ?_
    refine FW_region ?_
    refine FL_assign (h := ?_)
    refine FL_nil (Qseq_normal ?_)
    refine FW_ret (Qseq_ret (Qfn_ret (hR := ?_)))
    exact ⟨rfl, rfl⟩
  · skip
    first | exact absurd rfl hc4 | exact (hc4 trivial).elim | exact absurd hc4 (by decide) | exact absurd hc4 (by simp) | omega --done
theorem NoDisk.alive (h : NoDisk w u) : Rets Try.prog 29 [u] w fun v w' => v = .bool false ∧ w = w' := by
  refine rets1 Try.func29 rfl rfl rfl rfl ?_
  refine FW_seq ?_
  refine FW_region ?_
  refine FL_assign (h := ?_)
  refine FL_nil (Qseq_normal ?_)
  refine FW_seq ?_
  refine FW_region ?_
  refine FL_move (h := ?_)
  refine FL_callS h.none (h := ?_)
  first | refine FL_val (Gives.notP rfl) rfl ?_ | refine FL_val (Gives.not rfl) rfl ?_
  refine FL_move (h := ?_)
  first | refine FL_splitP (t := 6) rfl (fun hs6 => ?_) (fun hs6 => ?_) | refine FL_split (t := 6) rfl (fun hs6 => ?_) (fun hs6 => ?_)
  · skip
    first | exact absurd rfl hs6 | exact (hs6 trivial).elim | exact absurd hs6 (by decide) | exact absurd hs6 (by simp) | omega --done
  · skip
    refine FL_off rfl rfl rfl ?_
    refine FL_off rfl rfl rfl ?_
    refine FL_off rfl rfl rfl ?_
    refine FL_off rfl rfl rfl ?_
    refine FL_off rfl rfl rfl ?_
    refine FL_pickF (h := ?_)
    refine FL_assign (h := ?_)
    refine FL_nil (Qseq_normal ?_)
    refine FW_ret (Qfn_ret (hR := ?_))
    exact ⟨rfl, rfl⟩
theorem NoDisk.boot (h : NoDisk w u) : Rets Try.prog 21 [u] w fun v w' => v = .tuple #[] ∧ w = w' := by
  refine rets1 Try.func21 rfl rfl rfl rfl ?_
  refine FW_seq ?_
  refine FW_region ?_
  refine FL_move (h := ?_)
  refine FL_callS h.none (h := ?_)
  first | refine FL_val (Gives.notP rfl) rfl ?_ | refine FL_val (Gives.not rfl) rfl ?_
  refine FL_nil (Qseq_normal ?_)
  first | refine FW_condP rfl (fun hc4 => ?_) (fun hc4 => ?_) | refine FW_cond rfl (fun hc4 => ?_) (fun hc4 => ?_)
  · skip
    first | exact absurd rfl hc4 | exact (hc4 trivial).elim | exact absurd hc4 (by decide) | exact absurd hc4 (by simp) | omega --done
  · skip
    refine FW_skip (Qfn_normal (hR := ?_))
    exact ⟨rfl, rfl⟩
theorem NoDisk.fail (h : NoDisk w u) (n x : Value) : Rets Try.prog 27 [u, n, x] w fun v w' => v = .tuple #[] ∧ w = w' := by
  refine rets3 Try.func27 rfl rfl rfl rfl ?_
  refine FW_seq ?_
  refine FW_seq ?_
  refine FW_region ?_
  refine FL_move (h := ?_)
  refine FL_callS h.none (h := ?_)
  refine FL_move (h := ?_)
  first | refine FL_splitP (t := 8) rfl (fun hs4 => ?_) (fun hs4 => ?_) | refine FL_split (t := 8) rfl (fun hs4 => ?_) (fun hs4 => ?_)
  · skip
    refine FL_off rfl rfl rfl ?_
    refine FL_off rfl rfl rfl ?_
    refine FL_off rfl rfl rfl ?_
    refine FL_off rfl rfl rfl ?_
    refine FL_pickT (h := ?_)
    refine FL_nil (Qseq_normal ?_)
    refine FW_cond_true rfl ?_
    refine FW_ret (Qseq_ret (Qfn_ret (hR := ?_)))
    exact ⟨rfl, rfl⟩
  · skip
    first | exact absurd rfl hs4 | exact (hs4 trivial).elim | exact absurd hs4 (by decide) | exact absurd hs4 (by simp) | omega --done
theorem NoDisk.crash (h : NoDisk w u) (x : Value) : Rets Try.prog 20 [u, x] w fun v w' => v = .tuple #[] ∧ w = w' := by
  refine rets2 Try.func20 rfl rfl rfl rfl ?_
  refine FW_seq ?_
  refine FW_region ?_
  refine FL_move (h := ?_)
  refine FL_callS h.none (h := ?_)
  first | refine FL_val (Gives.notP rfl) rfl ?_ | refine FL_val (Gives.not rfl) rfl ?_
  refine FL_move (h := ?_)
  first | refine FL_splitP (t := 7) rfl (fun hs5 => ?_) (fun hs5 => ?_) | refine FL_split (t := 7) rfl (fun hs5 => ?_) (fun hs5 => ?_)
  · skip
    first | exact absurd rfl hs5 | exact (hs5 trivial).elim | exact absurd hs5 (by decide) | exact absurd hs5 (by simp) | omega --done
  · skip
    refine FL_off rfl rfl rfl ?_
    refine FL_off rfl rfl rfl ?_
    refine FL_off rfl rfl rfl ?_
    refine FL_off rfl rfl rfl ?_
    refine FL_off rfl rfl rfl ?_
    refine FL_pickF (h := ?_)
    refine FL_nil (Qseq_normal ?_)
    refine FW_cond_false rfl ?_
    refine FW_skip (Qfn_normal (hR := ?_))
    exact ⟨rfl, rfl⟩
theorem NoDisk.copy (h : NoDisk w u) : Rets Try.prog 31 [u] w fun v w' => v = .pointer Option.none ∧ w = w' := by
  refine rets1 Try.func31 rfl rfl rfl rfl ?_
  refine FW_seq ?_
  refine FW_region ?_
  refine FL_assign (h := ?_)
  refine FL_nil (Qseq_normal ?_)
  refine FW_seq ?_
  refine FW_seq ?_
  refine FW_region ?_
  refine FL_move (h := ?_)
  refine FL_callS h.none (h := ?_)
  refine FL_nil (Qseq_normal ?_)
  first | refine FW_condP rfl (fun hc4 => ?_) (fun hc4 => ?_) | refine FW_cond rfl (fun hc4 => ?_) (fun hc4 => ?_)
  · skip
    refine FW_seq ?_
    refine FW_region ?_
    refine FL_assign (h := ?_)
    refine FL_nil (Qseq_normal ?_)
    refine FW_ret (Qseq_ret (Qfn_ret (hR := ?_)))
    exact ⟨rfl, rfl⟩
  · skip
    first | exact absurd rfl hc4 | exact (hc4 trivial).elim | exact absurd hc4 (by decide) | exact absurd hc4 (by simp) | omega --done
theorem NoDisk.read (h : NoDisk w u) (at_ : Int) : Rets Try.prog 37 [u, I at_] w fun v w' => v = .tuple #[.slice Option.none 0 0, I 1] ∧ w = w' := by
  refine rets2 Try.func37 rfl rfl rfl rfl ?_
  refine FW_seq ?_
  refine FW_region ?_
  refine FL_assign (h := ?_)
  refine FL_assign (h := ?_)
  refine FL_nil (Qseq_normal ?_)
  refine FW_seq ?_
  refine FW_seq ?_
  refine FW_region ?_
  refine FL_move (h := ?_)
  refine FL_move (h := ?_)
  refine FL_callS (h.look at_) (h := ?_)
  refine FL_assign (h := ?_)
  refine FL_nil (Qseq_normal ?_)
  refine FW_seq ?_
  refine FW_region ?_
  refine FL_move (h := ?_)
  refine FL_val (Gives.neq rfl rfl) rfl ?_
  refine FL_nil (Qseq_normal ?_)
  first | refine FW_condP rfl (fun hc9 => ?_) (fun hc9 => ?_) | refine FW_cond rfl (fun hc9 => ?_) (fun hc9 => ?_)
  · skip
    refine FW_seq ?_
    refine FW_region ?_
    refine FL_move (h := ?_)
    refine FL_assign (h := ?_)
    refine FL_assign (h := ?_)
    refine FL_nil (Qseq_normal ?_)
    refine FW_ret (Qseq_ret (Qfn_ret (hR := ?_)))
    exact ⟨rfl, rfl⟩
  · skip
    first | exact absurd rfl hc9 | exact (hc9 trivial).elim | exact absurd hc9 (by decide) | exact absurd hc9 (by simp) | omega --done
theorem NoDisk.write (h : NoDisk w u) (at_ : Int) (x : Value) : Rets Try.prog 24 [u, I at_, x] w fun v w' => v = I 1 ∧ w = w' := by
  refine rets3 Try.func24 rfl rfl rfl rfl ?_
  refine FW_seq ?_
  refine FW_region ?_
  refine FL_assign (h := ?_)
  refine FL_nil (Qseq_normal ?_)
  refine FW_seq ?_
  refine FW_seq ?_
  refine FW_region ?_
  refine FL_move (h := ?_)
  refine FL_move (h := ?_)
  refine FL_callS (h.look at_) (h := ?_)
  refine FL_assign (h := ?_)
  refine FL_nil (Qseq_normal ?_)
  refine FW_seq ?_
  refine FW_region ?_
  refine FL_move (h := ?_)
  refine FL_val (Gives.neq rfl rfl) rfl ?_
  refine FL_nil (Qseq_normal ?_)
  first | refine FW_condP rfl (fun hc8 => ?_) (fun hc8 => ?_) | refine FW_cond rfl (fun hc8 => ?_) (fun hc8 => ?_)
  · skip
    refine FW_seq ?_
    refine FW_region ?_
    refine FL_move (h := ?_)
    refine FL_assign (h := ?_)
    refine FL_nil (Qseq_normal ?_)
    refine FW_ret (Qseq_ret (Qfn_ret (hR := ?_)))
    exact ⟨rfl, rfl⟩
  · skip
    first | exact absurd rfl hc8 | exact (hc8 trivial).elim | exact absurd hc8 (by decide) | exact absurd hc8 (by simp) | omega --done
theorem NoDisk.flush (h : NoDisk w u) : Rets Try.prog 28 [u] w fun v w' => v = I 1 ∧ w = w' := by
  refine rets1 Try.func28 rfl rfl rfl rfl ?_
  refine FW_seq ?_
  refine FW_region ?_
  refine FL_assign (h := ?_)
  refine FL_nil (Qseq_normal ?_)
  refine FW_seq ?_
  refine FW_seq ?_
  refine FW_region ?_
  refine FL_move (h := ?_)
  refine FL_callS (h.look 0) (h := ?_)
  refine FL_assign (h := ?_)
  refine FL_nil (Qseq_normal ?_)
  refine FW_seq ?_
  refine FW_region ?_
  refine FL_move (h := ?_)
  refine FL_val (Gives.neq rfl rfl) rfl ?_
  refine FL_nil (Qseq_normal ?_)
  first | refine FW_condP rfl (fun hc7 => ?_) (fun hc7 => ?_) | refine FW_cond rfl (fun hc7 => ?_) (fun hc7 => ?_)
  · skip
    refine FW_seq ?_
    refine FW_region ?_
    refine FL_move (h := ?_)
    refine FL_assign (h := ?_)
    refine FL_nil (Qseq_normal ?_)
    refine FW_ret (Qseq_ret (Qfn_ret (hR := ?_)))
    exact ⟨rfl, rfl⟩
  · skip
    first | exact absurd rfl hc7 | exact (hc7 trivial).elim | exact absurd hc7 (by decide) | exact absurd hc7 (by simp) | omega --done
end
end Go.Proofs.Yteflbohpabdjkaa
/-
  A region that draws its order, whose first M operations look or allocate, in any order: walked once, in the order of the list, whatever the numbers of the blocks. Nothing of a given program stands here.
-/
namespace Go.Mw
open Go.RowKit

theorem Sep.unfront {w₀ w : World} {S : Nat → Prop} {p : HP} {l1 l2 : List HP} (h : Sep w₀ S (p :: (l1 ++ l2)) w) : Sep w₀ S (l1 ++ p :: l2) w := by
  obtain ⟨h1, F, ⟨F1, F2, hF, hd, hp, hr⟩, hS⟩ := h
  exact ⟨h1, F, starL_join hF hd hp hr, hS⟩
theorem Sep.dropL {w₀ w : World} {S : Nat → Prop} : ∀ {l rs : List HP}, Sep w₀ S (l ++ rs) w → Sep w₀ S rs w
  | [], _, h => h
  | _ :: l, _, h => Sep.dropL (l := l) (Sep.drop0 h)

/-- Operations that may allocate. -/
def allocOp : Op → Bool
  | .buildSlice .. => true
  | .makeSlice .. => true
  | _ => false
def alAt (ops : Array Oper) (i : Nat) : Bool := match ops[i]? with
  | some o => allocOp o.op
  | none => false
def unguarded (ops : Array Oper) (i : Nat) : Bool := match ops[i]? with
  | some o => o.guard.isNone
  | none => false
/-- May the first M be carried out in any order? -/
def allocsOk (ops : Array Oper) (M : Nat) : Bool :=
  Nat.ble M ops.size &&
  ((List.range M).all fun i => unguarded ops i && (dstOf ops i).isSome && ((preds ops i).all fun e => Nat.blt e i) &&
    (List.range M).all fun k => (match dstOf ops k with | some d => (!((looks ops i).contains d) || (preds ops i).contains k) && (Nat.beq i k || dstOf ops i != some d) | none => false)) &&
  ((List.range ops.size).all fun j => Nat.blt j M || ((List.range M).all fun i => (above ops j).contains i))
def lvTo (ops : Array Oper) (M : Nat) : List Bool := (List.range ops.size).map fun i => Nat.blt i M

section
variable (P : Program) (r : Option Nat) (n : Nat) (ops : Array Oper) (Q : Post) (M : Nat) (w₀ : World) (S : Nat → Prop) (rs : List HP) (β : Nat → Nat)
/-- The walk: k are left, i is next. -/
def AW : Nat → Nat → St → List HP → Prop
  | 0, _, σ, ps => ∀ w', Sep w₀ S (ps ++ rs) w' → FG P r n ops Q (lvTo ops M) [] σ w'
  | k + 1, i, σ, ps => ∃ o d v, ops[i]? = some o ∧ o.dst = some d ∧
      ((allocOp o.op = false ∧ (∀ w, Sep w₀ S rs w → (execOp (evF σ) o).run P w = .ok (.value v) w) ∧ AW k (i + 1) (upd σ d v) ps) ∨
       (allocOp o.op = true ∧ ∃ ob, (∀ w, Sep w₀ S rs w → w.heap.size = β i → (execOp (evF σ) o).run P w = .ok (.value v) (w.alloc ob)) ∧ AW k (i + 1) (upd σ d v) (obj (β i) ob :: ps)))
end

section
variable {P : Program} {r : Option Nat} {n : Nat} {ops : Array Oper} {Q : Post} {M : Nat} {w₀ w : World} {S : Nat → Prop} {rs ps : List HP} {β : Nat → Nat} {σ : St} {k i : Nat} {op : Op} {ty : TypeId} {pos : String} {after : Array Edge} {guard : Option (Nat × Bool)}
theorem AW_quiet {d : Nat} {v : Value} (ho : ops[i]? = some { dst := some d, op := op, type := ty, pos := pos, after := after, guard := guard }) (hal : allocOp op = false)
    (hy : ∀ w, Sep w₀ S rs w → Gives P (evF σ) op ty w v w) (h : AW P r n ops Q M w₀ S rs β k (i + 1) (upd σ d v) ps) : AW P r n ops Q M w₀ S rs β (k + 1) i σ ps :=
  ⟨_, d, v, ho, rfl, .inl ⟨hal, fun w hw => hy w hw _ _ _ _, h⟩⟩
theorem AW_alloc {d : Nat} {v : Value} {ob : Obj} (ho : ops[i]? = some { dst := some d, op := op, type := ty, pos := pos, after := after, guard := guard }) (hal : allocOp op = true)
    (hy : ∀ w, Sep w₀ S rs w → w.heap.size = β i → Gives P (evF σ) op ty w v (w.alloc ob)) (h : AW P r n ops Q M w₀ S rs β k (i + 1) (upd σ d v) (obj (β i) ob :: ps)) : AW P r n ops Q M w₀ S rs β (k + 1) i σ ps :=
  ⟨_, d, v, ho, rfl, .inr ⟨hal, ob, fun w hw hs => hy w hw hs _ _ _ _, h⟩⟩

/-- The frame behind the first j, of the values v. -/
def stA (ops : Array Oper) (v : Nat → Value) (σ : St) : Nat → St
  | 0 => σ
  | j + 1 => updO (stA ops v σ j) (dstOf ops j) (v j)
/-- The pieces of those that are listed, of the first j. -/
def pcs (ops : Array Oper) (β : Nat → Nat) (ob : Nat → Obj) (L : Nat → Bool) : Nat → List HP
  | 0 => []
  | j + 1 => if (alAt ops j && L j) = true then obj (β j) (ob j) :: pcs ops β ob L j else pcs ops β ob L j
theorem stA_congr {v v' : Nat → Value} : ∀ {j : Nat}, (∀ x, x < j → v x = v' x) → stA ops v σ j = stA ops v' σ j
  | 0, _ => rfl
  | j + 1, h => by
    show updO (stA ops v σ j) _ (v j) = updO (stA ops v' σ j) _ (v' j)
    rw [stA_congr fun x hx => h x (Nat.lt_succ_of_lt hx), h j (Nat.lt_succ_self j)]
theorem pcs_congr {ob ob' : Nat → Obj} {L L' : Nat → Bool} : ∀ {j : Nat}, (∀ x, x < j → ob x = ob' x ∧ (alAt ops x && L x) = (alAt ops x && L' x)) → pcs ops β ob L j = pcs ops β ob' L' j
  | 0, _ => rfl
  | j + 1, h => by
    show (if _ then _ else _) = (if _ then _ else _)
    rw [pcs_congr fun x hx => h x (Nat.lt_succ_of_lt hx), (h j (Nat.lt_succ_self j)).1, (h j (Nat.lt_succ_self j)).2]
theorem pcs_insert {ob : Nat → Obj} {L L' : Nat → Bool} {i : Nat} (hal : alAt ops i = true) (h0 : L i = false) (h1 : L' i = true) (hne : ∀ x, x ≠ i → L x = L' x) :
    ∀ {j : Nat}, i < j → ∃ l1 l2, pcs ops β ob L j = l1 ++ l2 ∧ pcs ops β ob L' j = l1 ++ obj (β i) (ob i) :: l2
  | 0, h => absurd h (Nat.not_lt_zero _)
  | j + 1, h => by
    by_cases hji : j = i
    · subst hji
      refine ⟨[], pcs ops β ob L j, ?_, ?_⟩
      · show (if _ then _ else _) = _
        rw [if_neg (by rw [h0]; simp)]; rfl
      · show (if _ then _ else _) = _
        rw [if_pos (by rw [hal, h1]; rfl), pcs_congr (ob' := ob) (L' := L) fun x hx => ⟨rfl, by rw [hne x (Nat.ne_of_lt hx)]⟩]; rfl
    · obtain ⟨l1, l2, e1, e2⟩ := pcs_insert hal h0 h1 hne (j := j) (Nat.lt_of_le_of_ne (Nat.le_of_lt_succ h) fun e => hji e.symm)
      by_cases hc : (alAt ops j && L j) = true
      · refine ⟨obj (β j) (ob j) :: l1, l2, ?_, ?_⟩
        · show (if _ then _ else _) = _
          rw [if_pos hc, e1]; rfl
        · show (if _ then _ else _) = _
          rw [if_pos (by rw [← hne j hji]; exact hc), e2]; rfl
      · refine ⟨l1, l2, ?_, ?_⟩
        · show (if _ then _ else _) = _
          rw [if_neg hc, e1]
        · show (if _ then _ else _) = _
          rw [if_neg (by rw [← hne j hji]; exact hc), e2]
theorem stA_ds {v : Nat → Value} : ∀ {j : Nat}, (stA ops v σ j).ds = σ.ds
  | 0 => rfl
  | j + 1 => by show (updO (stA ops v σ j) _ _).ds = _; rw [updO_ds]; exact stA_ds
theorem stA_other {v : Nat → Value} {x : Nat} : ∀ {j : Nat}, (∀ i, i < j → dstOf ops i ≠ some x) → stA ops v σ j x = σ x
  | 0, _ => rfl
  | j + 1, h => by
    show updO (stA ops v σ j) _ _ x = _
    rw [updO_other (h j (Nat.lt_succ_self j))]; exact stA_other fun i hi => h i (Nat.lt_succ_of_lt hi)
theorem stA_at {v : Nat → Value} {d i : Nat} (hd : dstOf ops i = some d) : ∀ {j : Nat}, i < j → (∀ k, k < j → k ≠ i → dstOf ops k ≠ some d) → stA ops v σ j d = v i
  | 0, h, _ => absurd h (Nat.not_lt_zero _)
  | j + 1, h, hne => by
    show updO (stA ops v σ j) _ _ d = _
    by_cases hji : j = i
    · subst hji; rw [hd]; exact upd_same _ _ _
    · rw [updO_other (hne j (Nat.lt_succ_self j) hji)]
      exact stA_at hd (Nat.lt_of_le_of_ne (Nat.le_of_lt_succ h) fun e => hji e.symm) fun k hk => hne k (Nat.lt_succ_of_lt hk)

/-- One step of the walk. -/
def StepA (P : Program) (ops : Array Oper) (w₀ : World) (S : Nat → Prop) (rs : List HP) (β : Nat → Nat) (i : Nat) (σ : St) (v : Value) (ob : Obj) : Prop :=
  ∃ o, ops[i]? = some o ∧ if allocOp o.op = true then ∀ w, Sep w₀ S rs w → w.heap.size = β i → (execOp (evF σ) o).run P w = .ok (.value v) (w.alloc ob) else ∀ w, Sep w₀ S rs w → (execOp (evF σ) o).run P w = .ok (.value v) w

theorem AW.trace : ∀ {k i : Nat} {v0 : Nat → Value} {ob0 : Nat → Obj}, AW P r n ops Q M w₀ S rs β k i (stA ops v0 σ i) (pcs ops β ob0 (fun _ => true) i) →
    ∃ v ob, (∀ j, j < i → v j = v0 j ∧ ob j = ob0 j) ∧ (∀ j, i ≤ j → j < i + k → StepA P ops w₀ S rs β j (stA ops v σ j) (v j) (ob j)) ∧
      ∀ w', Sep w₀ S (pcs ops β ob (fun _ => true) (i + k) ++ rs) w' → FG P r n ops Q (lvTo ops M) [] (stA ops v σ (i + k)) w' := by
  intro k
  induction k with
  | zero => intro i v0 ob0 h; exact ⟨v0, ob0, fun _ _ => ⟨rfl, rfl⟩, fun j h1 h2 => absurd h2 (Nat.not_lt.2 h1), h⟩
  | succ k ih =>
    intro i v0 ob0 h
    obtain ⟨o, d, x, ho, hd, h⟩ := h
    have hal : alAt ops i = allocOp o.op := by unfold alAt; simp only [ho]
    have key : ∀ ob : Obj, StepA P ops w₀ S rs β i (stA ops v0 σ i) x ob → AW P r n ops Q M w₀ S rs β k (i + 1) (upd (stA ops v0 σ i) d x) (if alAt ops i = true then obj (β i) ob :: pcs ops β ob0 (fun _ => true) i else pcs ops β ob0 (fun _ => true) i) →
        ∃ v ob, (∀ j, j < i → v j = v0 j ∧ ob j = ob0 j) ∧ (∀ j, i ≤ j → j < i + (k + 1) → StepA P ops w₀ S rs β j (stA ops v σ j) (v j) (ob j)) ∧
      ∀ w', Sep w₀ S (pcs ops β ob (fun _ => true) (i + (k + 1)) ++ rs) w' → FG P r n ops Q (lvTo ops M) [] (stA ops v σ (i + (k + 1))) w' := by
      intro ob hst haw
      have e1 : stA ops (fun j => if j = i then x else v0 j) σ (i + 1) = upd (stA ops v0 σ i) d x := by
        show updO (stA ops _ σ i) (dstOf ops i) (if i = i then x else v0 i) = _
        rw [if_pos rfl, dstOf_eq ho, hd, stA_congr (v' := v0) fun y hy => if_neg (Nat.ne_of_lt hy)]
        rfl
      have e2 : pcs ops β (fun j => if j = i then ob else ob0 j) (fun _ => true) (i + 1) = if alAt ops i = true then obj (β i) ob :: pcs ops β ob0 (fun _ => true) i else pcs ops β ob0 (fun _ => true) i := by
        show (if (alAt ops i && true) = true then obj (β i) (if i = i then ob else ob0 i) :: pcs ops β _ _ i else pcs ops β _ _ i) = _
        rw [if_pos rfl, Bool.and_true, pcs_congr (ob' := ob0) (L' := fun _ => true) fun y hy => ⟨if_neg (Nat.ne_of_lt hy), rfl⟩]
      rw [← e1, ← e2] at haw
      obtain ⟨v, obs, h1, h2, h3⟩ := ih haw
      have hv : ∀ j, j < i → v j = v0 j ∧ obs j = ob0 j := fun j hj => by
        have := h1 j (Nat.lt_succ_of_lt hj)
        rw [if_neg (Nat.ne_of_lt hj), if_neg (Nat.ne_of_lt hj)] at this; exact this
      refine ⟨v, obs, hv, fun j hj hj2 => ?_, ?_⟩
      · by_cases hji : j = i
        · subst hji
          have := h1 j (Nat.lt_succ_self j)
          rw [if_pos rfl, if_pos rfl] at this
          rw [this.1, this.2, stA_congr fun y hy => (hv y hy).1]
          exact hst
        · exact h2 j (by omega) (by omega)
      · rw [show i + (k + 1) = i + 1 + k by omega]; exact h3
    rcases h with ⟨ha, hs, haw⟩ | ⟨ha, ob, hs, haw⟩
    · refine key (.cells #[] 0 (0, 0)) ⟨o, ho, ?_⟩ ?_
      · rw [if_neg (by rw [ha]; simp)]; exact hs
      · rw [if_neg (by rw [hal, ha]; simp)]; exact haw
    · refine key ob ⟨o, ho, ?_⟩ ?_
      · rw [if_pos ha]; exact hs
      · rw [if_pos (by rw [hal, ha])]; exact haw

/-- The numbers that an order of the operations gives their blocks. -/
def Fits (ops : Array Oper) (β : Nat → Nat) : List Nat → Nat → Prop
  | [], _ => True
  | i :: s, N => if alAt ops i = true then β i = N ∧ Fits ops β s (N + 1) else Fits ops β s N
theorem fits_congr {β' : Nat → Nat} : ∀ {s : List Nat} {N : Nat}, (∀ i ∈ s, β i = β' i) → Fits ops β s N → Fits ops β' s N
  | [], _, _, _ => trivial
  | i :: s, N, h, hf => by
    unfold Fits at hf ⊢
    split at hf
    · rename_i ha
      rw [if_pos ha]
      exact ⟨by rw [← h i List.mem_cons_self]; exact hf.1, fits_congr (fun k hk => h k (List.mem_cons_of_mem _ hk)) hf.2⟩
    · rename_i ha
      rw [if_neg ha]
      exact fits_congr (fun k hk => h k (List.mem_cons_of_mem _ hk)) hf
theorem fits_some : ∀ {s : List Nat} {N : Nat}, s.Nodup → ∃ β, Fits ops β s N
  | [], _, _ => ⟨fun _ => 0, trivial⟩
  | i :: s, N, h => by
    rw [List.nodup_cons] at h
    obtain ⟨β, hb⟩ := fits_some (s := s) (N := if alAt ops i = true then N + 1 else N) h.2
    refine ⟨fun k => if k = i then N else β k, ?_⟩
    have hc : ∀ k ∈ s, β k = (if k = i then N else β k) := fun k hk => (if_neg fun e => h.1 (by rw [← e]; exact hk)).symm
    unfold Fits
    by_cases ha : alAt ops i = true
    · rw [if_pos ha] at hb ⊢
      exact ⟨if_pos rfl, fits_congr hc hb⟩
    · rw [if_neg ha] at hb ⊢
      exact fits_congr hc hb

structure CkA (ops : Array Oper) (M : Nat) : Prop where
  le : M ≤ ops.size
  ug : ∀ i, i < M → ∃ o d, ops[i]? = some o ∧ o.guard = none ∧ o.dst = some d
  pr : ∀ i, i < M → ∀ e ∈ preds ops i, e < i
  lk : ∀ i, i < M → ∀ k, k < M → ∀ d, dstOf ops k = some d → d ∈ looks ops i → k ∈ preds ops i
  ds : ∀ i, i < M → ∀ k, k < M → i ≠ k → ∀ d, dstOf ops k = some d → dstOf ops i ≠ some d
  ab : ∀ j, M ≤ j → j < ops.size → ∀ i, i < M → i ∈ above ops j
theorem ckA (h : allocsOk ops M = true) : CkA ops M := by
  unfold allocsOk at h
  simp only [Bool.and_eq_true, List.all_eq_true, List.mem_range] at h
  obtain ⟨⟨h1, h2⟩, h3⟩ := h
  have hk : ∀ i, i < M → ∀ k, k < M → ∀ d, dstOf ops k = some d → (d ∈ looks ops i → k ∈ preds ops i) ∧ (i = k ∨ dstOf ops i ≠ some d) := fun i hi k hk d hd => by
    have := (h2 i hi).2 k hk
    rw [hd] at this
    simp only [Bool.and_eq_true, Bool.or_eq_true, Bool.not_eq_true', List.contains_iff_mem, bne_iff_ne, ne_eq, Nat.beq_eq_true_eq] at this
    refine ⟨fun hx => ?_, this.2.imp_left Nat.eq_of_beq_eq_true⟩
    rcases this.1 with h4 | h4
    · rw [← Bool.not_eq_true, List.contains_iff_mem] at h4; exact absurd hx h4
    · exact h4
  refine ⟨Nat.le_of_ble_eq_true h1, fun i hi => ?_, fun i hi e he => ?_, fun i hi k hk' d hd => (hk i hi k hk' d hd).1, fun i hi k hk' hne d hd => ((hk i hi k hk' d hd).2).resolve_left hne, fun j hj hj2 i hi => ?_⟩
  · have h4 := (h2 i hi).1.1
    unfold unguarded dstOf at h4
    cases ho : ops[i]? with
    | none => rw [ho] at h4; simp at h4
    | some o =>
      rw [ho] at h4
      simp only [Option.bind_some] at h4
      obtain ⟨h5, h6⟩ := h4
      obtain ⟨d, hd⟩ := Option.isSome_iff_exists.1 h6
      exact ⟨o, d, rfl, Option.isNone_iff_eq_none.1 h5, hd⟩
  · have := (h2 i hi).1.2 e he
    simpa [Nat.blt_eq] using this
  · have := h3 j hj2
    simp only [Bool.or_eq_true, Nat.blt_eq, List.all_eq_true, List.mem_range, List.contains_iff_mem] at this
    rcases this with h4 | h4
    · omega
    · exact h4 i hi

/-- The real run: whatever comes, there are numbers for the blocks. -/
structure InvA (P : Program) (r : Option Nat) (n : Nat) (ops : Array Oper) (Q : Post) (M : Nat) (w₀ : World) (S : Nat → Prop) (rs : List HP) (σ : St) (lr : Array Bool) (a : Act) (w : World) : Prop where
  sz : lr.size = ops.size
  cl : ∀ i, lr.getD i false = true → ∀ e ∈ preds ops i, lr.getD e false = true
  hi : ∀ j, M ≤ j → j < ops.size → lr.getD j true = false
  fut : ∀ s : List Nat, s.Nodup → (∀ i, i ∈ s ↔ i < M ∧ lr.getD i true = false) → ∃ β, Fits ops β s w.heap.size ∧ ∃ v ob,
    (∀ j, j < M → StepA P ops w₀ S rs β j (stA ops v σ j) (v j) (ob j)) ∧ (∀ w', Sep w₀ S (pcs ops β ob (fun _ => true) M ++ rs) w' → FG P r n ops Q (lvTo ops M) [] (stA ops v σ M) w') ∧
    (∃ σr, Rep n σr a ∧ σr.ds = σ.ds ∧ (∀ i, i < M → lr.getD i true = true → ∀ d, dstOf ops i = some d → σr d = v i) ∧ ∀ x, (∀ i, i < M → lr.getD i true = true → dstOf ops i ≠ some x) → σr x = σ x) ∧
    Sep w₀ S (pcs ops β ob (fun i => lr.getD i true) M ++ rs) w

theorem above_cl {lr : Array Bool} (hcl : ∀ i, lr.getD i false = true → ∀ e ∈ preds ops i, lr.getD e false = true) {e : Nat} (he : ∀ k ∈ preds ops e, lr.getD k false = true) : ∀ k ∈ above ops e, lr.getD k false = true := by
  have key : ∀ (l : List Nat) (S : List Nat), (∀ k ∈ S, lr.getD k false = true) → ∀ k ∈ l.foldl (aboveStep ops) S, lr.getD k false = true := by
    intro l
    induction l with
    | nil => intro S hS; exact hS
    | cons m l ih =>
      intro S hS
      refine ih _ fun k hk => ?_
      unfold aboveStep at hk
      split at hk
      · rename_i hm
        rcases List.mem_append.1 hk with h1 | h1
        · exact hS k h1
        · exact hcl m (hS m (List.contains_iff_mem.1 hm)) k (List.mem_filter.1 h1).1
      · exact hS k hk
  exact key _ _ he

theorem lvTo_getD {i : Nat} (h : i < ops.size) : (lvTo ops M).getD i true = Nat.blt i M := by
  simp [lvTo, List.getD_eq_getElem?_getD, h]
theorem InvA.fin (hck : CkA ops M) {lr : Array Bool} {a : Act} {w : World} (h : InvA P r n ops Q M w₀ S rs σ lr a w) (hall : ∀ i, i < M → lr.getD i true = true) : wpAnyIn (fen r) 0 P .any ops (lift n Q) (left ops lr) lr a w := by
  obtain ⟨β, _, v, ob, _, hfin, ⟨σr, hrep, hds, ha, hb⟩, hsep⟩ := h.fut [] List.nodup_nil (fun i => ⟨(fun hi => by cases hi), fun hi => by have h2 := hi.2; rw [hall i hi.1] at h2; cases h2⟩)
  rw [pcs_congr (ob' := ob) (L' := fun _ => true) fun x hx => ⟨rfl, by rw [hall x hx]⟩] at hsep
  have hσ : σr = stA ops v σ M := by
    refine St.eq_of (fun x => ?_) (by rw [hds, stA_ds])
    by_cases hx : ∃ i, i < M ∧ dstOf ops i = some x
    · obtain ⟨i, hi, hd⟩ := hx
      rw [ha i hi (hall i hi) x hd, stA_at hd hi fun k hk hki => hck.ds k hk i hi hki x hd]
    · have hx' : ∀ i, i < M → dstOf ops i ≠ some x := fun i hi hd => hx ⟨i, hi, hd⟩
      rw [hb x fun i hi _ => hx' i hi, stA_other hx']
  subst hσ
  refine hfin w hsep [] lr a ⟨(fun _ hp => by cases hp), List.nodup_nil, List.Pairwise.nil, (fun _ hp => by cases hp), (fun _ hp => by cases hp), fun i hi => ?_, h.sz, by simp [lvTo], h.cl, ⟨_, hrep, rfl, fun _ _ => rfl⟩, (fun _ hp => by cases hp), (fun _ hp => by cases hp), (fun _ hp => by cases hp)⟩
  rw [lvTo_getD hi]
  rcases Nat.lt_or_ge i M with h1 | h1
  · rw [hall i h1, show Nat.blt i M = true from by rw [Nat.blt_eq]; exact h1]; rfl
  · rw [h.hi i h1 hi, show Nat.blt i M = false from by rw [← Bool.not_eq_true, Nat.blt_eq]; omega]; rfl
theorem getD_lt {lr : Array Bool} {i : Nat} (h : lr.getD i true = false) : lr.getD i false = false := by
  simp only [Array.getD_eq_getD_getElem?] at h ⊢
  cases hq : lr[i]? with
  | none => rfl
  | some b => rw [hq] at h; simpa using h
theorem getD_set_self {lr : Array Bool} {i : Nat} : (lr.setIfInBounds i true).getD i true = true := by
  simp [Array.getD_eq_getD_getElem?, Array.getElem?_setIfInBounds]
  split <;> rfl
theorem InvA.go (hok : okOps n ops = true) (hck : CkA ops M) : ∀ {m : Nat} {lr : Array Bool} {a : Act} {w : World}, left ops lr = m → InvA P r n ops Q M w₀ S rs σ lr a w → wpAnyIn (fen r) 0 P .any ops (lift n Q) (left ops lr) lr a w := by
  intro m
  induction m with
  | zero =>
    intro lr a w hm h
    refine h.fin hck fun i hi => left_zero hm i (Nat.lt_of_lt_of_le hi hck.le)
  | succ m ih =>
    intro lr a w hm h
    by_cases hall : ∀ i, i < M → lr.getD i true = true
    · exact h.fin hck hall
    have hex : ∃ i, i < M ∧ lr.getD i true = false := by
      refine Classical.byContradiction fun hc => hall fun i hi => ?_
      cases hb : lr.getD i true
      · exact absurd ⟨i, hi, hb⟩ hc
      · rfl
    have hlist : ∀ i, i < ops.size → (lr.getD i false = true ↔ lr.getD i true = true) := fun i hi => by rw [getD_true_of_lt h.sz hi]
    have hne : Region.ready .any ops lr ≠ [] := by
      intro h0
      have : ∀ i, i < M → lr.getD i true = true := by
        intro i
        induction i using Nat.strongRecOn with
        | _ i ihi =>
          intro hi
          cases hb : lr.getD i true with
          | true => rfl
          | false =>
            have : i ∈ Region.ready .any ops lr := ready_iff.2 ⟨hb, Nat.lt_of_lt_of_le hi hck.le, fun e he => by
              have h1 := hck.pr i hi e he
              exact (hlist e (by have := hck.le; omega)).2 (ihi e h1 (Nat.lt_trans h1 hi))⟩
            rw [h0] at this; cases this
      exact hall this
    rw [hm]
    refine ⟨fun h0 => absurd h0 hne, fun i hi => ?_⟩
    obtain ⟨h0, hlt, hpre⟩ := ready_iff.1 hi
    have hiM : i < M := by
      rcases Nat.lt_or_ge i M with h1 | h1
      · exact h1
      · exfalso
        exact hall fun k hk => (hlist k (Nat.lt_of_lt_of_le hk hck.le)).1 (above_cl h.cl hpre k (hck.ab i h1 hlt k hk))
    have hleft := left_set hlt h.sz h0
    have hm' : left ops (lr.setIfInBounds i true) = m := by omega
    obtain ⟨o, d, ho, hg, hd⟩ := hck.ug i hiM
    obtain ⟨hod, hopl⟩ := okOps_at hok ho
    have hdo : dstOf ops i = some d := by rw [dstOf_eq ho, hd]
    have hL : ∀ k, k ≠ i → (lr.setIfInBounds i true).getD k true = lr.getD k true := fun k hk => getD_set_ne true fun e => hk e.symm
    -- what a future tells of this step
    have hstep : ∀ s : List Nat, s.Nodup → (∀ k, k ∈ s ↔ k < M ∧ (lr.setIfInBounds i true).getD k true = false) → ∃ β v ob σr, Fits ops β (i :: s) w.heap.size ∧
        (∀ j, j < M → StepA P ops w₀ S rs β j (stA ops v σ j) (v j) (ob j)) ∧ (∀ w', Sep w₀ S (pcs ops β ob (fun _ => true) M ++ rs) w' → FG P r n ops Q (lvTo ops M) [] (stA ops v σ M) w') ∧
        Rep n σr a ∧ σr.ds = σ.ds ∧ (∀ i, i < M → lr.getD i true = true → ∀ d, dstOf ops i = some d → σr d = v i) ∧ (∀ x, (∀ i, i < M → lr.getD i true = true → dstOf ops i ≠ some x) → σr x = σ x) ∧
        Sep w₀ S (pcs ops β ob (fun i => lr.getD i true) M ++ rs) w ∧ (execOp a.eval o).run P w = .ok (.value (v i)) (if allocOp o.op = true then w.alloc (ob i) else w) := by
      intro s hs hms
      have hin : i ∉ s := fun hi => by have := ((hms i).1 hi).2; rw [getD_set_self] at this; cases this
      obtain ⟨β, hf, v, ob, hst, hfin, ⟨σr, hrep, hds, ha, hb⟩, hsep⟩ := h.fut (i :: s) (List.nodup_cons.2 ⟨hin, hs⟩) fun k => by
        rw [List.mem_cons, hms k]
        by_cases hki : k = i
        · subst hki; simp [hiM, h0]
        · rw [hL k hki]; simp [hki]
      refine ⟨β, v, ob, σr, hf, hst, hfin, hrep, hds, ha, hb, hsep, ?_⟩
      obtain ⟨o', ho', hrun⟩ := hst i hiM
      rw [ho] at ho'; injection ho' with ho'; subst ho'
      have hal : alAt ops i = allocOp o.op := by unfold alAt; simp only [ho]
      have hlook : ∀ x ∈ looks ops i, σr x = stA ops v σ i x := fun x hx => by
        by_cases hk : ∃ k, k < M ∧ dstOf ops k = some x
        · obtain ⟨k, hkM, hkd⟩ := hk
          have hkp := hck.lk i hiM k hkM x hkd hx
          have hki := hck.pr i hiM k hkp
          rw [ha k hkM ((hlist k (Nat.lt_of_lt_of_le hkM hck.le)).1 (hpre k hkp)) x hkd, stA_at hkd hki fun j hj hjk => hck.ds j (Nat.lt_trans hj hiM) k hkM hjk x hkd]
        · have hk' : ∀ k, k < M → dstOf ops k ≠ some x := fun k hkM hkd => hk ⟨k, hkM, hkd⟩
          rw [hb x fun k hkM _ => hk' k hkM, stA_other fun k hk => hk' k (Nat.lt_trans hk hiM)]
      rw [hrep.eval, exec_congr ho hopl hlook]
      have hS := Sep.dropL hsep
      split at hrun
      · rename_i hc
        rw [if_pos hc]
        unfold Fits at hf
        rw [if_pos (by rw [hal, hc])] at hf
        exact hrun w hS hf.1.symm
      · rename_i hc
        rw [if_neg hc]
        exact hrun w hS
    obtain ⟨s0, hs0, hms0⟩ : ∃ s : List Nat, s.Nodup ∧ ∀ k, k ∈ s ↔ k < M ∧ (lr.setIfInBounds i true).getD k true = false :=
      ⟨(List.range M).filter fun k => !((lr.setIfInBounds i true).getD k true), List.Nodup.sublist List.filter_sublist List.nodup_range, fun k => by simp⟩
    obtain ⟨β0, v0, ob0, σ0, _, _, _, hrep0, _, _, _, _, hrun0⟩ := hstep s0 hs0 hms0
    unfold wpOpIn
    simp only [ho]
    have hww : Region.wanted o (yielded ops a.tmps) = true := by unfold Region.wanted; rw [hg]
    rw [if_pos hww]
    refine ⟨fun _ _ => trivial, ?_⟩
    have hsem : (o.semAt (fen r).round a.eval) = execOp a.eval o := by
      refine Oper.semAt_eq _ _ _ fun c hc => ?_
      unfold execOp at hrun0
      rw [hc] at hrun0
      simp only [Sem.run_bind] at hrun0
      cases hr : (resolve a.eval c o.type).run P w <;> rw [hr] at hrun0 <;> simp [Result.andThen] at hrun0
    rw [hsem, hrun0]
    have hal : alAt ops i = allocOp o.op := by unfold alAt; simp only [ho]
    have hsz : (lr.setIfInBounds i true).size = ops.size := by simpa using h.sz
    have hnew := ih (lr := lr.setIfInBounds i true) (a := a.put o.dst (v0 i)) (w := if allocOp o.op = true then w.alloc (ob0 i) else w) hm'
      ⟨hsz, fun k hk e he => ?_, fun k hk hk2 => ?_, fun s hs hms => ?_⟩
    · rw [hm'] at hnew
      exact hnew
    · by_cases hki : i = k
      · subst hki; exact getD_set_true (hpre e he)
      · rw [getD_set_ne false hki] at hk; exact getD_set_true (h.cl k hk e he)
    · rw [hL k (by omega)]; exact h.hi k hk hk2
    · obtain ⟨β, v, ob, σr, hf, hst, hfin, hrep, hds, ha, hb, hsep, hrun⟩ := hstep s hs hms
      rw [hrun0] at hrun
      injection hrun with hv hw
      injection hv with hv
      rw [hv, hw]
      have hs' : Sep w₀ S (pcs ops β ob (fun k => (lr.setIfInBounds i true).getD k true) M ++ rs) (if allocOp o.op = true then w.alloc (ob i) else w) := by
        by_cases hc : allocOp o.op = true
        · rw [if_pos hc]
          unfold Fits at hf
          rw [if_pos (by rw [hal, hc])] at hf
          obtain ⟨l1, l2, e1, e2⟩ := pcs_insert (β := β) (ob := ob) (L := fun k => lr.getD k true) (L' := fun k => (lr.setIfInBounds i true).getD k true) (by rw [hal, hc]) h0 getD_set_self (fun x hx => (hL x hx).symm) hiM
          have h1 := hsep.alloc (ob i)
          rw [e1, List.append_assoc] at h1
          rw [e2, List.append_assoc, List.cons_append, hf.1]
          exact h1.unfront
        · rw [if_neg hc, pcs_congr (ob' := ob) (L' := fun k => lr.getD k true) fun x hx => ⟨rfl, ?_⟩]
          · exact hsep
          · by_cases hxi : x = i
            · subst hxi
              rw [hal, Bool.eq_false_iff.2 hc]; rfl
            · rw [hL x hxi]
      refine ⟨β, ?_, v, ob, hst, hfin, ⟨_, hrep.putO hod (v i), by rw [updO_ds, hds], fun k hk hkl dk hdk => ?_, fun x hx => ?_⟩, hs'⟩
      · unfold Fits at hf
        by_cases hc : allocOp o.op = true
        · rw [if_pos (by rw [hal, hc])] at hf
          rw [if_pos hc, show (w.alloc (ob i)).heap.size = w.heap.size + 1 from by simp]
          exact hf.2
        · rw [if_neg (by rw [hal]; exact hc)] at hf
          rw [if_neg hc]; exact hf
      · by_cases hki : k = i
        · subst hki
          rw [hd]
          rw [hdo] at hdk; injection hdk with hdk; subst hdk
          exact upd_same _ _ _
        · rw [updO_other (by rw [← dstOf_eq ho]; exact hck.ds i hiM k hk (fun e => hki e.symm) dk hdk)]
          exact ha k hk (by rw [← hL k hki]; exact hkl) dk hdk
      · rw [updO_other (by rw [← dstOf_eq ho]; exact hx i hiM getD_set_self)]
        refine hb x fun k hk hkl => hx k hk ?_
        by_cases hki : k = i
        · subst hki; exact getD_set_self
        · rw [hL k hki]; exact hkl

/-- A region that draws, whose first M operations look or allocate: in any order. -/
theorem FG_allocs (hok : okOps n ops = true) (M : Nat) {lv : List Bool} (H : Sep w₀ S rs w) (hck : allocsOk ops M = true) (hlv : lv.all (fun b => !b) = true) (h : ∀ β, AW P r n ops Q M w₀ S rs β M 0 σ []) : FG P r n ops Q lv [] σ w := by
  intro sub lr a hr
  have hs : sub = [] := List.eq_nil_iff_forall_not_mem.2 fun p hp => by cases hr.mem p hp
  subst hs
  have hall : ∀ i, i < ops.size → lr.getD i true = false := fun i hi => by
    rw [hr.lrv i hi]
    have : lv.getD i true = false := by
      rw [List.all_eq_true] at hlv
      have hl : i < lv.length := by rw [hr.lsz]; exact hi
      have := hlv lv[i] (List.getElem_mem hl)
      simpa [List.getD_eq_getElem?_getD, hl] using this
    rw [this]; rfl
  have ck := ckA hck
  refine InvA.go (σ := σ) (w₀ := w₀) (S := S) (rs := rs) hok ck rfl ⟨hr.sz, hr.cl, fun j _ hj => hall j hj, fun s hs hms => ?_⟩
  obtain ⟨β, hf⟩ := fits_some (ops := ops) (N := w.heap.size) hs
  obtain ⟨v, ob, _, hst, hfin⟩ := AW.trace (k := M) (i := 0) (v0 := fun _ => undef) (ob0 := fun _ => .cells #[] 0 (0, 0)) (h β)
  rw [Nat.zero_add] at hst hfin
  obtain ⟨σr, hrep, hds, hσ⟩ := hr.rep
  have hp : pcs ops β ob (fun i => lr.getD i true) M = [] := by
    have : ∀ j, j ≤ M → pcs ops β ob (fun i => lr.getD i true) j = [] := by
      intro j
      induction j with
      | zero => intro _; rfl
      | succ j ih =>
        intro hj
        show (if _ then _ else _) = _
        rw [if_neg (by simp [hall j (by have := ck.le; omega)])]
        exact ih (by omega)
    exact this M (Nat.le_refl _)
  refine ⟨β, hf, v, ob, fun j hj => hst j (Nat.zero_le _) hj, hfin, ⟨σr, hrep, hds, fun i hi hl => ?_, fun x _ => hσ x fun p hp => by cases hp⟩, by rw [hp]; exact H⟩
  rw [hall i (by have := ck.le; omega)] at hl; cases hl

/-! The walk's rules, as scripts use them: j is the next one's number. -/
section
variable {op : Op} {ty : TypeId} {pos : String} {after : Array Edge} {guard : Option (Nat × Bool)} {k i : Nat} {β : Nat → Nat} {ps : List HP}
theorem AW_p (j : Nat) {d : Nat} {v : Value} (ho : ops[i]? = some { dst := some d, op := op, type := ty, pos := pos, after := after, guard := guard }) (hg : ∀ w, Gives P (evF σ) op ty w v w) (hal : allocOp op = false) (hj : i + 1 = j)
    (h : AW P r n ops Q M w₀ S rs β k j (upd σ d v) ps) : AW P r n ops Q M w₀ S rs β (k + 1) i σ ps := by
  subst hj; exact AW_quiet ho hal (fun w _ => hg w) h
theorem AW_l (j : Nat) {d : Nat} {v : Value} (ho : ops[i]? = some { dst := some d, op := op, type := ty, pos := pos, after := after, guard := guard }) (hg : ∀ w, Sep w₀ S rs w → Gives P (evF σ) op ty w v w) (hal : allocOp op = false) (hj : i + 1 = j)
    (h : AW P r n ops Q M w₀ S rs β k j (upd σ d v) ps) : AW P r n ops Q M w₀ S rs β (k + 1) i σ ps := by
  subst hj; exact AW_quiet ho hal hg h
theorem AW_move (j : Nat) {d : Nat} {x : Operand} {v : Value} (ho : ops[i]? = some { dst := some d, op := .move x, type := ty, pos := pos, after := after, guard := guard } := by exact rfl)
    (hv : evF σ x = v := by simp only [evF, upd_same, upd_ne, ne_eq, Nat.reduceEqDiff, not_false_eq_true]; rfl) (hj : i + 1 = j := by exact rfl)
    (h : AW P r n ops Q M w₀ S rs β k j (upd σ d v) ps) : AW P r n ops Q M w₀ S rs β (k + 1) i σ ps := by
  subst hj; exact AW_quiet ho rfl (fun w _ => Gives.move hv) h
theorem AW_build (j : Nat) {d : Nat} {t e : TypeId} {xs : List Operand} {parts : List (Nat × Operand)} {out : List Value} {size bytes : Nat} [hs : IsSlice P t e] [hc : Cells P e size bytes] {z : Value} [hz : Zero P e z] (hE : Elems (evF σ) size xs out)
    (ho : ops[i]? = some { dst := some d, op := .buildSlice t xs.length parts.toArray, type := ty, pos := pos, after := after, guard := guard } := by exact rfl)
    (hp : parts = (xs.zipIdx 0).map fun p => (p.2, p.1) := by exact rfl) (hlen : Nat.ble (xs.length * size) 16777216 = true := by exact rfl) (hj : i + 1 = j := by exact rfl)
    (h : AW P r n ops Q M w₀ S rs β k j (upd σ d (.slice (some ⟨β i, 0, none⟩) xs.length xs.length)) (blk (β i) out e :: ps)) : AW P r n ops Q M w₀ S rs β (k + 1) i σ ps := by
  subst hj; exact AW_alloc ho rfl (fun w _ hw => by rw [← hw]; exact Gives.buildSlice hE hp hlen) h
theorem AW_make (j : Nat) {d : Nat} {x y : Operand} {t e : TypeId} [hs : IsSlice P t e] {bytes : Nat} [hc : Cells P e 1 bytes] {z : Value} [hz : Zero P e z] (m : Nat)
    (ho : ops[i]? = some { dst := some d, op := .makeSlice t x y, type := ty, pos := pos, after := after, guard := guard } := by exact rfl)
    (hx : evF σ x = .int .i64 m := by exact rfl) (hy : evF σ y = .int .i64 m := by exact rfl) (hzc : z.cells = #[z] := by exact rfl) (hb : bytes * m ≤ 281474976710656 := by decide) (hk : m ≤ maxLen := by decide) (hj : i + 1 = j := by exact rfl)
    (h : AW P r n ops Q M w₀ S rs β k j (upd σ d (.slice (some ⟨β i, 0, none⟩) m m)) (blk (β i) (List.replicate m z) e :: ps)) : AW P r n ops Q M w₀ S rs β (k + 1) i σ ps := by
  subst hj; exact AW_alloc ho rfl (fun w _ hw => by rw [← hw]; exact Gives.make1 hx hy hzc hb hk) h
theorem AW_end (h : ∀ w', Sep w₀ S (ps ++ rs) w' → FG P r n ops Q (lvTo ops M) [] σ w') : AW P r n ops Q M w₀ S rs β 0 i σ ps := h
end
end
end Go.Mw
/-
  DiskKnown: known sequences, and disks that are none.
-/
namespace Go.Proofs.Yteflbohpabdjkaa
open Go Go.Mw
set_option maxRecDepth 8000

/-- The row of a block. -/
theorem rowBlk {w₀ w : World} {S : Nat → Prop} {rs : List HP} {put : HP → List HP} {b E s n : Nat} {cs : List Value} (H : Sep w₀ S rs w) (hat : At rs (blk b cs E) put) (hl : cs.length = n * s) (hm : n ≤ maxLen) : RowAt w (some ⟨b, 0, none⟩) n s cs := by
  obtain ⟨l1, l2, rfl, hput⟩ := hat
  have h1 := Sep.asRow H.front At0 hl hm
  exact Sep.rowAt h1 At0
def dK (k a : Int) : DoM := ⟨k, a, none, [], 0, none, [], 0⟩
def dB (a : Int) (b : Nat) (bs : List UInt8) : DoM := ⟨0, a, some ⟨b, 0, none⟩, bs, bs.length, none, [], 0⟩
def dF (k a : Int) (b : Nat) (ks : List Int) : DoM := ⟨k, a, none, [], 0, some ⟨b, 0, none⟩, ks, ks.length⟩
section
variable {w : World}
theorem good_dK {k a : Int} (hk : fits k) (ha : fits a) : (dK k a).good w := ⟨hk, ha, Nat.le_refl _, Nat.le_refl _, RowAt.nil _ _ _, RowAt.nil _ _ _⟩
theorem good_dB {a : Int} {b : Nat} {bs : List UInt8} (ha : fits a) (hr : RowAt w (some ⟨b, 0, none⟩) bs.length 1 (bs.map B)) : (dB a b bs).good w := ⟨by show fits 0; unfold fits; decide, ha, Nat.le_refl _, Nat.le_refl _, hr, RowAt.nil _ _ _⟩
theorem good_dF {k a : Int} {b : Nat} {ks : List Int} (hk : fits k) (ha : fits a) (hr : RowAt w (some ⟨b, 0, none⟩) ks.length 1 (ks.map I)) : (dF k a b ks).good w := ⟨hk, ha, Nat.le_refl _, Nat.le_refl _, RowAt.nil _ _ _, hr⟩
theorem good_nil : ∀ x ∈ ([] : List DoM), x.good w := fun _ h => by cases h
theorem good_cons {x : DoM} {l : List DoM} (hx : x.good w) (hl : ∀ x ∈ l, x.good w) : ∀ y ∈ x :: l, y.good w := fun y hy => by
  rcases List.mem_cons.1 hy with rfl | hy
  · exact hx
  · exact hl y hy
end
def ends : List Int := [-9223372036854775808, -1, 0, 1, 2, 3, 65535, 65536, 65537, 9223372036854775807]
def en (i : Nat) : Int := ends.getD i 0
theorem en_get {i : Nat} (h : i < 10) : (ends.map I)[i]? = some (I (en i)) := by
  have h' : i < ends.length := h
  unfold en
  rw [List.getElem?_map, List.getD_eq_getElem?_getD, List.getElem?_eq_getElem h']
  rfl
theorem en_fits (i : Nat) : fits (en i) := by
  unfold en
  rw [List.getD_eq_getElem?_getD]
  cases h : ends[i]? with
  | none => unfold fits; decide
  | some x =>
    have hx := List.mem_of_getElem? h
    simp [ends] at hx
    rcases hx with rfl | rfl | rfl | rfl | rfl | rfl | rfl | rfl | rfl | rfl <;> (unfold fits; decide)
theorem fitsD {k : Int} (h : (decide (-9223372036854775808 ≤ k) && decide (k ≤ 9223372036854775807)) = true) : fits k := by simpa [fits] using h
def fiveDos (b1 b2 : Nat) : List DoM := [dB 0 b1 [1], dB 65535 b2 [2], dK 3 65535, dK 4 0, dK 3 1]
def z128 : List UInt8 := List.replicate 128 0
def z129 : List UInt8 := List.replicate 129 0
def manyDos (x y : Int) (b7 b0 b9 bz bz9 b1 b4 : Nat) : List DoM :=
  [dB x b7 [7], dK 3 x, dF 5 y b0 [x, 0], dB 1 b9 [9], dK 8 0, dB 0 bz z128, dK 4 0, dK 7 0, dK 5 2, dK 5 y, dB 2 bz9 z129, dF 6 0 b1 [1, 0, 1], dK 5 1, dK 7 0, dB 2 b4 [4]]
section
variable {w w₀ : World} {S : Nat → Prop} {rs : List HP}
theorem five_good {put put' : HP → List HP} {b1 b2 : Nat} (H : Sep w₀ S rs w) (h1 : At rs (blk b1 ([1].map B) 5) put) (h2 : At rs (blk b2 ([2].map B) 5) put') : ∀ x ∈ fiveDos b1 b2, x.good w :=
  good_cons (good_dB (fitsD rfl) (rowBlk H h1 rfl (by decide))) (good_cons (good_dB (fitsD rfl) (rowBlk H h2 rfl (by decide))) (good_cons (good_dK (fitsD rfl) (fitsD rfl)) (good_cons (good_dK (fitsD rfl) (fitsD rfl)) (good_cons (good_dK (fitsD rfl) (fitsD rfl)) good_nil))))
end
section
variable {w w₀ : World} {S : Nat → Prop} {rs : List HP}
theorem rowZ {b m : Nat} (h : RowAt w (some ⟨b, 0, none⟩) m 1 (List.replicate m (B 0))) : RowAt w (some ⟨b, 0, none⟩) (List.replicate m (0 : UInt8)).length 1 ((List.replicate m (0 : UInt8)).map B) := by
  rw [List.length_replicate, List.map_replicate]; exact h
theorem many_good {x y : Int} {bl b7 b0 b9 bz bz9 b1 b4 E0 : Nat} {L : List Value} (hx : fits x) (hy : fits y)
    (H : Sep w₀ S (blk bl L E0 :: blk b4 ([4].map B) 5 :: blk b1 ([1, 0, 1].map I) 3 :: blk bz9 (List.replicate 129 (B 0)) 5 :: blk bz (List.replicate 128 (B 0)) 5 :: blk b9 ([9].map B) 5 :: blk b0 ([x, 0].map I) 3 :: blk b7 ([7].map B) 5 :: rs) w) :
    ∀ z ∈ manyDos x y b7 b0 b9 bz bz9 b1 b4, z.good w :=
  good_cons (good_dB hx (rowBlk H At7 rfl (by decide))) (good_cons (good_dK (fitsD rfl) hx) (good_cons (good_dF (fitsD rfl) hy (rowBlk H At6 rfl (by show 2 ≤ maxLen; decide)))
    (good_cons (good_dB (fitsD rfl) (rowBlk H At5 rfl (by decide))) (good_cons (good_dK (fitsD rfl) (fitsD rfl)) (good_cons (good_dB (fitsD rfl) (rowZ (rowBlk H At4 (by rw [List.length_replicate]) (by decide))))
    (good_cons (good_dK (fitsD rfl) (fitsD rfl)) (good_cons (good_dK (fitsD rfl) (fitsD rfl)) (good_cons (good_dK (fitsD rfl) (fitsD rfl)) (good_cons (good_dK (fitsD rfl) hy)
    (good_cons (good_dB (fitsD rfl) (rowZ (rowBlk H At3 (by rw [List.length_replicate]) (by decide)))) (good_cons (good_dF (fitsD rfl) (fitsD rfl) (rowBlk H At2 rfl (by decide)))
    (good_cons (good_dK (fitsD rfl) (fitsD rfl)) (good_cons (good_dK (fitsD rfl) (fitsD rfl)) (good_cons (good_dB (fitsD rfl) (rowBlk H At1 rfl (by decide))) good_nil))))))))))))))
end
set_option maxHeartbeats 4000000 in
theorem diskKnown_ok {w : World} : Rets Try.prog 9 [] w fun v w' => v = .bool true ∧ Kept noB w w' := by
  have H := Sep.start0 w
  refine rets0 Try.func9 rfl rfl rfl ?_
  refine FW_seq ?_
  refine FW_region ?_
  refine FL_assign (h := ?_)
  refine FL_nil (Qseq_normal ?_)
  refine FW_seq ?_
  refine FW_region ?_
  refine FL_buildSlice H (out := ends.map I) (Elems.one rfl rfl (Elems.one rfl rfl (Elems.one rfl rfl (Elems.one rfl rfl (Elems.one rfl rfl (Elems.one rfl rfl (Elems.one rfl rfl (Elems.one rfl rfl (Elems.one rfl rfl (Elems.one rfl rfl Elems.nil)))))))))) rfl rfl rfl (fun be w3 H3 _ => ?_)
  refine FL_assign (h := ?_)
  refine FL_nil (Qseq_normal ?_)
  refine FW_seq ?_
  refine FW_seq ?_
  refine FW_region ?_
  refine FL_assign (h := ?_)
  refine FL_nil (Qseq_normal ?_)
  refine FW_block ?_
  refine FW_loop' (fun i : Nat => [(1, .slice (some ⟨be, 0, none⟩) 10 10), (2, I i)])
    (fun i w' => i ≤ 10 ∧ Sep w noB [blk be (ends.map I) 3] w') (fun i _ => 10 - i) 0 ⟨rfl, rfl, trivial⟩ ⟨Nat.zero_le _, H3⟩ (fun i τ w7 hI => ?_)
  obtain ⟨hi, H7⟩ := hI
  try simp only [upds, like, upd_ds, und_ds]
  refine FW_seq ?_
  refine FW_seq ?_
  refine FW_region ?_
  refine FL_move (h := ?_)
  refine FL_move (h := ?_)
  refine FL_val (Gives.lenSlice rfl) rfl ?_
  refine FL_val (Gives.lss rfl rfl) rfl ?_
  refine FL_nil (Qseq_normal ?_)
  first | refine FW_condP rfl (fun hc12 => ?_) (fun hc12 => ?_) | refine FW_cond rfl (fun hc12 => ?_) (fun hc12 => ?_)
  · skip
    have hlt : i < 10 := by omega
    refine FW_skip (Qseq_normal ?_)
    refine FW_seq ?_
    refine FW_block ?_
    refine FW_seq ?_
    refine FW_seq ?_
    refine FW_region ?_
    refine FL_move (h := ?_)
    refine FL_move (h := ?_)
    refine FL_val (Gives.idxB rfl rfl hlt) rfl ?_
    refine FL_val (Gives.load1 rfl (H7.obj At0) (en_get hlt)) rfl ?_
    refine FL_buildSlice H7 (Elems.one rfl rfl Elems.nil) rfl rfl rfl (fun b1 w19 H19 _ => ?_)
    refine FL_val (Gives.build (out := doCells (dB 0 b1 [1])) (Fills.one rfl rfl rfl (by simp) rfl (Fills.one rfl rfl rfl (by simp) rfl Fills.nil))) rfl ?_
    refine FL_buildSlice H19 (Elems.one rfl rfl Elems.nil) rfl rfl rfl (fun b2 w22 H22 _ => ?_)
    refine FL_val (Gives.build (out := doCells (dB 65535 b2 [2])) (Fills.one rfl rfl rfl (by simp) rfl (Fills.one rfl rfl rfl (by simp) rfl Fills.nil))) rfl ?_
    refine FL_val (Gives.build (out := doCells (dK 3 65535)) (Fills.one rfl rfl rfl (by simp) rfl (Fills.one rfl rfl rfl (by simp) rfl Fills.nil))) rfl ?_
    refine FL_val (Gives.build (out := doCells (dK 4 0)) (Fills.one rfl rfl rfl (by simp) rfl Fills.nil)) rfl ?_
    refine FL_val (Gives.build (out := doCells (dK 3 1)) (Fills.one rfl rfl rfl (by simp) rfl (Fills.one rfl rfl rfl (by simp) rfl Fills.nil))) rfl ?_
    refine FL_buildSlice H22 (out := (fiveDos b1 b2).flatMap doCells) (Elems.many (us := doCells (dB 0 b1 [1])) rfl rfl (Elems.many (us := doCells (dB 65535 b2 [2])) rfl rfl (Elems.many (us := doCells (dK 3 65535)) rfl rfl (Elems.many (us := doCells (dK 4 0)) rfl rfl (Elems.many (us := doCells (dK 3 1)) rfl rfl Elems.nil))))) rfl rfl rfl (fun bl w28 H28 _ => ?_)
    refine FL_callQ H28 (plays_any (n := en i) (cl := 5) (l := fiveDos b1 b2) (rowBlk H28 At0 rfl (by show 5 ≤ maxLen; decide)) (five_good H28 At2 At1)) (h := fun w30 H30 _ => ?_)
    first | refine FL_val (Gives.notP rfl) rfl ?_ | refine FL_val (Gives.not rfl) rfl ?_
    refine FL_nil (Qseq_normal ?_)
    first | refine FW_condP rfl (fun hc32 => ?_) (fun hc32 => ?_) | refine FW_cond rfl (fun hc32 => ?_) (fun hc32 => ?_)
    · skip
      first | exact absurd rfl hc32 | exact (hc32 trivial).elim | exact absurd hc32 (by decide) | exact absurd hc32 (by simp) | omega --done
    · skip
      refine FW_skip (Qseq_normal ?_)
      refine FW_seq ?_
      refine FW_region ?_
      refine FL_assign (h := ?_)
      refine FL_nil (Qseq_normal ?_)
      refine FW_block ?_
      have H36 := H30.drop0.drop0.drop0
      refine FW_loop' (fun k : Nat => [(1, .slice (some ⟨be, 0, none⟩) 10 10), (2, I i), (3, I k)])
        (fun k w' => k ≤ 10 ∧ Sep w noB [blk be (ends.map I) 3] w') (fun k _ => 10 - k) 0 ⟨rfl, rfl, rfl, trivial⟩ ⟨Nat.zero_le _, H36⟩ (fun k τ w36 hI => ?_)
      obtain ⟨hk, H36⟩ := hI
      try simp only [upds, like, upd_ds]
      refine FW_seq ?_
      refine FW_seq ?_
      refine FW_region ?_
      refine FL_move (h := ?_)
      refine FL_move (h := ?_)
      refine FL_val (Gives.lenSlice rfl) rfl ?_
      refine FL_val (Gives.lss rfl rfl) rfl ?_
      refine FL_nil (Qseq_normal ?_)
      first | refine FW_condP rfl (fun hc41 => ?_) (fun hc41 => ?_) | refine FW_cond rfl (fun hc41 => ?_) (fun hc41 => ?_)
      · skip
        have hltk : k < 10 := by omega
        refine FW_skip (Qseq_normal ?_)
        refine FW_seq ?_
        refine FW_block ?_
        refine FW_seq ?_
        refine FW_drawS rfl H36 (h := fun hok43 w45 H45 => ?_)
        refine FG_allocs hok43 42 H45 (by kernel_rfl) (by kernel_rfl) (fun β => ?_)
        refine AW_move 1 (h := ?_)
        refine AW_move 2 (h := ?_)
        refine AW_p 3 rfl (fun _ => (Gives.idxB rfl rfl hlt)) rfl rfl ?_
        refine AW_l 4 rfl (fun w HW => Gives.load1 rfl (HW.obj At0) (en_get hlt)) rfl rfl ?_
        refine AW_build 5 (Elems.one rfl rfl Elems.nil) (h := ?_)
        refine AW_p 6 rfl (fun _ => (Gives.build (out := doCells (dB (en i) (β 4) [7])) (Fills.one rfl rfl rfl (by simp) rfl (Fills.one rfl rfl rfl (by simp) rfl Fills.nil)))) rfl rfl ?_
        refine AW_move 7 (h := ?_)
        refine AW_move 8 (h := ?_)
        refine AW_p 9 rfl (fun _ => (Gives.idxB rfl rfl hlt)) rfl rfl ?_
        refine AW_l 10 rfl (fun w HW => Gives.load1 rfl (HW.obj At0) (en_get hlt)) rfl rfl ?_
        refine AW_p 11 rfl (fun _ => (Gives.build (out := doCells (dK 3 (en i))) (Fills.one rfl rfl rfl (by simp) rfl (Fills.one rfl rfl rfl (by simp) rfl Fills.nil)))) rfl rfl ?_
        refine AW_move 12 (h := ?_)
        refine AW_move 13 (h := ?_)
        refine AW_p 14 rfl (fun _ => (Gives.idxB rfl rfl hltk)) rfl rfl ?_
        refine AW_l 15 rfl (fun w HW => Gives.load1 rfl (HW.obj At0) (en_get hltk)) rfl rfl ?_
        refine AW_move 16 (h := ?_)
        refine AW_move 17 (h := ?_)
        refine AW_p 18 rfl (fun _ => (Gives.idxB rfl rfl hlt)) rfl rfl ?_
        refine AW_l 19 rfl (fun w HW => Gives.load1 rfl (HW.obj At0) (en_get hlt)) rfl rfl ?_
        refine AW_build 20 (Elems.one rfl rfl (Elems.one rfl rfl Elems.nil)) (h := ?_)
        refine AW_p 21 rfl (fun _ => (Gives.build (out := doCells (dF 5 (en k) (β 19) [en i, 0])) (Fills.one rfl rfl rfl (by simp) rfl (Fills.one rfl rfl rfl (by simp) rfl (Fills.one rfl rfl rfl (by simp) rfl Fills.nil))))) rfl rfl ?_
        refine AW_build 22 (Elems.one rfl rfl Elems.nil) (h := ?_)
        refine AW_p 23 rfl (fun _ => (Gives.build (out := doCells (dB 1 (β 21) [9])) (Fills.one rfl rfl rfl (by simp) rfl (Fills.one rfl rfl rfl (by simp) rfl Fills.nil)))) rfl rfl ?_
        refine AW_p 24 rfl (fun _ => (Gives.build (out := doCells (dK 8 0)) (Fills.one rfl rfl rfl (by simp) rfl Fills.nil))) rfl rfl ?_
        refine AW_make 25 128 rfl (h := ?_)
        refine AW_p 26 rfl (fun _ => (Gives.build (out := doCells (dB 0 (β 24) z128)) (Fills.one rfl rfl rfl (by simp) rfl (Fills.one rfl rfl rfl (by simp) rfl Fills.nil)))) rfl rfl ?_
        refine AW_p 27 rfl (fun _ => (Gives.build (out := doCells (dK 4 0)) (Fills.one rfl rfl rfl (by simp) rfl Fills.nil))) rfl rfl ?_
        refine AW_p 28 rfl (fun _ => (Gives.build (out := doCells (dK 7 0)) (Fills.one rfl rfl rfl (by simp) rfl Fills.nil))) rfl rfl ?_
        refine AW_p 29 rfl (fun _ => (Gives.build (out := doCells (dK 5 2)) (Fills.one rfl rfl rfl (by simp) rfl (Fills.one rfl rfl rfl (by simp) rfl Fills.nil)))) rfl rfl ?_
        refine AW_move 30 (h := ?_)
        refine AW_move 31 (h := ?_)
        refine AW_p 32 rfl (fun _ => (Gives.idxB rfl rfl hltk)) rfl rfl ?_
        refine AW_l 33 rfl (fun w HW => Gives.load1 rfl (HW.obj At0) (en_get hltk)) rfl rfl ?_
        refine AW_p 34 rfl (fun _ => (Gives.build (out := doCells (dK 5 (en k))) (Fills.one rfl rfl rfl (by simp) rfl (Fills.one rfl rfl rfl (by simp) rfl Fills.nil)))) rfl rfl ?_
        refine AW_make 35 129 rfl (h := ?_)
        refine AW_p 36 rfl (fun _ => (Gives.build (out := doCells (dB 2 (β 34) z129)) (Fills.one rfl rfl rfl (by simp) rfl (Fills.one rfl rfl rfl (by simp) rfl Fills.nil)))) rfl rfl ?_
        refine AW_build 37 (Elems.one rfl rfl (Elems.one rfl rfl (Elems.one rfl rfl Elems.nil))) (h := ?_)
        refine AW_p 38 rfl (fun _ => (Gives.build (out := doCells (dF 6 0 (β 36) [1, 0, 1])) (Fills.one rfl rfl rfl (by simp) rfl (Fills.one rfl rfl rfl (by simp) rfl Fills.nil)))) rfl rfl ?_
        refine AW_p 39 rfl (fun _ => (Gives.build (out := doCells (dK 5 1)) (Fills.one rfl rfl rfl (by simp) rfl (Fills.one rfl rfl rfl (by simp) rfl Fills.nil)))) rfl rfl ?_
        refine AW_p 40 rfl (fun _ => (Gives.build (out := doCells (dK 7 0)) (Fills.one rfl rfl rfl (by simp) rfl Fills.nil))) rfl rfl ?_
        refine AW_build 41 (Elems.one rfl rfl Elems.nil) (h := ?_)
        refine AW_p 42 rfl (fun _ => (Gives.build (out := doCells (dB 2 (β 40) [4])) (Fills.one rfl rfl rfl (by simp) rfl (Fills.one rfl rfl rfl (by simp) rfl Fills.nil)))) rfl rfl ?_
        refine AW_end (fun w78 H78 => ?_)
        simp only [List.cons_append, List.nil_append] at H78
        refine FGbuildSlice hok43 42 [] H78 (out := (manyDos (en i) (en k) (β 4) (β 19) (β 21) (β 24) (β 34) (β 36) (β 40)).flatMap doCells) (Elems.many (us := doCells (dB (en i) (β 4) [7])) rfl rfl (Elems.many (us := doCells (dK 3 (en i))) rfl rfl (Elems.many (us := doCells (dF 5 (en k) (β 19) [en i, 0])) rfl rfl (Elems.many (us := doCells (dB 1 (β 21) [9])) rfl rfl (Elems.many (us := doCells (dK 8 0)) rfl rfl (Elems.many (us := doCells (dB 0 (β 24) z128)) rfl rfl (Elems.many (us := doCells (dK 4 0)) rfl rfl (Elems.many (us := doCells (dK 7 0)) rfl rfl (Elems.many (us := doCells (dK 5 2)) rfl rfl (Elems.many (us := doCells (dK 5 (en k))) rfl rfl (Elems.many (us := doCells (dB 2 (β 34) z129)) rfl rfl (Elems.many (us := doCells (dF 6 0 (β 36) [1, 0, 1])) rfl rfl (Elems.many (us := doCells (dK 5 1)) rfl rfl (Elems.many (us := doCells (dK 7 0)) rfl rfl (Elems.many (us := doCells (dB 2 (β 40) [4])) rfl rfl Elems.nil))))))))))))))) (h := fun bl w80 H80 => ⟨Stab_nil, ?_⟩)
        refine FGcallQ hok43 43 [] H80 (plays_any (n := 3) (cl := 15) (l := manyDos (en i) (en k) (β 4) (β 19) (β 21) (β 24) (β 34) (β 36) (β 40)) (rowBlk H80 At0 rfl (by show 15 ≤ maxLen; decide)) (many_good (en_fits i) (en_fits k) H80)) (h := fun w82 H82 _ => ⟨Stab_nil, ?_⟩)
        first | refine FGp hok43 44 rfl rfl (fun _ => (Gives.notP rfl)) (by kernel_rfl) ?_ | refine FGp hok43 44 rfl rfl (fun _ => (Gives.not rfl)) (by kernel_rfl) ?_
        refine FG_end hok43 (by kernel_rfl) ?_
        refine Qseq_normal ?_
        first | refine FW_condP rfl (fun hc84 => ?_) (fun hc84 => ?_) | refine FW_cond rfl (fun hc84 => ?_) (fun hc84 => ?_)
        · skip
          first | exact absurd rfl hc84 | exact (hc84 trivial).elim | exact absurd hc84 (by decide) | exact absurd hc84 (by simp) | omega --done
        · skip
          refine FW_skip (Qblk_normal (Qseq_normal ?_))
          refine FW_region ?_
          refine FL_move (h := ?_)
          first | refine FL_val (Gives.addI rfl rfl rfl (by omega)) rfl ?_ | refine FL_val (Gives.add rfl rfl) rfl ?_
          refine FL_assign (h := ?_)
          refine FL_nil ?_
          exact Qround_normal (k + 1) ⟨rfl, rfl, rfl, trivial⟩ ⟨by omega, H82.drop0.drop0.drop0.drop0.drop0.drop0.drop0.drop0⟩ (by omega)
      · skip
        refine FW_exit (Qseq_exit (Qround_exit (Qblk_exit (Qblk_normal (Qseq_normal ?_)))))
        refine FW_region ?_
        refine FL_move (h := ?_)
        first | refine FL_val (Gives.addI rfl rfl rfl (by omega)) rfl ?_ | refine FL_val (Gives.add rfl rfl) rfl ?_
        refine FL_assign (h := ?_)
        refine FL_nil ?_
        exact Qround_normal (i + 1) ⟨rfl, rfl, trivial⟩ ⟨by omega, H36⟩ (by omega)
  · skip
    refine FW_exit (Qseq_exit (Qround_exit (Qblk_exit (Qseq_normal ?_))))
    refine FW_seq ?_
    refine FW_region ?_
    refine FL_assign (h := ?_)
    refine FL_nil (Qseq_normal ?_)
    refine FW_seq ?_
    refine FW_seq ?_
    refine FW_region ?_
    refine FL_assign (h := ?_)
    refine FL_nil (Qseq_normal ?_)
    refine FW_block ?_
    refine FW_loop' (fun x : Nat × Value => [(4, x.2), (5, I x.1)])
      (fun x w' => (x.1 ≤ 2 ∧ NoDisk w' x.2) ∧ Sep w noB [] w') (fun x _ => 2 - x.1) (0, .pointer none) ⟨rfl, rfl, trivial⟩ ⟨⟨Nat.zero_le _, .inl rfl⟩, H7.drop0⟩ (fun x τ w97 hI => ?_)
    obtain ⟨n5, u⟩ := x
    obtain ⟨⟨hn5, hd⟩, H97⟩ := hI
    try simp only [upds, like, upd_ds]
    refine FW_seq ?_
    refine FW_seq ?_
    refine FW_region ?_
    refine FL_move (h := ?_)
    refine FL_val (Gives.lss rfl rfl) rfl ?_
    refine FL_nil (Qseq_normal ?_)
    first | refine FW_condP rfl (fun hc100 => ?_) (fun hc100 => ?_) | refine FW_cond rfl (fun hc100 => ?_) (fun hc100 => ?_)
    · skip
      refine FW_skip (Qseq_normal ?_)
      refine FW_seq ?_
      refine FW_block ?_
      refine FW_seq ?_
      refine FW_region ?_
      refine FL_move (h := ?_)
      refine FL_callS (hd.fail _ _) (h := ?_)
      refine FL_nil (Qseq_normal ?_)
      refine FW_seq ?_
      refine FW_region ?_
      refine FL_move (h := ?_)
      refine FL_callS (hd.crash _) (h := ?_)
      refine FL_nil (Qseq_normal ?_)
      refine FW_seq ?_
      refine FW_region ?_
      refine FL_move (h := ?_)
      refine FL_callS hd.boot (h := ?_)
      refine FL_nil (Qseq_normal ?_)
      refine FW_seq ?_
      refine FW_region ?_
      refine FL_move (h := ?_)
      refine FL_callS (hd.read 0) (h := ?_)
      refine FL_move (h := ?_)
      refine FL_val (Gives.extract rfl rfl) rfl ?_
      refine FL_val (Gives.extract rfl rfl) rfl ?_
      refine FL_assign (h := ?_)
      refine FL_assign (h := ?_)
      refine FL_nil (Qseq_normal ?_)
      refine FW_seq ?_
      refine FW_seq ?_
      refine FW_region ?_
      refine FL_move (h := ?_)
      refine FL_callS hd.size (h := ?_)
      refine FL_val (Gives.neq rfl rfl) rfl ?_
      refine FL_move (h := ?_)
      first | refine FL_splitP (t := 98) rfl (fun hs118 => ?_) (fun hs118 => ?_) | refine FL_split (t := 98) rfl (fun hs118 => ?_) (fun hs118 => ?_)
      · skip
        first | exact absurd rfl hs118 | exact (hs118 trivial).elim | exact absurd hs118 (by decide) | exact absurd hs118 (by simp) | omega --done
      · skip
        refine FL_on rfl rfl ?_
        refine FL_move (h := ?_)
        refine FL_on rfl rfl ?_
        refine FL_callS hd.alive (h := ?_)
        refine FL_pickF (h := ?_)
        refine FL_move (h := ?_)
        first | refine FL_splitP (t := 102) rfl (fun hs124 => ?_) (fun hs124 => ?_) | refine FL_split (t := 102) rfl (fun hs124 => ?_) (fun hs124 => ?_)
        · skip
          first | exact absurd rfl hs124 | exact (hs124 trivial).elim | exact absurd hs124 (by decide) | exact absurd hs124 (by simp) | omega --done
        · skip
          refine FL_on rfl rfl ?_
          refine FL_move (h := ?_)
          refine FL_on rfl rfl ?_
          refine FL_callS hd.ops (h := ?_)
          refine FL_on rfl rfl ?_
          refine FL_val (Gives.neq rfl rfl) rfl ?_
          refine FL_pickF (h := ?_)
          refine FL_move (h := ?_)
          first | refine FL_splitP (t := 107) rfl (fun hs131 => ?_) (fun hs131 => ?_) | refine FL_split (t := 107) rfl (fun hs131 => ?_) (fun hs131 => ?_)
          · skip
            first | exact absurd rfl hs131 | exact (hs131 trivial).elim | exact absurd hs131 (by decide) | exact absurd hs131 (by simp) | omega --done
          · skip
            refine FL_on rfl rfl ?_
            refine FL_move (h := ?_)
            refine FL_on rfl rfl ?_
            refine FL_callS hd.copy (h := ?_)
            refine FL_on rfl rfl ?_
            refine FL_val (Gives.neqNil rfl rfl) rfl ?_
            refine FL_pickF (h := ?_)
            refine FL_move (h := ?_)
            first | refine FL_splitP (t := 112) rfl (fun hs138 => ?_) (fun hs138 => ?_) | refine FL_split (t := 112) rfl (fun hs138 => ?_) (fun hs138 => ?_)
            · skip
              first | exact absurd rfl hs138 | exact (hs138 trivial).elim | exact absurd hs138 (by decide) | exact absurd hs138 (by simp) | omega --done
            · skip
              refine FL_on rfl rfl ?_
              refine FL_move (h := ?_)
              refine FL_on rfl rfl ?_
              refine FL_callS (hd.write 0 _) (h := ?_)
              refine FL_on rfl rfl ?_
              refine FL_val (Gives.neq rfl rfl) rfl ?_
              refine FL_pickF (h := ?_)
              refine FL_move (h := ?_)
              first | refine FL_splitP (t := 117) rfl (fun hs145 => ?_) (fun hs145 => ?_) | refine FL_split (t := 117) rfl (fun hs145 => ?_) (fun hs145 => ?_)
              · skip
                first | exact absurd rfl hs145 | exact (hs145 trivial).elim | exact absurd hs145 (by decide) | exact absurd hs145 (by simp) | omega --done
              · skip
                refine FL_on rfl rfl ?_
                refine FL_move (h := ?_)
                refine FL_on rfl rfl ?_
                refine FL_callS hd.flush (h := ?_)
                refine FL_on rfl rfl ?_
                refine FL_val (Gives.neq rfl rfl) rfl ?_
                refine FL_pickF (h := ?_)
                refine FL_move (h := ?_)
                first | refine FL_splitP (t := 122) rfl (fun hs152 => ?_) (fun hs152 => ?_) | refine FL_split (t := 122) rfl (fun hs152 => ?_) (fun hs152 => ?_)
                · skip
                  first | exact absurd rfl hs152 | exact (hs152 trivial).elim | exact absurd hs152 (by decide) | exact absurd hs152 (by simp) | omega --done
                · skip
                  refine FL_on rfl rfl ?_
                  refine FL_move (h := ?_)
                  refine FL_on rfl rfl ?_
                  refine FL_val (Gives.neq rfl rfl) rfl ?_
                  refine FL_pickF (h := ?_)
                  refine FL_nil (Qseq_normal ?_)
                  first | refine FW_condP rfl (fun hc157 => ?_) (fun hc157 => ?_) | refine FW_cond rfl (fun hc157 => ?_) (fun hc157 => ?_)
                  · skip
                    first | exact absurd rfl hc157 | exact (hc157 trivial).elim | exact absurd hc157 (by decide) | exact absurd hc157 (by simp) | omega --done
                  · skip
                    refine FW_skip (Qseq_normal ?_)
                    refine FW_region ?_
                    refine FL_val (Gives.build Fills.nil) rfl ?_
                    refine FL_box H97 (h := fun bz w161 H161 _ => ?_)
                    refine FL_assign (h := ?_)
                    refine FL_nil (Qblk_normal (Qseq_normal ?_))
                    refine FW_region ?_
                    refine FL_move (h := ?_)
                    first | refine FL_val (Gives.addI rfl rfl rfl (by omega)) rfl ?_ | refine FL_val (Gives.add rfl rfl) rfl ?_
                    refine FL_assign (h := ?_)
                    refine FL_nil ?_
                    exact Qround_normal (n5 + 1, .pointer (some ⟨bz, 0, none⟩)) ⟨rfl, rfl, trivial⟩ ⟨⟨by show n5 + 1 ≤ 2; omega, .inr ⟨bz, _, rfl, H161.obj At0, rfl⟩⟩, H161.drop0⟩ (by show 2 - (n5 + 1) < 2 - n5; omega)
    · skip
      refine FW_exit (Qseq_exit (Qround_exit (Qblk_exit (Qseq_normal ?_))))
      refine FW_seq ?_
      refine FW_region ?_
      refine FL_move (h := ?_)
      refine FL_on rfl rfl ?_
      refine FL_callQ H97 works_ok (h := fun w169 H169 _ => ?_)
      refine FL_pickT (h := ?_)
      refine FL_assign (h := ?_)
      refine FL_nil (Qseq_normal ?_)
      refine FW_ret (Qfn_ret (hR := ?_))
      exact ⟨rfl, H169.kept⟩
end Go.Proofs.Yteflbohpabdjkaa
