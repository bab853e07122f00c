/-
 Searches in rows, walked: slices.ContainsFunc, Index, Contains.
-/
import Derived.Test.YtmkaahkbhdlniaaGreatDoorEv14
set_option linter.unusedVariables false
set_option linter.unusedSimpArgs false
namespace Go.Proofs.YtmkaahkbhdlniaaGreatDoor
open Go Go.Mw Go.Lib
set_option maxRecDepth 4000
section
variable {w : World}
theorem typesAny_ok {l : List TypeM} {v fv : Value} {p : TypeM → Bool} (hl : RowIn w v typeCells 2 l) (hp : PredIn w fv (fun x => agg (typeCells x)) p) : Rets Tryz.prog 83 [v, fv] w fun v w' => v = .bool (l.any p) ∧ Kept noB w w' := by
 have H := Sep.start0 w
 refine rets2 Tryz.func83 rfl rfl rfl rfl ?_
 refine Sr ?_
 refine Am ?_
 refine Nx ?_
 refine Mv ?_
 refine Mv ?_
 refine FL_callQ H (typesF_ok (hl.keep H.kept) (hp.keep H.kept)) (h := fun w5 H5 k4 => ?_)
 refine FL_val (Gives.geq rfl rfl) rfl ?_
 refine Am ?_
 refine Qn ?_
 refine FW_ret (Qfn_ret (hR := ?_))
 exact ⟨by rw [← idx_any]; rfl, H5.kept⟩
theorem intsI_ok {l : List (Int)} {v : Value} (x : Int) (hl : RowIn w v intCells 1 l) : Rets Tryz.prog 155 [v, I x] w fun v w' => v = I (idxI (l.findIdx? fun y => decide (x = y))) ∧ Kept noB w w' := by
 obtain ⟨A, m, rfl, ⟨hm, hm'⟩, hA⟩ := hl
 have H := Sep.start0 w
 obtain ⟨p, hp⟩ : ∃ p : Int → Bool, p = fun y => decide (x = y) := ⟨_, rfl⟩
 rw [← hp]
 refine rets2 Tryz.func155 rfl rfl rfl rfl ?_
 refine Sr ?_
 refine Am ?_
 refine Qn ?_
 refine FW_seq ?_
 refine Sr ?_
 refine Mv ?_
 refine Vs ?_
 refine Mv ?_
 refine Qn ?_
 refine FW_block ?_
 refine FW_loop' (fun i : Nat => [(0, .slice A l.length m), (1, I x), (7, I l.length), (8, I i)]) (fun i w' => (i ≤ l.length ∧ ∀ (j : Nat) y, j < i → l[j]? = some y → p y = false) ∧ Sep w noB [] w') (fun i _ => l.length - i) 0 ⟨rfl, rfl, rfl, rfl, trivial⟩ ⟨⟨Nat.zero_le _, fun j y hj => by omega⟩, H⟩ (fun i τ w6 hI => ?_)
 obtain ⟨⟨hi, hbe⟩, H6⟩ := hI
 try simp only [upds, like, upd_ds, und_ds]
 refine Sr ?_
 refine Vl ?_
 refine Qn ?_
 refine FW_seq ?_
 refine FW_condP rfl (fun hc8 => ?_) (fun hc8 => ?_)
 ·have hlt : i < l.length := by omega
  obtain ⟨y, hy⟩ := get_some hlt
  refine Sk ?_
  refine FW_seq ?_
  refine FW_block ?_
  refine Sr ?_
  refine Mv ?_
  refine Am ?_
  refine Nx ?_
  refine Mv ?_
  refine Mv ?_
  refine Mv ?_
  refine FL_val (Gives.idxR rfl rfl (by assumption) (by omega)) rfl ?_
  refine FL_val (Gives.loadE1 rfl H6 (by assumption) (by assumption) rfl) rfl ?_
  refine Ve ?_
  refine Qn ?_
  refine FW_condP rfl (fun hc18 => ?_) (fun hc18 => ?_)
  ·have hfin : l.findIdx? p = some i := find_at hbe hy (by rw [hp]; simpa using hc18)
   refine Sr ?_
   refine Mv ?_
   refine Am ?_
   refine Qn ?_
   refine Rb (Qround_ret (Qblk_ret (Qseq_ret (Qfn_ret (hR := ?_)))))
   exact ⟨by rw [hfin]; rfl, H6.kept⟩
  ·have hpx : p y = false := by rw [hp]; simpa using hc18
   refine FW_skip (Qblk_normal (Qseq_normal ?_))
   refine FW_region ?_
   refine FL_val (Gives.addI rfl rfl rfl (by omega)) rfl ?_
   refine Mv ?_
   refine FL_nil ?_
   exact Qround_normal (i + 1) ⟨rfl, rfl, rfl, rfl, trivial⟩ ⟨⟨by omega, fun j z hj hz => by
   by_cases e : j = i
   ·subst e; rw [hy] at hz; injection hz with hz; rw [← hz]; exact hpx
   ·exact hbe j z (by omega) hz⟩, H6⟩ (by omega)
 ·have hil : i = l.length := by omega
  have hfin : l.findIdx? p = none := findNone fun j y hy => hbe j y (by have := get_lt hy; omega) hy
  refine FW_exit (Qseq_exit (Qround_exit (Qblk_exit (Qseq_normal ?_))))
  refine Sr ?_
  refine Am ?_
  refine Qn ?_
  refine FW_ret (Qfn_ret (hR := ?_))
  exact ⟨by rw [hfin]; rfl, H6.kept⟩
theorem textsI_ok {l : List (List UInt8)} {v : Value} (x : List UInt8) (hl : RowIn w v textCells 1 l) : Rets Tryz.prog 141 [v, str x] w fun v w' => v = I (idxI (l.findIdx? fun y => decide (x = y))) ∧ Kept noB w w' := by
 obtain ⟨A, m, rfl, ⟨hm, hm'⟩, hA⟩ := hl
 have H := Sep.start0 w
 obtain ⟨p, hp⟩ : ∃ p : List UInt8 → Bool, p = fun y => decide (x = y) := ⟨_, rfl⟩
 rw [← hp]
 refine rets2 Tryz.func141 rfl rfl rfl rfl ?_
 refine Sr ?_
 refine Am ?_
 refine Qn ?_
 refine FW_seq ?_
 refine Sr ?_
 refine Mv ?_
 refine Vs ?_
 refine Mv ?_
 refine Qn ?_
 refine FW_block ?_
 refine FW_loop' (fun i : Nat => [(0, .slice A l.length m), (1, str x), (7, I l.length), (8, I i)]) (fun i w' => (i ≤ l.length ∧ ∀ (j : Nat) y, j < i → l[j]? = some y → p y = false) ∧ Sep w noB [] w') (fun i _ => l.length - i) 0 ⟨rfl, rfl, rfl, rfl, trivial⟩ ⟨⟨Nat.zero_le _, fun j y hj => by omega⟩, H⟩ (fun i τ w6 hI => ?_)
 obtain ⟨⟨hi, hbe⟩, H6⟩ := hI
 try simp only [upds, like, upd_ds, und_ds]
 refine Sr ?_
 refine Vl ?_
 refine Qn ?_
 refine FW_seq ?_
 refine FW_condP rfl (fun hc8 => ?_) (fun hc8 => ?_)
 ·have hlt : i < l.length := by omega
  obtain ⟨y, hy⟩ := get_some hlt
  refine Sk ?_
  refine FW_seq ?_
  refine FW_block ?_
  refine Sr ?_
  refine Mv ?_
  refine Am ?_
  refine Nx ?_
  refine Mv ?_
  refine Mv ?_
  refine Mv ?_
  refine FL_val (Gives.idxR rfl rfl (by assumption) (by omega)) rfl ?_
  refine FL_val (Gives.loadE1 rfl H6 (by assumption) (by assumption) rfl) rfl ?_
  refine FL_val (Gives.eqlT rfl rfl) rfl ?_
  refine Qn ?_
  refine FW_condP rfl (fun hc18 => ?_) (fun hc18 => ?_)
  ·have hfin : l.findIdx? p = some i := find_at hbe hy (by rw [hp]; simpa using hc18)
   refine Sr ?_
   refine Mv ?_
   refine Am ?_
   refine Qn ?_
   refine Rb (Qround_ret (Qblk_ret (Qseq_ret (Qfn_ret (hR := ?_)))))
   exact ⟨by rw [hfin]; rfl, H6.kept⟩
  ·have hpx : p y = false := by rw [hp]; simpa using hc18
   refine FW_skip (Qblk_normal (Qseq_normal ?_))
   refine FW_region ?_
   refine FL_val (Gives.addI rfl rfl rfl (by omega)) rfl ?_
   refine Mv ?_
   refine FL_nil ?_
   exact Qround_normal (i + 1) ⟨rfl, rfl, rfl, rfl, trivial⟩ ⟨⟨by omega, fun j z hj hz => by
   by_cases e : j = i
   ·subst e; rw [hy] at hz; injection hz with hz; rw [← hz]; exact hpx
   ·exact hbe j z (by omega) hz⟩, H6⟩ (by omega)
 ·have hil : i = l.length := by omega
  have hfin : l.findIdx? p = none := findNone fun j y hy => hbe j y (by have := get_lt hy; omega) hy
  refine FW_exit (Qseq_exit (Qround_exit (Qblk_exit (Qseq_normal ?_))))
  refine Sr ?_
  refine Am ?_
  refine Qn ?_
  refine FW_ret (Qfn_ret (hR := ?_))
  exact ⟨by rw [hfin]; rfl, H6.kept⟩
theorem cellsI_ok {l : List (CellM)} {v : Value} (x : CellM) (hl : RowIn w v cellCells 3 l) : Rets Tryz.prog 203 [v, agg (cellCells x)] w fun v w' => v = I (idxI (l.findIdx? fun y => decide (x = y))) ∧ Kept noB w w' := by
 obtain ⟨A, m, rfl, ⟨hm, hm'⟩, hA⟩ := hl
 have H := Sep.start0 w
 obtain ⟨p, hp⟩ : ∃ p : CellM → Bool, p = fun y => decide (x = y) := ⟨_, rfl⟩
 rw [← hp]
 refine rets2 Tryz.func203 rfl rfl rfl rfl ?_
 refine Sr ?_
 refine FL_box H (h := ?_)
 intro b1 w2 H2 k1
 refine Am ?_
 refine Qn ?_
 refine FW_seq ?_
 refine Sr ?_
 refine Mv ?_
 refine Vs ?_
 refine Mv ?_
 refine Qn ?_
 refine FW_block ?_
 refine FW_loop' (fun i : Nat => [(0, .slice A l.length m), (3, .pointer (some ⟨b1, 0, none⟩)), (7, I l.length), (8, I i)]) (fun i w' => (i ≤ l.length ∧ ∀ (j : Nat) y, j < i → l[j]? = some y → p y = false) ∧ Sep w noB [blk b1 (cellCells x) 34] w') (fun i _ => l.length - i) 0 ⟨rfl, rfl, rfl, rfl, trivial⟩ ⟨⟨Nat.zero_le _, fun j y hj => by omega⟩, H2⟩ (fun i τ w8 hI => ?_)
 obtain ⟨⟨hi, hbe⟩, H8⟩ := hI
 try simp only [upds, like, upd_ds, und_ds]
 refine Sr ?_
 refine Vl ?_
 refine Qn ?_
 refine FW_seq ?_
 refine FW_condP rfl (fun hc10 => ?_) (fun hc10 => ?_)
 ·have hlt : i < l.length := by omega
  obtain ⟨y, hy⟩ := get_some hlt
  refine Sk ?_
  refine FW_seq ?_
  refine FW_block ?_
  refine Sr ?_
  refine Mv ?_
  refine Am ?_
  refine Qn ?_
  refine FW_seq ?_
  refine FW_drawS rfl H8 (h := fun hok14 w16 H16 => ?_)
  refine FGloadAll hok14 0 H16 (h := ?_)
  refine FGmove hok14 1 (h := ?_)
  refine FGmove hok14 2 (h := ?_)
  refine FGp hok14 3 rfl rfl (fun _ => (Gives.idxR rfl rfl (by assumption) (by omega))) (by kernel_rfl) ?_
  refine FGl hok14 4 rfl rfl (Gives.loadE0 rfl H16 (by assumption) (by assumption)) (by kernel_rfl) ?_
  refine FGp hok14 5 rfl rfl (fun _ => (Gives.eqlG (enc := cellCells) _ _ rfl rfl)) (by kernel_rfl) ?_
  refine FG_end hok14 (by kernel_rfl) ?_
  refine Qseq_normal ?_
  refine FW_condP rfl (fun hc21 => ?_) (fun hc21 => ?_)
  ·have hfin : l.findIdx? p = some i := find_at hbe hy (by rw [hp]; simpa using hc21)
   refine Sr ?_
   refine Mv ?_
   refine Am ?_
   refine Qn ?_
   refine Rb (Qround_ret (Qblk_ret (Qseq_ret (Qfn_ret (hR := ?_)))))
   exact ⟨by rw [hfin]; rfl, H16.kept⟩
  ·have hpx : p y = false := by rw [hp]; simpa using hc21
   refine FW_skip (Qblk_normal (Qseq_normal ?_))
   refine FW_region ?_
   refine FL_val (Gives.addI rfl rfl rfl (by omega)) rfl ?_
   refine Mv ?_
   refine FL_nil ?_
   exact Qround_normal (i + 1) ⟨rfl, rfl, rfl, rfl, trivial⟩ ⟨⟨by omega, fun j z hj hz => by
   by_cases e : j = i
   ·subst e; rw [hy] at hz; injection hz with hz; rw [← hz]; exact hpx
   ·exact hbe j z (by omega) hz⟩, H16⟩ (by omega)
 ·have hil : i = l.length := by omega
  have hfin : l.findIdx? p = none := findNone fun j y hy => hbe j y (by have := get_lt hy; omega) hy
  refine FW_exit (Qseq_exit (Qround_exit (Qblk_exit (Qseq_normal ?_))))
  refine Sr ?_
  refine Am ?_
  refine Qn ?_
  refine FW_ret (Qfn_ret (hR := ?_))
  exact ⟨by rw [hfin]; rfl, H8.kept⟩
theorem intsHas_ok {l : List (Int)} {v : Value} (x : Int) (hl : RowIn w v intCells 1 l) : Rets Tryz.prog 85 [v, I x] w fun v w' => v = .bool (l.any fun y => decide (x = y)) ∧ Kept noB w w' := by
 have H := Sep.start0 w
 refine rets2 Tryz.func85 rfl rfl rfl rfl ?_
 refine Sr ?_
 refine Am ?_
 refine Nx ?_
 refine Mv ?_
 refine Mv ?_
 refine FL_callQ H (intsI_ok x (hl.keep H.kept)) (h := fun w5 H5 k4 => ?_)
 refine FL_val (Gives.geq rfl rfl) rfl ?_
 refine Am ?_
 refine Qn ?_
 refine FW_ret (Qfn_ret (hR := ?_))
 exact ⟨by rw [← idx_any]; rfl, H5.kept⟩
theorem cellsHas_ok {l : List (CellM)} {v : Value} (x : CellM) (hl : RowIn w v cellCells 3 l) : Rets Tryz.prog 158 [v, agg (cellCells x)] w fun v w' => v = .bool (l.any fun y => decide (x = y)) ∧ Kept noB w w' := by
 have H := Sep.start0 w
 refine rets2 Tryz.func158 rfl rfl rfl rfl ?_
 refine Sr ?_
 refine FL_box H (h := ?_)
 intro b1 w2 H2 k1
 refine Am ?_
 refine Nx ?_
 refine Mv ?_
 refine FL_loadAll H2 (h := ?_)
 refine FL_callQ H2 (cellsI_ok x (hl.keep H2.kept)) (h := fun w7 H7 k6 => ?_)
 refine FL_val (Gives.geq rfl rfl) rfl ?_
 refine Am ?_
 refine Qn ?_
 refine FW_ret (Qfn_ret (hR := ?_))
 exact ⟨by rw [← idx_any]; rfl, H7.kept⟩
end
end Go.Proofs.YtmkaahkbhdlniaaGreatDoor
/-
 A stack's take and put, walked; how many values a step takes; words of nothing; may a type be.
-/
namespace Go.Mw
open Go.RowKit
section gives
variable {P : Program} {ρ : Operand → Value} {ty : TypeId} {w : World} {x y z : Operand}
/-- x[:h:m]. -/
theorem Gives.sliceMax {t e : TypeId} [ht : IsSlice P t e] {size bytes : Nat} [hc : Cells P e size bytes] {A : Option Addr} {n c h m : Nat} {k j : IntKind} (hx : ρ x = .slice A n c) (hy : ρ y = .int k h) (hz : ρ z = .int j m) (hle : h ≤ m) (hle2 : m ≤ c) : Gives P ρ (.slice t x none (some y) (some z)) ty w (.slice A h m) w := fun _ _ _ _ => by
 obtain ⟨i, hi, hsb⟩ := Option.map_eq_some_iff.1 hc.size
 have e1 : (0 : Int) ≤ (h : Int) ∧ (h : Int) ≤ (m : Int) := by omega
 have e2 : (0 : Int) ≤ (m : Int) ∧ (m : Int) ≤ (c : Int) := by omega
 have e3 : A.map (fun x : Addr => x.add 0) = A := by cases A <;> simp [Addr.add_zero']
 simp [execOp, hx, hy, hz, Instr.sliceAt, run_underlying ht.und, Instr.slice, Instr.sliceBounds, Instr.sliceBound, asIntOf, e1, e2, sizeOf, typeInfo, hi, e3, hle, hle2]
end gives
end Go.Mw
namespace Go.Proofs.YtmkaahkbhdlniaaGreatDoor
open Go Go.Mw Go.Lib
set_option maxRecDepth 4000
section
variable {w : World}
theorem typesTake_ok {b E n c k : Nat} {A : Option Addr} {F : Nat → Prop} (hp : (blk b [.slice A n c] E).ok F w) (hk : k ≤ n) (hnc : n ≤ c) (hc : n ≤ 9223372036854775807) :
    Rets Tryz.prog 40 [.pointer (some ⟨b, 0, none⟩), I k] w fun v w' => v = .tuple #[.slice (if c = n - k then A else A.map (·.add ((n - k) * 2))) k (c - (n - k)), .bool true] ∧ Turn F (blk b [.slice A (n - k) (n - k)] E) w w' := by
  have H := Sep.start1 hp
  refine rets2 Tryz.func40 rfl rfl rfl rfl ?_
  refine Sr ?_
  refine Am ?_
  refine Am ?_
  refine Nx ?_
  refine Mv ?_
  refine FL_val (Gives.nilCheck rfl) rfl ?_
  refine Vf ?_
  refine Ld H ?_
  refine Vs ?_
  refine Mv ?_
  refine FL_val (Gives.subI (c := ((n - k : Nat) : Int)) rfl rfl (by omega) (by omega)) rfl ?_
  refine Am ?_
  refine Qn ?_
  refine FW_seq ?_
  refine Sr ?_
  refine Mv ?_
  refine Vl ?_
  refine Qn ?_
  refine FW_condP rfl (fun hc13 => ?_) (fun hc13 => ?_)
  · exact absurd hc13 (by omega) --done
  · refine Sk ?_
    refine Sr ?_
    refine Mv ?_
    refine FL_val (Gives.nilCheck rfl) rfl ?_
    refine Vf ?_
    refine Ld H ?_
    refine Mv ?_
    refine FL_val (Gives.sliceFrom rfl rfl (by omega)) rfl ?_
    rw [show n - (n - k) = k by omega]
    refine Am ?_
    refine Nx ?_
    refine Mv ?_
    refine Mv ?_
    refine FL_val (Gives.nilCheck rfl) rfl ?_
    refine Vf ?_
    refine Ld H ?_
    refine Mv ?_
    refine Mv ?_
    refine FL_val (Gives.sliceMax rfl rfl rfl (by omega) (by omega)) rfl ?_
    refine FL_val (Gives.nilCheck rfl) rfl ?_
    refine Vf ?_
    refine FL_store H (h := ?_)
    intro w33 H33
    refine Nx ?_
    refine Mv ?_
    refine Am ?_
    refine Am ?_
    refine Qn ?_
    refine FW_ret (Qfn_ret (hR := ?_))
    exact ⟨rfl, H33.turn⟩
theorem typesTakeNo_ok {b E n c k : Nat} {A : Option Addr} {F : Nat → Prop} (hp : (blk b [.slice A n c] E).ok F w) (hk : n < k) (hk2 : k ≤ 1000000) :
    Rets Tryz.prog 40 [.pointer (some ⟨b, 0, none⟩), I k] w fun v w' => v = .tuple #[.slice none 0 0, .bool false] ∧ Turn F (blk b [.slice A n c] E) w w' := by
  have H := Sep.start1 hp
  refine rets2 Tryz.func40 rfl rfl rfl rfl ?_
  refine Sr ?_
  refine Am ?_
  refine Am ?_
  refine Nx ?_
  refine Mv ?_
  refine FL_val (Gives.nilCheck rfl) rfl ?_
  refine Vf ?_
  refine Ld H ?_
  refine Vs ?_
  refine Mv ?_
  refine FL_val (Gives.subI rfl rfl rfl (by omega)) rfl ?_
  refine Am ?_
  refine Qn ?_
  refine FW_seq ?_
  refine Sr ?_
  refine Mv ?_
  refine Vl ?_
  refine Qn ?_
  refine FW_condP rfl (fun hc13 => ?_) (fun hc13 => ?_)
  · refine Sr ?_
    refine Am ?_
    refine Am ?_
    refine Qn ?_
    refine Rs (Qfn_ret (hR := ?_))
    exact ⟨rfl, H.turn⟩
  · exact absurd (show ((n : Int) - k) < 0 by omega) hc13 --done
theorem typesPut_ok {b E : Nat} {A : Option Addr} {F : Nat → Prop} {l news : List TypeM} {vn : Value} (hp : (blk b [.slice A l.length l.length] E).ok F w) (hr : Rd w A typeCells 2 l) (hn : RowIn w vn typeCells 2 news) (hne : 0 < news.length) (hlen : l.length + news.length ≤ 1000000) :
    Rets Tryz.prog 45 [.pointer (some ⟨b, 0, none⟩), vn] w fun v w' => ∃ x, v = .tuple #[] ∧ True ∧ Turn F (star (blk b [x] E) (rowD 29 2 typeCells x (l ++ news))) w w' := by
  obtain ⟨B, m, rfl, ⟨hm, hm'⟩, hB⟩ := hn
  have H := Sep.start1 hp
  refine rets2 Tryz.func45 rfl rfl rfl rfl ?_
  refine FW_region ?_
  refine Mv ?_
  refine Mv ?_
  refine FL_val (Gives.nilCheck rfl) rfl ?_
  refine Vf ?_
  refine Ld H ?_
  refine Mv ?_
  refine FL_appendF H hr hB hne (by unfold maxLen; omega) (by omega) (cells_one (fun _ => rfl) _) (h := ?_)
  intro v2 w8 H8 k7
  obtain ⟨B2, c2, rfl, hc2, hB2⟩ := Sep.formD H8 At0
  refine FL_val (Gives.nilCheck rfl) rfl ?_
  refine Vf ?_
  refine FL_store H8 (h := ?_)
  intro w12 H12
  refine FL_nil (Qfn_normal (hR := ?_))
  exact ⟨_, rfl, trivial, (H12.front1.join0).turn⟩
theorem cellsTake_ok {b E n c k : Nat} {A : Option Addr} {F : Nat → Prop} (hp : (blk b [.slice A n c] E).ok F w) (hk : k ≤ n) (hnc : n ≤ c) (hc : n ≤ 9223372036854775807) :
    Rets Tryz.prog 51 [.pointer (some ⟨b, 0, none⟩), I k] w fun v w' => v = .tuple #[.slice (if c = n - k then A else A.map (·.add ((n - k) * 3))) k (c - (n - k)), .bool true] ∧ Turn F (blk b [.slice A (n - k) (n - k)] E) w w' := by
  have H := Sep.start1 hp
  refine rets2 Tryz.func51 rfl rfl rfl rfl ?_
  refine Sr ?_
  refine Am ?_
  refine Am ?_
  refine Nx ?_
  refine Mv ?_
  refine FL_val (Gives.nilCheck rfl) rfl ?_
  refine Vf ?_
  refine Ld H ?_
  refine Vs ?_
  refine Mv ?_
  refine FL_val (Gives.subI (c := ((n - k : Nat) : Int)) rfl rfl (by omega) (by omega)) rfl ?_
  refine Am ?_
  refine Qn ?_
  refine FW_seq ?_
  refine Sr ?_
  refine Mv ?_
  refine Vl ?_
  refine Qn ?_
  refine FW_condP rfl (fun hc13 => ?_) (fun hc13 => ?_)
  · exact absurd hc13 (by omega) --done
  · refine Sk ?_
    refine Sr ?_
    refine Mv ?_
    refine FL_val (Gives.nilCheck rfl) rfl ?_
    refine Vf ?_
    refine Ld H ?_
    refine Mv ?_
    refine FL_val (Gives.sliceFrom rfl rfl (by omega)) rfl ?_
    rw [show n - (n - k) = k by omega]
    refine Am ?_
    refine Nx ?_
    refine Mv ?_
    refine Mv ?_
    refine FL_val (Gives.nilCheck rfl) rfl ?_
    refine Vf ?_
    refine Ld H ?_
    refine Mv ?_
    refine Mv ?_
    refine FL_val (Gives.sliceMax rfl rfl rfl (by omega) (by omega)) rfl ?_
    refine FL_val (Gives.nilCheck rfl) rfl ?_
    refine Vf ?_
    refine FL_store H (h := ?_)
    intro w33 H33
    refine Nx ?_
    refine Mv ?_
    refine Am ?_
    refine Am ?_
    refine Qn ?_
    refine FW_ret (Qfn_ret (hR := ?_))
    exact ⟨rfl, H33.turn⟩
theorem cellsPut_ok {b E : Nat} {A : Option Addr} {F : Nat → Prop} {l news : List CellM} {vn : Value} (hp : (blk b [.slice A l.length l.length] E).ok F w) (hr : Rd w A cellCells 3 l) (hn : RowIn w vn cellCells 3 news) (hne : 0 < news.length) (hlen : l.length + news.length ≤ 1000000) :
    Rets Tryz.prog 53 [.pointer (some ⟨b, 0, none⟩), vn] w fun v w' => ∃ x, v = .tuple #[] ∧ True ∧ Turn F (star (blk b [x] E) (rowD 34 3 cellCells x (l ++ news))) w w' := by
  obtain ⟨B, m, rfl, ⟨hm, hm'⟩, hB⟩ := hn
  have H := Sep.start1 hp
  refine rets2 Tryz.func53 rfl rfl rfl rfl ?_
  refine FW_region ?_
  refine Mv ?_
  refine Mv ?_
  refine FL_val (Gives.nilCheck rfl) rfl ?_
  refine Vf ?_
  refine Ld H ?_
  refine Mv ?_
  refine FL_appendF H hr hB hne (by unfold maxLen; omega) (by omega) (cells_one (fun _ => rfl) _) (h := ?_)
  intro v2 w8 H8 k7
  obtain ⟨B2, c2, rfl, hc2, hB2⟩ := Sep.formD H8 At0
  refine FL_val (Gives.nilCheck rfl) rfl ?_
  refine Vf ?_
  refine FL_store H8 (h := ?_)
  intro w12 H12
  refine FL_nil (Qfn_normal (hR := ?_))
  exact ⟨_, rfl, trivial, (H12.front1.join0).turn⟩
theorem many_ok (k : Int) : Rets Tryz.prog 41 [I k] w fun v w' => v = I (takesS k) ∧ Kept noB w w' := by
 have H := Sep.start0 w
 obtain ⟨res, hres⟩ : ∃ res, res = takesS k := ⟨_, rfl⟩
 rw [← hres]
 unfold takesS at hres
 refine rets1 Tryz.func41 rfl rfl rfl rfl ?_
 refine Sr ?_
 refine Am ?_
 refine Qn ?_
 refine FW_seq ?_
 refine FW_block ?_
 refine Sr ?_
 refine Mv ?_
 refine Vl ?_
 refine Am ?_
 refine Qn ?_
 refine FW_condP rfl (fun hc5 => ?_) (fun hc5 => ?_)
 ·rw [if_pos hc5] at hres
  refine Sr ?_
  refine Am ?_
  refine Qn ?_
  refine Rb (Qfn_ret (hR := ?_))
  exact ⟨by rw [hres]; rfl, H.kept⟩
 ·rw [if_neg hc5] at hres
  refine Sr ?_
  refine Mv ?_
  refine Ve ?_
  refine Mv ?_
  refine FL_splitP (t := 9) rfl (fun hs13 => ?_) (fun hs13 => ?_)
  ·refine Of ?_
   refine Of ?_
   refine Pt ?_
   refine Mv ?_
   refine Of ?_
   refine Of ?_
   refine Pt ?_
   refine Mv ?_
   refine Of ?_
   refine Of ?_
   refine Pt ?_
   refine Am ?_
   refine Qn ?_
   refine FW_cond_true rfl ?_
   refine Sr ?_
   refine Am ?_
   refine Qn ?_
   refine Rb (Qfn_ret (hR := ?_))
   exact ⟨by rw [hres, if_pos (by omega)]; rfl, H.kept⟩
  ·refine On ?_
   refine Mv ?_
   refine On ?_
   refine Ve ?_
   refine Pf ?_
   refine Mv ?_
   refine FL_splitP (t := 13) rfl (fun hs26 => ?_) (fun hs26 => ?_)
   ·refine Of ?_
    refine Of ?_
    refine Pt ?_
    refine Mv ?_
    refine Of ?_
    refine Of ?_
    refine Pt ?_
    refine Am ?_
    refine Qn ?_
    refine FW_cond_true rfl ?_
    refine Sr ?_
    refine Am ?_
    refine Qn ?_
    refine Rb (Qfn_ret (hR := ?_))
    exact ⟨by rw [hres, if_pos (by omega)]; rfl, H.kept⟩
   ·refine On ?_
    refine Mv ?_
    refine On ?_
    refine Ve ?_
    refine Pf ?_
    refine Mv ?_
    refine FL_splitP (t := 17) rfl (fun hs37 => ?_) (fun hs37 => ?_)
    ·refine Of ?_
     refine Of ?_
     refine Pt ?_
     refine Am ?_
     refine Qn ?_
     refine FW_cond_true rfl ?_
     refine Sr ?_
     refine Am ?_
     refine Qn ?_
     refine Rb (Qfn_ret (hR := ?_))
     exact ⟨by rw [hres, if_pos (by omega)]; rfl, H.kept⟩
    ·refine On ?_
     refine Mv ?_
     refine On ?_
     refine Ve ?_
     refine Pf ?_
     refine Am ?_
     refine Qn ?_
     refine FW_condP rfl (fun hc46 => ?_) (fun hc46 => ?_)
     ·refine Sr ?_
      refine Am ?_
      refine Qn ?_
      refine Rb (Qfn_ret (hR := ?_))
      exact ⟨by rw [hres, if_pos (by omega)]; rfl, H.kept⟩
     ·rw [if_neg (by omega)] at hres
      refine FW_skip (Qblk_normal (Qseq_normal ?_))
      refine Sr ?_
      refine Am ?_
      refine Qn ?_
      refine FW_ret (Qfn_ret (hR := ?_))
      exact ⟨by rw [hres]; rfl, H.kept⟩
theorem null_ok (k : Int) : Rets Tryz.prog 81 [I k] w fun v w' => v = str (nullW k) ∧ Kept noB w w' := by
 have H := Sep.start0 w
 obtain ⟨res, hres⟩ : ∃ res, res = nullW k := ⟨_, rfl⟩
 rw [← hres]
 unfold nullW at hres
 refine rets1 Tryz.func81 rfl rfl rfl rfl ?_
 refine Sr ?_
 refine Am ?_
 refine Qn ?_
 refine FW_seq ?_
 refine Sr ?_
 refine Mv ?_
 refine Qn ?_
 refine FW_block ?_
 refine Sr ?_
 refine Ve ?_
 refine Am ?_
 refine Qn ?_
 refine FW_condP rfl (fun hc5 => ?_) (fun hc5 => ?_)
 ·rw [if_pos hc5] at hres
  refine Sr ?_
  refine Am ?_
  refine Qn ?_
  refine Rb (Qfn_ret (hR := ?_))
  exact ⟨by rw [hres]; rfl, H.kept⟩
 ·rw [if_neg hc5] at hres
  refine Sr ?_
  refine Ve ?_
  refine Am ?_
  refine Qn ?_
  refine FW_condP rfl (fun hc12 => ?_) (fun hc12 => ?_)
  ·rw [if_pos hc12] at hres
   refine Sr ?_
   refine Am ?_
   refine Qn ?_
   refine Rb (Qfn_ret (hR := ?_))
   exact ⟨by rw [hres]; rfl, H.kept⟩
  ·rw [if_neg hc12] at hres
   refine Sr ?_
   refine Ve ?_
   refine Am ?_
   refine Qn ?_
   refine FW_condP rfl (fun hc19 => ?_) (fun hc19 => ?_)
   ·rw [if_pos hc19] at hres
    refine Sr ?_
    refine Am ?_
    refine Qn ?_
    refine Rb (Qfn_ret (hR := ?_))
    exact ⟨by rw [hres]; rfl, H.kept⟩
   ·rw [if_neg hc19] at hres
    refine Sr ?_
    refine Ve ?_
    refine Am ?_
    refine Qn ?_
    refine FW_condP rfl (fun hc26 => ?_) (fun hc26 => ?_)
    ·rw [if_pos hc26] at hres
     refine Sr ?_
     refine Am ?_
     refine Qn ?_
     refine Rb (Qfn_ret (hR := ?_))
     exact ⟨by rw [hres]; rfl, H.kept⟩
    ·rw [if_neg hc26] at hres
     refine FW_skip (Qblk_normal (Qseq_normal ?_))
     refine Sr ?_
     refine Am ?_
     refine Qn ?_
     refine FW_ret (Qfn_ret (hR := ?_))
     exact ⟨by rw [hres]; rfl, H.kept⟩
theorem cellMay_ok (t : TypeM) : Rets Tryz.prog 63 [agg (typeCells t)] w fun v w' => v = .bool (mayT t) ∧ Kept noB w w' := by
 have H := Sep.start0 w
 refine rets1 Tryz.func63 rfl rfl rfl rfl ?_
 refine Sr ?_
 refine FL_box H (cs := typeCells t) rfl (h := ?_)
 intro b0 w2 H2 k0
 refine Am ?_
 refine Nx ?_
 refine Vf ?_
 refine Ld H2 ?_
 refine Vg ?_
 refine Mv ?_
 refine FL_splitP (t := 6) rfl (fun hs8 => ?_) (fun hs8 => ?_)
 ·refine On ?_
  refine Vf ?_
  refine On ?_
  refine Ld H2 ?_
  refine On ?_
  refine Vl ?_
  refine Pt ?_
  refine Am ?_
  refine Qn ?_
  refine FW_ret (Qfn_ret (hR := ?_))
  exact ⟨by unfold mayT; exact congrArg Value.bool (decide_eq_decide.2 (by omega)), H2.kept⟩
 ·refine Of ?_
  refine Of ?_
  refine Of ?_
  refine Pf ?_
  refine Am ?_
  refine Qn ?_
  refine FW_ret (Qfn_ret (hR := ?_))
  exact ⟨by unfold mayT; rw [decide_eq_false (by omega)]; rfl, H2.kept⟩
end
end Go.Proofs.YtmkaahkbhdlniaaGreatDoor
/-
 The place of a column, the type of what a step puts, walked.
-/
namespace Go.Mw
open Go.RowKit
section gives
variable {P : Program} {ρ : Operand → Value} {ty : TypeId} {w : World}
/-- An array's composite. -/
theorem Gives.buildA {T e : TypeId} {n size bytes : Nat} [ha : IsArray P T n e] [hc : Cells P e size bytes] {z : Value} [hz : Zero P T z] {zs : List Value} {parts : List (Nat × Operand)} {out : List Value} (hzs : z.cells = zs.toArray) (h : Fills (fun i : Nat => some (i * size, size)) ρ parts zs out) :
    Gives P ρ (.build T parts.toArray) ty w (.agg out.toArray) w := fun _ _ _ _ => by
  obtain ⟨i, hi, hsb⟩ := Option.map_eq_some_iff.1 hc.size
  simp only [Prod.mk.injEq] at hsb
  have hf := fill_of h
  simp only [execOp, Instr.build, Sem.run_bind, hz.run, Result.andThen_ok, run_underlying ha.und, sizeOf, typeInfo, hi, hzs, Sem.run_pure, List.map_toArray, hsb.1]
  have hf' : Instr.fill (fun i => some (i * size, size)) zs.toArray (List.map (fun x => (x.fst, ρ x.snd)) parts) = some out.toArray := hf
  simp [hi, hsb.1, hf']
end gives
end Go.Mw
namespace Go.Proofs.YtmkaahkbhdlniaaGreatDoor
open Go Go.Mw Go.Lib
set_option maxRecDepth 4000
section
variable {w : World}
theorem find1_ok {b : Nat} {E : TypeId} (c : ColM) (n : Int) (hb : w.heap[b]? = some (.cells #[I n] E (0, 0))) : Rets Tryz.prog 97 [agg (colCells c), .pointer (some ⟨b, 0, none⟩)] w fun v w' => v = .bool (decide (c.id = n)) ∧ Kept noB w w' := by
 have H := Sep.start0 w
 refine rets2 Tryz.func97 rfl rfl rfl rfl ?_
 refine Sr ?_
 refine FL_box H (cs := colCells c) rfl (h := ?_)
 intro b0 w2 H2 k0
 refine Am ?_
 refine Nx ?_
 refine Vf ?_
 refine Ld H2 ?_
 refine FL_loadB (cs := [I n]) (H2.kept.get hb id) (h := ?_)
 refine Ve ?_
 refine Am ?_
 refine Qn ?_
 refine FW_ret (Qfn_ret (hR := ?_))
 exact ⟨rfl, H2.kept⟩
theorem find_ok {cols : List ColM} {vc : Value} (n : Int) (hc : RowIn w vc colCells 7 cols) : Rets Tryz.prog 54 [vc, I n] w fun v w' => v = I (idxI (findC cols n)) ∧ Kept noB w w' := by
 have H := Sep.start0 w
 refine rets2 Tryz.func54 rfl rfl rfl rfl ?_
 refine Sr ?_
 refine FL_box H (h := ?_)
 intro b1 w2 H2 k1
 refine Am ?_
 refine Nx ?_
 refine Mv ?_
 refine FL_val (Gives.makeFunc rfl rfl) rfl ?_
 have hb0 := H2.obj At0
 have hpr : PredIn _ (.func (.func 97) #[] #[.pointer (some ⟨b1, 0, none⟩)]) (fun c => agg (colCells c)) (fun c => decide (c.id = n)) := ⟨97, [], [.pointer (some ⟨b1, 0, none⟩)], rfl, inferInstance, fun c w'' hk => find1_ok c n (hk.get hb0 id)⟩
 refine FL_callQ H2 (columnsF_ok (hc.keep H2.kept) hpr) (h := fun w7 H7 k6 => ?_)
 refine Am ?_
 refine Qn ?_
 refine FW_ret (Qfn_ret (hR := ?_))
 exact ⟨rfl, H7.kept⟩
attribute [local irreducible] mayT
theorem own_ok {cols : List ColM} {vc : Value} (x : StepM) (hc : RowIn w vc colCells 7 cols) (h1 : 1 ≤ x.kind) (h6 : x.kind ≤ 6) : Rets Tryz.prog 43 [vc, agg (stepCells x)] w fun v w' => v = .tuple #[agg (typeCells ((leafT cols x).getD type0)), .bool (leafT cols x).isSome] ∧ Kept noB w w' := by
  have hcc := hc
  obtain ⟨A, m, rfl, ⟨hm, hm'⟩, hA⟩ := hc
  have H := Sep.start0 w
  obtain ⟨res, hres⟩ : ∃ res, res = leafT cols x := ⟨_, rfl⟩
  rw [← hres]
  unfold leafT at hres
  refine retsC2 Tryz.func43 rfl rfl rfl rfl ?_
  refine Sr ?_
  refine FL_box H (cs := stepCells x) rfl (h := ?_)
  intro b0 w2 H2 k0
  refine FL_alloc H2 (h := ?_)
  intro b3 w4 H4 k3
  refine Am ?_
  refine Nx ?_
  refine FL_val (Gives.buildA (out := [I 0, I 0, I 3, I 1, I 4, I 5]) rfl (Fills.one rfl rfl rfl (by simp) rfl (Fills.one rfl rfl rfl (by simp) rfl (Fills.one rfl rfl rfl (by simp) rfl (Fills.one rfl rfl rfl (by simp) rfl Fills.nil))))) rfl ?_
  refine FL_alloc H4 (h := ?_)
  intro bk w8 H8 k7
  refine FL_storeAll H8 (h := ?_)
  intro w10 H10
  refine Qn ?_
  refine FW_seq ?_
  refine Sr ?_
  refine Vf ?_
  refine Ld H10 ?_
  refine Qn ?_
  refine FW_block ?_
  refine Sr ?_
  refine Ve ?_
  refine Am ?_
  refine Qn ?_
  refine FW_condP rfl (fun hc15 => ?_) (fun hc15 => ?_)
  · rw [if_neg (by omega), if_neg (by omega), if_neg (by omega), if_neg (by omega), if_neg (by omega)] at hres
    refine Sr ?_
    refine Vf ?_
    refine Ld H10 ?_
    refine FL_val (Gives.build (out := typeCells ⟨x.n, true⟩) (Fills.one rfl rfl rfl (by simp) rfl (Fills.one rfl rfl rfl (by simp) rfl Fills.nil))) rfl ?_
    refine FL_storeAll H10 (h := ?_)
    intro w21 H21
    refine Am ?_
    refine Qn ?_
    refine Rb (QfnC_ret (h := ?_))
    exact ⟨_, resC2 H21, by rw [hres]; rfl, H21.kept⟩
  · refine Sr ?_
    refine Ve ?_
    refine Am ?_
    refine Qn ?_
    refine FW_condP rfl (fun hc27 => ?_) (fun hc27 => ?_)
    · rw [if_pos hc27] at hres
      refine Sr ?_
      refine Mv ?_
      refine Vf ?_
      refine Ld H10 ?_
      refine FL_callQ H10 (find_ok x.n (hcc.keep H10.kept)) (h := fun w33 H33 k32 => ?_)
      refine Am ?_
      refine Qn ?_
      refine FW_seq ?_
      refine Sr ?_
      refine Mv ?_
      refine Vl ?_
      refine Mv ?_
      refine FL_splitP (t := 25) rfl (fun hs38 => ?_) (fun hs38 => ?_)
      · have hno : findC cols x.n = none := by
          cases hf : findC cols x.n with
          | none => rfl
          | some i =>
            rw [hf] at hs38
            exact absurd (show ((i : Nat) : Int) < 0 from hs38) (by omega)
        rw [hno] at hres
        refine Of ?_
        refine Of ?_
        refine Of ?_
        refine Of ?_
        refine Of ?_
        refine Of ?_
        refine Of ?_
        refine Pt ?_
        refine Qn ?_
        refine FW_cond_true rfl ?_
        refine Sr ?_
        refine FL_val (Gives.build (out := typeCells type0) Fills.nil) rfl ?_
        refine FL_storeAll H33 (h := ?_)
        intro w43 H43
        refine Am ?_
        refine Qn ?_
        refine Rs (Qblk_ret (Qseq_ret (QfnC_ret (h := ?_))))
        exact ⟨_, resC2 H43, by rw [hres]; rfl, H43.kept⟩
      · obtain ⟨i, hf⟩ : ∃ i, findC cols x.n = some i := by
          cases hf : findC cols x.n with
          | none => rw [hf] at hs38; exact absurd (show (-1 : Int) < 0 by decide) hs38
          | some i => exact ⟨i, rfl⟩
        have hlt := find_lt hf
        obtain ⟨c, hcg⟩ := get_some (l := cols) (i := i) hlt
        rw [hf] at hres
        dsimp only at hres
        rw [getD_of hcg] at hres
        refine On ?_
        refine Mv ?_
        refine On ?_
        refine Mv ?_
        refine On ?_
        rw [show (idxI (findC cols x.n)) = ((i : Nat) : Int) by rw [hf]; rfl]
        refine FL_val (Gives.idxR rfl rfl hA hlt) rfl ?_
        refine On ?_
        refine FL_val (Gives.fieldR rfl (by assumption) (by omega)) rfl ?_
        refine On ?_
        refine FL_val (Gives.loadEN (us := typeCells c.type) rfl H33 hA hcg rfl rfl) rfl ?_
        refine On ?_
        refine FL_callQ H33 (cellMay_ok c.type) (h := fun w53 H53 k52 => ?_)
        refine On ?_
        refine FL_val (Gives.not rfl) rfl ?_
        refine Pf ?_
        refine Qn ?_
        refine FW_cond rfl (fun hc56 => ?_) (fun hc56 => ?_)
        · rw [if_pos (by first | exact hc56 | (have h := hc56; revert h; cases mayT c.type <;> simp))] at hres
          refine Sr ?_
          refine FL_val (Gives.build (out := typeCells type0) Fills.nil) rfl ?_
          refine FL_storeAll H53 (h := ?_)
          intro w60 H60
          refine Am ?_
          refine Qn ?_
          refine Rs (Qblk_ret (Qseq_ret (QfnC_ret (h := ?_))))
          exact ⟨_, resC2 H60, by rw [hres]; rfl, H60.kept⟩
        · rw [if_neg (by have h := hc56; revert h; cases mayT c.type <;> simp)] at hres
          refine Sk ?_
          refine Sr ?_
          refine Mv ?_
          refine Mv ?_
          refine FL_val (Gives.idxR rfl rfl hA hlt) rfl ?_
          refine FL_val (Gives.fieldR rfl (by assumption) (by omega)) rfl ?_
          refine FL_val (Gives.loadEN (us := typeCells c.type) rfl H53 hA hcg rfl rfl) rfl ?_
          refine FL_alloc H53 (h := ?_)
          intro b69 w70 H70 k69
          refine FL_storeAll H70 (h := ?_)
          intro w72 H72
          refine Qn ?_
          refine FW_seq ?_
          refine Sr ?_
          refine Vf ?_
          refine Ld H72 ?_
          refine Ve ?_
          refine Qn ?_
          refine FW_condP rfl (fun hc76 => ?_) (fun hc76 => ?_)
          · rw [if_pos hc76] at hres
            refine FW_region ?_
            refine Vf ?_
            refine FL_store H72 (h := ?_)
            intro w80 H80
            refine Nx ?_
            refine FL_loadAll H80 (h := ?_)
            refine FL_storeAll H80 (h := ?_)
            intro w83 H83
            refine Am ?_
            refine Qn ?_
            refine Rb (QfnC_ret (h := ?_))
            exact ⟨_, resC2 H83, by rw [hres]; rfl, H83.kept⟩
          · rw [if_neg hc76] at hres
            refine Sk ?_
            refine Sr ?_
            refine FL_loadAll H72 (h := ?_)
            refine FL_storeAll H72 (h := ?_)
            intro w89 H89
            refine Am ?_
            refine Qn ?_
            refine Rb (QfnC_ret (h := ?_))
            exact ⟨_, resC2 H89, by rw [hres]; rfl, H89.kept⟩
    · rw [if_neg hc27] at hres
      have htn : ((x.kind.toNat : Nat) : Int) = x.kind := Int.toNat_of_nonneg (by omega)
      obtain ⟨kk, hkk, hg⟩ : ∃ kk : Int, res = some ⟨kk, false⟩ ∧ [(0 : Int), 0, 3, 1, 4, 5][x.kind.toNat]? = some kk := by
        rcases (by omega : x.kind = 2 ∨ x.kind = 3 ∨ x.kind = 4 ∨ x.kind = 5) with e | e | e | e <;> rw [e] at hres ⊢ <;> exact ⟨_, hres, rfl⟩
      have hR : Rd _ (some ⟨bk, 0, none⟩) intCells 1 [(0 : Int), 0, 3, 1, 4, 5] := Sep.blkRow H10 At0 rfl
      refine FW_skip (Qblk_normal (Qseq_normal ?_))
      refine Sr ?_
      refine Vf ?_
      refine Ld H10 ?_
      refine FL_val (Gives.idxArr (i := x.kind.toNat) rfl (by rw [htn]; rfl) (by omega)) rfl ?_
      refine FL_val (Gives.loadW (f := 0) (i := x.kind.toNat) rfl hR hg rfl) rfl ?_
      refine FL_val (Gives.build (out := typeCells ⟨kk, false⟩) (Fills.one rfl rfl rfl (by simp) rfl Fills.nil)) rfl ?_
      refine FL_storeAll H10 (h := ?_)
      intro w99 H99
      refine Am ?_
      refine Qn ?_
      refine FW_ret (QfnC_ret (h := ?_))
      exact ⟨_, resC2 H99, by rw [hkk]; rfl, H99.kept⟩
end
end Go.Proofs.YtmkaahkbhdlniaaGreatDoor
/-
 Calls of closures in regions that draw.
-/
namespace Go.Mw
open Go.RowKit
section
variable {P : Program} {r : Option Nat} {n : Nat} {ops : Array Oper} {Q : Post} {σ : St} {w w₀ : World} {S : Nat → Prop} {rs : List HP} {ty : TypeId} {pos : String} {after : Array Edge} {guard : Option (Nat × Bool)} {lv : List Bool} {pd : List (Nat × Bool)}
theorem effV {dst : Option Nat} {y : Operand} {f : FuncId} {fs cs : List Value} {xs : List Operand} {ats : Array TypeId} {vals : List Value} {R : Value → World → Prop} [he : Enters P f] {K : St → World → Prop} (hy : evF σ y = .func (.func f) fs.toArray cs.toArray) (hc : Rets P f (fs ++ vals ++ cs) w R) (hv : xs.map (evF σ) = vals)
    (h : ∀ v w', R v w' → K (updO σ dst v) w') : EffK P σ w { dst := dst, op := .call { callee := .value y, args := xs.toArray, argTypes := ats }, type := ty, pos := pos, after := after, guard := guard } K := by
  unfold EffK
  have e : (execOp (evF σ) { dst := dst, op := .call { callee := .value y, args := xs.toArray, argTypes := ats }, type := ty, pos := pos, after := after, guard := guard }).run P w = .ok (.enter f (fs ++ vals ++ cs).toArray) w := by
    simp [execOp, resolve, hy, Deferred.ofValue, invoke, hv]
    rw [← he.run (fs ++ (vals ++ cs)).toArray w]
  rw [e]
  refine Calls.mono hc fun en w'' hr => ?_
  cases en with
  | returned v => exact h v w'' hr
  | _ => exact hr.elim
theorem FGcallV (hok : okOps n ops = true) (e : Nat) (pd' : List (Nat × Bool)) {d : Nat} {y : Operand} {f : FuncId} {fs cs : List Value} {xs : List Operand} {ats : Array TypeId} {vals : List Value} {R : Value → World → Prop} [he : Enters P f]
    (hy : evF σ y = .func (.func f) fs.toArray cs.toArray) (hc : Rets P f (fs ++ vals ++ cs) w R)
    (ho : ops[e]? = some { dst := some d, op := .call { callee := .value y, args := xs.toArray, argTypes := ats }, type := ty, pos := pos, after := after, guard := guard } := by exact rfl)
    (hw : Region.wanted { dst := some d, op := .call { callee := .value y, args := xs.toArray, argTypes := ats }, type := ty, pos := pos, after := after, guard := guard } (yieldF ops σ) = true := by kernel_rfl) (hv : xs.map (evF σ) = vals := by exact rfl) (hck : effectOk ops lv (pd.map (·.1)) e = true := by kernel_rfl)
    (hpd : pd.filter (fun p => !((above ops e).contains p.1)) = pd' := by kernel_rfl) (h : ∀ v w', R v w' → Stab P ops (upd σ d v) w' pd' ∧ FG P r n ops Q (lv.set e true) pd' (upd σ d v) w') : FG P r n ops Q lv pd σ w :=
  FG_effect hok ho hck hw pd' hpd (effV hy hc hv h)
theorem step_callV (hok : okOps n ops = true) (e : Nat) (pd' : List (Nat × Bool)) {d : Nat} {y : Operand} {f : FuncId} {fs cs : List Value} {xs : List Operand} {ats : Array TypeId} {vals : List Value} {R : Value → World → Prop} [he : Enters P f]
    (hy : evF σ y = .func (.func f) fs.toArray cs.toArray) (hc : Rets P f (fs ++ vals ++ cs) w R)
    (ho : ops[e]? = some { dst := some d, op := .call { callee := .value y, args := xs.toArray, argTypes := ats }, type := ty, pos := pos, after := after, guard := guard } := by exact rfl)
    (hw : Region.wanted { dst := some d, op := .call { callee := .value y, args := xs.toArray, argTypes := ats }, type := ty, pos := pos, after := after, guard := guard } (yieldF ops σ) = true := by kernel_rfl) (hv : xs.map (evF σ) = vals := by exact rfl) (hck : effectIn ops lv (pd.map (·.1)) e = true := by kernel_rfl)
    (hpd : pd.filter (fun p => !((above ops e).contains p.1)) = pd' := by kernel_rfl) (h : ∀ v w', R v w' → Stab P ops (upd σ d v) w' pd' ∧ FG P r n ops Q (lv.set e true) pd' (upd σ d v) w') : EffStep P r n ops Q lv pd σ w e :=
  eff_step hok ho hck hw pd' hpd (effV hy hc hv h)
end
end Go.Mw
/-
 The type of what a step makes of some, walked.
-/
namespace Go.Proofs.YtmkaahkbhdlniaaGreatDoor
open Go Go.Mw Go.Lib
set_option maxRecDepth 4000
/-- The one value, or the two, that a step takes. -/
def Some2 {α : Type} (k : Int) (l : List α) (a b : α) : Prop := (l = [a] ∧ a = b ∧ (k = 10 ∨ k = 15 ∨ k = 16 ∨ k = 18)) ∨ (l = [a, b] ∧ k ≠ 10 ∧ k ≠ 15 ∧ k ≠ 16 ∧ k ≠ 18)
theorem Some2.any {α : Type} {k : Int} {l : List α} {a b : α} (h : Some2 k l a b) (p : α → Bool) : l.any p = (p a || p b) := by
 rcases h with ⟨rfl, rfl, _⟩ | ⟨rfl, _⟩
 ·simp
 ·simp
theorem Some2.get {α : Type} {k : Int} {l : List α} {a b : α} (h : Some2 k l a b) : l[0]? = some a ∧ l[l.length - 1]? = some b ∧ 0 < l.length := by
 rcases h with ⟨rfl, rfl, _⟩ | ⟨rfl, _⟩
 ·exact ⟨rfl, rfl, by simp⟩
 ·exact ⟨rfl, rfl, by simp⟩
def within (want : List Int) (t : TypeM) : Bool := want.any fun y => decide (t.kind = y)
section
variable {w : World}
theorem typed2_ok (t : TypeM) : Rets Tryz.prog 86 [agg (typeCells t)] w fun v w' => v = .bool t.null ∧ Kept noB w w' := by
 have H := Sep.start0 w
 refine rets1 Tryz.func86 rfl rfl rfl rfl ?_
 refine Sr ?_
 refine FL_box H (cs := typeCells t) rfl (h := ?_)
 intro b0 w2 H2 k0
 refine Am ?_
 refine Nx ?_
 refine Vf ?_
 refine Ld H2 ?_
 refine Am ?_
 refine Qn ?_
 refine FW_ret (Qfn_ret (hR := ?_))
 exact ⟨rfl, H2.kept⟩
theorem typed3_ok (t : TypeM) : Rets Tryz.prog 87 [agg (typeCells t)] w fun v w' => v = .bool (!t.null) ∧ Kept noB w w' := by
 have H := Sep.start0 w
 refine rets1 Tryz.func87 rfl rfl rfl rfl ?_
 refine Sr ?_
 refine FL_box H (cs := typeCells t) rfl (h := ?_)
 intro b0 w2 H2 k0
 refine Am ?_
 refine Nx ?_
 refine Vf ?_
 refine Ld H2 ?_
 refine FL_val (Gives.not rfl) rfl ?_
 refine Am ?_
 refine Qn ?_
 refine FW_ret (Qfn_ret (hR := ?_))
 exact ⟨rfl, H2.kept⟩
theorem typed11_ok {b : Nat} {E : TypeId} {want : List Int} {vw : Value} (t : TypeM) (hb : w.heap[b]? = some (.cells #[vw] E (0, 0))) (hw : RowIn w vw intCells 1 want) : Rets Tryz.prog 84 [agg (typeCells t), .pointer (some ⟨b, 0, none⟩)] w fun v w' => v = .bool (!within want t) ∧ Kept noB w w' := by
 have H := Sep.start0 w
 refine rets2 Tryz.func84 rfl rfl rfl rfl ?_
 refine Sr ?_
 refine FL_box H (cs := typeCells t) rfl (h := ?_)
 intro b0 w2 H2 k0
 refine Am ?_
 refine Nx ?_
 refine FL_loadB (cs := [vw]) (H2.kept.get hb id) (h := ?_)
 refine Vf ?_
 refine Ld H2 ?_
 refine FL_callQ H2 (intsHas_ok t.kind (hw.keep H2.kept)) (h := fun w8 H8 k7 => ?_)
 refine FL_val (Gives.not rfl) rfl ?_
 refine Am ?_
 refine Qn ?_
 refine FW_ret (Qfn_ret (hR := ?_))
 exact ⟨rfl, H8.kept⟩
theorem typed1_ok {b : Nat} {E : TypeId} {want : List Int} {l : List TypeM} {vw vl : Value} (hb : w.heap[b]? = some (.cells #[vl] E (0, 0))) (hl : RowIn w vl typeCells 2 l) (hw : RowIn w vw intCells 1 want) : Rets Tryz.prog 82 [vw, .pointer (some ⟨b, 0, none⟩)] w fun v w' => v = .bool (!(l.any fun t => !within want t)) ∧ Kept noB w w' := by
 have H := Sep.start0 w
 have hwc : vw.cells = #[vw] := by obtain ⟨A, c, rfl, _⟩ := hw; rfl
 refine rets2 Tryz.func82 rfl rfl rfl rfl ?_
 refine Sr ?_
 refine FL_box H (cs := [vw]) rfl hwc (h := ?_)
 intro b0 w2 H2 k0
 refine Am ?_
 refine Nx ?_
 refine FL_loadB (cs := [vl]) (H2.kept.get hb id) (h := ?_)
 refine FL_val (Gives.makeFunc rfl rfl) rfl ?_
 have hb0 := H2.obj At0
 have hpr : PredIn _ (.func (.func 84) #[] #[.pointer (some ⟨b0, 0, none⟩)]) (fun t => agg (typeCells t)) (fun t => !within want t) := ⟨84, [], [.pointer (some ⟨b0, 0, none⟩)], rfl, inferInstance, fun t w'' hk => typed11_ok t (hk.get hb0 id) ((hw.keep H2.kept).keep hk)⟩
 refine FL_callQ H2 (typesAny_ok (hl.keep H2.kept) hpr) (h := fun w7 H7 k6 => ?_)
 refine FL_val (Gives.not rfl) rfl ?_
 refine Am ?_
 refine Qn ?_
 refine FW_ret (Qfn_ret (hR := ?_))
 exact ⟨rfl, H7.kept⟩
end
end Go.Proofs.YtmkaahkbhdlniaaGreatDoor
