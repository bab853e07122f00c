/-
 Searches in rows, walked: slices.IndexFunc, ContainsFunc, Index, Contains.
-/
import Derived.Test.YtolaedhdjcnijaaGreatDoorKs9
set_option linter.unusedVariables false
set_option linter.unusedSimpArgs false
namespace Go.Proofs.YtolaedhdjcnijaaGreatDoor
open Go Go.Mw Go.Lib
set_option maxRecDepth 4000
def PredIn {α : Type} (w : World) (fv : Value) (enc : α → Value) (p : α → Bool) : Prop :=
 ∃ f fs cs, fv = .func (.func f) (List.toArray fs) (List.toArray cs) ∧ Enters Tryz.prog f ∧ ∀ x w', Kept noB w w' → Rets Tryz.prog f (fs ++ [enc x] ++ cs) w' fun v w'' => v = .bool (p x) ∧ Kept noB w' w''
theorem PredIn.keep {α : Type} {w w' : World} {fv : Value} {enc : α → Value} {p : α → Bool} (h : PredIn w fv enc p) (hk : Kept noB w w') : PredIn w' fv enc p := by
 obtain ⟨f, fs, cs, h1, h2, h3⟩ := h
 exact ⟨f, fs, cs, h1, h2, fun x w'' hk' => h3 x w'' (hk.trans0 hk')⟩
def idxI (o : Option Nat) : Int := match o with | none => -1 | some i => i
theorem idx_any {α : Type} {l : List α} {p : α → Bool} : decide (idxI (l.findIdx? p) ≥ 0) = l.any p := by
 cases h : l.findIdx? p with
 | none =>
  rw [List.findIdx?_eq_none_iff] at h
  show decide ((-1 : Int) ≥ 0) = _
  rw [eq_comm, show decide ((-1 : Int) ≥ 0) = false from rfl, List.any_eq_false]
  intro x hx
  rw [h x hx]; simp
 | some i =>
  obtain ⟨h1, h2, _⟩ := List.findIdx?_eq_some_iff_getElem.1 h
  show decide ((i : Int) ≥ 0) = _
  rw [eq_comm, decide_eq_true (show (i : Int) ≥ 0 by omega), List.any_eq_true]
  exact ⟨_, List.getElem_mem h1, h2⟩
section
variable {w : World}
theorem columnsF_ok {l : List ColM} {v fv : Value} {p : ColM → Bool} (hl : RowIn w v colCells 7 l) (hp : PredIn w fv (fun x => agg (colCells x)) p) : Rets Tryz.prog 152 [v, fv] w fun v w' => v = I (idxI (l.findIdx? p)) ∧ Kept noB w w' := by
 obtain ⟨A, m, rfl, ⟨hm, hm'⟩, hA⟩ := hl
 obtain ⟨f, fs, cs, rfl, hen, hcall⟩ := hp
 have H := Sep.start0 w
 refine rets2 Tryz.func152 rfl rfl rfl rfl ?_
 refine Sr (Am ?_)
 refine Qn (FW_seq (Sr (Mv ?_)))
 refine Vs ?_
 refine Mv ?_
 refine Qn (FW_block (FW_loop' (fun i : Nat => [(0, .slice A l.length m), (1, .func (.func f) fs.toArray cs.toArray), (7, I l.length), (8, I i)]) (fun i w' => (i ≤ l.length ∧ ∀ (j : Nat) y, j < i → l[j]? = some y → p y = false) ∧ Sep w noB [] w') (fun i _ => l.length - i) 0 ⟨rfl, rfl, rfl, rfl, trivial⟩ ⟨⟨Nat.zero_le _, fun j y hj => by omega⟩, H⟩ (fun i τ w6 hI => ?_)))
 obtain ⟨⟨hi, hbe⟩, H6⟩ := hI
 try simp only [upds, like, upd_ds, und_ds]
 refine Sr (Vl ?_)
 refine Qn (FW_seq (Cp rfl (fun hc8 => ?_) (fun hc8 => ?_)))
 ·have hlt : i < l.length := by omega
  obtain ⟨x, hx⟩ := get_some hlt
  refine Sk (FW_seq (FW_block (Sr (Mv ?_))))
  refine Am ?_
  refine Nx (Mv ?_)
  refine Mv ?_
  refine Mv ?_
  refine Vv (Gives.idxR rfl rfl (by assumption) (by omega)) (Vv (Gives.loadE0 rfl H6 (by assumption) (by assumption)) ?_)
  refine FL_callV rfl (hcall x _ H6.kept) rfl rfl (fun v' w18 hv => ?_)
  obtain ⟨rfl, hkk⟩ := hv
  have H18 := H6.keep hkk
  refine Qn (Cd rfl (fun hc19 => ?_) (fun hc19 => ?_))
  ·have hfin : l.findIdx? p = some i := find_at hbe hx hc19
   refine Sr (Mv ?_)
   refine Am ?_
   refine Qn (Rb (Qround_ret (Qblk_ret (Qseq_ret (Qfn_ret (hR := ?_))))))
   exact ⟨by rw [hfin]; rfl, H18.kept⟩
  have hpx := hc19
  refine FW_skip (Qblk_normal (Qseq_normal (FW_region (Vv (Gives.addI rfl rfl rfl (by omega)) ?_))))
  refine Mv ?_
  refine FL_nil ?_
  exact Qround_normal (i + 1) ⟨rfl, rfl, rfl, rfl, trivial⟩ ⟨⟨by omega, fun j y hj hy => by
  by_cases e : j = i
  ·subst e; rw [hx] at hy; injection hy with hy; rw [← hy]; exact Bool.not_eq_true _ ▸ hpx
  exact hbe j y (by omega) hy⟩, H18⟩ (by omega)
 have hil : i = l.length := by omega
 have hfin : l.findIdx? p = none := findNone fun j y hy => hbe j y (by have := get_lt hy; omega) hy
 refine FW_exit (Qseq_exit (Qround_exit (Qblk_exit (Qseq_normal (Sr (Am ?_))))))
 refine Qn (FW_ret (Qfn_ret (hR := ?_)))
 exact ⟨by rw [hfin]; rfl, H6.kept⟩
theorem typesF_ok {l : List TypeM} {v fv : Value} {p : TypeM → Bool} (hl : RowIn w v typeCells 2 l) (hp : PredIn w fv (fun x => agg (typeCells x)) p) : Rets Tryz.prog 154 [v, fv] w fun v w' => v = I (idxI (l.findIdx? p)) ∧ Kept noB w w' := by
 obtain ⟨A, m, rfl, ⟨hm, hm'⟩, hA⟩ := hl
 obtain ⟨f, fs, cs, rfl, hen, hcall⟩ := hp
 have H := Sep.start0 w
 refine rets2 Tryz.func154 rfl rfl rfl rfl ?_
 refine Sr (Am ?_)
 refine Qn (FW_seq (Sr (Mv ?_)))
 refine Vs ?_
 refine Mv ?_
 refine Qn (FW_block (FW_loop' (fun i : Nat => [(0, .slice A l.length m), (1, .func (.func f) fs.toArray cs.toArray), (7, I l.length), (8, I i)]) (fun i w' => (i ≤ l.length ∧ ∀ (j : Nat) y, j < i → l[j]? = some y → p y = false) ∧ Sep w noB [] w') (fun i _ => l.length - i) 0 ⟨rfl, rfl, rfl, rfl, trivial⟩ ⟨⟨Nat.zero_le _, fun j y hj => by omega⟩, H⟩ (fun i τ w6 hI => ?_)))
 obtain ⟨⟨hi, hbe⟩, H6⟩ := hI
 try simp only [upds, like, upd_ds, und_ds]
 refine Sr (Vl ?_)
 refine Qn (FW_seq (Cp rfl (fun hc8 => ?_) (fun hc8 => ?_)))
 ·have hlt : i < l.length := by omega
  obtain ⟨x, hx⟩ := get_some hlt
  refine Sk (FW_seq (FW_block (Sr (Mv ?_))))
  refine Am ?_
  refine Nx (Mv ?_)
  refine Mv ?_
  refine Mv ?_
  refine Vv (Gives.idxR rfl rfl (by assumption) (by omega)) (Vv (Gives.loadE0 rfl H6 (by assumption) (by assumption)) ?_)
  refine FL_callV rfl (hcall x _ H6.kept) rfl rfl (fun v' w18 hv => ?_)
  obtain ⟨rfl, hkk⟩ := hv
  have H18 := H6.keep hkk
  refine Qn (Cd rfl (fun hc19 => ?_) (fun hc19 => ?_))
  ·have hfin : l.findIdx? p = some i := find_at hbe hx hc19
   refine Sr (Mv ?_)
   refine Am ?_
   refine Qn (Rb (Qround_ret (Qblk_ret (Qseq_ret (Qfn_ret (hR := ?_))))))
   exact ⟨by rw [hfin]; rfl, H18.kept⟩
  have hpx := hc19
  refine FW_skip (Qblk_normal (Qseq_normal (FW_region (Vv (Gives.addI rfl rfl rfl (by omega)) ?_))))
  refine Mv ?_
  refine FL_nil ?_
  exact Qround_normal (i + 1) ⟨rfl, rfl, rfl, rfl, trivial⟩ ⟨⟨by omega, fun j y hj hy => by
  by_cases e : j = i
  ·subst e; rw [hx] at hy; injection hy with hy; rw [← hy]; exact Bool.not_eq_true _ ▸ hpx
  exact hbe j y (by omega) hy⟩, H18⟩ (by omega)
 have hil : i = l.length := by omega
 have hfin : l.findIdx? p = none := findNone fun j y hy => hbe j y (by have := get_lt hy; omega) hy
 refine FW_exit (Qseq_exit (Qround_exit (Qblk_exit (Qseq_normal (Sr (Am ?_))))))
 refine Qn (FW_ret (Qfn_ret (hR := ?_)))
 exact ⟨by rw [hfin]; rfl, H6.kept⟩
end
section
variable {w : World}
theorem typesAny_ok {l : List TypeM} {v fv : Value} {p : TypeM → Bool} (hl : RowIn w v typeCells 2 l) (hp : PredIn w fv (fun x => agg (typeCells x)) p) : Rets Tryz.prog 106 [v, fv] w fun v w' => v = .bool (l.any p) ∧ Kept noB w w' := by
 have H := Sep.start0 w
 refine rets2 Tryz.func106 rfl rfl rfl rfl ?_
 refine Sr (Am ?_)
 refine Nx (Mv ?_)
 refine Mv ?_
 refine FL_callQ H (typesF_ok (hl.keep H.kept) (hp.keep H.kept)) (h := fun w5 H5 k4 => ?_)
 refine Vv (Gives.geq rfl rfl) (Am ?_)
 refine Qn (FW_ret (Qfn_ret (hR := ?_)))
 exact ⟨by rw [← idx_any]; rfl, H5.kept⟩
theorem intsI_ok {l : List (Int)} {v : Value} (x : Int) (hl : RowIn w v intCells 1 l) : Rets Tryz.prog 155 [v, I x] w fun v w' => v = I (idxI (l.findIdx? fun y => decide (x = y))) ∧ Kept noB w w' := by
 obtain ⟨A, m, rfl, ⟨hm, hm'⟩, hA⟩ := hl
 have H := Sep.start0 w
 obtain ⟨p, hp⟩ : ∃ p : Int → Bool, p = fun y => decide (x = y) := ⟨_, rfl⟩
 rw [← hp]
 refine rets2 Tryz.func155 rfl rfl rfl rfl ?_
 refine Sr (Am ?_)
 refine Qn (FW_seq (Sr (Mv ?_)))
 refine Vs ?_
 refine Mv ?_
 refine Qn (FW_block (FW_loop' (fun i : Nat => [(0, .slice A l.length m), (1, I x), (7, I l.length), (8, I i)]) (fun i w' => (i ≤ l.length ∧ ∀ (j : Nat) y, j < i → l[j]? = some y → p y = false) ∧ Sep w noB [] w') (fun i _ => l.length - i) 0 ⟨rfl, rfl, rfl, rfl, trivial⟩ ⟨⟨Nat.zero_le _, fun j y hj => by omega⟩, H⟩ (fun i τ w6 hI => ?_)))
 obtain ⟨⟨hi, hbe⟩, H6⟩ := hI
 try simp only [upds, like, upd_ds, und_ds]
 refine Sr (Vl ?_)
 refine Qn (FW_seq (Cp rfl (fun hc8 => ?_) (fun hc8 => ?_)))
 ·have hlt : i < l.length := by omega
  obtain ⟨y, hy⟩ := get_some hlt
  refine Sk (FW_seq (FW_block (Sr (Mv ?_))))
  refine Am ?_
  refine Nx (Mv ?_)
  refine Mv ?_
  refine Mv ?_
  refine Vv (Gives.idxR rfl rfl (by assumption) (by omega)) (Vv (Gives.loadE1 rfl H6 (by assumption) (by assumption) rfl) ?_)
  refine Ve ?_
  refine Qn (Cp rfl (fun hc18 => ?_) (fun hc18 => ?_))
  ·have hfin : l.findIdx? p = some i := find_at hbe hy (by rw [hp]; simpa using hc18)
   refine Sr (Mv ?_)
   refine Am ?_
   refine Qn (Rb (Qround_ret (Qblk_ret (Qseq_ret (Qfn_ret (hR := ?_))))))
   exact ⟨by rw [hfin]; rfl, H6.kept⟩
  have hpx : p y = false := by rw [hp]; simpa using hc18
  refine FW_skip (Qblk_normal (Qseq_normal (FW_region (Vv (Gives.addI rfl rfl rfl (by omega)) ?_))))
  refine Mv ?_
  refine FL_nil ?_
  exact Qround_normal (i + 1) ⟨rfl, rfl, rfl, rfl, trivial⟩ ⟨⟨by omega, fun j z hj hz => by
  by_cases e : j = i
  ·subst e; rw [hy] at hz; injection hz with hz; rw [← hz]; exact hpx
  exact hbe j z (by omega) hz⟩, H6⟩ (by omega)
 have hil : i = l.length := by omega
 have hfin : l.findIdx? p = none := findNone fun j y hy => hbe j y (by have := get_lt hy; omega) hy
 refine FW_exit (Qseq_exit (Qround_exit (Qblk_exit (Qseq_normal (Sr (Am ?_))))))
 refine Qn (FW_ret (Qfn_ret (hR := ?_)))
 exact ⟨by rw [hfin]; rfl, H6.kept⟩
theorem textsI_ok {l : List (List UInt8)} {v : Value} (x : List UInt8) (hl : RowIn w v textCells 1 l) : Rets Tryz.prog 144 [v, str x] w fun v w' => v = I (idxI (l.findIdx? fun y => decide (x = y))) ∧ Kept noB w w' := by
 obtain ⟨A, m, rfl, ⟨hm, hm'⟩, hA⟩ := hl
 have H := Sep.start0 w
 obtain ⟨p, hp⟩ : ∃ p : List UInt8 → Bool, p = fun y => decide (x = y) := ⟨_, rfl⟩
 rw [← hp]
 refine rets2 Tryz.func144 rfl rfl rfl rfl ?_
 refine Sr (Am ?_)
 refine Qn (FW_seq (Sr (Mv ?_)))
 refine Vs ?_
 refine Mv ?_
 refine Qn (FW_block (FW_loop' (fun i : Nat => [(0, .slice A l.length m), (1, str x), (7, I l.length), (8, I i)]) (fun i w' => (i ≤ l.length ∧ ∀ (j : Nat) y, j < i → l[j]? = some y → p y = false) ∧ Sep w noB [] w') (fun i _ => l.length - i) 0 ⟨rfl, rfl, rfl, rfl, trivial⟩ ⟨⟨Nat.zero_le _, fun j y hj => by omega⟩, H⟩ (fun i τ w6 hI => ?_)))
 obtain ⟨⟨hi, hbe⟩, H6⟩ := hI
 try simp only [upds, like, upd_ds, und_ds]
 refine Sr (Vl ?_)
 refine Qn (FW_seq (Cp rfl (fun hc8 => ?_) (fun hc8 => ?_)))
 ·have hlt : i < l.length := by omega
  obtain ⟨y, hy⟩ := get_some hlt
  refine Sk (FW_seq (FW_block (Sr (Mv ?_))))
  refine Am ?_
  refine Nx (Mv ?_)
  refine Mv ?_
  refine Mv ?_
  refine Vv (Gives.idxR rfl rfl (by assumption) (by omega)) (Vv (Gives.loadE1 rfl H6 (by assumption) (by assumption) rfl) ?_)
  refine Vv (Gives.eqlT rfl rfl) (Qn ?_)
  refine Cp rfl (fun hc18 => ?_) (fun hc18 => ?_)
  ·have hfin : l.findIdx? p = some i := find_at hbe hy (by rw [hp]; simpa using hc18)
   refine Sr (Mv ?_)
   refine Am ?_
   refine Qn (Rb (Qround_ret (Qblk_ret (Qseq_ret (Qfn_ret (hR := ?_))))))
   exact ⟨by rw [hfin]; rfl, H6.kept⟩
  have hpx : p y = false := by rw [hp]; simpa using hc18
  refine FW_skip (Qblk_normal (Qseq_normal (FW_region (Vv (Gives.addI rfl rfl rfl (by omega)) ?_))))
  refine Mv ?_
  refine FL_nil ?_
  exact Qround_normal (i + 1) ⟨rfl, rfl, rfl, rfl, trivial⟩ ⟨⟨by omega, fun j z hj hz => by
  by_cases e : j = i
  ·subst e; rw [hy] at hz; injection hz with hz; rw [← hz]; exact hpx
  exact hbe j z (by omega) hz⟩, H6⟩ (by omega)
 have hil : i = l.length := by omega
 have hfin : l.findIdx? p = none := findNone fun j y hy => hbe j y (by have := get_lt hy; omega) hy
 refine FW_exit (Qseq_exit (Qround_exit (Qblk_exit (Qseq_normal (Sr (Am ?_))))))
 refine Qn (FW_ret (Qfn_ret (hR := ?_)))
 exact ⟨by rw [hfin]; rfl, H6.kept⟩
theorem intsHas_ok {l : List (Int)} {v : Value} (x : Int) (hl : RowIn w v intCells 1 l) : Rets Tryz.prog 108 [v, I x] w fun v w' => v = .bool (l.any fun y => decide (x = y)) ∧ Kept noB w w' := by
 have H := Sep.start0 w
 refine rets2 Tryz.func108 rfl rfl rfl rfl ?_
 refine Sr (Am ?_)
 refine Nx (Mv ?_)
 refine Mv ?_
 refine FL_callQ H (intsI_ok x (hl.keep H.kept)) (h := fun w5 H5 k4 => ?_)
 refine Vv (Gives.geq rfl rfl) (Am ?_)
 refine Qn (FW_ret (Qfn_ret (hR := ?_)))
 exact ⟨by rw [← idx_any]; rfl, H5.kept⟩
end
end Go.Proofs.YtolaedhdjcnijaaGreatDoor
namespace Go.Mw
open Go.RowKit
section gives
variable {P : Program} {ρ : Operand → Value} {ty : TypeId} {w : World} {x y z : Operand}
theorem Gives.sliceMax {t e : TypeId} [ht : IsSlice P t e] {size bytes : Nat} [hc : Cells P e size bytes] {A : Option Addr} {n c h m : Nat} {k j : IntKind} (hx : ρ x = .slice A n c) (hy : ρ y = .int k h) (hz : ρ z = .int j m) (hle : h ≤ m) (hle2 : m ≤ c) : Gives P ρ (.slice t x none (some y) (some z)) ty w (.slice A h m) w := fun _ _ _ _ => by
 obtain ⟨i, hi, hsb⟩ := Option.map_eq_some_iff.1 hc.size
 have e1 : (0 : Int) ≤ (h : Int) ∧ (h : Int) ≤ (m : Int) := by omega
 have e2 : (0 : Int) ≤ (m : Int) ∧ (m : Int) ≤ (c : Int) := by omega
 have e3 : A.map (fun x : Addr => x.add 0) = A := by cases A <;> simp [Addr.add_zero']
 simp [execOp, hx, hy, hz, Instr.sliceAt, run_underlying ht.und, Instr.slice, Instr.sliceBounds, Instr.sliceBound, asIntOf, e1, e2, sizeOf, typeInfo, hi, e3, hle, hle2]
end gives
end Go.Mw
namespace Go.Proofs.YtolaedhdjcnijaaGreatDoor
open Go Go.Mw Go.Lib
set_option maxRecDepth 4000
section
variable {w : World}
theorem typesTake_ok {b E n c k : Nat} {A : Option Addr} {F : Nat → Prop} (hp : (blk b [.slice A n c] E).ok F w) (hk : k ≤ n) (hnc : n ≤ c) (hc : n ≤ 9223372036854775807) :
    Rets Tryz.prog 63 [.pointer (some ⟨b, 0, none⟩), I k] w fun v w' => v = .tuple #[.slice (if c = n - k then A else A.map (·.add ((n - k) * 2))) k (c - (n - k)), .bool true] ∧ Turn F (blk b [.slice A (n - k) (n - k)] E) w w' := by
  have H := Sep.start1 hp
  refine rets2 Tryz.func63 rfl rfl rfl rfl ?_
  refine Sr (Am ?_)
  refine Am ?_
  refine Nx (Mv ?_)
  refine Vv (Gives.nilCheck rfl) (Vf ?_)
  refine Ld H ?_
  refine Vs ?_
  refine Mv ?_
  refine Vv (Gives.subI (c := ((n - k : Nat) : Int)) rfl rfl (by omega) (by omega)) (Am ?_)
  refine Qn (FW_seq (Sr (Mv ?_)))
  refine Vl ?_
  refine Qn (Cp rfl (fun hc13 => ?_) (fun hc13 => ?_))
  · exact absurd hc13 (by omega)
  refine Sk (Sr (Mv ?_))
  refine Vv (Gives.nilCheck rfl) (Vf ?_)
  refine Ld H ?_
  refine Mv ?_
  refine Vv (Gives.sliceFrom rfl rfl (by omega)) ?_
  rw [show n - (n - k) = k by omega]
  refine Am ?_
  refine Nx (Mv ?_)
  refine Mv ?_
  refine Vv (Gives.nilCheck rfl) (Vf ?_)
  refine Ld H ?_
  refine Mv ?_
  refine Mv ?_
  refine Vv (Gives.sliceMax rfl rfl rfl (by omega) (by omega)) (Vv (Gives.nilCheck rfl) ?_)
  refine Vf ?_
  refine FL_store H (h := fun w33 H33 => ?_)
  refine Nx (Mv ?_)
  refine Am ?_
  refine Am ?_
  refine Qn (FW_ret (Qfn_ret (hR := ?_)))
  exact ⟨rfl, H33.turn⟩
theorem typesTakeNo_ok {b E n c k : Nat} {A : Option Addr} {F : Nat → Prop} (hp : (blk b [.slice A n c] E).ok F w) (hk : n < k) (hk2 : k ≤ 1000000) :
    Rets Tryz.prog 63 [.pointer (some ⟨b, 0, none⟩), I k] w fun v w' => v = .tuple #[.slice none 0 0, .bool false] ∧ Turn F (blk b [.slice A n c] E) w w' := by
  have H := Sep.start1 hp
  refine rets2 Tryz.func63 rfl rfl rfl rfl ?_
  refine Sr (Am ?_)
  refine Am ?_
  refine Nx (Mv ?_)
  refine Vv (Gives.nilCheck rfl) (Vf ?_)
  refine Ld H ?_
  refine Vs ?_
  refine Mv ?_
  refine Vv (Gives.subI rfl rfl rfl (by omega)) (Am ?_)
  refine Qn (FW_seq (Sr (Mv ?_)))
  refine Vl ?_
  refine Qn (Cp rfl (fun hc13 => ?_) (fun hc13 => ?_))
  · refine Sr (Am ?_)
    refine Am ?_
    refine Qn (Rs (Qfn_ret (hR := ?_)))
    exact ⟨rfl, H.turn⟩
  exact absurd (show ((n : Int) - k) < 0 by omega) hc13
theorem typesPut_ok {b E : Nat} {A : Option Addr} {F : Nat → Prop} {l news : List TypeM} {vn : Value} (hp : (blk b [.slice A l.length l.length] E).ok F w) (hr : Rd w A typeCells 2 l) (hn : RowIn w vn typeCells 2 news) (hne : 0 < news.length) (hlen : l.length + news.length ≤ 1000000) :
    Rets Tryz.prog 68 [.pointer (some ⟨b, 0, none⟩), vn] w fun v w' => ∃ x, v = .tuple #[] ∧ True ∧ Turn F (star (blk b [x] E) (rowD 45 2 typeCells x (l ++ news))) w w' := by
  obtain ⟨B, m, rfl, ⟨hm, hm'⟩, hB⟩ := hn
  have H := Sep.start1 hp
  refine rets2 Tryz.func68 rfl rfl rfl rfl ?_
  refine FW_region (Mv ?_)
  refine Mv ?_
  refine Vv (Gives.nilCheck rfl) (Vf ?_)
  refine Ld H ?_
  refine Mv ?_
  refine FL_appendF H hr hB hne (by unfold maxLen; omega) (by omega) (cells_one (fun _ => rfl) _) (h := ?_)
  intro v2 w8 H8 k7
  obtain ⟨B2, c2, rfl, hc2, hB2⟩ := Sep.formD H8 At0
  refine Vv (Gives.nilCheck rfl) (Vf ?_)
  refine FL_store H8 (h := fun w12 H12 => ?_)
  refine FL_nil (Qfn_normal (hR := ?_))
  exact ⟨_, rfl, trivial, (H12.front1.join0).turn⟩
theorem many_ok (k : Int) : Rets Tryz.prog 64 [I k] w fun v w' => v = I (takesS k) ∧ Kept noB w w' := by
 have H := Sep.start0 w
 obtain ⟨res, hres⟩ : ∃ res, res = takesS k := ⟨_, rfl⟩
 rw [← hres]
 unfold takesS at hres
 refine rets1 Tryz.func64 rfl rfl rfl rfl ?_
 refine Sr (Am ?_)
 refine Qn (FW_seq (FW_block (Sr (Mv ?_))))
 refine Vl ?_
 refine Am ?_
 refine Qn (Cp rfl (fun hc5 => ?_) (fun hc5 => ?_))
 ·rw [if_pos hc5] at hres
  refine Sr (Am ?_)
  refine Qn (Rb (Qfn_ret (hR := ?_)))
  exact ⟨by rw [hres]; rfl, H.kept⟩
 rw [if_neg hc5] at hres
 refine Sr (Mv ?_)
 refine Ve ?_
 refine Mv ?_
 refine FL_splitP (t := 9) rfl (fun hs13 => ?_) (fun hs13 => ?_)
 ·refine Of (Of (Pt ?_))
  refine Mv ?_
  refine Of (Of (Pt ?_))
  refine Mv ?_
  refine Of (Of (Pt ?_))
  refine Am ?_
  refine Qn (FW_cond_true rfl ?_)
  refine Sr (Am ?_)
  refine Qn (Rb (Qfn_ret (hR := ?_)))
  exact ⟨by rw [hres, if_pos (by omega)]; rfl, H.kept⟩
 refine On (Mv ?_)
 refine On (Ve ?_)
 refine Pf ?_
 refine Mv ?_
 refine FL_splitP (t := 13) rfl (fun hs26 => ?_) (fun hs26 => ?_)
 ·refine Of (Of (Pt ?_))
  refine Mv ?_
  refine Of (Of (Pt ?_))
  refine Am ?_
  refine Qn (FW_cond_true rfl ?_)
  refine Sr (Am ?_)
  refine Qn (Rb (Qfn_ret (hR := ?_)))
  exact ⟨by rw [hres, if_pos (by omega)]; rfl, H.kept⟩
 refine On (Mv ?_)
 refine On (Ve ?_)
 refine Pf ?_
 refine Mv ?_
 refine FL_splitP (t := 17) rfl (fun hs37 => ?_) (fun hs37 => ?_)
 ·refine Of (Of (Pt ?_))
  refine Am ?_
  refine Qn (FW_cond_true rfl ?_)
  refine Sr (Am ?_)
  refine Qn (Rb (Qfn_ret (hR := ?_)))
  exact ⟨by rw [hres, if_pos (by omega)]; rfl, H.kept⟩
 refine On (Mv ?_)
 refine On (Ve ?_)
 refine Pf ?_
 refine Am ?_
 refine Qn (Cp rfl (fun hc46 => ?_) (fun hc46 => ?_))
 ·refine Sr (Am ?_)
  refine Qn (Rb (Qfn_ret (hR := ?_)))
  exact ⟨by rw [hres, if_pos (by omega)]; rfl, H.kept⟩
 rw [if_neg (by omega)] at hres
 refine FW_skip (Qblk_normal (Qseq_normal (Sr (Am ?_))))
 refine Qn (FW_ret (Qfn_ret (hR := ?_)))
 exact ⟨by rw [hres]; rfl, H.kept⟩
theorem null_ok (k : Int) : Rets Tryz.prog 103 [I k] w fun v w' => v = str (nullW k) ∧ Kept noB w w' := by
 have H := Sep.start0 w
 obtain ⟨res, hres⟩ : ∃ res, res = nullW k := ⟨_, rfl⟩
 rw [← hres]
 unfold nullW at hres
 refine rets1 Tryz.func103 rfl rfl rfl rfl ?_
 refine Sr (Am ?_)
 refine Qn (FW_seq (Sr (Mv ?_)))
 refine Qn (FW_block (Sr (Ve ?_)))
 refine Am ?_
 refine Qn (Cp rfl (fun hc5 => ?_) (fun hc5 => ?_))
 ·rw [if_pos hc5] at hres
  refine Sr (Am ?_)
  refine Qn (Rb (Qfn_ret (hR := ?_)))
  exact ⟨by rw [hres]; rfl, H.kept⟩
 rw [if_neg hc5] at hres
 refine Sr (Ve ?_)
 refine Am ?_
 refine Qn (Cp rfl (fun hc12 => ?_) (fun hc12 => ?_))
 ·rw [if_pos hc12] at hres
  refine Sr (Am ?_)
  refine Qn (Rb (Qfn_ret (hR := ?_)))
  exact ⟨by rw [hres]; rfl, H.kept⟩
 rw [if_neg hc12] at hres
 refine Sr (Ve ?_)
 refine Am ?_
 refine Qn (Cp rfl (fun hc19 => ?_) (fun hc19 => ?_))
 ·rw [if_pos hc19] at hres
  refine Sr (Am ?_)
  refine Qn (Rb (Qfn_ret (hR := ?_)))
  exact ⟨by rw [hres]; rfl, H.kept⟩
 rw [if_neg hc19] at hres
 refine Sr (Ve ?_)
 refine Am ?_
 refine Qn (Cp rfl (fun hc26 => ?_) (fun hc26 => ?_))
 ·rw [if_pos hc26] at hres
  refine Sr (Am ?_)
  refine Qn (Rb (Qfn_ret (hR := ?_)))
  exact ⟨by rw [hres]; rfl, H.kept⟩
 rw [if_neg hc26] at hres
 refine FW_skip (Qblk_normal (Qseq_normal (Sr (Am ?_))))
 refine Qn (FW_ret (Qfn_ret (hR := ?_)))
 exact ⟨by rw [hres]; rfl, H.kept⟩
theorem cellMay_ok (t : TypeM) : Rets Tryz.prog 69 [agg (typeCells t)] w fun v w' => v = .bool (mayT t) ∧ Kept noB w w' := by
 have H := Sep.start0 w
 refine rets1 Tryz.func69 rfl rfl rfl rfl ?_
 refine Sr (FL_box H (cs := typeCells t) rfl (h := fun b0 w2 H2 k0 => ?_))
 refine Am ?_
 refine Nx (Vf ?_)
 refine Ld H2 ?_
 refine Vg ?_
 refine Mv ?_
 refine FL_splitP (t := 6) rfl (fun hs8 => ?_) (fun hs8 => ?_)
 ·refine On (Vf ?_)
  refine On (Ld H2 ?_)
  refine On (Vl ?_)
  refine Pt ?_
  refine Am ?_
  refine Qn (FW_ret (Qfn_ret (hR := ?_)))
  exact ⟨by unfold mayT; exact congrArg Value.bool (decide_eq_decide.2 (by omega)), H2.kept⟩
 refine Of (Of (Of (Pf ?_)))
 refine Am ?_
 refine Qn (FW_ret (Qfn_ret (hR := ?_)))
 exact ⟨by unfold mayT; rw [decide_eq_false (by omega)]; rfl, H2.kept⟩
end
end Go.Proofs.YtolaedhdjcnijaaGreatDoor
namespace Go.Mw
open Go.RowKit
section gives
variable {P : Program} {ρ : Operand → Value} {ty : TypeId} {w : World}
theorem Gives.buildA {T e : TypeId} {n size bytes : Nat} [ha : IsArray P T n e] [hc : Cells P e size bytes] {z : Value} [hz : Zero P T z] {zs : List Value} {parts : List (Nat × Operand)} {out : List Value} (hzs : z.cells = zs.toArray) (h : Fills (fun i : Nat => some (i * size, size)) ρ parts zs out) :
    Gives P ρ (.build T parts.toArray) ty w (.agg out.toArray) w := fun _ _ _ _ => by
  obtain ⟨i, hi, hsb⟩ := Option.map_eq_some_iff.1 hc.size
  simp only [Prod.mk.injEq] at hsb
  have hf := fill_of h
  simp only [execOp, Instr.build, Sem.run_bind, hz.run, Result.andThen_ok, run_underlying ha.und, sizeOf, typeInfo, hi, hzs, Sem.run_pure, List.map_toArray, hsb.1]
  have hf' : Instr.fill (fun i => some (i * size, size)) zs.toArray (List.map (fun x => (x.fst, ρ x.snd)) parts) = some out.toArray := hf
  simp [hi, hsb.1, hf']
end gives
end Go.Mw
namespace Go.Proofs.YtolaedhdjcnijaaGreatDoor
open Go Go.Mw Go.Lib
set_option maxRecDepth 4000
section
variable {w : World}
theorem find1_ok {b : Nat} {E : TypeId} (c : ColM) (n : Int) (hb : w.heap[b]? = some (.cells #[I n] E (0, 0))) : Rets Tryz.prog 153 [agg (colCells c), .pointer (some ⟨b, 0, none⟩)] w fun v w' => v = .bool (decide (c.id = n)) ∧ Kept noB w w' := by
 have H := Sep.start0 w
 refine rets2 Tryz.func153 rfl rfl rfl rfl ?_
 refine Sr (FL_box H (cs := colCells c) rfl (h := fun b0 w2 H2 k0 => ?_))
 refine Am ?_
 refine Nx (Vf ?_)
 refine Ld H2 ?_
 refine FL_loadB (cs := [I n]) (H2.kept.get hb id) (h := ?_)
 refine Ve ?_
 refine Am ?_
 refine Qn (FW_ret (Qfn_ret (hR := ?_)))
 exact ⟨rfl, H2.kept⟩
theorem find_ok {cols : List ColM} {vc : Value} (n : Int) (hc : RowIn w vc colCells 7 cols) : Rets Tryz.prog 104 [vc, I n] w fun v w' => v = I (idxI (findC cols n)) ∧ Kept noB w w' := by
 have H := Sep.start0 w
 refine rets2 Tryz.func104 rfl rfl rfl rfl ?_
 refine Sr (FL_box H (h := fun b1 w2 H2 k1 => ?_))
 refine Am ?_
 refine Nx (Mv ?_)
 refine Vv (Gives.makeFunc rfl rfl) ?_
 have hb0 := H2.obj At0
 have hpr : PredIn _ (.func (.func 153) #[] #[.pointer (some ⟨b1, 0, none⟩)]) (fun c => agg (colCells c)) (fun c => decide (c.id = n)) := ⟨153, [], [.pointer (some ⟨b1, 0, none⟩)], rfl, inferInstance, fun c w'' hk => find1_ok c n (hk.get hb0 id)⟩
 refine FL_callQ H2 (columnsF_ok (hc.keep H2.kept) hpr) (h := fun w7 H7 k6 => ?_)
 refine Am ?_
 refine Qn (FW_ret (Qfn_ret (hR := ?_)))
 exact ⟨rfl, H7.kept⟩
attribute [local irreducible] mayT
theorem own_ok {cols : List ColM} {vc : Value} (x : StepM) (hc : RowIn w vc colCells 7 cols) (h1 : 1 ≤ x.kind) (h6 : x.kind ≤ 6) : Rets Tryz.prog 66 [vc, agg (stepCells x)] w fun v w' => v = .tuple #[agg (typeCells ((leafT cols x).getD type0)), .bool (leafT cols x).isSome] ∧ Kept noB w w' := by
  have hcc := hc
  obtain ⟨A, m, rfl, ⟨hm, hm'⟩, hA⟩ := hc
  have H := Sep.start0 w
  obtain ⟨res, hres⟩ : ∃ res, res = leafT cols x := ⟨_, rfl⟩
  rw [← hres]
  unfold leafT at hres
  refine retsC2 Tryz.func66 rfl rfl rfl rfl ?_
  refine Sr (FL_box H (cs := stepCells x) rfl (h := fun b0 w2 H2 k0 => ?_))
  refine FL_alloc H2 (h := fun b3 w4 H4 k3 => ?_)
  refine Am ?_
  refine Nx (Vv (Gives.buildA (out := [I 0, I 0, I 3, I 1, I 4, I 5]) rfl (Fills.one rfl rfl rfl (by simp) rfl (Fills.one rfl rfl rfl (by simp) rfl (Fills.one rfl rfl rfl (by simp) rfl (Fills.one rfl rfl rfl (by simp) rfl Fills.nil))))) (FL_alloc H4 (h := fun bk w8 H8 k7 => ?_)))
  refine FL_storeAll H8 (h := fun w10 H10 => ?_)
  refine Qn (FW_seq (Sr (Vf ?_)))
  refine Ld H10 ?_
  refine Qn (FW_block (Sr (Ve ?_)))
  refine Am ?_
  refine Qn (Cp rfl (fun hc15 => ?_) (fun hc15 => ?_))
  · rw [if_neg (by omega), if_neg (by omega), if_neg (by omega), if_neg (by omega), if_neg (by omega)] at hres
    refine Sr (Vf ?_)
    refine Ld H10 ?_
    refine Vv (Gives.build (out := typeCells ⟨x.n, true⟩) (Fills.one rfl rfl rfl (by simp) rfl (Fills.one rfl rfl rfl (by simp) rfl Fills.nil))) (FL_storeAll H10 (h := fun w21 H21 => ?_))
    refine Am ?_
    refine Qn (Rb (QfnC_ret (h := ?_)))
    exact ⟨_, resC2 H21, by rw [hres]; rfl, H21.kept⟩
  refine Sr (Ve ?_)
  refine Am ?_
  refine Qn (Cp rfl (fun hc27 => ?_) (fun hc27 => ?_))
  · rw [if_pos hc27] at hres
    refine Sr (Mv ?_)
    refine Vf ?_
    refine Ld H10 ?_
    refine FL_callQ H10 (find_ok x.n (hcc.keep H10.kept)) (h := fun w33 H33 k32 => ?_)
    refine Am ?_
    refine Qn (FW_seq (Sr (Mv ?_)))
    refine Vl ?_
    refine Mv ?_
    refine FL_splitP (t := 25) rfl (fun hs38 => ?_) (fun hs38 => ?_)
    · have hno : findC cols x.n = none := by
        cases hf : findC cols x.n with
        | none => rfl
        | some i =>
          rw [hf] at hs38
          exact absurd (show ((i : Nat) : Int) < 0 from hs38) (by omega)
      rw [hno] at hres
      refine Of (Of (Of (Of (Of (Of (Of (Pt ?_)))))))
      refine Qn (FW_cond_true rfl ?_)
      refine Sr (Vv (Gives.build (out := typeCells type0) Fills.nil) (FL_storeAll H33 (h := fun w43 H43 => ?_)))
      refine Am ?_
      refine Qn (Rs (Qblk_ret (Qseq_ret (QfnC_ret (h := ?_)))))
      exact ⟨_, resC2 H43, by rw [hres]; rfl, H43.kept⟩
    obtain ⟨i, hf⟩ : ∃ i, findC cols x.n = some i := by
      cases hf : findC cols x.n with
      | none => rw [hf] at hs38; exact absurd (show (-1 : Int) < 0 by decide) hs38
      | some i => exact ⟨i, rfl⟩
    have hlt := find_lt hf
    obtain ⟨c, hcg⟩ := get_some (l := cols) (i := i) hlt
    rw [hf] at hres
    dsimp only at hres
    rw [getD_of hcg] at hres
    refine On (Mv ?_)
    refine On (Mv ?_)
    refine On ?_
    rw [show (idxI (findC cols x.n)) = ((i : Nat) : Int) by rw [hf]; rfl]
    refine Vv (Gives.idxR rfl rfl hA hlt) (On ?_)
    refine Vv (Gives.fieldR rfl (by assumption) (by omega)) (On ?_)
    refine Vv (Gives.loadEN (us := typeCells c.type) rfl H33 hA hcg rfl rfl) (On ?_)
    refine FL_callQ H33 (cellMay_ok c.type) (h := fun w53 H53 k52 => ?_)
    refine On (Vv (Gives.not rfl) (Pf ?_))
    refine Qn (Cd rfl (fun hc56 => ?_) (fun hc56 => ?_))
    · rw [if_pos (by first | exact hc56 | (have h := hc56; revert h; cases mayT c.type <;> simp))] at hres
      refine Sr (Vv (Gives.build (out := typeCells type0) Fills.nil) (FL_storeAll H53 (h := fun w60 H60 => ?_)))
      refine Am ?_
      refine Qn (Rs (Qblk_ret (Qseq_ret (QfnC_ret (h := ?_)))))
      exact ⟨_, resC2 H60, by rw [hres]; rfl, H60.kept⟩
    rw [if_neg (by have h := hc56; revert h; cases mayT c.type <;> simp)] at hres
    refine Sk (Sr (Mv ?_))
    refine Mv ?_
    refine Vv (Gives.idxR rfl rfl hA hlt) (Vv (Gives.fieldR rfl (by assumption) (by omega)) ?_)
    refine Vv (Gives.loadEN (us := typeCells c.type) rfl H53 hA hcg rfl rfl) (FL_alloc H53 (h := fun b69 w70 H70 k69 => ?_))
    refine FL_storeAll H70 (h := fun w72 H72 => ?_)
    refine Qn (FW_seq (Sr (Vf ?_)))
    refine Ld H72 ?_
    refine Ve ?_
    refine Qn (Cp rfl (fun hc76 => ?_) (fun hc76 => ?_))
    · rw [if_pos hc76] at hres
      refine FW_region (Vf ?_)
      refine FL_store H72 (h := fun w80 H80 => ?_)
      refine Nx (FL_loadAll H80 (h := ?_))
      refine FL_storeAll H80 (h := fun w83 H83 => ?_)
      refine Am ?_
      refine Qn (Rb (QfnC_ret (h := ?_)))
      exact ⟨_, resC2 H83, by rw [hres]; rfl, H83.kept⟩
    rw [if_neg hc76] at hres
    refine Sk (Sr (FL_loadAll H72 (h := ?_)))
    refine FL_storeAll H72 (h := fun w89 H89 => ?_)
    refine Am ?_
    refine Qn (Rb (QfnC_ret (h := ?_)))
    exact ⟨_, resC2 H89, by rw [hres]; rfl, H89.kept⟩
  rw [if_neg hc27] at hres
  have htn : ((x.kind.toNat : Nat) : Int) = x.kind := Int.toNat_of_nonneg (by omega)
  obtain ⟨kk, hkk, hg⟩ : ∃ kk : Int, res = some ⟨kk, false⟩ ∧ [(0 : Int), 0, 3, 1, 4, 5][x.kind.toNat]? = some kk := by
    rcases (by omega : x.kind = 2 ∨ x.kind = 3 ∨ x.kind = 4 ∨ x.kind = 5) with e | e | e | e <;> rw [e] at hres ⊢ <;> exact ⟨_, hres, rfl⟩
  have hR : Rd _ (some ⟨bk, 0, none⟩) intCells 1 [(0 : Int), 0, 3, 1, 4, 5] := Sep.blkRow H10 At0 rfl
  refine FW_skip (Qblk_normal (Qseq_normal (Sr (Vf ?_))))
  refine Ld H10 ?_
  refine Vv (Gives.idxArr (i := x.kind.toNat) rfl (by rw [htn]; rfl) (by omega)) ?_
  refine Vv (Gives.loadW (f := 0) (i := x.kind.toNat) rfl hR hg rfl) (Vv (Gives.build (out := typeCells ⟨kk, false⟩) (Fills.one rfl rfl rfl (by simp) rfl Fills.nil)) ?_)
  refine FL_storeAll H10 (h := fun w99 H99 => ?_)
  refine Am ?_
  refine Qn (FW_ret (QfnC_ret (h := ?_)))
  exact ⟨_, resC2 H99, by rw [hkk]; rfl, H99.kept⟩
end
end Go.Proofs.YtolaedhdjcnijaaGreatDoor
namespace Go.Mw
open Go.RowKit
section
variable {P : Program} {r : Option Nat} {n : Nat} {ops : Array Oper} {Q : Post} {σ : St} {w w₀ : World} {S : Nat → Prop} {rs : List HP} {ty : TypeId} {pos : String} {after : Array Edge} {guard : Option (Nat × Bool)} {lv : List Bool} {pd : List (Nat × Bool)}
theorem effV {dst : Option Nat} {y : Operand} {f : FuncId} {fs cs : List Value} {xs : List Operand} {ats : Array TypeId} {vals : List Value} {R : Value → World → Prop} [he : Enters P f] {K : St → World → Prop} (hy : evF σ y = .func (.func f) fs.toArray cs.toArray) (hc : Rets P f (fs ++ vals ++ cs) w R) (hv : xs.map (evF σ) = vals)
    (h : ∀ v w', R v w' → K (updO σ dst v) w') : EffK P σ w { dst := dst, op := .call { callee := .value y, args := xs.toArray, argTypes := ats }, type := ty, pos := pos, after := after, guard := guard } K := by
  unfold EffK
  have e : (execOp (evF σ) { dst := dst, op := .call { callee := .value y, args := xs.toArray, argTypes := ats }, type := ty, pos := pos, after := after, guard := guard }).run P w = .ok (.enter f (fs ++ vals ++ cs).toArray) w := by
    simp [execOp, resolve, hy, Deferred.ofValue, invoke, hv]
    rw [← he.run (fs ++ (vals ++ cs)).toArray w]
  rw [e]
  refine Calls.mono hc fun en w'' hr => ?_
  cases en with
  | returned v => exact h v w'' hr
  | _ => exact hr.elim
theorem FGcallV (hok : okOps n ops = true) (e : Nat) (pd' : List (Nat × Bool)) {d : Nat} {y : Operand} {f : FuncId} {fs cs : List Value} {xs : List Operand} {ats : Array TypeId} {vals : List Value} {R : Value → World → Prop} [he : Enters P f]
    (hy : evF σ y = .func (.func f) fs.toArray cs.toArray) (hc : Rets P f (fs ++ vals ++ cs) w R)
    (ho : ops[e]? = some { dst := some d, op := .call { callee := .value y, args := xs.toArray, argTypes := ats }, type := ty, pos := pos, after := after, guard := guard } := by exact rfl)
    (hw : Region.wanted { dst := some d, op := .call { callee := .value y, args := xs.toArray, argTypes := ats }, type := ty, pos := pos, after := after, guard := guard } (yieldF ops σ) = true := by kernel_rfl) (hv : xs.map (evF σ) = vals := by exact rfl) (hck : effectOk ops lv (pd.map (·.1)) e = true := by kernel_rfl)
    (hpd : pd.filter (fun p => !((above ops e).contains p.1)) = pd' := by kernel_rfl) (h : ∀ v w', R v w' → Stab P ops (upd σ d v) w' pd' ∧ FG P r n ops Q (lv.set e true) pd' (upd σ d v) w') : FG P r n ops Q lv pd σ w :=
  FG_effect hok ho hck hw pd' hpd (effV hy hc hv h)
theorem step_callV (hok : okOps n ops = true) (e : Nat) (pd' : List (Nat × Bool)) {d : Nat} {y : Operand} {f : FuncId} {fs cs : List Value} {xs : List Operand} {ats : Array TypeId} {vals : List Value} {R : Value → World → Prop} [he : Enters P f]
    (hy : evF σ y = .func (.func f) fs.toArray cs.toArray) (hc : Rets P f (fs ++ vals ++ cs) w R)
    (ho : ops[e]? = some { dst := some d, op := .call { callee := .value y, args := xs.toArray, argTypes := ats }, type := ty, pos := pos, after := after, guard := guard } := by exact rfl)
    (hw : Region.wanted { dst := some d, op := .call { callee := .value y, args := xs.toArray, argTypes := ats }, type := ty, pos := pos, after := after, guard := guard } (yieldF ops σ) = true := by kernel_rfl) (hv : xs.map (evF σ) = vals := by exact rfl) (hck : effectIn ops lv (pd.map (·.1)) e = true := by kernel_rfl)
    (hpd : pd.filter (fun p => !((above ops e).contains p.1)) = pd' := by kernel_rfl) (h : ∀ v w', R v w' → Stab P ops (upd σ d v) w' pd' ∧ FG P r n ops Q (lv.set e true) pd' (upd σ d v) w') : EffStep P r n ops Q lv pd σ w e :=
  eff_step hok ho hck hw pd' hpd (effV hy hc hv h)
end
end Go.Mw
namespace Go.Proofs.YtolaedhdjcnijaaGreatDoor
open Go Go.Mw Go.Lib
set_option maxRecDepth 4000
def Some2 {α : Type} (k : Int) (l : List α) (a b : α) : Prop := (l = [a] ∧ a = b ∧ (k = 10 ∨ k = 15 ∨ k = 16 ∨ k = 18)) ∨ (l = [a, b] ∧ k ≠ 10 ∧ k ≠ 15 ∧ k ≠ 16 ∧ k ≠ 18)
theorem Some2.any {α : Type} {k : Int} {l : List α} {a b : α} (h : Some2 k l a b) (p : α → Bool) : l.any p = (p a || p b) := by
 rcases h with ⟨rfl, rfl, _⟩ | ⟨rfl, _⟩
 ·simp
 simp
theorem Some2.get {α : Type} {k : Int} {l : List α} {a b : α} (h : Some2 k l a b) : l[0]? = some a ∧ l[l.length - 1]? = some b ∧ 0 < l.length := by
 rcases h with ⟨rfl, rfl, _⟩ | ⟨rfl, _⟩
 ·exact ⟨rfl, rfl, by simp⟩
 exact ⟨rfl, rfl, by simp⟩
def within (want : List Int) (t : TypeM) : Bool := want.any fun y => decide (t.kind = y)
section
variable {w : World}
theorem typed2_ok (t : TypeM) : Rets Tryz.prog 109 [agg (typeCells t)] w fun v w' => v = .bool t.null ∧ Kept noB w w' := by
 have H := Sep.start0 w
 refine rets1 Tryz.func109 rfl rfl rfl rfl ?_
 refine Sr (FL_box H (cs := typeCells t) rfl (h := fun b0 w2 H2 k0 => ?_))
 refine Am ?_
 refine Nx (Vf ?_)
 refine Ld H2 ?_
 refine Am ?_
 refine Qn (FW_ret (Qfn_ret (hR := ?_)))
 exact ⟨rfl, H2.kept⟩
theorem typed3_ok (t : TypeM) : Rets Tryz.prog 110 [agg (typeCells t)] w fun v w' => v = .bool (!t.null) ∧ Kept noB w w' := by
 have H := Sep.start0 w
 refine rets1 Tryz.func110 rfl rfl rfl rfl ?_
 refine Sr (FL_box H (cs := typeCells t) rfl (h := fun b0 w2 H2 k0 => ?_))
 refine Am ?_
 refine Nx (Vf ?_)
 refine Ld H2 ?_
 refine Vv (Gives.not rfl) (Am ?_)
 refine Qn (FW_ret (Qfn_ret (hR := ?_)))
 exact ⟨rfl, H2.kept⟩
theorem typed11_ok {b : Nat} {E : TypeId} {want : List Int} {vw : Value} (t : TypeM) (hb : w.heap[b]? = some (.cells #[vw] E (0, 0))) (hw : RowIn w vw intCells 1 want) : Rets Tryz.prog 107 [agg (typeCells t), .pointer (some ⟨b, 0, none⟩)] w fun v w' => v = .bool (!within want t) ∧ Kept noB w w' := by
 have H := Sep.start0 w
 refine rets2 Tryz.func107 rfl rfl rfl rfl ?_
 refine Sr (FL_box H (cs := typeCells t) rfl (h := fun b0 w2 H2 k0 => ?_))
 refine Am ?_
 refine Nx (FL_loadB (cs := [vw]) (H2.kept.get hb id) (h := ?_))
 refine Vf ?_
 refine Ld H2 ?_
 refine FL_callQ H2 (intsHas_ok t.kind (hw.keep H2.kept)) (h := fun w8 H8 k7 => ?_)
 refine Vv (Gives.not rfl) (Am ?_)
 refine Qn (FW_ret (Qfn_ret (hR := ?_)))
 exact ⟨rfl, H8.kept⟩
theorem typed1_ok {b : Nat} {E : TypeId} {want : List Int} {l : List TypeM} {vw vl : Value} (hb : w.heap[b]? = some (.cells #[vl] E (0, 0))) (hl : RowIn w vl typeCells 2 l) (hw : RowIn w vw intCells 1 want) : Rets Tryz.prog 105 [vw, .pointer (some ⟨b, 0, none⟩)] w fun v w' => v = .bool (!(l.any fun t => !within want t)) ∧ Kept noB w w' := by
 have H := Sep.start0 w
 have hwc : vw.cells = #[vw] := by obtain ⟨A, c, rfl, _⟩ := hw; rfl
 refine rets2 Tryz.func105 rfl rfl rfl rfl ?_
 refine Sr (FL_box H (cs := [vw]) rfl hwc (h := fun b0 w2 H2 k0 => ?_))
 refine Am ?_
 refine Nx (FL_loadB (cs := [vl]) (H2.kept.get hb id) (h := ?_))
 refine Vv (Gives.makeFunc rfl rfl) ?_
 have hb0 := H2.obj At0
 have hpr : PredIn _ (.func (.func 107) #[] #[.pointer (some ⟨b0, 0, none⟩)]) (fun t => agg (typeCells t)) (fun t => !within want t) := ⟨107, [], [.pointer (some ⟨b0, 0, none⟩)], rfl, inferInstance, fun t w'' hk => typed11_ok t (hk.get hb0 id) ((hw.keep H2.kept).keep hk)⟩
 refine FL_callQ H2 (typesAny_ok (hl.keep H2.kept) hpr) (h := fun w7 H7 k6 => ?_)
 refine Vv (Gives.not rfl) (Am ?_)
 refine Qn (FW_ret (Qfn_ret (hR := ?_)))
 exact ⟨rfl, H7.kept⟩
end
end Go.Proofs.YtolaedhdjcnijaaGreatDoor
