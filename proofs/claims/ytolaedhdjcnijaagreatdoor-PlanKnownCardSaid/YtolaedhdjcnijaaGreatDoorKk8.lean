/-
 The program's Uses, walked; copies and comparisons of rows.
-/
import Derived.Test.YtolaedhdjcnijaaGreatDoorKk7
import Derived.Lib.Builder
import Derived.Lib.UnsafeStr
import Derived.Laws.Externs
import Derived.MapKept
import Derived.Laws.RangeAny
import Derived.Lib.OthersKept
import Derived.Laws.BitsAllLaws
import Derived.Lib.ItoaLen
set_option linter.unusedVariables false
set_option linter.unusedSimpArgs false
namespace Go.Proofs.YtolaedhdjcnijaaGreatDoor
open Go Go.Mw Go.Lib
set_option maxRecDepth 4000
def BS (l : List bL) : List Int := (l.filter fun x => decide (x.kind = 1)).map fun x => x.n
theorem V5 {l : List bL} {i : Nat} {x : bL} (h : l[i]? = some x) (hk : x.kind = 1) : BS (l.take (i + 1)) = BS (l.take i) ++ [x.n] := by
 unfold BS
 rw [List.take_add_one, h, List.filter_append, List.map_append]
 simp [hk]
theorem XQ {l : List bL} {i : Nat} {x : bL} (h : l[i]? = some x) (hk : ¬ x.kind = 1) : BS (l.take (i + 1)) = BS (l.take i) := by
 unfold BS
 rw [List.take_add_one, h, List.filter_append, List.map_append]
 simp [hk]
theorem V6 (l : List bL) : (BS l).length ≤ l.length := by
 unfold BS; rw [List.length_map]; exact List.length_filter_le _ _
section
variable {w : World}
theorem Lc {l : List bL} {vl : Value} (hl : dn w vl aI 3 l) (Xr : l.length ≤ 1000) :
    bF Tryz.prog 72 [vl] w fun v w' => ∃ x, v = x ∧ True ∧ Turn noB (cO 3 1 intCells x (o7 l)) w w' := by
  obtain ⟨C, n, rfl, ⟨hn, JL⟩, hC⟩ := hl
  have H := Sep.bB w
  rw [← BF l]
  refine dP Tryz.func72 rfl rfl rfl rfl ?_
  refine Sr (Am ?_)
  refine Qn (au (Sr (Mv ?_)))
  refine Vs ?_
  refine Mv ?_
  refine Qn (aF ?_)
  have H6 := Sep.iX H 3 1 intCells
  refine bA (fun x : Nat × Value => [(2, x.2), (5, .slice C l.length n), (6, I l.length), (7, I x.1)]) (fun x w' => x.1 ≤ l.length ∧ Sep w noB [cO 3 1 intCells x.2 (BS (l.take x.1))] w') (fun x _ => l.length - x.1) (0, .slice none 0 0) ⟨rfl, rfl, rfl, rfl, trivial⟩ ⟨Nat.zero_le _, H6⟩ (fun x τ w6 hI => ?_)
  obtain ⟨i, v0⟩ := x
  obtain ⟨hi, H6⟩ := hI
  dsimp only at hi H6
  obtain ⟨B, cb, rfl, EP, hB⟩ := Sep.fJ H6 At0
  have jW := V6 (l.take i)
  rw [List.length_take, Nat.min_eq_left hi] at jW
  try simp only [cZ, like, bC, bZ]
  refine Sr (Vl ?_)
  refine Qn (au (Cp rfl (fun xL => ?_) (fun xL => ?_)))
  · have bU : i < l.length := by omega
    obtain ⟨x, mq⟩ := get_some bU
    refine Sk (au (aF (Sr (Vv (Gives.eT rfl rfl (by assumption) (by omega)) (Vv (Gives.iM rfl H6 (by assumption) (by assumption)) ?_)))))
    refine bD H6 (h := fun b4 wa Ha ka => ?_)
    refine aD Ha (h := fun wb Hb => ?_)
    refine Nx (Vf ?_)
    refine Ld Hb ?_
    refine Ve ?_
    refine Qn (Cp rfl (fun Ia => ?_) (fun Ia => ?_))
    · have hid := V5 mq Ia
      refine aB (Mv ?_)
      refine Vf ?_
      refine Ld Hb ?_
      refine aX Hb (xs := [.tmp 16]) (out := [x.n].flatMap intCells) (aU.one rfl rfl aU.nil) rfl rfl rfl (fun bs wc Hc kb => ?_)
      refine gK Hc (news := [x.n]) At1 (by unfold maxLen; simp; omega) (by simp; omega) (cells_one (fun _ => rfl) [x.n]) (h := ?_)
      intro v2 wd Hd
      rw [← hid] at Hd
      refine Am ?_
      refine aP (aA (aj (aB (Vv (Gives.bM rfl rfl rfl (by omega)) ?_))))
      refine Mv ?_
      refine aP ?_
      exact aC (i + 1, v2) ⟨rfl, rfl, rfl, rfl, trivial⟩ ⟨by dsimp only; omega, (Hd).fI⟩ (by dsimp only; omega)
    have hid := XQ mq Ia
    refine aY (aA (aj (aB (Vv (Gives.bM rfl rfl rfl (by omega)) ?_))))
    refine Mv ?_
    refine aP ?_
    exact aC (i + 1, .slice B (BS (l.take i)).length cb) ⟨rfl, rfl, rfl, rfl, trivial⟩ ⟨by dsimp only; omega, by dsimp only; rw [hid]; exact (Hb).fI⟩ (by dsimp only; omega)
  have hie : i = l.length := by omega
  rw [hie, List.take_length] at H6 jW ⊢
  refine bq (aT (aO (aV (aj (Sr (Mv ?_))))))
  obtain ⟨F0, gu, nk, bJ⟩ := H6.focus At0
  refine bH (O1 gu (by omega)) rfl rfl (fun v' we hv => ?_)
  obtain ⟨rfl, dK, F1, hq, hs⟩ := hv
  have He := bJ _ F1 _ dK hq hs
  have yV : ((BS l).mergeSort fun x y => decide (x ≤ y)).length = (BS l).length := List.length_mergeSort _
  rw [← yV] at He
  refine Nx (Mv ?_)
  obtain ⟨F0, gu, nk, bJ⟩ := He.focus At0
  refine bH (DU gu (by omega)) (by rw [yV]; rfl) rfl (fun v' wf hv => ?_)
  obtain ⟨rfl, dK, F1, hq, hs⟩ := hv
  have Hf := bJ _ F1 _ dK hq hs
  refine Am ?_
  refine Qn (aM (ak (hR := ?_)))
  exact ⟨_, rfl, trivial, Hf.turn⟩
theorem vI {l : List gG} {v : Value} (hl : dn w v bE 7 l) (Xr : l.length ≤ 1000) : bF Tryz.prog 28 [v] w fun v' w' => ∃ x, v' = x ∧ True ∧ Turn noB (cO 49 7 bE x l) w w' := by
 obtain ⟨A, m, rfl, ⟨hm, xK⟩, hA⟩ := hl
 have H := Sep.bB w
 refine dP Tryz.func28 rfl rfl rfl rfl ?_
 refine Sr (Am ?_)
 refine Nx ?_
 have H3 := Sep.iX H 49 7 bE
 refine Am ?_
 refine Nx (Mv ?_)
 refine Mv ?_
 refine qx H3 At0 (hA.keep H3.kept) (by unfold maxLen; simp; omega) (by simp; omega) (cells_one (fun _ => rfl) _) (h := ?_)
 intro v2 w7 H7
 refine Am ?_
 refine Qn (aM (ak (hR := ?_)))
 exact ⟨_, rfl, trivial, by rw [List.nil_append] at H7; exact H7.turn⟩
theorem QI {a b : List Int} {va vb : Value} (ha : dn w va intCells 1 a) (hb : dn w vb intCells 1 b) : bF Tryz.prog 32 [va, vb] w fun v' w' => v' = .bool (decide (a = b)) ∧ Kept noB w w' := by
 obtain ⟨A, m, rfl, ⟨hm, xK⟩, hA⟩ := ha
 obtain ⟨B, n, rfl, ⟨hn, JL⟩, hB⟩ := hb
 have H := Sep.bB w
 refine eU Tryz.func32 rfl rfl rfl rfl ?_
 refine Sr (Am ?_)
 refine Qn (au (Sr (Mv ?_)))
 refine Vs ?_
 refine Mv ?_
 refine Vs ?_
 refine Vn ?_
 refine Qn (Cp rfl (fun oW => ?_) (fun oW => ?_))
 ·have fM := oW
  refine Sr (Am ?_)
  refine Qn (Rs (ak (hR := ?_)))
  exact ⟨congrArg Value.bool (Eq.symm (decide_eq_false fun e => fM (by rw [e]))), H.kept⟩
 have hlen : a.length = b.length := by omega
 refine Sk (au (Sr (Am ?_)))
 refine Qn (aF (bA (fun i : Nat => [(0, .slice A a.length m), (1, .slice B b.length n), (5, I i)]) (fun i w' => (i ≤ a.length ∧ a.take i = b.take i) ∧ Sep w noB [] w') (fun i _ => a.length - i) 0 ⟨rfl, rfl, rfl, trivial⟩ ⟨⟨Nat.zero_le _, by simp⟩, H⟩ (fun i τ wa hI => ?_)))
 obtain ⟨⟨hi, dJ⟩, Ha⟩ := hI
 try simp only [cZ, like, bC, bZ]
 refine au (Sr (Mv ?_))
 refine Mv ?_
 refine Vs ?_
 refine Vl ?_
 refine Qn (Cp rfl (fun Ia => ?_) (fun Ia => ?_))
 ·have bU : i < a.length := by omega
  obtain ⟨x, hx⟩ := get_some bU
  obtain ⟨y, hy⟩ := get_some (l := b) (i := i) (by omega)
  refine Sk (au (aF (au (bG rfl Ha (h := fun Sa wb Hb => ?_)))))
  refine Gm Sa 0 ?_
  refine Gm Sa 1 ?_
  refine Gp Sa 2 rfl rfl (fun _ => (Gives.eT rfl rfl (by assumption) (by omega))) (Gl Sa 3 rfl rfl (Gives.Jl rfl Hb (by assumption) (by assumption) rfl) ?_)
  refine Gm Sa 4 ?_
  refine Gm Sa 5 ?_
  refine Gp Sa 6 rfl rfl (fun _ => (Gives.eT rfl rfl (by assumption) (by omega))) (Gl Sa 7 rfl rfl (Gives.Jl rfl Hb (by assumption) (by assumption) rfl) ?_)
  refine Gp Sa 8 rfl rfl (fun _ => (Gives.neq rfl rfl)) (bR Sa (by kernel_rfl) ?_)
  refine aj (Cp rfl (fun Ib => ?_) (fun Ib => ?_))
  ·have yS := Ib
   refine Sr (Am ?_)
   refine Qn (Rb (aR (aH (aL (ak (hR := ?_))))))
   exact ⟨congrArg Value.bool (Eq.symm (decide_eq_false fun e => yS (by rw [e, hy] at hx; injection hx with hx; exact hx.symm))), Hb.kept⟩
  have yS : x = y := Classical.not_not.1 Ib
  have Eo : a.take (i + 1) = b.take (i + 1) := by rw [List.take_add_one, List.take_add_one, dJ, hx, hy, yS]
  refine aY (aA (aj (aB (Mv ?_))))
  refine Vv (Gives.bM rfl rfl rfl (by omega)) (Am ?_)
  refine aP ?_
  exact aC (i + 1) ⟨rfl, rfl, rfl, trivial⟩ ⟨⟨by omega, Eo⟩, Hb⟩ (by omega)
 have jW : i = a.length := by omega
 have Ef : a = b := by rw [jW, List.take_length, hlen, List.take_length] at dJ; exact dJ
 refine bq (aT (aO (aV (aj (Sr (Am ?_))))))
 refine Qn (aM (ak (hR := ?_)))
 exact ⟨congrArg Value.bool (Eq.symm (decide_eq_true Ef)), Ha.kept⟩
theorem Au {a b : List gG} {va vb : Value} (ha : dn w va bE 7 a) (hb : dn w vb bE 7 b) : bF Tryz.prog 31 [va, vb] w fun v' w' => v' = .bool (decide (a = b)) ∧ Kept noB w w' := by
 obtain ⟨A, m, rfl, ⟨hm, xK⟩, hA⟩ := ha
 obtain ⟨B, n, rfl, ⟨hn, JL⟩, hB⟩ := hb
 have H := Sep.bB w
 refine eU Tryz.func31 rfl rfl rfl rfl ?_
 refine Sr (Am ?_)
 refine Qn (au (Sr (Mv ?_)))
 refine Vs ?_
 refine Mv ?_
 refine Vs ?_
 refine Vn ?_
 refine Qn (Cp rfl (fun oW => ?_) (fun oW => ?_))
 ·have fM := oW
  refine Sr (Am ?_)
  refine Qn (Rs (ak (hR := ?_)))
  exact ⟨congrArg Value.bool (Eq.symm (decide_eq_false fun e => fM (by rw [e]))), H.kept⟩
 have hlen : a.length = b.length := by omega
 refine Sk (au (Sr (Am ?_)))
 refine Qn (aF (bA (fun i : Nat => [(0, .slice A a.length m), (1, .slice B b.length n), (5, I i)]) (fun i w' => (i ≤ a.length ∧ a.take i = b.take i) ∧ Sep w noB [] w') (fun i _ => a.length - i) 0 ⟨rfl, rfl, rfl, trivial⟩ ⟨⟨Nat.zero_le _, by simp⟩, H⟩ (fun i τ wa hI => ?_)))
 obtain ⟨⟨hi, dJ⟩, Ha⟩ := hI
 try simp only [cZ, like, bC, bZ]
 refine au (Sr (Mv ?_))
 refine Mv ?_
 refine Vs ?_
 refine Vl ?_
 refine Qn (Cp rfl (fun Ia => ?_) (fun Ia => ?_))
 ·have bU : i < a.length := by omega
  obtain ⟨x, hx⟩ := get_some bU
  obtain ⟨y, hy⟩ := get_some (l := b) (i := i) (by omega)
  refine Sk (au (aF (au (bG rfl Ha (h := fun Sa wb Hb => ?_)))))
  refine Gm Sa 0 ?_
  refine Gm Sa 1 ?_
  refine Gp Sa 2 rfl rfl (fun _ => (Gives.eT rfl rfl (by assumption) (by omega))) (Gl Sa 3 rfl rfl (Gives.iM rfl Hb (by assumption) (by assumption)) ?_)
  refine Gm Sa 4 ?_
  refine Gm Sa 5 ?_
  refine Gp Sa 6 rfl rfl (fun _ => (Gives.eT rfl rfl (by assumption) (by omega))) (Gl Sa 7 rfl rfl (Gives.iM rfl Hb (by assumption) (by assumption)) ?_)
  refine Gp Sa 8 rfl rfl (fun _ => (Gives.VB (enc := bE) _ _ rfl rfl)) (bR Sa (by kernel_rfl) ?_)
  refine aj (Cp rfl (fun Ib => ?_) (fun Ib => ?_))
  ·have yS := Ib
   refine Sr (Am ?_)
   refine Qn (Rb (aR (aH (aL (ak (hR := ?_))))))
   exact ⟨congrArg Value.bool (Eq.symm (decide_eq_false fun e => yS (by rw [e, hy] at hx; injection hx with hx; exact hx.symm))), Hb.kept⟩
  have yS : x = y := Classical.not_not.1 Ib
  have Eo : a.take (i + 1) = b.take (i + 1) := by rw [List.take_add_one, List.take_add_one, dJ, hx, hy, yS]
  refine aY (aA (aj (aB (Mv ?_))))
  refine Vv (Gives.bM rfl rfl rfl (by omega)) (Am ?_)
  refine aP ?_
  exact aC (i + 1) ⟨rfl, rfl, rfl, trivial⟩ ⟨⟨by omega, Eo⟩, Hb⟩ (by omega)
 have jW : i = a.length := by omega
 have Ef : a = b := by rw [jW, List.take_length, hlen, List.take_length] at dJ; exact dJ
 refine bq (aT (aO (aV (aj (Sr (Am ?_))))))
 refine Qn (aM (ak (hR := ?_)))
 exact ⟨congrArg Value.bool (Eq.symm (decide_eq_true Ef)), Ha.kept⟩
end
end Go.Proofs.YtolaedhdjcnijaaGreatDoor
namespace Go.Mw
open Go.RowKit
section
variable {P : Program} {ρ : Operand → Value} {ty : TypeId} {w : World} {x y : Operand}
theorem Gives.Ua {src dst t e : TypeId} {n bytes cells b : Nat} (hs : P.underlying src = some (.pointer t)) (hd : P.underlying dst = some .unsafePointer) [hz : Cells P t n bytes] (hn : n ≠ 0) (JF : w.shape? b = some (e, cells)) (hc : 0 < cells) (hx : ρ x = .pointer (some ⟨b, 0, none⟩)) :
    Gives P ρ (.convert src dst x) ty w (.pointer (some ⟨b, 0, none⟩)) w := fun _ _ _ _ => by
  obtain ⟨j, ht, qB⟩ := Option.map_eq_some_iff.1 hz.size
  simp only [Prod.mk.injEq] at qB
  have := Lib.run_to_unsafe (P := P) w ⟨b, 0, none⟩ hs hd ht (by rw [qB.1]; exact hn) JF hc
  simp only [execOp, hx, Sem.run_bind, this, Result.andThen_ok, Sem.run_pure]
theorem Gives.NH {src dst u e : TypeId} {n bytes cells b : Nat} (hs : P.underlying src = some .unsafePointer) (hd : P.underlying dst = some (.pointer u)) [hz : Cells P u n bytes] (JF : w.shape? b = some (e, cells)) (hl : liesAt P P.depth e (cells / P.cellsOf e) 0 u 1 = true) (hx : ρ x = .pointer (some ⟨b, 0, none⟩)) :
    Gives P ρ (.convert src dst x) ty w (.pointer (some ⟨b, 0, none⟩)) w := fun _ _ _ _ => by
  obtain ⟨j, hu, _⟩ := Option.map_eq_some_iff.1 hz.size
  have := Lib.run_from_unsafe (P := P) w ⟨b, 0, none⟩ hs hd hu JF hl
  simp only [execOp, hx, Sem.run_bind, this, Result.andThen_ok, Sem.run_pure]
theorem Gives.XR {T U te : TypeId} {n bytes b : Nat} (hp : P.underlying T = some (.pointer te)) [hz : Cells P te n bytes] (hx : ρ x = .pointer (some ⟨b, 0, none⟩)) (hy : ρ y = .pointer (some ⟨b, 0, none⟩)) (hg : ∀ x y, (eqGuard .neq T x y (.pointer (some ⟨b, 0, none⟩)) (.pointer (some ⟨b, 0, none⟩))).run P w = .ok () w) :
    Gives P ρ (.binOp .neq T x y U) ty w (.bool false) w :=
  .bin hx hy hg (by
    obtain ⟨j, ht, _⟩ := Option.map_eq_some_iff.1 hz.size
    exact Lib.run_neq_ptr_same (P := P) w ⟨b, 0, none⟩ hp ht)
class DV (P : Program) (f : FuncId) : Prop where
 run : ∀ v w, (callFunc f #[v]).run P w = .ok (.value v) w
theorem Gives.Ub {σ : St} {f : FuncId} [h : DV P f] {ats : Array TypeId} {v : Value} (hx : evF σ x = v) : Gives P (evF σ) (.call { callee := .value (.func f), args := #[x], argTypes := ats }) ty w v w := fun _ _ _ _ => by
 have e : (#[] ++ #[x].map (evF σ) ++ #[] : Array Value) = #[v] := by simp [hx]
 show (callFunc f (#[] ++ #[x].map (evF σ) ++ #[])).run P w = _
 rw [e, h.run]
theorem Gi {w : World} {b : Nat} {cs : List Value} {e : TypeId} (h : w.heap[b]? = some (.cells cs.toArray e (0, 0))) : w.shape? b = some (e, cs.length) := by
 unfold World.shape?
 rw [h]; simp
theorem Gives.sliceData {ts : Array TypeId} {v : Value} {w' : World} (h : (Builtin.unsafeSliceData_ ts ty #[ρ x]).run P w = .ok v w') : Gives P ρ (.call { callee := .builtin .unsafeSliceData, args := #[x], argTypes := ts }) ty w v w' := fun _ _ _ _ => by
 simp only [execOp, resolve, invoke, builtin, Sem.run_bind, Sem.run_pure, Result.andThen_ok, List.map_toArray, List.map_cons, List.map_nil, h]
theorem Gives.unsafeStr {ts : Array TypeId} {v : Value} {w' : World} (h : (Builtin.unsafeString_ ts ty #[ρ x, ρ y]).run P w = .ok v w') : Gives P ρ (.call { callee := .builtin .unsafeString, args := #[x, y], argTypes := ts }) ty w v w' := fun _ _ _ _ => by
 simp only [execOp, resolve, invoke, builtin, Sem.run_bind, Sem.run_pure, Result.andThen_ok, List.map_toArray, List.map_cons, List.map_nil, h]
end
end Go.Mw
namespace Go.Proofs.YtolaedhdjcnijaaGreatDoor
open Go Go.Mw Go.Lib
set_option maxRecDepth 4000
instance : DV Tryz.prog 169 := ⟨fun v w => by
 rw [run_callFunc_extern Tryz.func169 (by kernel_rfl) (by kernel_rfl) (by kernel_rfl) (e := Extern.AbiNoEscape.same) (by kernel_rfl), Lib.run_noEscape]; rfl⟩
def bI (b : Nat) : Value := .pointer (some ⟨b, 0, none⟩)
def rD (b : Nat) (l : List UInt8) : HP := exH fun x : Value × Value => star (mH ((x.1 = .pointer none ∨ x.1 = bI b) ∧ (l = [] → x.2 = .slice none 0 0))) (star (blk b [x.1, x.2] 124) (gU 5 x.2 l))
section
variable {w w₀ : World} {S : Nat → Prop} {rs : List HP}
theorem Sep.DW {b : Nat} {l : List UInt8} (H : Sep w₀ S (rD b l :: rs) w) : ∃ a v, ((a = .pointer none ∨ a = bI b) ∧ (l = [] → v = .slice none 0 0)) ∧ Sep w₀ S (blk b [a, v] 124 :: gU 5 v l :: rs) w := by
 obtain ⟨x, H1⟩ := H.ex0
 obtain ⟨h, H2⟩ := H1.ny.Cx
 exact ⟨x.1, x.2, h, H2.ny⟩
theorem Sep.Gj {b : Nat} {l : List UInt8} {a v : Value} (ha : (a = .pointer none ∨ a = bI b) ∧ (l = [] → v = .slice none 0 0)) (H : Sep w₀ S (blk b [a, v] 124 :: gU 5 v l :: rs) w) : Sep w₀ S (rD b l :: rs) w :=
 Sep.AX (a, v) (Sep.uJ (Sep.nA ha (Sep.uJ H)))
theorem Sep.XT {b : Nat} (H : Sep w₀ S (blk b [.pointer none, .slice none 0 0] 124 :: rs) w) : Sep w₀ S (rD b [] :: rs) w :=
 Sep.Gj ⟨.inl rfl, fun _ => rfl⟩ (H.zy 5).dS
theorem Le {b : Nat} {v : Value} {F : Nat → Prop} (hp : (blk b [.pointer none, v] 124).ok F w) : bF Tryz.prog 120 [bI b] w fun r w' => r = .tuple #[] ∧ Turn F (blk b [bI b, v] 124) w w' := by
 have H := Sep.iy hp
 refine dP Tryz.func120 rfl rfl rfl rfl ?_
 refine Sr (Mv ?_)
 refine Vv (Gives.nilCheck rfl) (Vf ?_)
 refine Ld H ?_
 refine Vv (Gives.Rt rfl rfl) (Qn ?_)
 refine Cd rfl (fun Cr => ?_) (fun Cr => ?_)
 ·refine aB (Mv ?_)
  refine Mv ?_
  refine Vv (Gives.Ua (t := 124) (by kernel_rfl) (by kernel_rfl) (by decide) (Gi (H.obj At0)) (by simp) rfl) ?_
  refine Vv (Gives.Ub rfl) (Vv (Gives.NH (u := 124) (by kernel_rfl) (by kernel_rfl) (Gi (H.obj At0)) (by kernel_rfl) rfl) ?_)
  refine Vv (Gives.nilCheck rfl) (Vf ?_)
  refine bW H (h := fun wa Ha => ?_)
  refine aP (jC (hR := ?_))
  exact ⟨rfl, Ha.turn⟩
 exact absurd Cr (by simp)
theorem NI {b : Nat} {v : Value} {F : Nat → Prop} (hp : (blk b [bI b, v] 124).ok F w) : bF Tryz.prog 120 [bI b] w fun r w' => r = .tuple #[] ∧ Turn F (blk b [bI b, v] 124) w w' := by
 have H := Sep.iy hp
 refine dP Tryz.func120 rfl rfl rfl rfl ?_
 refine Sr (Mv ?_)
 refine Vv (Gives.nilCheck rfl) (Vf ?_)
 refine Ld H ?_
 refine Vv (Gives.Rt rfl rfl) (Qn ?_)
 refine Cd rfl (fun Cr => ?_) (fun Cr => ?_)
 ·exact absurd Cr (by simp [bI])
 refine Sr (Mv ?_)
 refine Vv (Gives.nilCheck rfl) (Vf ?_)
 refine Ld H ?_
 refine Mv ?_
 refine Vv (Gives.XR (te := 124) (by kernel_rfl) rfl rfl (fun _ _ => rfl)) (Qn ?_)
 refine Cd rfl (fun Ia => ?_) (fun Ia => ?_)
 ·cases Ia
 refine aY (jC (hR := ?_))
 exact ⟨rfl, H.turn⟩
theorem vJ {b : Nat} {a v : Value} {F : Nat → Prop} (ha : a = .pointer none ∨ a = bI b) (hp : (blk b [a, v] 124).ok F w) : bF Tryz.prog 120 [bI b] w fun r w' => r = .tuple #[] ∧ Turn F (blk b [bI b, v] 124) w w' := by
 rcases ha with rfl | rfl
 ·exact Le hp
 exact NI hp
theorem pK {b : Nat} {l : List UInt8} {F : Nat → Prop} (c : UInt8) (hp : (rD b l).ok F w) (hl : l.length ≤ 100000000) : bF Tryz.prog 181 [bI b, B c] w fun r w' => r = .nilIface ∧ Turn F (rD b (l ++ [c])) w w' := by
 obtain ⟨a, v, ha, H⟩ := Sep.DW (Sep.iy hp)
 refine eU Tryz.func181 rfl rfl rfl rfl ?_
 refine Sr (Am ?_)
 refine Nx (Mv ?_)
 obtain ⟨F0, gu, nk, bJ⟩ := H.focus At0
 refine bH (vJ ha.1 gu) rfl rfl (fun v' w4 hv => ?_)
 obtain ⟨rfl, dK, F1, hq, hs⟩ := hv
 have H4 := bJ _ F1 _ dK hq hs
 refine Nx (Mv ?_)
 refine Mv ?_
 refine Vv (Gives.nilCheck rfl) (Vf ?_)
 refine Ld H4 ?_
 refine Mv ?_
 refine aX H4 (xs := [.tmp 12]) (out := [c].map B) (aU.one rfl rfl aU.nil) rfl rfl rfl (fun bs wa Ha ka => ?_)
 refine fq Ha (news := [c]) At1 (by simp; omega) (h := ?_)
 intro v2 wb Hb
 obtain ⟨A2, c2, rfl, _⟩ := Sep.qE Hb At1
 refine Vv (Gives.nilCheck rfl) (Vf ?_)
 refine bW Hb (h := fun wc Hc => ?_)
 refine Nx (Am ?_)
 refine Qn (aM (ak (hR := ?_)))
 exact ⟨rfl, (Sep.Gj ⟨.inr rfl, fun e => absurd e (by simp)⟩ Hc).turn⟩
theorem qy {b : Nat} {l news : List UInt8} {F : Nat → Prop} (fM : news ≠ []) (hp : (rD b l).ok F w) (hl : l.length + news.length ≤ 100000000) : bF Tryz.prog 79 [bI b, str news] w fun r w' => r = .tuple #[I news.length, .nilIface] ∧ Turn F (rD b (l ++ news)) w w' := by
 obtain ⟨a, v, ha, H⟩ := Sep.DW (Sep.iy hp)
 refine eU Tryz.func79 rfl rfl rfl rfl ?_
 refine Sr (Am ?_)
 refine Am ?_
 refine Nx (Mv ?_)
 obtain ⟨F0, gu, nk, bJ⟩ := H.focus At0
 refine bH (vJ ha.1 gu) rfl rfl (fun v' w5 hv => ?_)
 obtain ⟨rfl, dK, F1, hq, hs⟩ := hv
 have H5 := bJ _ F1 _ dK hq hs
 refine Nx (Mv ?_)
 refine Mv ?_
 refine Vv (Gives.nilCheck rfl) (Vf ?_)
 refine Ld H5 ?_
 refine Mv ?_
 refine tJ H5 (news := news) At1 (by omega) (h := ?_)
 intro v2 wa Ha
 obtain ⟨A2, c2, rfl, _⟩ := Sep.qE Ha At1
 refine Vv (Gives.nilCheck rfl) (Vf ?_)
 refine bW Ha (h := fun wb Hb => ?_)
 refine Nx (Mv ?_)
 refine Vt ?_
 refine Am ?_
 refine Am ?_
 refine Qn (aM (ak (hR := ?_)))
 exact ⟨rfl, (Sep.Gj ⟨.inr rfl, fun e => absurd (List.append_eq_nil_iff.1 e).2 fM⟩ Hb).turn⟩
theorem Lf {w : World} {F : Nat → Prop} {g n : Nat} (hF : F g) : Kept F w (w.freeze ⟨g, 0, none⟩ n) := by
 unfold World.freeze
 split
 ·exact Kept.refl _ _
 refine ⟨rfl, rfl, rfl, by simp, fun k hk hn => ?_⟩
 rw [Array.getElem?_modify, if_neg (fun e => hn (by rw [← e]; exact hF))]
theorem Lg {b : Nat} {l : List UInt8} {F : Nat → Prop} (hp : (rD b l).ok F w) (hl : l.length ≤ 100000000) (h0 : l ≠ []) : bF Tryz.prog 81 [bI b] w fun r w' => r = str l ∧ Turn F emp w w' := by
 obtain ⟨a, v, ha, H⟩ := Sep.DW (Sep.iy hp)
 obtain ⟨A, c, rfl, rG, _, qV⟩ := Sep.qE H At1
 have hlen : l.length ≠ 0 := fun e => h0 (List.eq_nil_of_length_eq_zero e)
 refine dP Tryz.func81 rfl rfl rfl rfl ?_
 refine Sr (Am ?_)
 refine Qn (au (bG rfl H (h := fun iZ w4 H4 => ?_)))
 refine Gm iZ 0 ?_
 refine Gp iZ 1 rfl rfl (fun _ => (Gives.nilCheck rfl)) (Gp iZ 2 rfl rfl (fun _ => (Gives.dx rfl)) ?_)
 refine cK iZ 3 H4 (h := ?_)
 refine Gm iZ 5 ?_
 refine Gp iZ 6 rfl rfl (fun _ => (Gives.nilCheck rfl)) (Gp iZ 7 rfl rfl (fun _ => (Gives.dx rfl)) ?_)
 refine cK iZ 8 H4 (h := ?_)
 refine Gp iZ 9 rfl rfl (fun _ => (Gives.rJ rfl)) ?_
 obtain ⟨F0, gu, nk, bJ⟩ := H4.focus At1
 have JQ := Sep.rowAt H4 At1
 obtain ⟨g, hA, hF0, JF⟩ : ∃ g, A = some ⟨g, 0, none⟩ ∧ F0 g ∧ w4.shape? g = some (5, c) := by
  rcases gu.1.2 with ⟨hv, h1⟩ | ⟨g, cap, cur, hv, _, hh, Rc, _, hsz, _⟩
  ·exact absurd h1 hlen
  injection hv with e1 e2 e3
  refine ⟨g, e1, (gu.2 g).2 (by rw [e1]; rfl), ?_⟩
  unfold World.shape?
  rw [hh, e3]
  simp only [hsz, Nat.mul_one]
 subst hA
 refine xS (C := fun v' w' => v' = bI g ∧ w' = w4) iZ 4 [(9, true), (8, false), (7, true), (6, true), (5, true)] rfl (by kernel_rfl) ⟨_, _, Gives.sliceData (Lib.run_unsafeSliceData_row _ _ _ ⟨g, 0, none⟩ l.length c (by omega)), rfl, rfl⟩ (by kernel_rfl) (by kernel_rfl) (fun v' wa hv => ?_)
 obtain ⟨rfl, rfl⟩ := hv
 have Ha := H4
 refine ⟨av (bQ Ha (h := av (av (av (aK))))), ?_⟩
 refine xS (C := fun v' w' => v' = str l ∧ w' = wa.freeze ⟨g, 0, none⟩ l.length) iZ 10 [] rfl (by kernel_rfl) ⟨_, _, Gives.unsafeStr (Lib.run_unsafeString_row (P := Tryz.prog) _ _ _ _ 5 (by kernel_rfl) (by kernel_rfl) g c JF l h0 rG (by omega) (fun j x hj => by
  obtain ⟨ad, e1, hc⟩ := JQ.at_ (by omega)
  injection e1 with e1
  subst e1
  exact hc j _ (by rw [List.getElem?_map, hj]; rfl))), rfl, rfl⟩ (by kernel_rfl) (by kernel_rfl) (fun v' wb hv => ?_)
 obtain ⟨rfl, rfl⟩ := hv
 have Hb := bJ _ (fun _ => False) emp (Lf (n := l.length) hF0) (Mj (fun _ => id)) (fun b hb => hb.elim)
 refine ⟨aK, ?_⟩
 refine Gp iZ 11 rfl rfl (fun _ => Gives.assign rfl) (bR iZ (by kernel_rfl) ?_)
 refine aj (aM (ak (hR := ?_)))
 exact ⟨rfl, Hb.dS.first.turn⟩
theorem NJ {b : Nat} {F : Nat → Prop} (hp : (rD b []).ok F w) : bF Tryz.prog 81 [bI b] w fun r w' => r = str [] ∧ Turn F emp w w' := by
 obtain ⟨a, v, ha, H⟩ := Sep.DW (Sep.iy hp)
 have hv := ha.2 rfl
 subst hv
 refine dP Tryz.func81 rfl rfl rfl rfl ?_
 refine Sr (Am ?_)
 refine Qn (au (bG rfl H (h := fun iZ w4 H4 => ?_)))
 refine Gm iZ 0 ?_
 refine Gp iZ 1 rfl rfl (fun _ => (Gives.nilCheck rfl)) (Gp iZ 2 rfl rfl (fun _ => (Gives.dx rfl)) ?_)
 refine cK iZ 3 H4 (h := ?_)
 refine Gm iZ 5 ?_
 refine Gp iZ 6 rfl rfl (fun _ => (Gives.nilCheck rfl)) (Gp iZ 7 rfl rfl (fun _ => (Gives.dx rfl)) ?_)
 refine cK iZ 8 H4 (h := ?_)
 refine Gp iZ 9 rfl rfl (fun _ => (Gives.rJ rfl)) (xS (C := fun v' w' => v' = .pointer none ∧ w' = w4) iZ 4 [(9, true), (8, false), (7, true), (6, true), (5, true)] rfl (by kernel_rfl) ⟨_, _, Gives.sliceData (Lib.run_unsafeSliceData_nil _ _ _ 0 0), rfl, rfl⟩ (by kernel_rfl) (by kernel_rfl) (fun v' wa hv => ?_))
 obtain ⟨rfl, rfl⟩ := hv
 have Ha := H4
 refine ⟨av (bQ Ha (h := av (av (av (aK))))), ?_⟩
 refine xS (C := fun v' w' => v' = str [] ∧ w' = wa) iZ 10 [] rfl (by kernel_rfl) ⟨_, _, Gives.unsafeStr (Lib.run_unsafeString_none (P := Tryz.prog) _ _ _ _ none), rfl, rfl⟩ (by kernel_rfl) (by kernel_rfl) (fun v' wb hv => ?_)
 obtain ⟨rfl, rfl⟩ := hv
 have Hb := Ha
 refine ⟨aK, ?_⟩
 refine Gp iZ 11 rfl rfl (fun _ => Gives.assign rfl) (bR iZ (by kernel_rfl) ?_)
 refine aj (aM (ak (hR := ?_)))
 exact ⟨rfl, ⟨Hb.kept, fun _ => False, Mj (fun _ => id), fun b hb => hb.elim⟩⟩
theorem Av {b : Nat} {l : List UInt8} {F : Nat → Prop} (hp : (rD b l).ok F w) (hl : l.length ≤ 100000000) : bF Tryz.prog 81 [bI b] w fun r w' => r = str l ∧ Turn F emp w w' := by
 by_cases h : l = []
 ·subst h; exact NJ hp
 exact Lg hp hl h
end
end Go.Proofs.YtolaedhdjcnijaaGreatDoor
namespace Go.Mw.K32
open Go.Mw
open Go.RowKit

def mg (k : Int) (e : MapEntry) : Bool := match e.key with
 | .int .i32 a => a == k
 | _ => false
def yE (es : List MapEntry) (k : Int) : Option Value := (es.find? (mg k)).map (·.val)
def intKeys (es : List MapEntry) : Prop := ∀ e ∈ es, ∃ a, e.key = .int .i32 a
section
variable {w₀ w w' : World} {S : Nat → Prop} {rs : List HP} {put : HP → List HP} {P : Program}
theorem uY (k : Int) : ∀ (es : List MapEntry) (i : Nat), intKeys es → ∃ r, Instr.findNow (.int .i32) (.int .i32 k) es i = some r ∧ r.map (·.2) = yE es k ∧
    (∀ j v, r = some (j, v) → ∃ m, j = i + m ∧ ∃ e, es[m]? = some e ∧ mg k e = true ∧ es.find? (mg k) = some e ∧ ∀ m' e', m' < m → es[m']? = some e' → mg k e' = false) := by
  intro es
  induction es with
  | nil => intro i _; exact ⟨none, rfl, rfl, fun _ _ h => by cases h⟩
  | cons e es ih =>
    intro i hk
    obtain ⟨a, ha⟩ := hk e List.mem_cons_self
    obtain ⟨r, h1, h2, h3⟩ := ih (i + 1) fun x hx => hk x (List.mem_cons_of_mem _ hx)
    have hs : Instr.sameNow (.int .i32) (.int .i32 k) e.key = some (k == a) := by rw [ha]; simp [Instr.sameNow]
    have BZ : mg k e = (a == k) := by unfold mg; rw [ha]
    by_cases LX : k = a
    · subst LX
      have Gw : mg k e = true := by rw [BZ]; simp
      refine ⟨some (i, e.val), ?_, ?_, ?_⟩
      · unfold Instr.findNow; rw [hs]; simp
      · simp [yE, Gw]
      rintro j v Ec
      injection Ec with Ec
      injection Ec with h4 h5
      exact ⟨0, by omega, e, rfl, Gw, by simp [Gw], fun m' _ hm => by omega⟩
    have LY : mg k e = false := by rw [BZ]; simpa using fun h : a = k => LX h.symm
    refine ⟨r, ?_, ?_, ?_⟩
    · unfold Instr.findNow; rw [hs, h1]
      have : (k == a) = false := by simpa using LX
      rw [this]
    · rw [h2]; simp [yE, LY]
    rintro j v Ec
    obtain ⟨m, hm, e', Ut, hk', Wq, bU⟩ := h3 j v Ec
    refine ⟨m + 1, by omega, e', by simpa using Ut, hk', by simp [LY, Wq], fun m' e'' xK Ed => ?_⟩
    cases m' with
    | zero => simp at Ed; rw [← Ed]; exact LY
    | succ m' => exact bU m' e'' (by omega) (by simpa using Ed)
theorem oL {kt : TypeId} (hu : P.underlying kt = some (.int .i32)) (k : Int) (es : List MapEntry) (hk : intKeys es) :
    ∃ r, (Instr.findKey kt (.int .i32 k) es).run P w = .ok r w ∧ r.map (·.2) = yE es k ∧
    (∀ j v, r = some (j, v) → ∃ e, es[j]? = some e ∧ mg k e = true ∧ ∀ m' e', m' < j → es[m']? = some e' → mg k e' = false) := by
  obtain ⟨r, h1, h2, h3⟩ := uY k es 0 hk
  refine ⟨r, by simp [Instr.findKey, run_underlying hu, h1], h2, fun j v Ec => ?_⟩
  obtain ⟨m, hm, e, he, xR, _, bU⟩ := h3 j v Ec
  have : j = m := by omega
  subst this
  exact ⟨e, he, xR, bU⟩
theorem nU {kt : TypeId} (hu : P.underlying kt = some (.int .i32)) (b : Bool) (k : Int) (d : Nat) : (Instr.checkKey b (d + 1) kt (.int .i32 k)).run P w = .ok () w := by
 simp [Instr.checkKey, run_underlying hu]
theorem run_getObj_map {b : Nat} {es : Array MapEntry} {c : Nat} (h : w.heap[b]? = some (.map es c)) : (getObj b).run P w = .ok (.map es c) w := by
 simp [getObj, Sem.run, h]
end
end Go.Mw.K32
namespace Go.Mw
open Go.RowKit
section
variable {P : Program} {ρ : Operand → Value} {ty : TypeId} {w w₀ : World} {x y z : Operand} {S : Nat → Prop} {rs : List HP} {put : HP → List HP}
theorem Lh {T k e : TypeId} [hm : IsMap P T k e] [hk : iH P k .i32] {b : Nat} {es : Array MapEntry} {c : Nat} {i : Int} {v : Value}
    (H : Sep w₀ S rs w) (hat : At rs (obj b (.map es c)) put) (qU : K32.intKeys es.toList) (iY : K32.yE es.toList i = none) (hx : ρ x = .map (some b)) (hy : ρ y = .int .i32 i) (hz : ρ z = v) :
    ∃ w', JX P ρ (.insert T x y z) ty w w' ∧ Sep w₀ S (put (obj b (.map (es.push { key := .int .i32 i, val := v, born := c }) (c + 1)))) w' := by
  have hb := H.obj hat
  obtain ⟨r, h1, h2, _⟩ := K32.oL (P := P) (w := w) hk.und i es.toList qU
  have hr : r = none := by
    cases r with
    | none => rfl
    | some jv => rw [iY] at h2; cases h2
  subst hr
  have jl := K32.nU (P := P) (w := w) hk.und false i 9999
  have AJ : ∀ o : Obj, (setObj b o).run P w = .ok () { w with heap := w.heap.setIfInBounds b o } := fun o => by simp [Go.setObj, Sem.run, hb]
  have bU := lX hb
  refine ⟨{ w with heap := w.heap.setIfInBounds b (.map (es.push { key := .int .i32 i, val := v, born := c }) (c + 1)) }, fun _ _ _ _ => ?_, H.setObj hat ⟨rfl, rfl, rfl, by simp, fun j hj fM => by simp only [Array.getElem?_setIfInBounds]; rw [if_neg (fun e => fM e.symm)]⟩ (by simp [bU])⟩
  simp only [execOp, hx, hy, hz, Instr.mapUpdate, Sem.run_bind, run_underlying hm.und, Result.andThen_ok, run_getObj_map hb]
  rw [jl]
  simp only [Result.andThen_ok, h1, AJ, Sem.run_pure]
theorem nX {r : Option Nat} {n : Nat} {ops : Array Oper} {Q : Post} {rest : List Oper} {σ : St} {pos : String} {after : Array Edge} {T k e : TypeId} [hm : IsMap P T k e] [hk : iH P k .i32] {b : Nat} {es : Array MapEntry} {c : Nat} {i : Int} {v : Value}
    (H : Sep w₀ S rs w) (hat : At rs (obj b (.map es c)) put) (qU : K32.intKeys es.toList) (iY : K32.yE es.toList i = none) (hx : evF σ x = .map (some b) := by exact rfl) (hy : evF σ y = .int .i32 i := by exact rfl) (hz : evF σ z = v := by exact rfl)
    (h : ∀ w', Sep w₀ S (put (obj b (.map (es.push { key := .int .i32 i, val := v, born := c }) (c + 1)))) w' → FL P r n ops Q rest σ w') : FL P r n ops Q ({ dst := none, op := .insert T x y z, type := ty, pos := pos, after := after, guard := none } :: rest) σ w := by
  obtain ⟨w', ha, hs⟩ := Lh (P := P) (ty := ty) (T := T) H hat qU iY hx hy hz
  exact zY ha rfl (h w' hs)
theorem EI {T k e : TypeId} [hm : IsMap P T k e] [hk : iH P k .i32] {zv : Value} [hz : Zero P e zv] {b : Nat} {es : Array MapEntry} {c : Nat} {i : Int}
    (hb : w.heap[b]? = some (.map es c)) (qU : K32.intKeys es.toList) (hx : ρ x = .map (some b)) (hy : ρ y = .int .i32 i) : Gives P ρ (.lookup T x y true) ty w (.tuple #[(K32.yE es.toList i).getD zv, .bool (K32.yE es.toList i).isSome]) w := by
  obtain ⟨r, h1, h2, _⟩ := K32.oL (P := P) (w := w) hk.und i es.toList qU
  intro _ _ _ _
  rw [← h2]
  have jl := K32.nU (P := P) (w := w) hk.und es.isEmpty i 9999
  simp only [execOp, hx, hy, Instr.lookup, Sem.run_bind, run_underlying hm.und, Result.andThen_ok, run_getObj_map hb, Sem.run_pure]
  rw [jl]
  simp only [Result.andThen_ok, h1]
  cases r with
  | none => simp [hz.run]
  | some jv => obtain ⟨j, v⟩ := jv; simp
theorem Jr {T : TypeId} [ht : lM P T] {s : ByteArray} (H : Sep w₀ S rs w) (hx : ρ x = .string s) : ∃ k w', Gives P ρ (.range T x) ty w (.pointer (some ⟨k, 0, none⟩)) w' ∧ Sep w₀ S (obj k (.stringIter s 0) :: rs) w' := by
 refine ⟨w.heap.size, w.alloc (.stringIter s 0), fun _ _ _ _ => ?_, H.alloc _⟩
 have := run_range_string (P := P) w T s ht.und
 simp only [execOp, hx, Sem.run_bind, this, Result.andThen_ok, Sem.run_pure]
 rfl
theorem Li {s : ByteArray} {k pos : Nat} (H : Sep w₀ S rs w) (hat : At rs (obj k (.stringIter s pos)) put) (hx : ρ x = .pointer (some ⟨k, 0, none⟩)) (h : pos < s.size) :
    ∃ w', Gives P ρ (.next x true) ty w (.tuple #[.bool true, .int .i64 pos, .int .i32 (Utf8.decode s pos).1]) w' ∧ Sep w₀ S (put (obj k (.stringIter s (pos + (Utf8.decode s pos).2)))) w' := by
  have hk := H.obj hat
  have bU := lX hk
  have := Lib.run_next_any_at (P := P) w k s pos ty hk h
  refine ⟨w.iterAt k s (pos + (Utf8.decode s pos).2), fun _ _ _ _ => ?_, H.setObj hat ⟨rfl, rfl, rfl, ?_, fun j hj fM => ?_⟩ (Lib.iterAt_heap w k s pos _ hk)⟩
  · simp only [execOp, hx, Sem.run_bind, this, Result.andThen_ok, Sem.run_pure]
  · simp [World.iterAt]
  simp only [World.iterAt, Array.getElem?_setIfInBounds]; rw [if_neg (fun e => fM e.symm)]
theorem EJ {s : ByteArray} {k pos : Nat} (H : Sep w₀ S rs w) (hat : At rs (obj k (.stringIter s pos)) put) (hx : ρ x = .pointer (some ⟨k, 0, none⟩)) (h : ¬ pos < s.size) : Gives P ρ (.next x true) ty w (.tuple #[.bool false]) w := fun _ _ _ _ => by
 have := Lib.run_next_end_at (P := P) w k s pos ty (H.obj hat) h
 simp only [execOp, hx, Sem.run_bind, this, Result.andThen_ok, Sem.run_pure]
end
end Go.Mw
namespace Go.Proofs.YtolaedhdjcnijaaGreatDoor
open Go Go.Mw Go.Lib
set_option maxRecDepth 4000
theorem keys_nil : K32.intKeys (#[] : Array MapEntry).toList := fun e he => by simp at he
theorem eO {es : Array MapEntry} {k : Int} {v : Value} {c : Nat} (h : K32.intKeys es.toList) : K32.intKeys (es.push { key := .int .i32 k, val := v, born := c }).toList := by
 intro e he
 rw [Array.toList_push, List.mem_append, List.mem_singleton] at he
 rcases he with he | rfl
 ·exact h e he
 exact ⟨k, rfl⟩
def tZ (k : Int) (v : Int) (b : Nat) : MapEntry := { key := .int .i32 k, val := .int .u8 v, born := b }
def fU : Array MapEntry := #[tZ 34 34 0, tZ 92 92 1, tZ 8 98 2, tZ 12 102 3, tZ 10 110 4, tZ 13 114 5, tZ 9 116 6]
def uf (r : Int) : Option UInt8 := if r = 34 then some 34 else if r = 92 then some 92 else if r = 8 then some 98 else if r = 12 then some 102 else if r = 10 then some 110 else if r = 13 then some 114 else if r = 9 then some 116 else none
theorem NK (r : Int) : K32.yE fU.toList r = (uf r).map B := by
 unfold K32.yE uf fU
 simp only [List.find?_cons, List.find?_nil, K32.mg, tZ]
 by_cases h1 : r = 34
 ·subst h1; rfl
 by_cases h2 : r = 92
 ·subst h2; rfl
 by_cases h3 : r = 8
 ·subst h3; rfl
 by_cases h4 : r = 12
 ·subst h4; rfl
 by_cases h5 : r = 10
 ·subst h5; rfl
 by_cases h6 : r = 13
 ·subst h6; rfl
 by_cases h7 : r = 9
 ·subst h7; rfl
 have e : ∀ k : Int, r ≠ k → (k == r) = false := fun k h => by simpa using fun e => h e.symm
 simp only [e _ h1, e _ h2, e _ h3, e _ h4, e _ h5, e _ h6, e _ h7, if_neg h1, if_neg h2, if_neg h3, if_neg h4, if_neg h5, if_neg h6, if_neg h7]
 rfl
theorem Lj : K32.intKeys fU.toList := by
 intro e he
 simp only [fU, List.mem_cons, List.not_mem_nil, or_false] at he
 rcases he with rfl | rfl | rfl | rfl | rfl | rfl | rfl <;> exact ⟨_, rfl⟩
section
variable {w : World}
theorem Ll : bF Tryz.prog 182 [] w fun v w' => ∃ m : Nat, v = .map (some m) ∧ True ∧ Turn noB (obj m (.map fU 7)) w w' := by
 have H := Sep.bB w
 refine JW Tryz.func182 rfl rfl rfl ?_
 refine Sr (Am ?_)
 refine Nx (Cy H (h := fun b2 w3 H3 k2 => ?_))
 refine nX H3 At0 keys_nil rfl (h := fun w5 H5 => ?_)
 refine nX H5 At0 (eO keys_nil) rfl (h := fun w7 H7 => ?_)
 refine nX H7 At0 (eO (eO keys_nil)) rfl (h := fun w9 H9 => ?_)
 refine nX H9 At0 (eO (eO (eO keys_nil))) rfl (h := fun wa Ha => ?_)
 refine nX Ha At0 (eO (eO (eO (eO keys_nil)))) rfl (h := fun wb Hb => ?_)
 refine nX Hb At0 (eO (eO (eO (eO (eO keys_nil))))) rfl (h := fun wc Hc => ?_)
 refine nX Hc At0 (eO (eO (eO (eO (eO (eO keys_nil)))))) rfl (h := fun wd Hd => ?_)
 refine Mv ?_
 refine Am ?_
 refine Qn (aM (ak (hR := ?_)))
 exact ⟨_, rfl, trivial, Hd.turn⟩
end
end Go.Proofs.YtolaedhdjcnijaaGreatDoor
namespace Go.Mw
open Go.RowKit
section gives
variable {P : Program} {ρ : Operand → Value} {ty : TypeId} {w : World} {x y : Operand} {T U : TypeId} {k : IntKind} {a b c : Int}
theorem Gives.orE (hx : ρ x = .int k a) (hy : ρ y = .int k b) (he : bits .or k a b = c) : Gives P ρ (.binOp .or T x y U) ty w (.int k c) w := by subst he; exact Gives.or hx hy
theorem Gives.yN (hx : ρ x = .int k a) (hy : ρ y = .int k b) (he : bits .and k a b = c) : Gives P ρ (.binOp .and T x y U) ty w (.int k c) w := by subst he; exact Gives.and hx hy
theorem Gives.yO {m s : Nat} {j : IntKind} (hx : ρ x = .int k m) (hy : ρ y = .int j s) (hs : s ≤ k.bits) : Gives P ρ (.binOp .shr T x y U) ty w (.int k ((m / 2 ^ s : Nat) : Int)) w := by
 have h := Gives.shr (P := P) (ty := ty) (w := w) (T := T) (U := U) hx hy (by omega)
 rw [Int.toNat_natCast, Nat.min_eq_left hs] at h
 have e : (m : Int).fdiv (2 ^ s) = ((m / 2 ^ s : Nat) : Int) := by
  rw [Int.fdiv_eq_ediv_of_nonneg _ (Int.pow_nonneg (by decide))]
  simp
 rw [e] at h
 exact h
end gives
end Go.Mw
namespace Go.Proofs.YtolaedhdjcnijaaGreatDoor
open Go Go.Mw Go.Lib
set_option maxRecDepth 4000
theorem or_fin {h n : Nat} (hh : h < 256) (hn : n < 256) (key : h ||| n = h + n) : bits .or .u8 (h : Int) (n : Int) = ((h + n : Nat) : Int) := by
 rw [u8_or_nat h n hh hn, key]
theorem ZI {x : Nat} (h : x < 32) : bits .or .u8 192 (x : Int) = ((192 + x : Nat) : Int) := by
 have key : ∀ i : Fin 32, 192 ||| i.val = 192 + i.val := by decide
 exact or_fin (h := 192) (by decide) (by omega) (key ⟨x, h⟩)
theorem vK {x : Nat} (h : x < 64) : bits .or .u8 128 (x : Int) = ((128 + x : Nat) : Int) := by
 have key : ∀ i : Fin 64, 128 ||| i.val = 128 + i.val := by decide
 exact or_fin (h := 128) (by decide) (by omega) (key ⟨x, h⟩)
theorem WY {x : Nat} (h : x < 16) : bits .or .u8 224 (x : Int) = ((224 + x : Nat) : Int) := by
 have key : ∀ i : Fin 16, 224 ||| i.val = 224 + i.val := by decide
 exact or_fin (h := 224) (by decide) (by omega) (key ⟨x, h⟩)
theorem WZ {x : Nat} (h : x < 8) : bits .or .u8 240 (x : Int) = ((240 + x : Nat) : Int) := by
 have key : ∀ i : Fin 8, 240 ||| i.val = 240 + i.val := by decide
 exact or_fin (h := 240) (by decide) (by omega) (key ⟨x, h⟩)
theorem vL {x : Nat} (h : x < 256) : bits .and .u8 (x : Int) 63 = ((x % 64 : Nat) : Int) := by
 have key : ∀ i : Fin 256, i.val &&& 63 = i.val % 64 := by decide
 have := u8_and_nat x 63 h (by decide)
 rw [key ⟨x, h⟩] at this
 exact this
theorem u8w (r : Nat) : IntKind.u8.wrap (r : Int) = ((r % 256 : Nat) : Int) := by rw [IntKind.wrap_u8]; omega
def cb (n : Nat) : Value := .int .u8 (n : Int)
theorem XU {n : Nat} (h : n < 256) : B n.toUInt8 = cb n := by
 unfold B cb
 simp [Nat.mod_eq_of_lt h]
theorem AA {r : Nat} {l : List Nat} (h : encodeRuneZ r = l.map fun n : Nat => (n : Int)) (hl : ∀ n ∈ l, n < 256) : l.map cb = (encodeRune r).map B := by
 unfold encodeRune
 rw [h, List.map_map, List.map_map]
 refine List.map_congr_left fun n hn => ?_
 simp only [Function.comp, Int.toNat_natCast]
 exact (XU (hl n hn)).symm
theorem enc2 {r : Nat} (h0 : 128 ≤ r) (h1 : r ≤ 2047) : [cb (192 + r / 64), cb (128 + r % 64)] = (encodeRune r).map B :=
 AA (l := [192 + r / 64, 128 + r % 64]) (by rw [encodeRuneZ_two (by omega) (by omega)]; simp) (by intro n hn; simp at hn; omega)
theorem enc3 {r : Nat} (h : (2048 ≤ r ∧ r < 55296) ∨ (57343 < r ∧ r ≤ 65535)) : [cb (224 + r / 4096), cb (128 + r / 64 % 64), cb (128 + r % 64)] = (encodeRune r).map B :=
 AA (l := [224 + r / 4096, 128 + r / 64 % 64, 128 + r % 64]) (by rw [encodeRuneZ_three (by omega)]; simp) (by intro n hn; simp at hn; omega)
theorem enc4 {r : Nat} (h0 : 65536 ≤ r) (h1 : r ≤ 1114111) : [cb (240 + r / 262144), cb (128 + r / 4096 % 64), cb (128 + r / 64 % 64), cb (128 + r % 64)] = (encodeRune r).map B :=
 AA (l := [240 + r / 262144, 128 + r / 4096 % 64, 128 + r / 64 % 64, 128 + r % 64]) (by
  have e : encodeRuneZ (r : Int) = [240 + (r : Int) / 262144, 128 + (r : Int) / 4096 % 64, 128 + (r : Int) / 64 % 64, 128 + (r : Int) % 64] := by
   unfold encodeRuneZ
   rw [if_neg (by omega), if_neg (by omega), if_neg (by omega), if_pos (by omega)]
  rw [e]; simp) (by intro n hn; simp at hn; omega)
section
variable {w : World}
theorem Js {v : Value} {l : List UInt8} {F : Nat → Prop} {r : Nat} (hp : (gU 5 v l).ok F w) (hl : l.length ≤ 100000000) (h0 : 128 ≤ r) (h1 : r ≤ 1114111) (hs : r < 55296 ∨ 57343 < r) :
    bF Tryz.prog 257 [v, I32 r] w fun x w' => ∃ v', x = v' ∧ True ∧ Turn F (gU 5 v' (l ++ encodeRune r)) w w' := by
  have H := Sep.iy hp
  have hel := zF (r : Int)
  refine eU Tryz.func257 rfl rfl rfl rfl ?_
  refine Sr (Am ?_)
  refine Nx (Mv ?_)
  refine Vv (Gives.jd (c := (r : Int)) rfl (by rw [IntKind.wrap_u32]; omega)) ?_
  refine Am ?_
  refine Qn (aF (Sr (Mv ?_)))
  refine Vv (Gives.leq rfl rfl) (Am ?_)
  refine Qn (Cp rfl (fun xL => ?_) (fun xL => ?_))
  · have Rm := xL
    refine Sr (Mv ?_)
    refine Mv ?_
    refine Vv (Gives.yO (m := r) (s := 6) rfl rfl (by decide)) (Vv (Gives.jd (c := ((r / 64 : Nat) : Int)) rfl (by rw [u8w]; omega)) ?_)
    refine Vv (Gives.orE (c := ((192 + r / 64 : Nat) : Int)) rfl rfl (ZI (by omega))) (Mv ?_)
    refine Vv (Gives.jd (c := ((r % 256 : Nat) : Int)) rfl (u8w r)) (Vv (Gives.yN (c := ((r % 64 : Nat) : Int)) rfl rfl (by rw [vL (by omega)]; omega)) ?_)
    refine Vv (Gives.orE (c := ((128 + r % 64 : Nat) : Int)) rfl rfl (vK (by omega))) (aX H (xs := [.tmp 18, .tmp 22]) (out := [cb (192 + r / 64), cb (128 + r % 64)]) (aU.one rfl rfl (aU.one rfl rfl aU.nil)) rfl rfl rfl (fun bs wa Ha ka => ?_))
    have Em : (encodeRune r).length = 2 := by have := congrArg List.length (enc2 (r := r) h0 (by omega)); simpa using this.symm
    rw [enc2 h0 (by omega)] at Ha
    refine fq Ha At0 (by omega) (hc' := Em.symm) (h := ?_)
    intro v2 wb Hb
    refine Am ?_
    refine Qn (aM (aH (ak (hR := ?_))))
    exact ⟨_, rfl, trivial, Hb.turn⟩
  have Rm := xL
  refine au (Sr (Mv ?_))
  refine Vl ?_
  refine Am ?_
  refine Qn (Cp rfl (fun Ia => ?_) (fun Ia => ?_))
  · refine Sk (aQ (congrArg Value.bool (decide_eq_true Ia)) ?_)
    refine Sr (Mv ?_)
    refine Mv ?_
    refine Vv (Gives.yO (m := r) (s := 12) rfl rfl (by decide)) (Vv (Gives.jd (c := ((r / 4096 : Nat) : Int)) rfl (by rw [u8w]; omega)) ?_)
    refine Vv (Gives.orE (c := ((224 + r / 4096 : Nat) : Int)) rfl rfl (WY (by omega))) (Mv ?_)
    refine Vv (Gives.yO (m := r) (s := 6) rfl rfl (by decide)) (Vv (Gives.jd (c := ((r / 64 % 256 : Nat) : Int)) rfl (u8w _)) ?_)
    refine Vv (Gives.yN (c := ((r / 64 % 64 : Nat) : Int)) rfl rfl (by rw [vL (by omega)]; omega)) ?_
    refine Vv (Gives.orE (c := ((128 + r / 64 % 64 : Nat) : Int)) rfl rfl (vK (by omega))) (Mv ?_)
    refine Vv (Gives.jd (c := ((r % 256 : Nat) : Int)) rfl (u8w r)) (Vv (Gives.yN (c := ((r % 64 : Nat) : Int)) rfl rfl (by rw [vL (by omega)]; omega)) ?_)
    refine Vv (Gives.orE (c := ((128 + r % 64 : Nat) : Int)) rfl rfl (vK (by omega))) (aX H (xs := [.tmp 38, .tmp 43, .tmp 47]) (out := [cb (224 + r / 4096), cb (128 + r / 64 % 64), cb (128 + r % 64)]) (aU.one rfl rfl (aU.one rfl rfl (aU.one rfl rfl aU.nil))) rfl rfl rfl (fun bs wc Hc kb => ?_))
    have Em : (encodeRune r).length = 3 := by have := congrArg List.length (enc3 (r := r) (by omega)); simpa using this.symm
    rw [enc3 (by omega)] at Hc
    refine fq Hc At0 (by omega) (hc' := Em.symm) (h := ?_)
    intro v2 wd Hd
    refine Am ?_
    refine Qn (aM (aH (ak (hR := ?_))))
    exact ⟨_, rfl, trivial, Hd.turn⟩
  refine aB (Mv ?_)
  refine Vl ?_
  refine Mv ?_
  refine aG (t := 30) rfl (fun Sa => ?_) (fun Sa => ?_)
  · refine On (Mv ?_)
    refine On (Vv (Gives.leq rfl rfl) (Pt ?_))
    refine Am ?_
    refine Qn (Cp rfl (fun Ib => ?_) (fun Ib => ?_))
    · refine Sr (Mv ?_)
      refine Mv ?_
      refine Vv (Gives.yO (m := r) (s := 12) rfl rfl (by decide)) (Vv (Gives.jd (c := ((r / 4096 : Nat) : Int)) rfl (by rw [u8w]; omega)) ?_)
      refine Vv (Gives.orE (c := ((224 + r / 4096 : Nat) : Int)) rfl rfl (WY (by omega))) (Mv ?_)
      refine Vv (Gives.yO (m := r) (s := 6) rfl rfl (by decide)) (Vv (Gives.jd (c := ((r / 64 % 256 : Nat) : Int)) rfl (u8w _)) ?_)
      refine Vv (Gives.yN (c := ((r / 64 % 64 : Nat) : Int)) rfl rfl (by rw [vL (by omega)]; omega)) ?_
      refine Vv (Gives.orE (c := ((128 + r / 64 % 64 : Nat) : Int)) rfl rfl (vK (by omega))) (Mv ?_)
      refine Vv (Gives.jd (c := ((r % 256 : Nat) : Int)) rfl (u8w r)) (Vv (Gives.yN (c := ((r % 64 : Nat) : Int)) rfl rfl (by rw [vL (by omega)]; omega)) ?_)
      refine Vv (Gives.orE (c := ((128 + r % 64 : Nat) : Int)) rfl rfl (vK (by omega))) (aX H (xs := [.tmp 38, .tmp 43, .tmp 47]) (out := [cb (224 + r / 4096), cb (128 + r / 64 % 64), cb (128 + r % 64)]) (aU.one rfl rfl (aU.one rfl rfl (aU.one rfl rfl aU.nil))) rfl rfl rfl (fun bs we He kc => ?_))
      have Em : (encodeRune r).length = 3 := by have := congrArg List.length (enc3 (r := r) (by omega)); simpa using this.symm
      rw [enc3 (by omega)] at He
      refine fq He At0 (by omega) (hc' := Em.symm) (h := ?_)
      intro v2 wf Hf
      refine Am ?_
      refine Qn (aM (aH (ak (hR := ?_))))
      exact ⟨_, rfl, trivial, Hf.turn⟩
    refine Sr (Mv ?_)
    refine Vg ?_
    refine Mv ?_
    refine aG (t := 53) rfl (fun Sb => ?_) (fun Sb => ?_)
    · refine On (Mv ?_)
      refine On (Vv (Gives.leq rfl rfl) (Pt ?_))
      refine Am ?_
      refine Qn (Cp rfl (fun Ic => ?_) (fun Ic => ?_))
      · refine Sr (Mv ?_)
        refine Mv ?_
        refine Vv (Gives.yO (m := r) (s := 18) rfl rfl (by decide)) (Vv (Gives.jd (c := ((r / 262144 : Nat) : Int)) rfl (by rw [u8w]; omega)) ?_)
        refine Vv (Gives.orE (c := ((240 + r / 262144 : Nat) : Int)) rfl rfl (WZ (by omega))) (Mv ?_)
        refine Vv (Gives.yO (m := r) (s := 12) rfl rfl (by decide)) (Vv (Gives.jd (c := ((r / 4096 % 256 : Nat) : Int)) rfl (u8w _)) ?_)
        refine Vv (Gives.yN (c := ((r / 4096 % 64 : Nat) : Int)) rfl rfl (by rw [vL (by omega)]; omega)) ?_
        refine Vv (Gives.orE (c := ((128 + r / 4096 % 64 : Nat) : Int)) rfl rfl (vK (by omega))) (Mv ?_)
        refine Vv (Gives.yO (m := r) (s := 6) rfl rfl (by decide)) (Vv (Gives.jd (c := ((r / 64 % 256 : Nat) : Int)) rfl (u8w _)) ?_)
        refine Vv (Gives.yN (c := ((r / 64 % 64 : Nat) : Int)) rfl rfl (by rw [vL (by omega)]; omega)) ?_
        refine Vv (Gives.orE (c := ((128 + r / 64 % 64 : Nat) : Int)) rfl rfl (vK (by omega))) (Mv ?_)
        refine Vv (Gives.jd (c := ((r % 256 : Nat) : Int)) rfl (u8w r)) (Vv (Gives.yN (c := ((r % 64 : Nat) : Int)) rfl rfl (by rw [vL (by omega)]; omega)) ?_)
        refine Vv (Gives.orE (c := ((128 + r % 64 : Nat) : Int)) rfl rfl (vK (by omega))) (aX H (xs := [.tmp 61, .tmp 66, .tmp 71, .tmp 75]) (out := [cb (240 + r / 262144), cb (128 + r / 4096 % 64), cb (128 + r / 64 % 64), cb (128 + r % 64)]) (aU.one rfl rfl (aU.one rfl rfl (aU.one rfl rfl (aU.one rfl rfl aU.nil)))) rfl rfl rfl (fun bs wg Hg kd => ?_))
        have Em : (encodeRune r).length = 4 := by have := congrArg List.length (enc4 (r := r) (by omega) h1); simpa using this.symm
        rw [enc4 (by omega) h1] at Hg
        refine fq Hg At0 (by omega) (hc' := Em.symm) (h := ?_)
        intro v2 wh Hh
        refine Am ?_
        refine Qn (aM (aH (ak (hR := ?_))))
        exact ⟨_, rfl, trivial, Hh.turn⟩
      exact absurd h1 (by omega)
    exact absurd h1 (by omega)
  refine Of (Of (Pf ?_))
  refine Am ?_
  refine Qn (bg rfl ?_)
  refine Sr (Mv ?_)
  refine Vg ?_
  refine Mv ?_
  refine aG (t := 53) rfl (fun Sc => ?_) (fun Sc => ?_)
  · refine On (Mv ?_)
    refine On (Vv (Gives.leq rfl rfl) (Pt ?_))
    refine Am ?_
    refine Qn (Cp rfl (fun Id => ?_) (fun Id => ?_))
    · refine Sr (Mv ?_)
      refine Mv ?_
      refine Vv (Gives.yO (m := r) (s := 18) rfl rfl (by decide)) (Vv (Gives.jd (c := ((r / 262144 : Nat) : Int)) rfl (by rw [u8w]; omega)) ?_)
      refine Vv (Gives.orE (c := ((240 + r / 262144 : Nat) : Int)) rfl rfl (WZ (by omega))) (Mv ?_)
      refine Vv (Gives.yO (m := r) (s := 12) rfl rfl (by decide)) (Vv (Gives.jd (c := ((r / 4096 % 256 : Nat) : Int)) rfl (u8w _)) ?_)
      refine Vv (Gives.yN (c := ((r / 4096 % 64 : Nat) : Int)) rfl rfl (by rw [vL (by omega)]; omega)) ?_
      refine Vv (Gives.orE (c := ((128 + r / 4096 % 64 : Nat) : Int)) rfl rfl (vK (by omega))) (Mv ?_)
      refine Vv (Gives.yO (m := r) (s := 6) rfl rfl (by decide)) (Vv (Gives.jd (c := ((r / 64 % 256 : Nat) : Int)) rfl (u8w _)) ?_)
      refine Vv (Gives.yN (c := ((r / 64 % 64 : Nat) : Int)) rfl rfl (by rw [vL (by omega)]; omega)) ?_
      refine Vv (Gives.orE (c := ((128 + r / 64 % 64 : Nat) : Int)) rfl rfl (vK (by omega))) (Mv ?_)
      refine Vv (Gives.jd (c := ((r % 256 : Nat) : Int)) rfl (u8w r)) (Vv (Gives.yN (c := ((r % 64 : Nat) : Int)) rfl rfl (by rw [vL (by omega)]; omega)) ?_)
      refine Vv (Gives.orE (c := ((128 + r % 64 : Nat) : Int)) rfl rfl (vK (by omega))) (aX H (xs := [.tmp 61, .tmp 66, .tmp 71, .tmp 75]) (out := [cb (240 + r / 262144), cb (128 + r / 4096 % 64), cb (128 + r / 64 % 64), cb (128 + r % 64)]) (aU.one rfl rfl (aU.one rfl rfl (aU.one rfl rfl (aU.one rfl rfl aU.nil)))) rfl rfl rfl (fun bs wi Hi ke => ?_))
      have Em : (encodeRune r).length = 4 := by have := congrArg List.length (enc4 (r := r) (by omega) h1); simpa using this.symm
      rw [enc4 (by omega) h1] at Hi
      refine fq Hi At0 (by omega) (hc' := Em.symm) (h := ?_)
      intro v2 wj Hj
      refine Am ?_
      refine Qn (aM (aH (ak (hR := ?_))))
      exact ⟨_, rfl, trivial, Hj.turn⟩
    exact absurd h1 (by omega)
  exact absurd h1 (by omega)
theorem EK {v : Value} {l : List UInt8} {F : Nat → Prop} {r : Nat} (hp : (gU 5 v l).ok F w) (hl : l.length ≤ 100000000) (h1 : r ≤ 1114111) (hs : r < 55296 ∨ 57343 < r) :
    bF Tryz.prog 235 [v, I32 r] w fun x w' => ∃ v', x = v' ∧ True ∧ Turn F (gU 5 v' (l ++ encodeRune r)) w w' := by
  have H := Sep.iy hp
  refine eU Tryz.func235 rfl rfl rfl rfl ?_
  refine Sr (Am ?_)
  refine Qn (au (Sr (Mv ?_)))
  refine Vv (Gives.jd (c := (r : Int)) rfl (by rw [IntKind.wrap_u32]; omega)) ?_
  refine Vv (Gives.leq rfl rfl) (Qn ?_)
  refine Cp rfl (fun Pe => ?_) (fun Pe => ?_)
  · have nY : encodeRune (r : Int) = [r.toUInt8] := by unfold encodeRune; rw [encodeRuneZ_one (by omega) (by omega)]; simp
    refine Sr (Mv ?_)
    refine Mv ?_
    refine Vv (Gives.jd (c := ((r % 256 : Nat) : Int)) rfl (u8w r)) ?_
    have hb : Value.int .u8 ((r % 256 : Nat) : Int) = B r.toUInt8 := by rw [XU (by omega), Nat.mod_eq_of_lt (by omega)]; rfl
    refine aX H (xs := [.tmp 10]) (out := [r.toUInt8].map B) (aU.one hb rfl aU.nil) rfl rfl rfl (fun bs wa Ha ka => ?_)
    refine fq Ha (news := [r.toUInt8]) At0 (by simp; omega) (h := ?_)
    intro v2 wb Hb
    rw [← nY] at Hb
    refine Am ?_
    refine Qn (Rs (ak (hR := ?_)))
    exact ⟨_, rfl, trivial, Hb.turn⟩
  refine Sk (Sr (Mv ?_))
  refine Mv ?_
  obtain ⟨F0, gu, nk, bJ⟩ := H.focus At0
  refine bH (Js gu hl (by omega) h1 hs) rfl rfl (fun v' wc hv => ?_)
  obtain ⟨v2, rfl, _, dK, F1, hq, gV⟩ := hv
  have Hc := bJ _ F1 _ dK hq gV
  refine Am ?_
  refine Qn (aM (ak (hR := ?_)))
  exact ⟨_, rfl, trivial, Hc.turn⟩
theorem Jt {b : Nat} {l : List UInt8} {F : Nat → Prop} {r : Nat} (hp : (rD b l).ok F w) (hl : l.length ≤ 10000000) (h1 : r ≤ 1114111) (hs : r < 55296 ∨ 57343 < r) : bF Tryz.prog 183 [bI b, I32 r] w fun _ w' => Turn F (rD b (l ++ encodeRune r)) w w' := by
 obtain ⟨a, v, ha, H⟩ := Sep.DW (Sep.iy hp)
 obtain ⟨A, c, rfl, rG, _, _⟩ := Sep.qE H At1
 have hel := zF (r : Int)
 have fM : encodeRune (r : Int) ≠ [] := by
  intro e
  unfold encodeRune encodeRuneZ at e
  repeat' split at e
  all_goals simp at e
 refine eU Tryz.func183 rfl rfl rfl rfl ?_
 refine Sr (Am ?_)
 refine Am ?_
 refine Nx (Mv ?_)
 obtain ⟨F0, gu, nk, bJ⟩ := H.focus At0
 refine bH (vJ ha.1 gu) rfl rfl (fun v' w5 hv => ?_)
 obtain ⟨rfl, dK, F1, hq, gV⟩ := hv
 have H5 := bJ _ F1 _ dK hq gV
 refine Nx (Mv ?_)
 refine Vv (Gives.nilCheck rfl) (Vf ?_)
 refine Ld H5 ?_
 refine Vs ?_
 refine Am ?_
 refine Nx (Mv ?_)
 refine Mv ?_
 refine Vv (Gives.nilCheck rfl) (Vf ?_)
 refine Ld H5 ?_
 refine Mv ?_
 obtain ⟨F0, gu, nk, bJ⟩ := H5.focus At1
 refine bH (EK gu (by omega) h1 hs) rfl rfl (fun v' wa hv => ?_)
 obtain ⟨v2, rfl, _, dK, F1, hq, gV⟩ := hv
 have Ha := bJ _ F1 _ dK hq gV
 obtain ⟨A2, c2, rfl, _⟩ := Sep.qE Ha At1
 refine Vv (Gives.nilCheck rfl) (Vf ?_)
 refine bW Ha (h := fun wb Hb => ?_)
 refine Nx (Mv ?_)
 refine Vv (Gives.nilCheck rfl) (Vf ?_)
 refine Ld Hb ?_
 refine Vs ?_
 refine Mv ?_
 refine Vv (Gives.sub rfl rfl) (Am ?_)
 refine Am ?_
 refine Qn (aM (ak (hR := ?_)))
 exact (Sep.Gj ⟨.inr rfl, fun e => absurd (List.append_eq_nil_iff.1 e).2 fM⟩ Hb).turn
end
end Go.Proofs.YtolaedhdjcnijaaGreatDoor
namespace Go.Mw
open Go.RowKit
section
variable {P : Program} {r : Option Nat} {n : Nat} {ops : Array Oper} {Q : Post} {rest : List Oper} {σ : St} {w w₀ : World} {S : Nat → Prop} {rs : List HP} {put : HP → List HP} {ty : TypeId} {pos : String} {after : Array Edge}
theorem QJ {d : Nat} {x : Operand} {T : TypeId} [ht : lM P T] {s : ByteArray} (H : Sep w₀ S rs w) (hx : evF σ x = .string s := by exact rfl) (hd : Nat.blt d n = true := by exact rfl)
    (h : ∀ k w', Sep w₀ S (obj k (.stringIter s 0) :: rs) w' → FL P r n ops Q rest (upd σ d (.pointer (some ⟨k, 0, none⟩))) w') : FL P r n ops Q ({ dst := some d, op := .range T x, type := ty, pos := pos, after := after, guard := none } :: rest) σ w := by
  obtain ⟨k, w', hg, hs⟩ := Jr (P := P) (ty := ty) (T := T) H hx
  exact eu hg hd (h k w' hs)
theorem Uc {d : Nat} {x : Operand} {s : ByteArray} {k i : Nat} (H : Sep w₀ S rs w) (hat : At rs (obj k (.stringIter s i)) put)
    (h1 : i < s.size → ∀ w', Sep w₀ S (put (obj k (.stringIter s (i + (Utf8.decode s i).2)))) w' → FL P r n ops Q rest (upd σ d (.tuple #[.bool true, .int .i64 i, .int .i32 (Utf8.decode s i).1])) w')
    (h2 : ¬ i < s.size → FL P r n ops Q rest (upd σ d (.tuple #[.bool false])) w) (hx : evF σ x = .pointer (some ⟨k, 0, none⟩) := by exact rfl) (hd : Nat.blt d n = true := by exact rfl) :
    FL P r n ops Q ({ dst := some d, op := .next x true, type := ty, pos := pos, after := after, guard := none } :: rest) σ w := by
  by_cases h : i < s.size
  · obtain ⟨w', hg, hs⟩ := Li (P := P) (ty := ty) H hat hx h
    exact eu hg hd (h1 h w' hs)
  exact eu (EJ (P := P) (ty := ty) H hat hx h) hd (h2 h)
end
end Go.Mw
namespace Go.Proofs.YtolaedhdjcnijaaGreatDoor
open Go Go.Mw Go.Lib
theorem Ud {r : Nat} (h : 128 ≤ r) (h1 : r ≤ 1114111) : ∀ c ∈ encodeRune (r : Int), 128 ≤ c.toNat := by
 intro c hc
 unfold encodeRune at hc
 obtain ⟨x, hx, rfl⟩ := List.mem_map.1 hc
 unfold encodeRuneZ at hx
 rw [if_neg (by omega)] at hx
 repeat' split at hx
 all_goals (simp only [List.mem_cons, List.not_mem_nil, or_false] at hx)
 all_goals (rcases hx with rfl | rfl | rfl | rfl <;> simp <;> omega)
theorem NM {l : List UInt8} (h : ∀ c ∈ l, 128 ≤ c.toNat) : l.flatMap eP = l := by
 induction l with
 | nil => rfl
 | cons c t ih =>
  rw [List.flatMap_cons, Bj (h c (by simp)), ih (fun x hx => h x (by simp [hx]))]; rfl
theorem NP (r : Nat) (h1 : r ≤ 1114111) (h : r < 55296 ∨ 57343 < r) : Utf8.valid (r : Int) = true := by
 simp [Utf8.valid]; omega
theorem ZJ (r : Nat) (v : Utf8.valid (r : Int) = true) (c1 : r < 128) : (Utf8.encode (r : Int)).data.toList = [UInt8.ofNat r] := by
 simp [Utf8.encode, v, c1]
theorem ZK (r : Nat) (v : Utf8.valid (r : Int) = true) (c1 : ¬ r < 128) (c2 : r < 2048) : (Utf8.encode (r : Int)).data.toList = [UInt8.ofNat (192 + r / 64), UInt8.ofNat (128 + r % 64)] := by
 simp [Utf8.encode, v, c1, c2]
theorem ZL (r : Nat) (v : Utf8.valid (r : Int) = true) (c1 : ¬ r < 128) (c2 : ¬ r < 2048) (c3 : r < 65536) : (Utf8.encode (r : Int)).data.toList = [UInt8.ofNat (224 + r / 4096), UInt8.ofNat (128 + r / 64 % 64), UInt8.ofNat (128 + r % 64)] := by
 simp [Utf8.encode, v, c1, c2, c3]
theorem ZM (r : Nat) (v : Utf8.valid (r : Int) = true) (c1 : ¬ r < 128) (c2 : ¬ r < 2048) (c3 : ¬ r < 65536) : (Utf8.encode (r : Int)).data.toList = [UInt8.ofNat (240 + r / 262144), UInt8.ofNat (128 + r / 4096 % 64), UInt8.ofNat (128 + r / 64 % 64), UInt8.ofNat (128 + r % 64)] := by
 simp [Utf8.encode, v, c1, c2, c3]
theorem yg (n : Nat) (z : Int) (e : z.toNat = n) : z.toNat.toUInt8 = UInt8.ofNat n := by rw [e]
theorem zL (r : Int) (l : List UInt8) (e : (Utf8.encode r).data.toList = l) : BP r = l := by
 have h2 : Utf8.encode r = ⟨(BP r).toArray⟩ := Value.string.inj (Dg r)
 have h3 := congrArg (fun b : ByteArray => b.data.toList) h2
 exact h3.symm.trans e
theorem Ju (r : Nat) (h1 : r ≤ 1114111) (h : r < 55296 ∨ 57343 < r) : BP (r : Int) = encodeRune (r : Int) := by
 have v := NP r h1 h
 unfold encodeRune
 by_cases c1 : r < 128
 ·have e1 := yg r (r : Int) (by omega)
  rw [encodeRuneZ_one (by omega) (by omega), zL _ _ (ZJ r v c1), List.map_cons, List.map_nil, e1]
 by_cases c2 : r < 2048
 ·have e1 := yg (192 + r / 64) (192 + (r : Int) / 64) (by omega)
  have e2 := yg (128 + r % 64) (128 + (r : Int) % 64) (by omega)
  rw [encodeRuneZ_two (by omega) (by omega), zL _ _ (ZK r v c1 c2), List.map_cons, List.map_cons, List.map_nil, e1, e2]
 by_cases c3 : r < 65536
 ·have e1 := yg (224 + r / 4096) (224 + (r : Int) / 4096) (by omega)
  have e2 := yg (128 + r / 64 % 64) (128 + (r : Int) / 64 % 64) (by omega)
  have e3 := yg (128 + r % 64) (128 + (r : Int) % 64) (by omega)
  rw [encodeRuneZ_three (by omega), zL _ _ (ZL r v c1 c2 c3), List.map_cons, List.map_cons, List.map_cons, List.map_nil, e1, e2, e3]
 have e1 := yg (240 + r / 262144) (240 + (r : Int) / 262144) (by omega)
 have e2 := yg (128 + r / 4096 % 64) (128 + (r : Int) / 4096 % 64) (by omega)
 have e3 := yg (128 + r / 64 % 64) (128 + (r : Int) / 64 % 64) (by omega)
 have e4 := yg (128 + r % 64) (128 + (r : Int) % 64) (by omega)
 rw [encodeRuneZ_four (by omega) (by omega), zL _ _ (ZM r v c1 c2 c3), List.map_cons, List.map_cons, List.map_cons, List.map_cons, List.map_nil, e1, e2, e3, e4]
theorem NQ {s : List UInt8} {r n : Nat} (h : d9 s = some (r, n)) : r ≤ 1114111 ∧ (r < 55296 ∨ 57343 < r) := by
 unfold d9 at h
 split at h
 ·cases h
 rename_i hn
 injection h with h
 have h1 : (decodeL s).1 = r := by rw [h]
 have h2 : (decodeL s).2 = n := by rw [h]
 rw [decodeL_N] at h1 h2 hn
 have hb : (s.getD 0 0).toNat < 256 := (s.getD 0 0).toNat_lt
 rcases decodeN_shape s.length (s.getD 0 0).toNat (s.getD 1 0).toNat (s.getD 2 0).toNat (s.getD 3 0).toNat with ⟨a, e⟩ | ⟨a1, a2, a3, a4, e⟩ | ⟨a1, a2, a3, a4, a5, a6, e⟩ | ⟨a1, a2, a3, a4, a5, a6, a7, e⟩ | e
 ·rw [e] at h1; simp only at h1; omega
 ·rw [e] at h1; simp only at h1; omega
 ·rw [e] at h1; simp only at h1; omega
 ·rw [e] at h1; simp only at h1; omega
 rw [e] at hn; exact absurd (.inr ⟨rfl, rfl⟩) hn
theorem Ue {s : List UInt8} {r n : Nat} (h : d9 s = some (r, n)) (hr : r < 128) : n = 1 ∧ s.take 1 = [r.toUInt8] := by
 obtain ⟨_, h1, h2, h3⟩ := pU h
 have e : encodeRune (r : Int) = [r.toUInt8] := by unfold encodeRune; rw [encodeRuneZ_one (by omega) (by omega)]; simp
 rw [e] at h3
 have := congrArg List.length h3
 rw [List.length_take] at this
 simp at this
 have hn : n = 1 := by omega
 subst hn
 exact ⟨rfl, h3.symm⟩
theorem QK {l : List UInt8} {i : Nat} (hv : validD (l.drop i) = true) (bU : i < l.length) : ∃ r n : Nat, Utf8.decode ⟨l.toArray⟩ i = (r, n) ∧ 1 ≤ n ∧ i + n ≤ l.length ∧ validD (l.drop (i + n)) = true ∧ r ≤ 1114111 ∧ (r < 55296 ∨ 57343 < r) ∧
    (r < 128 → ru l (i + n) = ru l i ++ eP r.toUInt8) ∧ (128 ≤ r → ru l (i + n) = ru l i ++ encodeRune (r : Int)) := by
  have fM : l.drop i ≠ [] := fun e => by have := congrArg List.length e; rw [List.length_drop] at this; simp at this; omega
  have hs := yF fM
  rw [hv] at hs
  cases hx : d9 (l.drop i) with
  | none => rw [hx] at hs; cases hs
  | some p =>
    obtain ⟨r, n⟩ := p
    rw [hx] at hs
    dsimp only at hs
    obtain ⟨e1, h1, h2, h3⟩ := pU hx
    obtain ⟨s1, s2⟩ := NQ hx
    rw [List.length_drop] at h2
    have hd : Utf8.decode ⟨l.toArray⟩ i = (r, n) := by rw [← decodeL_drop]; exact e1
    have hdv : validD (l.drop (i + n)) = true := by
      rw [List.drop_drop] at hs
      exact hs.symm
    have Q9 : ru l (i + n) = ru l i ++ ((l.drop i).take n).flatMap eP := by
      unfold ru
      rw [List.take_add, List.flatMap_append]; rfl
    refine ⟨r, n, hd, h1, by omega, hdv, s1, s2, fun h => ?_, fun h => ?_⟩
    · obtain ⟨hn, ht⟩ := Ue hx h
      rw [Q9, hn, ht]; simp
    rw [Q9, ← h3, NM (fun c hc => Ud h s1 c hc)]
theorem Lm {r : Nat} {c : UInt8} (h : uf r = some c) : r < 128 ∧ eP r.toUInt8 = [92] ++ encodeRune (c.toNat : Int) ∧ c.toNat < 128 := by
 unfold uf at h
 by_cases h1 : (r : Int) = 34
 ·rw [if_pos h1] at h; injection h with h; subst h; have : r = 34 := by omega
  subst this; exact ⟨by decide, by decide, by decide⟩
 rw [if_neg h1] at h
 by_cases h1 : (r : Int) = 92
 ·rw [if_pos h1] at h; injection h with h; subst h; have : r = 92 := by omega
  subst this; exact ⟨by decide, by decide, by decide⟩
 rw [if_neg h1] at h
 by_cases h1 : (r : Int) = 8
 ·rw [if_pos h1] at h; injection h with h; subst h; have : r = 8 := by omega
  subst this; exact ⟨by decide, by decide, by decide⟩
 rw [if_neg h1] at h
 by_cases h1 : (r : Int) = 12
 ·rw [if_pos h1] at h; injection h with h; subst h; have : r = 12 := by omega
  subst this; exact ⟨by decide, by decide, by decide⟩
 rw [if_neg h1] at h
 by_cases h1 : (r : Int) = 10
 ·rw [if_pos h1] at h; injection h with h; subst h; have : r = 10 := by omega
  subst this; exact ⟨by decide, by decide, by decide⟩
 rw [if_neg h1] at h
 by_cases h1 : (r : Int) = 13
 ·rw [if_pos h1] at h; injection h with h; subst h; have : r = 13 := by omega
  subst this; exact ⟨by decide, by decide, by decide⟩
 rw [if_neg h1] at h
 by_cases h1 : (r : Int) = 9
 ·rw [if_pos h1] at h; injection h with h; subst h; have : r = 9 := by omega
  subst this; exact ⟨by decide, by decide, by decide⟩
 rw [if_neg h1] at h
 cases h
theorem NR {r : Nat} (h : uf r = none) : (r < 32 → eP r.toUInt8 = [92, 117, 48, 48, jH (r / 16), jH (r % 16)]) ∧ (32 ≤ r → r < 128 → eP r.toUInt8 = encodeRune (r : Int)) := by
 have fM : r ≠ 34 ∧ r ≠ 92 ∧ r ≠ 8 ∧ r ≠ 12 ∧ r ≠ 10 ∧ r ≠ 13 ∧ r ≠ 9 := by
  refine ⟨?_, ?_, ?_, ?_, ?_, ?_, ?_⟩ <;> (intro e; subst e; revert h; decide)
 constructor
 ·intro Ww
  have hn : (r.toUInt8).toNat = r := by simp; omega
  rw [j3, hn, if_neg (by omega), if_neg (by omega), if_neg (by omega), if_neg (by omega), if_neg (by omega), if_neg (by omega), if_neg (by omega), if_pos Ww]
 intro Ww h128
 have hn : (r.toUInt8).toNat = r := by simp; omega
 rw [j3, hn, if_neg (by omega), if_neg (by omega), if_neg (by omega), if_neg (by omega), if_neg (by omega), if_neg (by omega), if_neg (by omega), if_neg (by omega)]
 unfold encodeRune
 rw [encodeRuneZ_one (by omega) (by omega)]; simp
section
variable {w : World}
theorem W9 {x : Nat} (h : x < 32) : bits .and .i32 (x : Int) 15 = ((x % 16 : Nat) : Int) := by
 have key : ∀ i : Fin 32, bits .and .i32 (i.val : Int) 15 = ((i.val % 16 : Nat) : Int) := by decide
 exact key ⟨x, h⟩
set_option maxRecDepth 4000
theorem QL (l : List UInt8) (hl : l.length ≤ 1000000) (hT : mo w) : bF Tryz.prog 127 [str l] w fun v w' => v = .tuple #[str (oP l).1, I (oP l).2] ∧ Kept noB w w' := by
 have H := Sep.bB w
 refine dP Tryz.func127 rfl rfl rfl rfl ?_
 refine Sr (Am ?_)
 refine Am ?_
 refine Qn (au (Sr (Mv ?_)))
 refine aN H (BA l (by omega) (hT.keep H.kept)) (h := fun w5 H5 k4 => ?_)
 refine Vv (Gives.not rfl) (Qn ?_)
 refine Cd rfl (fun oW => ?_) (fun oW => ?_)
 ·have hq : oP l = ([], 40) := if_neg (by simpa using oW)
  refine Sr (Am ?_)
  refine Am ?_
  refine Qn (Rs (ak (hR := ?_)))
  exact ⟨by rw [hq]; rfl, H5.kept⟩
 have hv : validD l = true := by simpa using oW
 have hq : oP l = (iR l, 0) := if_pos hv
 refine Sk (Sr (bD H5 (h := fun b4 wa Ha ka => ?_)))
 replace Ha := Sep.XT Ha
 refine Nx ?_
 obtain ⟨F0, gu, nk, bJ⟩ := Ha.focus At0
 refine bH (pK 34 gu (by simp)) rfl rfl (fun v' wb hv => ?_)
 obtain ⟨rfl, dK, F1, uo, hs⟩ := hv
 have Hb := bJ _ F1 _ dK uo hs
 refine Nx (bH (Ll) rfl rfl (fun v' wc hv => ?_))
 obtain ⟨m, rfl, _, dK, F1, uo, gV⟩ := hv
 have Hc := Hb.new dK uo (fun b hb => (gV b hb).resolve_left id)
 refine Am ?_
 refine Qn (au (Sr (Mv ?_)))
 refine QJ Hc (h := fun k wd Hd => ?_)
 refine Qn (aF (bA (fun _ : Nat => [(0, str l), (4, bI b4), (5, .map (some m)), (16, .pointer (some ⟨k, 0, none⟩))]) (fun i w' => (i ≤ l.length ∧ validD (l.drop i) = true) ∧ Sep w noB [obj k (.stringIter ⟨l.toArray⟩ i), obj m (.map fU 7), rD b4 (ru l i)] w') (fun i _ => l.length - i) 0 ⟨rfl, rfl, rfl, rfl, trivial⟩ ⟨⟨Nat.zero_le _, hv⟩, Hd⟩ (fun i τ we hI => ?_)))
 obtain ⟨⟨hi, hvd⟩, He⟩ := hI
 try simp only [cZ, like, bC, bZ]
 refine Sr (Uc He At0 (h1 := fun WJ wf Hf => ?_) (h2 := fun WJ => ?_))
 ·have bU : i < l.length := by rw [Mw.size_mk] at WJ; exact WJ
  obtain ⟨r, n, aaw, JN, Xj, hvn, Wx, WK, uq, aax⟩ := QK hvd bU
  rw [aaw] at Hf
  rw [aaw]
  have O8 := zC l i
  have hel := zF (r : Int)
  refine Vx ?_
  refine Qn (au (aQ rfl ?_))
  refine Sk (aF (Sr (Vx ?_)))
  refine Am ?_
  refine Nx (Mv ?_)
  refine Mv ?_
  refine eu (EI (zv := B 0) (i := (r : Int)) (Hf.obj At1) Lj rfl rfl) rfl ?_
  rw [NK, show ((uf (r : Int)).map B).getD (B 0) = B ((uf (r : Int)).getD 0) from by cases uf (r : Int) <;> rfl, Option.isSome_map]
  refine Mv ?_
  refine Vx ?_
  refine Vx ?_
  refine Am ?_
  refine Am ?_
  refine Qn (aF (Sr (Mv ?_)))
  refine Am ?_
  refine Qn (Cd rfl (fun Ia => ?_) (fun Ia => ?_))
  ·obtain ⟨c, hc⟩ := Option.isSome_iff_exists.1 Ia
   obtain ⟨hr7, hqb, oW⟩ := Lm hc
   rw [hc, Option.getD_some]
   refine aB (Mv ?_)
   refine Vv (Gives.xq (a := (c.toNat : Int)) rfl (by omega)) (Vv (Gives.Tg rfl) ?_)
   rw [Ju c.toNat (by omega) (by omega)]
   have aeg := zF (c.toNat : Int)
   refine Vv (Gives.iW rfl rfl (by simp; omega)) ?_
   obtain ⟨F0, gu, nk, bJ⟩ := Hf.focus At2
   refine bH (qy (by simp) gu (by simp; omega)) rfl rfl (fun v' wg hv => ?_)
   obtain ⟨rfl, dK, F1, uo, hs⟩ := hv
   have Hg := bJ _ F1 _ dK uo hs
   rw [← hqb, ← uq hr7] at Hg
   refine aP (aA (aA ?_))
   exact aC (i + n) ⟨rfl, rfl, rfl, rfl, trivial⟩ ⟨⟨Xj, hvn⟩, Hg⟩ (by omega)
  have qV : uf (r : Int) = none := by simpa using Ia
  obtain ⟨ab7, aay⟩ := NR qV
  refine Sr (Mv ?_)
  refine Vl ?_
  refine Am ?_
  refine Qn (Cp rfl (fun Ib => ?_) (fun Ib => ?_))
  ·refine bG rfl Hf (h := fun Sa wh Hh => ?_)
   refine Gm Sa 0 ?_
   refine Gp Sa 1 rfl rfl (fun _ => (Gives.yO (m := r) (s := 4) rfl rfl (by decide))) (Gm Sa 2 ?_)
   refine Gp Sa 3 rfl rfl (fun _ => (Gives.yO (m := r) (s := 4) rfl rfl (by decide))) (Gp Sa 4 rfl rfl (fun _ => (Gives.Du (c := ((r / 16 + 1 : Nat) : Int)) rfl rfl (by rw [IntKind.wrap_i32]; omega))) ?_)
   refine Gp Sa 5 rfl rfl (fun _ => (Gives.fE (l := mE) (i := r / 16) (m := r / 16 + 1) rfl rfl rfl (by omega) (by show r / 16 + 1 ≤ 16; first | done | omega))) ?_
   rw [xu (by omega)]
   refine Gp Sa 6 rfl rfl (fun _ => (Gives.iW rfl rfl (by first | omega | (simp; done) | (simp; omega)))) ?_
   refine Gm Sa 7 ?_
   refine Gp Sa 8 rfl rfl (fun _ => (Gives.yN (c := ((r % 16 : Nat) : Int)) rfl rfl (W9 (by omega)))) (Gm Sa 9 ?_)
   refine Gp Sa 10 rfl rfl (fun _ => (Gives.yN (c := ((r % 16 : Nat) : Int)) rfl rfl (W9 (by omega)))) (Gp Sa 11 rfl rfl (fun _ => (Gives.Du (c := ((r % 16 + 1 : Nat) : Int)) rfl rfl (by rw [IntKind.wrap_i32]; omega))) ?_)
   refine Gp Sa 12 rfl rfl (fun _ => (Gives.fE (l := mE) (i := r % 16) (m := r % 16 + 1) rfl rfl rfl (by omega) (by show r % 16 + 1 ≤ 16; first | done | omega))) ?_
   rw [xu (by omega)]
   refine Gp Sa 13 rfl rfl (fun _ => (Gives.iW rfl rfl (by first | omega | (simp; done) | (simp; omega)))) ?_
   have hq6 := ab7 (by omega)
   obtain ⟨F0, gu, nk, bJ⟩ := Hh.focus At2
   refine sN Sa 14 [] rfl (by kernel_rfl) (qy (news := eP r.toUInt8) (by rw [hq6]; simp) gu (by rw [hq6]; simp; omega)) (by rw [hq6]; rfl) (by kernel_rfl) (by kernel_rfl) (fun v' wi hv => ?_)
   obtain ⟨rfl, dK, F1, uo, hs⟩ := hv
   have Hi := bJ _ F1 _ dK uo hs
   rw [← uq (by omega)] at Hi
   refine ⟨aK, ?_⟩
   refine bR Sa (by kernel_rfl) ?_
   refine aA (aA ?_)
   exact aC (i + n) ⟨rfl, rfl, rfl, rfl, trivial⟩ ⟨⟨Xj, hvn⟩, Hi⟩ (by omega)
  refine aB (Mv ?_)
  obtain ⟨F0, gu, nk, bJ⟩ := Hf.focus At2
  refine bH (Jt gu (by omega) Wx WK) rfl rfl (fun v' wj hv => ?_)
  obtain ⟨dK, F1, uo, hs⟩ := hv
  have Hj := bJ _ F1 _ dK uo hs
  have Q9 : ru l i ++ encodeRune (r : Int) = ru l (i + n) := by
   by_cases h128 : r < 128
   ·rw [uq h128, aay (by omega) h128]
   exact (aax (by omega)).symm
  rw [Q9] at Hj
  refine aP (aA (aA ?_))
  exact aC (i + n) ⟨rfl, rfl, rfl, rfl, trivial⟩ ⟨⟨Xj, hvn⟩, Hj⟩ (by omega)
 have jW : i = l.length := by rw [Mw.size_mk] at WJ; omega
 have bY : ru l i ++ [34] = iR l := by
  rw [jW]; unfold ru iR; rw [List.take_length]; rfl
 refine Vx ?_
 refine Qn (au (bg rfl ?_))
 refine bq (aT (aO (aV (aj (Sr ?_)))))
 have O8 := zC l i
 obtain ⟨F0, gu, nk, bJ⟩ := He.focus At2
 refine bH (pK 34 gu (by omega)) rfl rfl (fun v' wk hv => ?_)
 obtain ⟨rfl, dK, F1, uo, hs⟩ := hv
 have Hk := bJ _ F1 _ dK uo hs
 rw [bY] at Hk
 refine Nx ?_
 have aeh : (iR l).length ≤ 6000008 := by rw [← bY, List.length_append]; simp; omega
 obtain ⟨F0, gu, nk, bJ⟩ := Hk.focus At2
 refine bH (Av gu (by omega)) rfl rfl (fun v' wl hv => ?_)
 obtain ⟨rfl, dK, F1, uo, hs⟩ := hv
 have Hl := bJ _ F1 _ dK uo hs
 refine Am ?_
 refine Am ?_
 refine Qn (aM (ak (hR := ?_)))
 exact ⟨by rw [hq]; rfl, Hl.kept⟩
end
end Go.Proofs.YtolaedhdjcnijaaGreatDoor
namespace Go.Mw
open Go.RowKit
section
variable {P : Program} {r : Option Nat} {n : Nat} {ops : Array Oper} {Q : Post} {rest : List Oper} {σ : St} {w w₀ : World} {S : Nat → Prop} {rs : List HP} {ty : TypeId} {pos : String} {after : Array Edge} {l : List UInt8}
theorem QM {d : Nat} {s t e : TypeId} {x : Operand} [hs : lM P s] [ht : dA P t e] [he : iH P e .u8] (H : Sep w₀ S rs w) (hx : evF σ x = str l := by exact rfl) (hd : Nat.blt d n = true := by exact rfl)
    (h : ∀ b c o w', (∀ w2 : World, w2.heap[b]? = some o → iI w2 (some ⟨b, 0, none⟩) l.length 1 (l.map fun u => Value.int .u8 u.toNat)) → l.length ≤ c → Sep w₀ S (obj b o :: rs) w' → FL P r n ops Q rest (upd σ d (.slice (some ⟨b, 0, none⟩) l.length c)) w') :
    FL P r n ops Q ({ dst := some d, op := .convert s t x, type := ty, pos := pos, after := after, guard := none } :: rest) σ w := by
  have iP := run_bytes_of_string (P := P) w s t e ⟨l.toArray⟩ hs.und ht.und he.und
  rw [size_mk] at iP
  have BK : Kept noB w w.drew := Kept.drew w
  refine eu (v := .slice (some ⟨w.heap.size, 0, none⟩) l.length (grownCap w l.length 0 e)) (w' := w.drew.alloc (.cells (bytesRow ⟨l.toArray⟩ (grownCap w l.length 0 e)) e ((bytesRow ⟨l.toArray⟩ (grownCap w l.length 0 e)).size, (bytesRow ⟨l.toArray⟩ (grownCap w l.length 0 e)).size + 1))) (fun _ _ _ _ => ?_) hd (h _ _ _ _ (fun w2 hw2 => ?_) (grownCap_ge w l.length 0 e) ((H.keep BK).alloc _))
  · simp only [execOp, hx, str, Sem.run_bind, iP, Result.andThen_ok, Sem.run_pure]
  refine ⟨by simp, fun _ => ⟨_, rfl, fun j u hu => ?_⟩⟩
  rw [Addr.add_lit, Nat.zero_add]
  have hj := (List.getElem?_eq_some_iff.1 hu).1
  have e0 : w2.cell? ⟨w.heap.size, j, none⟩ = (bytesRow ⟨l.toArray⟩ (grownCap w l.length 0 e))[j]? := by
    unfold World.cell?
    have hw3 : w2.heap[w.heap.size]? = _ := hw2
    simp only [hw3]; rfl
  rw [e0]
  unfold bytesRow
  rw [Array.getElem?_append_left (by simpa using hj)]
  simpa using hu
end
end Go.Mw
namespace Go.Proofs.YtolaedhdjcnijaaGreatDoor
open Go Go.Mw Go.Lib
set_option maxRecDepth 4000
structure je (w : World) : Prop where
 utf : mo w
 pow : Lib.TabIs Tryz.prog w "internal/strconv.uint64pow10" .u64 Lib.pow10Tab
 syn : ∃ tp p, w.var? Tryz.prog "strconv.ErrSyntax" = some #[.iface tp p]
 ran : ∃ tp p, w.var? Tryz.prog "strconv.ErrRange" = some #[.iface tp p]
 len : ∃ m, w.cell? ⟨0, 0, none⟩ = some (.int .i64 m)
theorem DX {P : Program} {w w' : World} {n : String} {cs : Array Value} (hk : Kept noB w w') (h : w.var? P n = some cs) : w'.var? P n = some cs := by
 unfold World.var? at h ⊢
 cases hg : P.globalNamed n with
 | none => rw [hg] at h; cases h
 | some g =>
  rw [hg] at h
  simp only [Option.bind_some] at h ⊢
  have bU : g < w.heap.size := by
   refine Classical.byContradiction fun hn => ?_
   rw [Array.getElem?_eq_none (by omega)] at h
   cases h
  rw [hk.block g bU id]
  exact h
theorem QN {w w' : World} {b o : Nat} {v : Value} (hk : Kept noB w w') (h : w.cell? ⟨b, o, none⟩ = some v) : w'.cell? ⟨b, o, none⟩ = some v := by
 have bU : b < w.heap.size := by
  refine Classical.byContradiction fun hn => ?_
  unfold World.cell? at h
  rw [Array.getElem?_eq_none (by dsimp only; omega)] at h
  cases h
 unfold World.cell? at h ⊢
 rw [hk.block b bU id]
 exact h
theorem je.keep {w w' : World} (h : je w) (hk : Kept noB w w') : je w' :=
 ⟨h.utf.keep hk, DX hk h.pow, h.syn.imp fun _ h => h.imp fun _ h => DX hk h, h.ran.imp fun _ h => h.imp fun _ h => DX hk h, h.len.imp fun _ h => QN hk h⟩
def Uf (c : UInt8) : List Value := [B c]
instance : jU Uf 1 := ⟨fun _ => rfl⟩
theorem DY : ∀ l : List UInt8, l.flatMap Uf = l.map B
 | [] => rfl
 | c :: l => by rw [List.flatMap_cons, DY l]; rfl
theorem Lp {w : World} {A : Option Addr} {l : List UInt8} (h : iI w A l.length 1 (l.map fun u => Value.int .u8 u.toNat)) : Rd w A Uf 1 l := by
 unfold Rd
 rw [DY]
 exact h
theorem O4 {n : Nat} (h : n < 16) : mE.getD n 0 = jH n := by
 have key : ∀ i : Fin 16, mE.getD i.val 0 = jH i.val := by decide
 exact key ⟨n, h⟩
theorem XV {x : Nat} (h : x < 256) : bits .and .u8 (x : Int) 15 = ((x % 16 : Nat) : Int) := by
 have key : ∀ i : Fin 256, i.val &&& 15 = i.val % 16 := by decide
 have := u8_and_nat x 15 h (by decide)
 rw [key ⟨x, h⟩] at this
 exact this
section
variable {w : World}
theorem V7 (c : iB) (hl : c.s.length ≤ 1000000) : bF Tryz.prog 222 [agg (bK c)] w fun v w' => v = str (120 :: pG c.s) ∧ Kept noB w w' := by
 have H := Sep.bB w
 refine dP Tryz.func222 rfl rfl rfl rfl ?_
 refine Sr (dz H (h := fun b1 w2 H2 k1 => ?_))
 refine Am ?_
 refine Nx (bD H2 (h := fun b3 w5 H5 k4 => ?_))
 replace H5 := Sep.XT H5
 refine Nx ?_
 obtain ⟨F0, gu, nk, bJ⟩ := H5.focus At0
 refine bH (qy (news := [120]) (by simp) gu (by simp)) rfl rfl (fun v' w7 hv => ?_)
 obtain ⟨rfl, dK, F1, uo, hs⟩ := hv
 have H7 := bJ _ F1 _ dK uo hs
 refine Qn (au (Sr (Vf ?_)))
 refine Ld H7 ?_
 refine QM H7 (h := ?_)
 intro b9 c9 o9 wa hr9 JI Ha
 refine Vs ?_
 refine Mv ?_
 refine Qn (aF (bA (fun i : Nat => [(3, bI b3), (9, .slice (some ⟨b9, 0, none⟩) c.s.length c9), (10, I c.s.length), (11, I i)]) (fun i w' => i ≤ c.s.length ∧ Sep w noB [obj b9 o9, rD b3 (120 :: pG (c.s.take i))] w') (fun i _ => c.s.length - i) 0 ⟨rfl, rfl, rfl, rfl, trivial⟩ ⟨Nat.zero_le _, (Ha.dS.dS).firsts (l := [_, _])⟩ (fun i τ wb hI => ?_)))
 obtain ⟨hi, Hb⟩ := hI
 try simp only [cZ, like, bC, bZ]
 refine Sr (Vl ?_)
 refine Qn (au (Cp rfl (fun Ia => ?_) (fun Ia => ?_)))
 ·have bU : i < c.s.length := by omega
  obtain ⟨x, hx⟩ := get_some bU
  have WE := FZ bU
  rw [l6 hx] at WE
  have UO := qP (c.s.take i)
  rw [List.length_take] at UO
  have EO := x.toNat_lt
  refine Sk (au (aF (Sr (Vv (Gives.eT rfl rfl (Lp (hr9 _ (Hb.obj At0))) bU) (Vv (Gives.o8 (i := i) (f := 0) (c := x) rfl (Lp (hr9 _ (Hb.obj At0))) hx rfl) ?_)))))
  refine Am ?_
  refine Nx (Mv ?_)
  refine Vv (Gives.yO (m := x.toNat) (s := 4) rfl rfl (by decide)) (Vv (Gives.fF (l := mE) (i := x.toNat / 16) rfl rfl (by show x.toNat / 16 < 16; omega)) ?_)
  rw [O4 (by omega)]
  obtain ⟨F0, gu, nk, bJ⟩ := Hb.focus At1
  refine bH (pK _ gu (by simp; omega)) rfl rfl (fun v' wc hv => ?_)
  obtain ⟨rfl, dK, F1, uo, hs⟩ := hv
  have Hc := bJ _ F1 _ dK uo hs
  refine Qn (aB (Mv ?_))
  refine Vv (Gives.yN (c := ((x.toNat % 16 : Nat) : Int)) rfl rfl (XV EO)) (Vv (Gives.fF (l := mE) (i := x.toNat % 16) rfl rfl (by show x.toNat % 16 < 16; omega)) ?_)
  rw [O4 (by omega)]
  obtain ⟨F0, gu, nk, bJ⟩ := Hc.focus At1
  refine bH (pK _ gu (by simp; omega)) rfl rfl (fun v' wd hv => ?_)
  obtain ⟨rfl, dK, F1, uo, hs⟩ := hv
  have Hd := bJ _ F1 _ dK uo hs
  rw [show (120 :: pG (c.s.take i)) ++ [jH (x.toNat / 16)] ++ [jH (x.toNat % 16)] = 120 :: pG (c.s.take (i + 1)) from by rw [WE]; simp] at Hd
  refine aP (aA (aj (aB (Vv (Gives.bM rfl rfl rfl (by omega)) ?_))))
  refine Mv ?_
  refine aP ?_
  exact aC (i + 1) ⟨rfl, rfl, rfl, rfl, trivial⟩ ⟨by omega, Hd⟩ (by omega)
 have jW : i = c.s.length := by omega
 refine bq (aT (aO (aV (aj (Sr ?_)))))
 have aek := qP c.s
 rw [jW, List.take_length] at Hb
 obtain ⟨F0, gu, nk, bJ⟩ := Hb.focus At1
 refine bH (Av gu (by simp; omega)) rfl rfl (fun v' we hv => ?_)
 obtain ⟨rfl, dK, F1, uo, hs⟩ := hv
 have He := bJ _ F1 _ dK uo hs
 refine Am ?_
 refine Qn (aM (ak (hR := ?_)))
 exact ⟨rfl, He.kept⟩
end
end Go.Proofs.YtolaedhdjcnijaaGreatDoor
namespace Go.Mw
section gives
variable {P : Program} {ρ : Operand → Value} {ty : TypeId} {w : World} {x y : Operand} {T U : TypeId} {k : IntKind} {a b c : Int}
theorem Gives.Ug {yk : IntKind} (hx : ρ x = .int k a) (hy : ρ y = .int yk b) (h0 : 0 ≤ b) (he : k.wrap (a * 2 ^ (Min.min b.toNat k.bits)) = c) : Gives P ρ (.binOp .shl T x y U) ty w (.int k c) w := by subst he; exact Gives.shl hx hy h0
theorem Gives.ZN {ts : Array TypeId} (hx : ρ x = .int k a) (hy : ρ y = .int k b) (he : Max.max a b = c) : Gives P ρ (.call { callee := .builtin .max, args := #[x, y], argTypes := ts }) ty w (.int k c) w := by subst he; exact Gives.max hx hy
end gives
end Go.Mw
namespace Go.Proofs.YtolaedhdjcnijaaGreatDoor
open Go Go.Mw Go.Lib
set_option maxRecDepth 4000
theorem Gn (c : UInt8) : max 0 (Lib.indexByte mE c) = (((gY c).getD 0 : Nat) : Int) := by
 have key : ∀ i : Fin 256, max 0 (Lib.indexByte mE i.val.toUInt8) = (((gY i.val.toUInt8).getD 0 : Nat) : Int) := by decide +kernel
 have := key ⟨c.toNat, c.toNat_lt⟩
 have e : (c.toNat).toUInt8 = c := by simp
 simpa only [e] using this
theorem Gq (c : UInt8) : (gY c).getD 0 < 16 := by
 unfold gY
 split
 ·rw [Option.getD_some]; omega
 split
 ·rw [Option.getD_some]; omega
 decide
theorem XW {a b : Nat} (ha : a < 16) (hb : b < 16) : bits .or .i64 ((16 * a : Nat) : Int) (b : Int) = ((a * 16 + b : Nat) : Int) := by
 have key : ∀ i j : Fin 16, bits .or .i64 ((16 * i.val : Nat) : Int) (j.val : Int) = ((i.val * 16 + j.val : Nat) : Int) := by decide +kernel
 exact key ⟨a, ha⟩ ⟨b, hb⟩
theorem NS (a b : UInt8) (t : List UInt8) : oN (a :: b :: t) = ((gY a).getD 0 * 16 + (gY b).getD 0).toUInt8 :: oN t := rfl
theorem Jv {l : List UInt8} (h : l.length ≤ 1) : oN l = [] := by
 match l, h with
 | [], _ => rfl
 | [_], _ => rfl
section
variable {w : World}
theorem uh (l : List UInt8) (c : UInt8) : bF Tryz.prog 89 [str l, B c] w fun v w' => v = I (Lib.indexByte l c) ∧ w = w' :=
 l7 (by
  have := Tryz.strings_IndexByte ⟨l.toArray⟩ (c.toNat : Int) w
  have e : ((c.toNat : Int).toNat).toUInt8 = c := by simp
  rw [e] at this
  exact this)
theorem Jw (l p : List UInt8) : bF Tryz.prog 252 [str l, str p] w fun v w' => v = .tuple #[str (Lib.trimPrefix l p), .bool (Lib.hasPrefix l p)] ∧ w = w' :=
 l7 (Tryz.strings_CutPrefix ⟨l.toArray⟩ ⟨p.toArray⟩ w)
theorem QO (l : List UInt8) (hl : l.length ≤ 1000000) (h0 : l.head? = some 120) : bF Tryz.prog 223 [str l] w fun v w' => v = agg (bK ⟨false, 0, oN (l.drop 1)⟩) ∧ Kept noB w w' := by
 have H := Sep.bB w
 have UD : Lib.trimPrefix l [120] = l.drop 1 := by
  cases l with
  | nil => cases h0
  | cons c t =>
   injection h0 with h0
   subst h0
   rfl
 refine qo Tryz.func223 rfl rfl rfl rfl ?_
 refine Sr (bD H (h := fun b1 w2 H2 k1 => ?_))
 refine Nx (Mv ?_)
 refine dY (Jw l [120]) (h := ?_)
 rw [UD]
 refine Mv ?_
 refine Vx ?_
 refine Vx ?_
 refine Am ?_
 refine Nx (Am ?_)
 refine Qn (au (aF ?_))
 have Ha := H2.zy 5
 refine bA (fun x : List UInt8 × List UInt8 × Value => [(0, str x.1), (2, .pointer (some ⟨b1, 0, none⟩)), (3, x.2.2)]) (fun x w' => (x.1.length ≤ l.length ∧ x.2.1.length + x.1.length ≤ l.length ∧ x.2.1 ++ oN x.1 = oN (l.drop 1)) ∧ Sep w noB [gU 5 x.2.2 x.2.1, blk b1 (bK cell0) 47] w') (fun x _ => x.1.length) (l.drop 1, [], .slice none 0 0) ⟨rfl, rfl, rfl, trivial⟩ ⟨⟨by dsimp only; rw [List.length_drop]; omega, by simp, rfl⟩, Ha⟩ (fun x τ wa hI => ?_)
 obtain ⟨s, acc, v1⟩ := x
 obtain ⟨⟨hs1, Pd, dJ⟩, Ha⟩ := hI
 dsimp only at hs1 Pd dJ Ha
 try simp only [cZ, like, bC, bZ]
 refine au (Sr (Mv ?_))
 refine Vt ?_
 refine Vg ?_
 refine Qn (Cp rfl (fun Ia => ?_) (fun Ia => ?_))
 ·have bU : 1 < s.length := by omega
  obtain ⟨a, b, t, rfl⟩ : ∃ a b t, s = a :: b :: t := by
   match s, bU with
   | a :: b :: t, _ => exact ⟨a, b, t, rfl⟩
  rw [NS] at dJ
  have ha := Gq a
  have hb := Gq b
  have hbv : Value.int .u8 (((gY a).getD 0 * 16 + (gY b).getD 0 : Nat) : Int) = B ((gY a).getD 0 * 16 + (gY b).getD 0).toUInt8 := (XU (by omega)).symm
  simp only [List.length_cons] at hs1 Pd
  refine Sk (au (aF (bG rfl Ha (h := fun Sa wb Hb => ?_))))
  refine Gm Sa 0 ?_
  refine Gm Sa 1 ?_
  refine Gp Sa 2 rfl rfl (fun _ => (Gives.fF (i := 0) rfl rfl (by omega))) (Gm Sa 6 ?_)
  refine Gp Sa 7 rfl rfl (fun _ => (Gives.fF (i := 1) rfl rfl (by omega))) (OI Sa 3 [(7, true), (6, true), (0, true)] Hb (uh mE a) (h := fun wc Hc => ⟨av (av (av (aK))), ?_⟩))
  refine Gp Sa 4 rfl rfl (fun _ => (Gives.ZN rfl rfl (Gn a))) (Gp Sa 5 rfl rfl (fun _ => (Gives.Ug (c := ((16 * (gY a).getD 0 : Nat) : Int)) rfl rfl (by omega) (by show IntKind.i64.wrap (((gY a).getD 0 : Nat) * 16) = _; rw [IntKind.wrap_i64]; omega))) ?_)
  refine OI Sa 8 [(5, true), (4, true), (0, true)] Hc (uh mE b) (h := fun wd Hd => ⟨av (av (av (aK))), ?_⟩)
  refine Gp Sa 9 rfl rfl (fun _ => (Gives.ZN rfl rfl (Gn b))) (Gp Sa 10 rfl rfl (fun _ => (Gives.orE rfl rfl (XW ha hb))) ?_)
  refine Gp Sa 11 rfl rfl (fun _ => (Gives.ji rfl (by omega))) (eD Sa 12 [(0, true)] Hd (xs := [.tmp 25]) (out := [((gY a).getD 0 * 16 + (gY b).getD 0).toUInt8].map B) (aU.one rfl rfl aU.nil) (h := fun bs we He => ⟨av (aK), ?_⟩))
  refine FU Sa 13 [] He (news := [((gY a).getD 0 * 16 + (gY b).getD 0).toUInt8]) At0 (by simp; omega) (h := fun v2 wf Hf => ⟨aK, ?_⟩)
  refine rX Sa 14 [] (h := ⟨aK, ?_⟩)
  refine bR Sa (by kernel_rfl) ?_
  refine aA (aj (aB (Mv ?_)))
  refine Vv (Gives.dW (l := a :: b :: t) (i := 2) rfl rfl (by simp)) ?_
  refine Am ?_
  refine aP ?_
  exact aC (t, acc ++ [((gY a).getD 0 * 16 + (gY b).getD 0).toUInt8], v2) ⟨rfl, rfl, rfl, trivial⟩ ⟨⟨by dsimp only; omega, by dsimp only; rw [List.length_append]; simp; omega, by dsimp only; rw [List.append_assoc]; exact dJ⟩, Hf⟩ (by simp; omega)
 have JF : s.length ≤ 1 := by omega
 rw [Jv JF, List.append_nil] at dJ
 refine bq (aT (aO (aV (aj (Sr (Mv ?_))))))
 refine Vv (Gives.Jg Ha At0 rfl) (Vv (Gives.build (out := bK ⟨false, 0, acc⟩) (Fills.one rfl rfl rfl (by simp) rfl Fills.nil)) ?_)
 refine aD Ha (h := fun wg Hg => ?_)
 refine Qn (aM (aW (h := ?_)))
 exact ⟨_, gB Hg, by rw [dJ]; rfl, Hg.kept⟩
end
def fV : dH := ⟨5, false⟩
def pO (c : iB) : List UInt8 × Int := if jE fV c = 0 then (120 :: pG c.s, 0) else ([], jE fV c)
theorem Uh {c : iB} (h : jE fV c = 0) : c.null = false ∧ c.s.length ≤ 1024 := by
 unfold jE at h
 have e : nL fV = true := rfl
 rw [e, if_neg (by decide)] at h
 cases hn : c.null with
 | true => rw [hn, if_pos rfl] at h; split at h <;> rename_i hx; exact absurd hx.1 (by decide); cases h
 | false =>
  rw [hn, if_neg (by decide)] at h
  split at h
  ·rename_i hx
   have : isC fV.kind c = decide (c.n = 0 ∧ c.s.length ≤ 1024) := rfl
   rw [this, decide_eq_true_eq] at hx
   exact ⟨rfl, hx.2⟩
  cases h
section
variable {w : World}
theorem DZ (c : iB) (hf : fits c.n) (hT : mo w) : bF Tryz.prog 128 [agg (aJ fV), agg (bK c)] w fun v w' => v = .tuple #[str (pO c).1, I (pO c).2] ∧ Kept noB w w' := by
 have H := Sep.bB w
 refine eU Tryz.func128 rfl rfl rfl rfl ?_
 refine Sr (dz H (cs := aJ fV) rfl (h := fun b0 w2 H2 k0 => ?_))
 refine dz H2 (h := fun b3 w4 H4 k3 => ?_)
 refine Am ?_
 refine Am ?_
 refine Qn (au (Sr (aZ H4 (h := ?_))))
 refine aZ H4 (h := ?_)
 refine aN H4 (tY fV c hf (hT.keep H4.kept)) (h := fun wa Ha k9 => ?_)
 refine Am ?_
 refine Nx (Mv ?_)
 refine Vn ?_
 refine Qn (Cp rfl (fun Ia => ?_) (fun Ia => ?_))
 ·have ay : pO c = ([], jE fV c) := if_neg Ia
  refine Sr (Mv ?_)
  refine Am ?_
  refine Am ?_
  refine Qn (Rs (ak (hR := ?_)))
  exact ⟨by rw [ay]; rfl, Ha.kept⟩
 have jl : jE fV c = 0 := by simpa using Ia
 have ay : pO c = (120 :: pG c.s, 0) := if_pos jl
 obtain ⟨Gy, UU⟩ := Uh jl
 refine Sk (au (Sr (Vf ?_)))
 refine Ld Ha ?_
 refine Qn (Cd rfl (fun Ib => ?_) (fun Ib => ?_))
 ·exact absurd Ib (by rw [Gy]; decide)
 refine Sk (au (bG rfl Ha (h := fun Sa wb Hb => ?_)))
 refine dD Sa 0 Hb (h := ?_)
 refine dD Sa 3 Hb (h := ?_)
 refine sN Sa 1 [(3, false)] rfl (by kernel_rfl) (TU fV (by decide) (by decide) (hT.keep Hb.kept)) rfl (by kernel_rfl) (by kernel_rfl) (fun v' wc hv => ?_)
 obtain ⟨⟨isF, rfl, _⟩, dK⟩ := hv
 have Hc := Hb.keep dK
 rw [show mZ fV.kind = kF5 from rfl]
 refine ⟨(eZ rfl (by kernel_rfl) (Gives.nQ rfl (Hc.obj At0) (us := bK c) rfl rfl) rfl (aK)), ?_⟩
 refine Gp Sa 2 rfl rfl (fun _ => (Gives.Dh rfl rfl)) (pJ Sa 4 [] (y := .tmp 17) (f := 222) (fs := []) (cs := []) (vals := [agg (bK c)]) rfl (V7 c (by omega)) (h := fun v' wd hv => ?_))
 obtain ⟨rfl, Yy⟩ := hv
 have Hd := Hc.keep Yy
 refine ⟨aK, ?_⟩
 refine Gp Sa 5 rfl rfl (fun _ => Gives.assign rfl) (Gp Sa 6 rfl rfl (fun _ => Gives.assign rfl) ?_)
 refine bR Sa (by kernel_rfl) ?_
 refine aj (aM (ak (hR := ?_)))
 exact ⟨by rw [ay]; rfl, Hd.kept⟩
theorem NT (l : List UInt8) (hl : l.length ≤ 1000000) (h0 : l.head? = some 120) (hT : mo w) : bF Tryz.prog 147 [agg (aJ fV), str l] w fun v w' => (∃ e, v = .tuple #[agg (bK ⟨false, 0, zw l⟩), I e]) ∧ Kept noB w w' := by
  have H := Sep.bB w
  obtain ⟨s, hs⟩ : ∃ s, s = oN (l.drop 1) := ⟨_, rfl⟩
  have hrx : zw l = if 120 :: pG s = l ∧ s.length ≤ 1024 then s else [] := by rw [hs]; rfl
  have Yz : jE fV ⟨false, 0, s⟩ = if s.length ≤ 1024 then 0 else 90 := by
    have e : isC fV.kind ⟨false, 0, s⟩ = decide ((0 : Int) = 0 ∧ s.length ≤ 1024) := rfl
    have e1 : nL fV = true := rfl
    unfold jE
    rw [e1, if_neg (by decide), if_neg (by simp), e]
    by_cases h : s.length ≤ 1024 <;> simp [h]
  refine Ai Tryz.func147 rfl rfl rfl rfl ?_
  refine Sr (dz H (cs := aJ fV) rfl (h := fun b0 w2 H2 k0 => ?_))
  refine bD H2 (h := fun b3 w4 H4 k3 => ?_)
  refine Am ?_
  refine Qn (au (Sr (aZ H4 (h := ?_))))
  refine aN H4 (tX fV) (h := fun w8 H8 k7 => ?_)
  refine Vv (Gives.notP rfl) (Qn ?_)
  refine Cp rfl (fun Ia => ?_) (fun Ia => ?_)
  · exact absurd Ia (by decide)
  refine Sk (Sr (aZ H8 (h := ?_)))
  refine bH (TU fV (by decide) (by decide) (hT.keep H8.kept)) rfl rfl (fun v' wa hv => ?_)
  obtain ⟨⟨isF, rfl, _⟩, dK⟩ := hv
  have Ha := H8.keep dK
  rw [show mZ fV.kind = kF5 from rfl]
  refine Vv (Gives.Dh rfl rfl) (Mv ?_)
  refine jr (f := 223) (fs := []) (cs := []) (vals := [str l]) rfl (QO l hl h0) rfl rfl (fun v' wb hv => ?_)
  obtain ⟨rfl, dK⟩ := hv
  have Hb := Ha.keep dK
  rw [← hs]
  refine bD Hb (h := fun b19 wc Hc ka => ?_)
  refine aD Hc (h := fun wd Hd => ?_)
  refine Qn (au (Sr (Mv ?_)))
  refine Vv (Gives.iD rfl rfl) (Qn ?_)
  refine Cp rfl (fun Ib => ?_) (fun Ib => ?_)
  · have hln : l = [110, 117, 108, 108] := Ib
    rw [hln] at h0; cases h0
  refine Sk (au (Sr (aZ Hd (h := ?_))))
  refine aZ Hd (h := ?_)
  refine aN Hd (DZ ⟨false, 0, s⟩ ⟨(by show (-9223372036854775808 : Int) ≤ 0; decide), (by show (0 : Int) ≤ 9223372036854775807; decide)⟩ (hT.keep Hd.kept)) (h := fun we He kb => ?_)
  refine Mv ?_
  refine Vx ?_
  refine Vx ?_
  refine Am ?_
  refine Am ?_
  refine Nx (Mv ?_)
  refine Vn ?_
  refine Mv ?_
  refine aG (t := 29) rfl (fun Sa => ?_) (fun Sa => ?_)
  · have iY : zw l = [] := by
      rw [hrx, if_neg]
      rintro ⟨_, h2⟩
      refine Sa ?_
      unfold pO
      rw [Yz, if_pos h2, if_pos rfl]
    refine Of (Of (Of (Pt ?_)))
    refine Qn (aQ rfl ?_)
    refine Sr (Vv (Gives.build (out := bK cell0) Fills.nil) (aD He (h := fun wf Hf => ?_)))
    refine Am ?_
    refine Qn (Rs (aW (h := ?_)))
    exact ⟨_, dQ Hf, ⟨4, by rw [iY]; rfl⟩, Hf.kept⟩
  have hz : s.length ≤ 1024 := by
    refine Classical.byContradiction fun h => Sa ?_
    unfold pO
    rw [Yz, if_neg h, if_neg (by decide)]
    decide
  have Xg : (pO ⟨false, 0, s⟩).1 = 120 :: pG s := by
    unfold pO
    rw [Yz, if_pos hz, if_pos rfl]
  refine On (Mv ?_)
  refine On (Mv ?_)
  refine On (Vv (Gives.EA rfl rfl) (Pf ?_))
  refine Qn (Cp rfl (fun Ic => ?_) (fun Ic => ?_))
  · have iY : zw l = [] := by rw [hrx, if_neg (fun h => Ic (by rw [Xg]; exact h.1))]
    refine Sr (Vv (Gives.build (out := bK cell0) Fills.nil) (aD He (h := fun wg Hg => ?_)))
    refine Am ?_
    refine Qn (Rs (aW (h := ?_)))
    exact ⟨_, dQ Hg, ⟨4, by rw [iY]; rfl⟩, Hg.kept⟩
  have Oh : zw l = s := by rw [hrx, if_pos ⟨by rw [← Xg]; exact Classical.not_not.1 Ic, hz⟩]
  refine Sk (Sr (aZ He (h := ?_)))
  refine aD He (h := fun wh Hh => ?_)
  refine Am ?_
  refine Qn (aM (aW (h := ?_)))
  exact ⟨_, dQ Hh, ⟨0, by rw [Oh]; rfl⟩, Hh.kept⟩
end
theorem NU (b : UInt8) : Lib.index [] [b] = -1 := rfl
theorem D5 (b : UInt8) (t : List UInt8) : Lib.index (b :: t) [b] = 0 := by
 unfold Lib.index
 rw [if_pos (by simp [List.isPrefixOf])]
theorem BG {b c : UInt8} (h : c ≠ b) (t : List UInt8) : Lib.index (c :: t) [b] = if Lib.index t [b] = -1 then -1 else Lib.index t [b] + 1 := by
 rw [Lib.index, if_neg (by simp [List.isPrefixOf]; exact fun e => h e.symm)]
 by_cases h1 : Lib.index t [b] = -1 <;> simp [h1]
theorem uj (b : UInt8) (new : List UInt8) : ∀ (s : List UInt8) (k : Nat), s.count b ≤ k → Lib.replaceK [b] new k s = s.flatMap fun c => if c = b then new else [c]
 | [], 0, _ => rfl
 | [], k + 1, _ => by rw [Lib.replaceK, NU, if_pos (by decide)]; rfl
 | c :: t, k, hk => by
  by_cases h : c = b
  ·subst h
   rw [List.count_cons_self] at hk
   obtain ⟨k, rfl⟩ : ∃ k', k = k' + 1 := ⟨k - 1, by omega⟩
   rw [Lib.replaceK_hit [c] new k (c :: t) 0 (D5 c t), List.flatMap_cons, if_pos rfl]
   show [] ++ new ++ Lib.replaceK [c] new k t = _
   rw [uj c new t k (by omega)]
   rfl
  rw [List.count_cons_of_ne h] at hk
  rw [List.flatMap_cons, if_neg h, ← uj b new t k hk]
  cases k with
  | zero => rfl
  | succ k =>
   rw [Lib.replaceK, Lib.replaceK, BG h]
   by_cases h1 : Lib.index t [b] = -1
   ·rw [h1]; rfl
   have LU := Lib.index_ge t [b]
   have e0 : ¬ (Lib.index t [b] == -1) = true := by simpa using h1
   have e1 : ¬ (Lib.index t [b] + 1 == -1) = true := by simp; omega
   rw [if_neg h1, if_neg e0, if_neg e1]
   have e2 : (Lib.index t [b] + 1).toNat = (Lib.index t [b]).toNat + 1 := by omega
   have e3 : (Lib.index t [b]).toNat + 1 + [b].length = ((Lib.index t [b]).toNat + [b].length) + 1 := by omega
   rw [e2, e3, List.take_succ_cons, List.drop_succ_cons]
   rfl
theorem vM (b : UInt8) (new s : List UInt8) (h : new ≠ [b]) : Lib.replaceAll s [b] new = s.flatMap fun c => if c = b then new else [c] := by
 unfold Lib.replaceAll Lib.replace
 rw [if_neg (by simpa using fun e => h e.symm)]
 refine uj b new s _ ?_
 unfold Lib.replaceNum
 rw [if_pos (.inl (by decide)), Lib.count_one]
 exact Nat.le_refl _
theorem Gr (w : World) (k : Nat) (os : Array Obj) : Kept noB w (Go.Sort.grow (w.drewN k) os) := by
 refine ⟨rfl, rfl, rfl, ?_, fun b hb _ => ?_⟩
 ·show w.heap.size ≤ (w.heap ++ os).size
  rw [Array.size_append]; omega
 show (w.heap ++ os)[b]? = w.heap[b]?
 rw [Array.getElem?_append_left hb]
section
variable {w : World}
theorem zM (n : Int) (hn : fits n) (hT : je w) : bF Tryz.prog 125 [.int .i64 n, I 10] w fun v w' => v = str (Lib.itoa n) ∧ Kept noB w w' :=
 Calls.mono (Tryz.strconv_FormatInt_10 n hn.1 hn.2 w hT.pow) fun e w' he => by
  obtain ⟨rfl, k, os, rfl⟩ := he
  exact ⟨rfl, Gr w k os⟩
theorem EL (b : Bool) : bF Tryz.prog 126 [.bool b] w fun v w' => v = str (if b = true then [116, 114, 117, 101] else [102, 97, 108, 115, 101]) ∧ w = w' :=
 l7 (by
  have := Tryz.strconv_FormatBool b w
  cases b <;> exact this)
theorem EM (l : List UInt8) (hl : l.length ≤ 10000000) (hT : je w) : bF Tryz.prog 98 [str l, str [32], str [92, 117, 48, 48, 50, 48]] w fun v w' => v = str (l.flatMap fun c => if c = 32 then [92, 117, 48, 48, 50, 48] else [c]) ∧ Kept noB w w' := by
 obtain ⟨m, hm⟩ := hT.len
 have h1 := Lib.countB_le ⟨#[32]⟩ (by decide) l.length ⟨l.toArray⟩ (by rw [Mw.size_mk]; exact Nat.le_refl _)
 rw [Mw.size_mk] at h1
 have := lU (Tryz.strings_ReplaceAll ⟨l.toArray⟩ ⟨#[32]⟩ ⟨#[92, 117, 48, 48, 50, 48]⟩ m w (by rw [Mw.size_mk]; omega) hm (by decide) (by
  rw [Mw.size_mk]
  show l.length + Lib.countB ⟨l.toArray⟩ ⟨#[32]⟩ * 6 ≤ _
  omega))
 have e : Lib.replaceAll l [32] [92, 117, 48, 48, 50, 48] = l.flatMap fun c => if c = 32 then [92, 117, 48, 48, 50, 48] else [c] := vM 32 _ l (by decide)
 rw [← e]
 exact this
theorem Lr : bF Tryz.prog 129 [] w fun v w' => ∃ b : Nat, v = .slice (some ⟨b, 0, none⟩) 12 12 ∧ True ∧ Turn noB (blk b (eG.flatMap bX) 9) w w' := by
 have H := Sep.bB w
 refine JW Tryz.func129 rfl rfl rfl ?_
 refine Sr (Am ?_)
 refine Nx (aX H (xs := [_, _, _, _, _, _, _, _, _, _, _, _]) (out := eG.flatMap bX) (aU.one rfl rfl (aU.one rfl rfl (aU.one rfl rfl (aU.one rfl rfl (aU.one rfl rfl (aU.one rfl rfl (aU.one rfl rfl (aU.one rfl rfl (aU.one rfl rfl (aU.one rfl rfl (aU.one rfl rfl (aU.one rfl rfl aU.nil)))))))))))) rfl rfl rfl (fun b1 w3 H3 k2 => ?_))
 refine Am ?_
 refine Qn (aM (ak (hR := ?_)))
 exact ⟨b1, rfl, trivial, H3.turn⟩
theorem Ls (x : bL) (hm : dI x = true) (hf : fits x.n) (hT : je w) : bF Tryz.prog 83 [agg (aI x)] w fun v w' => v = str (dO x) ∧ Kept noB w w' := by
 have H := Sep.bB w
 have jW := Dm hf.1 hf.2
 obtain ⟨res, ay⟩ : ∃ res, res = dO x := ⟨_, rfl⟩
 rw [← ay]
 unfold dO at ay
 unfold dI at hm
 refine dP Tryz.func83 rfl rfl rfl rfl ?_
 refine Sr (dz H (cs := aI x) rfl (h := fun b0 w2 H2 k0 => ?_))
 refine Am ?_
 refine Qn (au (Sr (Vf ?_)))
 refine Ld H2 ?_
 refine Qn (aF (Sr (Ve ?_)))
 refine Am ?_
 refine Qn (Cp rfl (fun xL => ?_) (fun xL => ?_))
 ·rw [if_pos xL] at ay hm
  refine Sr (Vf ?_)
  refine Ld H2 ?_
  refine aN H2 (zM x.n hf (hT.keep H2.kept)) (h := fun wa Ha ka => ?_)
  refine Vv (Gives.iW rfl rfl (by first | omega | (simp; done) | (simp; omega))) ?_
  refine Am ?_
  refine Qn (Rb (ak (hR := ?_)))
  exact ⟨by rw [ay]; rfl, Ha.kept⟩
 rw [if_neg xL] at ay hm
 refine Sr (Ve ?_)
 refine Am ?_
 refine Qn (Cp rfl (fun Ia => ?_) (fun Ia => ?_))
 ·rw [if_pos Ia] at ay hm
  refine Sr (Vf ?_)
  refine Ld H2 ?_
  refine aN H2 (zM x.n hf (hT.keep H2.kept)) (h := fun wb Hb kb => ?_)
  refine Am ?_
  refine Qn (Rb (ak (hR := ?_)))
  exact ⟨by rw [ay]; rfl, Hb.kept⟩
 rw [if_neg Ia] at ay hm
 refine Sr (Ve ?_)
 refine Am ?_
 refine Qn (Cp rfl (fun Ib => ?_) (fun Ib => ?_))
 ·rw [if_pos Ib] at ay hm
  refine Sr (Vf ?_)
  refine Ld H2 ?_
  refine Ve ?_
  refine dY (EL (decide (x.n = 1))) (h := ?_)
  refine Am ?_
  refine Qn (Rb (ak (hR := ?_)))
  exact ⟨by rw [ay]; by_cases h1 : x.n = 1 <;> simp only [h1, decide_true, decide_false, if_true, if_false] <;> rfl, H2.kept⟩
 rw [if_neg Ib] at ay hm
 refine Sr (Ve ?_)
 refine Am ?_
 refine Qn (Cp rfl (fun Ic => ?_) (fun Ic => ?_))
 ·rw [if_pos Ic] at ay hm
  simp only [decide_eq_true_eq] at hm
  obtain ⟨_, hlen, yQ⟩ := hm
  have UE := Gb x.s
  refine Sr (Vf ?_)
  refine Ld H2 ?_
  refine aN H2 (QL x.s (by omega) (hT.keep H2.kept).utf) (h := fun wc Hc kc => ?_)
  rw [show oP x.s = (iR x.s, 0) by unfold oP; rw [if_pos yQ]]
  refine Mv ?_
  refine Vx ?_
  refine Vx ?_
  refine Am ?_
  refine Am ?_
  refine Nx (Mv ?_)
  refine aN Hc (EM (iR x.s) (by omega) (hT.keep Hc.kept)) (h := fun wd Hd kd => ?_)
  refine Am ?_
  refine Qn (Rb (ak (hR := ?_)))
  exact ⟨by rw [ay]; rfl, Hd.kept⟩
 rw [if_neg Ic] at ay hm
 refine Sr (Ve ?_)
 refine Am ?_
 refine Qn (Cp rfl (fun Id => ?_) (fun Id => ?_))
 ·rw [if_pos Id] at ay hm
  simp only [decide_eq_true_eq] at hm
  obtain ⟨YI, hlen⟩ := hm
  have jl : jE fV ⟨false, 0, x.s⟩ = 0 := by
   have e : isC fV.kind ⟨false, 0, x.s⟩ = decide ((0 : Int) = 0 ∧ x.s.length ≤ 1024) := rfl
   have e1 : nL fV = true := rfl
   unfold jE
   rw [e1, if_neg (by decide), if_neg (by simp), e, if_pos (by simp [hlen])]
  refine Sr (Vv (Gives.build (out := aJ fV) (Fills.one rfl rfl rfl (by simp) rfl Fills.nil)) (Vf ?_))
  refine Ld H2 ?_
  refine Vv (Gives.build (out := bK ⟨false, 0, x.s⟩) (Fills.one rfl rfl rfl (by simp) rfl Fills.nil)) (aN H2 (DZ ⟨false, 0, x.s⟩ ⟨(by show (-9223372036854775808 : Int) ≤ 0; decide), (by show (0 : Int) ≤ 9223372036854775807; decide)⟩ (hT.keep H2.kept).utf) (h := fun we He ke => ?_))
  rw [show pO ⟨false, 0, x.s⟩ = (120 :: pG x.s, 0) from if_pos jl]
  refine Mv ?_
  refine Vx ?_
  refine Vx ?_
  refine Am ?_
  refine Am ?_
  refine Nx (Mv ?_)
  refine Am ?_
  refine Qn (Rb (ak (hR := ?_)))
  exact ⟨by rw [ay]; rfl, He.kept⟩
 rw [if_neg Id] at ay hm
 refine Sr (Ve ?_)
 refine Am ?_
 refine Qn (Cp rfl (fun Ie => ?_) (fun Ie => ?_))
 ·rw [if_pos Ie] at ay hm
  simp only [decide_eq_true_eq] at hm
  refine Sr (Vf ?_)
  refine Ld H2 ?_
  refine aN H2 (Jq x.n) (h := fun wf Hf kf => ?_)
  refine Am ?_
  refine Qn (Rb (ak (hR := ?_)))
  exact ⟨by rw [ay]; rfl, Hf.kept⟩
 rw [if_neg Ie] at ay hm
 simp only [decide_eq_true_eq] at hm
 obtain ⟨h7, h18, _, _⟩ := hm
 have hg := K3 h7 h18
 rw [← ay] at hg
 have JH : (((x.kind - 7).toNat : Nat) : Int) = x.kind - 7 := Int.toNat_of_nonneg (by omega)
 refine aY (aA (aj (au (bG rfl H2 (h := fun Sa wg Hg => ?_)))))
 refine Gp Sa 1 rfl rfl (fun _ => (Gives.dx rfl)) (cK Sa 2 Hg (h := ?_))
 refine Gp Sa 3 rfl rfl (fun _ => (Gives.yh (c := (((x.kind - 7).toNat : Nat) : Int)) rfl rfl (by omega) (by omega))) (sN Sa 0 [(3, true), (2, false), (1, true)] rfl (by kernel_rfl) (Lr) rfl (by kernel_rfl) (by kernel_rfl) (fun v' wh hv => ?_))
 obtain ⟨b1, rfl, _, dK, F1, hq, gV⟩ := hv
 have Hh := Hg.new dK hq (fun b hb => (gV b hb).resolve_left id)
 have hR : Rd wh (some ⟨b1, 0, none⟩) bX 1 eG := Sep.gJ Hh At0 rfl
 refine ⟨av (bQ Hh (h := av (aK))), ?_⟩
 refine Gp Sa 4 rfl rfl (fun _ => (Gives.eT (l := eG) (enc := bX) rfl rfl hR (iE hg))) (Gl Sa 5 rfl rfl (Gives.o8 (f := 0) rfl hR hg rfl) ?_)
 refine Gp Sa 6 rfl rfl (fun _ => Gives.assign rfl) (bR Sa (by kernel_rfl) ?_)
 refine aj (aM (ak (hR := ?_)))
 exact ⟨rfl, Hh.kept⟩
end
theorem join_eq (sep : UInt8) : ∀ ws : List (List UInt8), Lib.join ws [sep] = fA sep ws
 | [] => rfl
 | [w] => Lib.join_one w [sep]
 | w :: x :: l => by
  have ih := join_eq sep (x :: l)
  show _ = w ++ sep :: fA sep (x :: l)
  rw [← ih]
  simp [Lib.join, List.intercalate]
attribute [local irreducible] dI dO
section
variable {w : World}
theorem V8 {l : List (List UInt8)} {v : Value} (hr : dn w v bX 1 l) (hl : l.length ≤ 1000000) (hlen : (fA 32 l).length ≤ 140737488355328) : bF Tryz.prog 39 [v, str [32]] w fun v' w' => v' = str (fA 32 l) ∧ Kept noB w w' := by
 obtain ⟨A, c, rfl, ⟨hc, hc'⟩, hR⟩ := hr
 by_cases h0 : l = []
 ·subst h0
  exact Calls.mono (Tryz.strings_Join_none A c ⟨#[32]⟩ w) fun e w' he => by
   obtain ⟨rfl, rfl⟩ := he
   exact ⟨rfl, Kept.refl _ _⟩
 have zS : 0 < l.length := List.length_pos_iff.2 h0
 obtain ⟨ad, rfl⟩ := hR.addr zS
 obtain ⟨x0, Ye⟩ := get_some zS
 obtain ⟨ad', e0, Rn⟩ := hR.cell (f := 0) Ye rfl
 injection e0 with e0; subst e0
 have vP := World.cell?_spot Rn
 obtain ⟨bk, o, sp⟩ := ad
 have Yf : sp = none := vP
 subst Yf
 have hbk : bk < w.heap.size := by
  refine Classical.byContradiction fun hn => ?_
  unfold World.cell? at Rn
  rw [Array.getElem?_eq_none (by show w.heap.size ≤ bk; omega)] at Rn
  cases Rn
 have yV : (l.map fun s : List UInt8 => (⟨s.toArray⟩ : ByteArray)).map (·.data.toList) = l := by
  rw [List.map_map]
  exact (List.map_congr_left fun s _ => rfl).trans (List.map_id l)
 have := lU (Tryz.strings_Join bk o c (l.map fun s => ⟨s.toArray⟩) ⟨#[32]⟩ w (fun j x hj => by
  rw [List.getElem?_map] at hj
  obtain ⟨s, hs, rfl⟩ := Option.map_eq_some_iff.1 hj
  obtain ⟨ad', e1, oK⟩ := hR.cell (f := 0) hs rfl
  injection e1 with e1; subst e1
  rw [Nat.mul_one, Nat.add_zero, Addr.add_lit] at oK
  exact oK) hbk (by rw [List.length_map]; omega) (by rw [List.length_map]; exact hc) (by rw [yV]; show (Lib.join l [32]).length ≤ _; rw [join_eq]; exact hlen))
 rw [yV, List.length_map] at this
 have e : Lib.join l [32] = fA 32 l := join_eq 32 l
 rw [← e]
 exact this
theorem Lu {l : List bL} {vl : Value} (hl : dn w vl aI 3 l) (hx : ∀ x ∈ l, fits x.n) (hT : je w) : bF Tryz.prog 37 [vl] w fun v w' => v = .tuple #[str (eY l).1, I (eY l).2] ∧ Kept noB w w' := by
  obtain ⟨C, n, rfl, ⟨hn, JL⟩, hC⟩ := hl
  have H := Sep.bB w
  obtain ⟨res, ay⟩ : ∃ res, res = eY l := ⟨_, rfl⟩
  rw [← ay]
  unfold eY at ay
  refine dP Tryz.func37 rfl rfl rfl rfl ?_
  refine Sr (Am ?_)
  refine Am ?_
  refine Qn (au (Sr (Mv ?_)))
  refine Vs ?_
  refine Vg ?_
  refine Qn (Cp rfl (fun Cr => ?_) (fun Cr => ?_))
  · rw [if_pos (by omega)] at ay
    refine Sr (Am ?_)
    refine Am ?_
    refine Qn (Rs (ak (hR := ?_)))
    exact ⟨by rw [ay]; rfl, H.kept⟩
  rw [if_neg (by omega)] at ay
  refine Sk (Sr (Am ?_))
  refine Qn (au (Sr (Mv ?_)))
  refine Vs ?_
  refine Mv ?_
  refine Qn (aF ?_)
  have Ha := Sep.iX H 9 1 bX
  refine bA (fun x : Nat × Value => [(0, .slice C l.length n), (4, x.2), (10, .slice C l.length n), (11, I l.length), (12, I x.1)]) (fun x w' => (x.1 ≤ l.length ∧ ∀ (j : Nat) y, j < x.1 → l[j]? = some y → dI y = true) ∧ Sep w noB [cO 9 1 bX x.2 ((l.take x.1).map dO)] w') (fun x _ => l.length - x.1) (0, .slice none 0 0) ⟨rfl, rfl, rfl, rfl, rfl, trivial⟩ ⟨⟨Nat.zero_le _, fun j x hj => absurd hj (Nat.not_lt_zero j)⟩, Ha⟩ (fun x τ wa hI => ?_)
  obtain ⟨i, v1⟩ := x
  obtain ⟨⟨hi, uy⟩, Ha⟩ := hI
  dsimp only at hi uy Ha
  have yV : ((l.take i).map dO).length = i := by rw [List.length_map, List.length_take]; omega
  try simp only [cZ, like, bC, bZ]
  refine Sr (Vl ?_)
  refine Qn (au (Cp rfl (fun Ia => ?_) (fun Ia => ?_)))
  · have bU : i < l.length := by omega
    obtain ⟨x, mq⟩ := get_some bU
    have JU := hx x (List.mem_of_getElem? mq)
    have Ca : (l.take (i + 1)).map dO = (l.take i).map dO ++ [dO x] := by rw [List.take_add_one, mq, List.map_append]; rfl
    refine Sk (au (aF (Sr (Vv (Gives.eT rfl rfl (by assumption) (by omega)) (Vv (Gives.iM rfl Ha (by assumption) (by assumption)) ?_)))))
    refine bD Ha (h := fun b6 wb Hb ka => ?_)
    refine aD Hb (h := fun wc Hc => ?_)
    refine Qn (au (Sr (aZ Hc (h := ?_))))
    refine aN Hc (NC x JU (hT.keep Hc.kept).utf) (h := fun wd Hd kb => ?_)
    refine Vv (Gives.not rfl) (Qn ?_)
    refine Cd rfl (fun Ib => ?_) (fun Ib => ?_)
    · have iY : l.all dI = false := by
        rw [← Bool.not_eq_true, List.all_eq_true]
        intro h
        have := h x (List.mem_of_getElem? mq)
        rw [this] at Ib; cases Ib
      rw [if_pos iY] at ay
      refine Sr (Am ?_)
      refine Am ?_
      refine Qn (Rs (aH (aL (aR (aH (aL (ak (hR := ?_))))))))
      exact ⟨by rw [ay]; rfl, Hd.kept⟩
    have yU : dI x = true := by simpa using Ib
    refine Sk (aB (Mv ?_))
    refine aZ Hd (h := ?_)
    refine aN Hd (Ls x yU JU (hT.keep Hd.kept)) (h := fun we He kc => ?_)
    refine aX He (xs := [.tmp 21]) (out := [dO x].flatMap bX) (aU.one rfl rfl aU.nil) rfl rfl rfl (fun bs wf Hf kd => ?_)
    refine gK Hf (news := [dO x]) At1 (by rw [yV]; unfold maxLen; simp; omega) (by rw [yV]; show (i + 1) * 16 ≤ _; omega) (by intro u hu; simp only [List.flatMap_cons, List.flatMap_nil, bX, List.append_nil, List.mem_cons, List.not_mem_nil, or_false] at hu; subst hu; rfl) (h := ?_)
    intro v2 wg Hg
    rw [← Ca] at Hg
    refine Am ?_
    refine aP (aA (aj (aB (Vv (Gives.bM rfl rfl rfl (by omega)) ?_))))
    refine Mv ?_
    refine aP ?_
    exact aC (i + 1, v2) ⟨rfl, rfl, rfl, rfl, rfl, trivial⟩ ⟨⟨by dsimp only; omega, fun j y hj hy => by
    by_cases e : j = i
    · subst e; rw [mq] at hy; injection hy with hy; rw [← hy]; exact yU
    exact uy j y (by dsimp only at hj; omega) hy⟩, (Hg.dS).firsts (l := [_])⟩ (by dsimp only; omega)
  have jW : i = l.length := by omega
  have lu : l.all dI = true := List.all_eq_true.2 fun x Od => by
    obtain ⟨j, hj⟩ := List.getElem?_of_mem Od
    exact uy j x (by have := iE hj; omega) hj
  rw [if_neg (by rw [lu]; simp)] at ay
  rw [jW, List.take_length] at Ha
  rw [jW, List.take_length] at yV
  have hlen : (fA 32 (l.map dO)).length ≤ (6146 + 1) * l.length := by
    have := rW 32 (k := 6146) (ws := l.map dO) fun w hw => by
      obtain ⟨x, Od, rfl⟩ := List.mem_map.1 hw
      exact vF (List.all_eq_true.1 lu x Od) (hx x Od)
    rw [List.length_map] at this
    exact this
  obtain ⟨B, cb, rfl, EP, hB⟩ := Sep.fJ Ha At0
  refine bq (aT (aO (aV (aj (Sr (Mv ?_))))))
  refine aN Ha (V8 (w := wa) ⟨B, cb, rfl, ⟨EP, Sep.TY Ha At0⟩, fT Ha At0⟩ (by omega) (by omega)) (h := fun wh Hh ke => ?_)
  refine Am ?_
  refine Am ?_
  refine Qn (aM (ak (hR := ?_)))
  exact ⟨by rw [ay]; rfl, Hh.kept⟩
end
end Go.Proofs.YtolaedhdjcnijaaGreatDoor
