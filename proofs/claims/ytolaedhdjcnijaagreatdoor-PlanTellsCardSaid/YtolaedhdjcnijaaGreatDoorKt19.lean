/-
 The program's reader of literals, walked: whole runes, plain.
-/
import Derived.Test.YtolaedhdjcnijaaGreatDoorKt18
import Derived.Maps.RangeRun
set_option linter.unusedVariables false
set_option linter.unusedSimpArgs false
namespace Go.Proofs.YtolaedhdjcnijaaGreatDoor
open Go Go.Mw Go.Lib
set_option maxRecDepth 4000
theorem and7b {x : Nat} (h : x < 256) : bits .and .u8 (x : Int) 7 = ((x % 8 : Nat) : Int) := by
 have key : ∀ i : Fin 256, i.val &&& 7 = i.val % 8 := by decide
 have := u8_and_nat x 7 h (by decide)
 rw [key ⟨x, h⟩] at this
 exact this
section
variable {w : World} {l : List UInt8}
theorem full_ok (l : List UInt8) (hl : l.length ≤ 1000000) (hT : TabsU w) : Rets Tryz.prog 251 [str l] w fun v w' => (∃ b, v = .bool b) ∧ Kept noB w w' := by
 have H := Sep.start0 w
 refine rets1 Tryz.func251 rfl rfl rfl rfl ?_
 refine Sr (Am ?_)
 refine Nx (Mv ?_)
 refine Vt ?_
 refine Am ?_
 refine Qn (FW_seq (Sr (Mv ?_)))
 refine Ve ?_
 refine Qn (Cp rfl (fun hc7 => ?_) (fun hc7 => ?_))
 ·refine Sr (Am ?_)
  refine Qn (Rs (Qfn_ret (hR := ?_)))
  exact ⟨⟨_, rfl⟩, H.kept⟩
 refine Sk (Sr (Mv ?_))
 refine Vv (Gives.idxD (i := 0) rfl rfl (by omega)) ?_
 have hb0 := (l.getD 0 0).toNat_lt
 refine Vv (Gives.idxArr (i := (l.getD 0 0).toNat) rfl rfl (by omega)) ?_
 rw [Addr.add_lit]
 refine FL_loadC (by rw [Nat.zero_add, Nat.mul_one]; exact (hT.keep H.kept).1 _ hb0) rfl rfl ?_
 refine Am ?_
 refine Qn (FW_seq (Sr (Mv ?_)))
 refine Mv ?_
 obtain ⟨v, hv⟩ : ∃ v, v = Lib.firstT (l.getD 0 0).toNat := ⟨_, rfl⟩
 have hv1 : v < 256 := by have := Lib.firstT_cases (l.getD 0 0).toNat; omega
 rw [← hv]
 refine Vv (Gives.andE rfl rfl (and7b hv1)) (Vv (Gives.convW (c := ((v % 8 : Nat) : Int)) rfl (by rw [IntKind.wrap_i64]; omega)) ?_)
 refine Vv (Gives.geq rfl rfl) (Qn ?_)
 refine Cp rfl (fun hc20 => ?_) (fun hc20 => ?_)
 ·refine Sr (Am ?_)
  refine Qn (Rs (Qfn_ret (hR := ?_)))
  exact ⟨⟨_, rfl⟩, H.kept⟩
 refine Sk (Sr (Mv ?_))
 refine Vv (Gives.shrN (m := v) (s := 4) rfl rfl (by decide)) ?_
 obtain ⟨q, hq⟩ : ∃ q, q = v / 2 ^ 4 := ⟨_, rfl⟩
 have hq1 : q < 16 := by omega
 rw [← hq]
 refine Vv (Gives.idxArr (i := q) rfl rfl (by omega)) ?_
 rw [Addr.add_lit, Nat.zero_add]
 refine FL_loadCN (us := [.int .u8 (Lib.accLo q), .int .u8 (Lib.accHi q)]) (fun j u hj => by
  obtain ⟨h1, h2⟩ := (hT.keep H.kept).2 q hq1
  rw [Addr.add_lit]
  match j, hj with
  | 0, hj => injection hj with hj; subst hj; rw [Nat.add_zero, Nat.mul_comm, Nat.zero_add]; exact h1
  | 1, hj => injection hj with hj; subst hj; rw [Nat.mul_comm, Nat.zero_add]; exact h2) rfl rfl rfl ?_
 refine FL_alloc H (h := fun b27 w28 H28 k27 => ?_)
 refine FL_storeAll H28 (h := fun w30 H30 => ?_)
 refine Qn (FW_seq (FW_seq (FW_drawS rfl H30 (h := fun hok31 w33 H33 => ?_))))
 refine Gm hok31 0 ?_
 refine Gp hok31 1 rfl rfl (fun _ => (Gives.gtr rfl rfl)) (Gm hok31 2 ?_)
 refine FG_splitP (t := 25) rfl (fun hs35 => ?_) (fun hs35 => ?_)
 ·refine Gm hok31 3 ?_
  refine Gp hok31 4 rfl rfl (fun _ => (Gives.idxD (i := 1) rfl rfl (by omega))) (Gp hok31 5 rfl rfl (fun _ => (Gives.field0 rfl)) ?_)
  refine FGload hok31 6 H33 (h := ?_)
  refine Gp hok31 7 rfl rfl (fun _ => (Gives.lss rfl rfl)) (Gm hok31 8 ?_)
  refine FG_splitP (t := 31) rfl (fun hs40 => ?_) (fun hs40 => ?_)
  ·refine FGoff hok31 9 rfl rfl (by kernel_rfl) ?_
   refine FGoff hok31 10 rfl rfl (by kernel_rfl) ?_
   refine FGoff hok31 11 rfl rfl (by kernel_rfl) ?_
   refine FGoff hok31 12 rfl rfl (by kernel_rfl) ?_
   refine FGoff hok31 13 rfl rfl (by kernel_rfl) ?_
   refine Gp hok31 14 rfl rfl (fun _ => Gives.pickT rfl rfl) (Gp hok31 15 rfl rfl (fun _ => Gives.pickT rfl rfl) ?_)
   refine FG_end hok31 (by kernel_rfl) ?_
   refine Qseq_normal (FW_cond_true rfl ?_)
   refine Sr (Am ?_)
   refine Qn (Rs (Qfn_ret (hR := ?_)))
   exact ⟨⟨_, rfl⟩, H33.kept⟩
  refine Gp hok31 9 rfl rfl (fun _ => (Gives.field0 rfl)) (FGload hok31 10 H33 (h := ?_))
  refine Gm hok31 11 ?_
  refine Gp hok31 12 rfl rfl (fun _ => (Gives.idxD (i := 1) rfl rfl (by omega))) (Gp hok31 13 rfl rfl (fun _ => (Gives.lss rfl rfl)) ?_)
  refine Gp hok31 14 rfl rfl (fun _ => Gives.pickF rfl rfl) (Gp hok31 15 rfl rfl (fun _ => Gives.pickT rfl rfl) ?_)
  refine FG_end hok31 (by kernel_rfl) ?_
  refine Qseq_normal (Cp rfl (fun hc51 => ?_) (fun hc51 => ?_))
  ·refine Sr (Am ?_)
   refine Qn (Rs (Qfn_ret (hR := ?_)))
   exact ⟨⟨_, rfl⟩, H33.kept⟩
  refine Sr (Mv ?_)
  refine Vg ?_
  refine Mv ?_
  refine FL_splitP (t := 41) rfl (fun hs57 => ?_) (fun hs57 => ?_)
  ·refine On (Mv ?_)
   refine On (Vv (Gives.idxD (i := 2) rfl rfl (by omega)) (On ?_))
   refine Vl ?_
   refine On (Mv ?_)
   refine FL_splitP (t := 45) rfl (fun hs62 => ?_) (fun hs62 => ?_)
   ·refine Of (Of (Of (On (Pt ?_))))
    refine Pt ?_
    refine Qn (FW_cond_true rfl ?_)
    refine Sr (Am ?_)
    refine Qn (Rs (Qfn_ret (hR := ?_)))
    exact ⟨⟨_, rfl⟩, H33.kept⟩
   refine On (Mv ?_)
   refine On (Vv (Gives.idxD (i := 2) rfl rfl (by omega)) (On ?_))
   refine Vl ?_
   refine On (Pf ?_)
   refine Pt ?_
   refine Qn (Cp rfl (fun hc72 => ?_) (fun hc72 => ?_))
   ·refine Sr (Am ?_)
    refine Qn (Rs (Qfn_ret (hR := ?_)))
    exact ⟨⟨_, rfl⟩, H33.kept⟩
   refine Sk (Sr (Am ?_))
   refine Qn (FW_ret (Qfn_ret (hR := ?_)))
   exact ⟨⟨_, rfl⟩, H33.kept⟩
  refine Of (Of (Of (Of (Ou (Ou (Ou (Of (Pf ?_))))))))
  refine Qn (FW_cond_false rfl ?_)
  refine Sk (Sr (Am ?_))
  refine Qn (FW_ret (Qfn_ret (hR := ?_)))
  exact ⟨⟨_, rfl⟩, H33.kept⟩
 refine FGoff hok31 3 rfl rfl (by kernel_rfl) ?_
 refine FGoff hok31 4 rfl rfl (by kernel_rfl) ?_
 refine FGoff hok31 5 rfl rfl (by kernel_rfl) ?_
 refine FGoff hok31 6 rfl rfl (by kernel_rfl) ?_
 refine FGoff hok31 7 rfl rfl (by kernel_rfl) ?_
 refine FGoff hok31 8 rfl rfl (by kernel_rfl) ?_
 refine FGoff hok31 9 rfl rfl (by kernel_rfl) ?_
 refine FGoff hok31 10 rfl rfl (by kernel_rfl) ?_
 refine FGoff hok31 11 rfl rfl (by kernel_rfl) ?_
 refine FGoff hok31 12 rfl rfl (by kernel_rfl) ?_
 refine FGoff hok31 13 rfl rfl (by kernel_rfl) ?_
 refine FGoff hok31 14 rfl rfl (by kernel_rfl) ?_
 refine Gp hok31 15 rfl rfl (fun _ => Gives.pickF rfl rfl) (FG_end hok31 (by kernel_rfl) ?_)
 refine Qseq_normal (FW_cond_false rfl ?_)
 refine Sr (Mv ?_)
 refine Vg ?_
 refine Mv ?_
 refine FL_splitP (t := 41) rfl (fun hs84 => ?_) (fun hs84 => ?_)
 ·refine On (Mv ?_)
  refine On (Vv (Gives.idxD (i := 2) rfl rfl (by omega)) (On ?_))
  refine Vl ?_
  refine On (Mv ?_)
  refine FL_splitP (t := 45) rfl (fun hs89 => ?_) (fun hs89 => ?_)
  ·refine Of (Of (Of (On (Pt ?_))))
   refine Pt ?_
   refine Qn (FW_cond_true rfl ?_)
   refine Sr (Am ?_)
   refine Qn (Rs (Qfn_ret (hR := ?_)))
   exact ⟨⟨_, rfl⟩, H33.kept⟩
  refine On (Mv ?_)
  refine On (Vv (Gives.idxD (i := 2) rfl rfl (by omega)) (On ?_))
  refine Vl ?_
  refine On (Pf ?_)
  refine Pt ?_
  refine Qn (Cp rfl (fun hc99 => ?_) (fun hc99 => ?_))
  ·refine Sr (Am ?_)
   refine Qn (Rs (Qfn_ret (hR := ?_)))
   exact ⟨⟨_, rfl⟩, H33.kept⟩
  refine Sk (Sr (Am ?_))
  refine Qn (FW_ret (Qfn_ret (hR := ?_)))
  exact ⟨⟨_, rfl⟩, H33.kept⟩
 refine Of (Of (Of (Of (Ou (Ou (Ou (Of (Pf ?_))))))))
 refine Qn (FW_cond_false rfl ?_)
 refine Sk (Sr (Am ?_))
 refine Qn (FW_ret (Qfn_ret (hR := ?_)))
 exact ⟨⟨_, rfl⟩, H33.kept⟩
theorem cell_keepF {w w' : World} {F : Nat → Prop} {b o : Nat} {v : Value} (hk : Kept F w w') (hF : ¬ F b) (h : w.cell? ⟨b, o, none⟩ = some v) : w'.cell? ⟨b, o, none⟩ = some v := by
 have hlt : b < w.heap.size := by
  refine Classical.byContradiction fun hn => ?_
  unfold World.cell? at h
  rw [Array.getElem?_eq_none (by dsimp only; omega)] at h
  cases h
 unfold World.cell? at h ⊢
 rw [hk.block b hlt hF]
 exact h
theorem TabsU.keepF {w w' : World} {F : Nat → Prop} (h : TabsU w) (hk : Kept F w w') (h1 : ¬ F 4) (h2 : ¬ F 5) : TabsU w' :=
 ⟨fun c hc => cell_keepF hk h1 (h.1 c hc), fun i hi => ⟨cell_keepF hk h2 (h.2 i hi).1, cell_keepF hk h2 (h.2 i hi).2⟩⟩
theorem rdr_tabs {w w' : World} {F : Nat → Prop} {b at_ : Nat} {e : Int} {l : List UInt8} (hp : (rdrH b l at_ e).ok F w) (h : TabsU w) (hk : Kept F w w') : TabsU w' := by
 have hc : w.cell? ⟨b, 0, none⟩ = some (str l) := by
  unfold World.cell?
  have := hp.2
  simp only [this]
  rfl
 refine h.keepF hk (fun hF => ?_) (fun hF => ?_)
 ·have hb := (hp.1 _).1 hF
  have h0 := h.1 0 (by decide)
  rw [← hb] at hc
  have h1 := hc.symm.trans h0
  cases h1
 have hb := (hp.1 _).1 hF
 have h0 := (h.2 0 (by decide)).1
 rw [← hb] at hc
 have h1 := hc.symm.trans h0
 cases h1
def plainS (l : List UInt8) (at_ : Nat) : List UInt8 × Nat × Bool :=
 if (l.getD at_ 0).toNat < 32 then ([], at_, false) else match nextL (l.drop at_) with
  | some (_, n) => ((l.drop at_).take n, at_ + n, true)
  | none => ([], at_, false)
theorem plain_ok' {b at_ : Nat} {F : Nat → Prop} (hp : (rdrH b l at_ 0).ok F w) (hl : l.length ≤ 1000000) (ha : at_ < l.length) (hT : TabsU w) : Rets Tryz.prog 204 [selfP b] w fun r w' => ∃ x : Int, r = str (plainS l at_).1 ∧ ((plainS l at_).2.2 = true ↔ x = 0) ∧ Turn F (rdrH b l (plainS l at_).2.1 x) w w' := by
 have H := Sep.start1 hp
 unfold rdrH at H
 obtain ⟨res, hres⟩ : ∃ res, res = plainS l at_ := ⟨_, rfl⟩
 rw [← hres]
 unfold plainS at hres
 have hdl : (l.drop at_).length = l.length - at_ := List.length_drop
 have hg0 : (l.drop at_).getD 0 0 = l.getD at_ 0 := by simp [List.getD_eq_getElem?_getD]
 refine rets1 Tryz.func204 rfl rfl rfl rfl ?_
 refine Sr (Am ?_)
 refine Qn (FW_seq (FW_drawS rfl H (h := fun hok2 w4 H4 => ?_)))
 refine Gm hok2 0 ?_
 refine Gp hok2 1 rfl rfl (fun _ => (Gives.nilCheck rfl)) (Gp hok2 2 rfl rfl (fun _ => (Gives.field0 rfl)) ?_)
 refine FGload hok2 3 H4 (h := ?_)
 refine Gm hok2 4 ?_
 refine Gp hok2 5 rfl rfl (fun _ => (Gives.nilCheck rfl)) (Gp hok2 6 rfl rfl (fun _ => (Gives.field0 rfl)) ?_)
 refine FGload hok2 7 H4 (h := ?_)
 refine Gp hok2 8 rfl rfl (fun _ => (Gives.sliceFromT (l := l) (i := at_) rfl rfl (by omega))) (Gp hok2 9 rfl rfl (fun _ => Gives.assign rfl) ?_)
 refine FG_end hok2 (by kernel_rfl) ?_
 refine Qseq_normal (Sr (Mv ?_))
 refine FL_callQ H4 (next_okU (l.drop at_) (rdr_tabs hp hT H4.kept)) (h := fun w15 H15 k14 => ?_)
 refine Mv ?_
 refine Vx ?_
 refine Vx ?_
 refine Vx ?_
 refine Am ?_
 refine Am ?_
 refine Am ?_
 refine Qn (FW_seq (FW_block (Sr (Mv ?_))))
 refine Vv (Gives.idxD (i := 0) rfl rfl (by omega)) ?_
 rw [hg0]
 refine Vl ?_
 refine Am ?_
 refine Qn (Cp rfl (fun hc27 => ?_) (fun hc27 => ?_))
 ·rw [if_pos (by omega)] at hres
  refine Sr (Mv ?_)
  obtain ⟨F0, hp0, hS0, hput0⟩ := H15.focus At0
  refine FL_call (fail_ok (l := l) 41 hp0) rfl rfl (fun v' w31 hv => ?_)
  obtain ⟨rfl, hkk, F1, hq, hs⟩ := hv
  have H31 := hput0 _ F1 _ hkk hq hs
  refine Nx (Am ?_)
  refine Qn (Rb (Qfn_ret (hR := ?_)))
  exact ⟨41, by rw [hres]; rfl, by rw [hres]; simp, by rw [hres]; exact H31.turn⟩
 rw [if_neg (by omega)] at hres
 refine Sr (Mv ?_)
 refine Am ?_
 refine Qn (Cd rfl (fun hc37 => ?_) (fun hc37 => ?_))
 ·obtain ⟨⟨r, n⟩, hn⟩ := Option.isSome_iff_exists.1 hc37
  obtain ⟨_, hn1, hn2, _⟩ := next_some hn
  have hnp : nextP (l.drop at_) = (r, n) := by unfold nextP; rw [hn]; rfl
  rw [hn] at hres
  rw [hdl] at hn2
  rw [hnp]
  refine Sr (Mv ?_)
  refine Vv (Gives.nilCheck rfl) (Vf ?_)
  refine Ld H15 ?_
  refine Mv ?_
  refine Vv (Gives.addI (c := ((at_ + n : Nat) : Int)) rfl rfl (by show (at_ : Int) + (n : Int) = _; omega) (by omega)) (Vv (Gives.nilCheck rfl) ?_)
  refine Vf ?_
  refine FL_store H15 (h := fun w48 H48 => ?_)
  refine Nx (Mv ?_)
  refine Mv ?_
  refine Vv (Gives.sliceToT (l := l.drop at_) (i := n) rfl rfl (by omega)) (Am ?_)
  refine Qn (Rb (Qfn_ret (hR := ?_)))
  exact ⟨0, by rw [hres]; rfl, by rw [hres]; simp, by rw [hres]; exact H48.turn⟩
 have hn : nextL (l.drop at_) = none := by
  cases h : nextL (l.drop at_) with
  | none => rfl
  | some y => rw [h] at hc37; cases hc37
 rw [hn] at hres
 refine Sr (Mv ?_)
 refine FL_call (full_ok (l.drop at_) (by omega) (rdr_tabs hp hT H15.kept)) rfl rfl (fun v' w57 hv => ?_)
 obtain ⟨⟨bf, rfl⟩, hkk⟩ := hv
 have H57 := H15.keep hkk
 refine Vv (Gives.not rfl) (Am ?_)
 refine Qn (Cd rfl (fun hc60 => ?_) (fun hc60 => ?_))
 ·refine Sr (Mv ?_)
  obtain ⟨F0, hp0, hS0, hput0⟩ := H57.focus At0
  refine FL_call (fail_ok (l := l) 3 hp0) rfl rfl (fun v' w63 hv => ?_)
  obtain ⟨rfl, hkk, F1, hq, hs⟩ := hv
  have H63 := hput0 _ F1 _ hkk hq hs
  refine Nx (Am ?_)
  refine Qn (Rb (Qfn_ret (hR := ?_)))
  exact ⟨3, by rw [hres]; rfl, by rw [hres]; simp, by rw [hres]; exact H63.turn⟩
 refine FW_skip (Qblk_normal (Qseq_normal (Sr (Mv ?_))))
 obtain ⟨F0, hp0, hS0, hput0⟩ := H57.focus At0
 refine FL_call (fail_ok (l := l) 40 hp0) rfl rfl (fun v' w68 hv => ?_)
 obtain ⟨rfl, hkk, F1, hq, hs⟩ := hv
 have H68 := hput0 _ F1 _ hkk hq hs
 refine Nx (Am ?_)
 refine Qn (FW_ret (Qfn_ret (hR := ?_)))
 exact ⟨40, by rw [hres]; rfl, by rw [hres]; simp, by rw [hres]; exact H68.turn⟩
end
end Go.Proofs.YtolaedhdjcnijaaGreatDoor
namespace Go.Mw
open Go.RowKit
section
variable {P : Program} {r : Option Nat} {n : Nat} {ops : Array Oper} {Q : Post} {rest : List Oper} {σ : St} {w w₀ : World} {S : Nat → Prop} {rs : List HP} {put : HP → List HP} {ty : TypeId} {pos : String} {after : Array Edge}
theorem FL_rangeM {d : Nat} {x : Operand} {T k e : TypeId} [ht : IsMap P T k e] {bm : Nat} {es : Array MapEntry} {clock : Nat} (H : Sep w₀ S rs w) (hb : w.heap[bm]? = some (.map es clock)) (hx : evF σ x = .map (some bm) := by exact rfl) (hd : Nat.blt d n = true := by exact rfl)
    (h : ∀ b w', Sep w₀ S (obj b (.mapIter (some bm) clock #[] clock) :: rs) w' → FL P r n ops Q rest (upd σ d (.pointer (some ⟨b, 0, none⟩))) w') : FL P r n ops Q ({ dst := some d, op := .range T x, type := ty, pos := pos, after := after, guard := none } :: rest) σ w :=
  FL_val (fun _ _ _ _ => by
    have := run_range_map (P := P) w T k e bm es clock ht.und hb
    simp only [execOp, hx, Sem.run_bind, this, Result.andThen_ok, Sem.run_pure]) hd (h _ _ (H.alloc _))
theorem FL_nextM {d : Nat} {x : Operand} {b bm since c0 : Nat} {seen : Array Nat} {es : Array MapEntry} {clock : Nat} (H : Sep w₀ S rs w) (hat : At rs (obj b (.mapIter (some bm) since seen c0)) put) (hb : w.heap[bm]? = some (.map es clock)) (hold : ∀ x ∈ es.toList, x.born < since) (hsc : since ≤ c0)
    (h1 : ∀ en, en ∈ (leftOf es seen).toList → ∀ w', Sep w₀ S (put (obj b (.mapIter (some bm) since (seen.push en.born) clock))) w' → FL P r n ops Q rest (upd σ d (.tuple #[.bool true, en.key, en.val])) w')
    (h2 : (leftOf es seen).size = 0 → FL P r n ops Q rest (upd σ d (.tuple #[.bool false])) w) (hx : evF σ x = .pointer (some ⟨b, 0, none⟩) := by exact rfl) (hd : Nat.blt d n = true := by exact rfl) :
    FL P r n ops Q ({ dst := some d, op := .next x false, type := ty, pos := pos, after := after, guard := none } :: rest) σ w := by
  have hr := H.obj hat
  rcases run_next_at (P := P) w ty b bm since c0 seen es clock hr hb hold hsc with ⟨h0, hrun⟩ | ⟨en, hen, w1, hw1, hrun⟩
  · exact FL_val (fun _ _ _ _ => by simp only [execOp, hx, Sem.run_bind, hrun, Result.andThen_ok, Sem.run_pure]) hd (h2 h0)
  have hk1 : Kept noB w w1 := by
    rcases hw1 with rfl | rfl
    · exact Kept.refl _ _
    exact Kept.drew w
  have H1 := H.keep hk1
  have hlt := lt_of_get (H1.obj hat)
  refine FL_val (w' := Go.ChangeMaps.setBlock w1 b (.mapIter (some bm) since (seen.push en.born) clock)) (fun _ _ _ _ => by simp only [execOp, hx, Sem.run_bind, hrun, Result.andThen_ok, Sem.run_pure]) hd (h1 en hen _ (H1.setObj hat ⟨rfl, rfl, rfl, by simp [Go.ChangeMaps.setBlock], fun j hj hne => ?_⟩ (by simp [Go.ChangeMaps.setBlock, hlt])))
  simp only [Go.ChangeMaps.setBlock, Array.getElem?_setIfInBounds]; rw [if_neg (fun e => hne e.symm)]
theorem Gives.entryM {ρ : Operand → Value} {x : Operand} {b bm since : Nat} {seen : Array Nat} {es : Array MapEntry} {clock : Nat} {en : MapEntry} (hx : ρ x = .pointer (some ⟨b, 0, none⟩))
    (hr : w.heap[b]? = some (.mapIter (some bm) since (seen.push en.born) clock)) (hb : w.heap[bm]? = some (.map es clock)) (he : en ∈ es.toList) (hn : (es.toList.map (·.born)).Nodup) : Gives P ρ (.entry x) ty w (.tuple #[en.key, en.val]) w := fun _ _ _ _ => by
  have := run_entry_at (P := P) w b bm since seen es clock en hr hb he hn
  simp only [execOp, hx, Sem.run_bind, this, Result.andThen_ok, Sem.run_pure]
end
end Go.Mw
namespace Go.Proofs.YtolaedhdjcnijaaGreatDoor
open Go Go.Mw Go.Lib
set_option maxRecDepth 4000
def backM (c : UInt8) : Option UInt8 := if c = 34 then some 34 else if c = 92 then some 92 else if c = 98 then some 8 else if c = 102 then some 12 else if c = 110 then some 10 else if c = 114 then some 13 else if c = 116 then some 9 else none
theorem shorts_born : ∀ x ∈ shortsA.toList, x.born < 7 := by
 intro x hx
 simp only [shortsA, List.mem_cons, List.not_mem_nil, or_false] at hx
 rcases hx with rfl | rfl | rfl | rfl | rfl | rfl | rfl <;> exact (by decide)
theorem shorts_nodup : (shortsA.toList.map (·.born)).Nodup := by
 show [0, 1, 2, 3, 4, 5, 6].Nodup
 decide
theorem shorts_ent {x : MapEntry} (hx : x ∈ shortsA.toList) : ∃ k v : UInt8, x.key = .int .i32 (k.toNat : Int) ∧ x.val = B v ∧ k.toNat < 128 ∧ ∀ c : UInt8, c = v → backM c = some k := by
 simp only [shortsA, List.mem_cons, List.not_mem_nil, or_false] at hx
 rcases hx with rfl | rfl | rfl | rfl | rfl | rfl | rfl
 ·exact ⟨34, 34, rfl, rfl, by decide, fun c h => by subst h; rfl⟩
 ·exact ⟨92, 92, rfl, rfl, by decide, fun c h => by subst h; rfl⟩
 ·exact ⟨8, 98, rfl, rfl, by decide, fun c h => by subst h; rfl⟩
 ·exact ⟨12, 102, rfl, rfl, by decide, fun c h => by subst h; rfl⟩
 ·exact ⟨10, 110, rfl, rfl, by decide, fun c h => by subst h; rfl⟩
 ·exact ⟨13, 114, rfl, rfl, by decide, fun c h => by subst h; rfl⟩
 exact ⟨9, 116, rfl, rfl, by decide, fun c h => by subst h; rfl⟩
theorem back_none {c : UInt8} (h : ∀ x ∈ shortsA.toList, x.val ≠ B c) : backM c = none := by
 have g : ∀ (k : Int) (v : UInt8) (b : Nat), shortE k (v.toNat : Int) b ∈ shortsA.toList → c ≠ v := fun k v b hm e => h _ hm (by rw [e]; rfl)
 unfold backM
 rw [if_neg (g 34 34 0 (by simp [shortsA])), if_neg (g 92 92 1 (by simp [shortsA])), if_neg (g 8 98 2 (by simp [shortsA])), if_neg (g 12 102 3 (by simp [shortsA])), if_neg (g 10 110 4 (by simp [shortsA])), if_neg (g 13 114 5 (by simp [shortsA])), if_neg (g 9 116 6 (by simp [shortsA]))]
theorem B_inj {a b : UInt8} (h : B a = B b) : a = b := by
 injection h with _ h
 exact UInt8.toNat_inj.1 (by omega)
def escQ (l : List UInt8) (n : Nat) (g : Nat × Nat × Int) : List UInt8 × Nat × Int := (if g.2.2 ≠ 0 then [] else encL (65536 + 1024 * ((n : Int) - 55296) + g.1 - 56320), g.2.1, g.2.2)
def escP (l : List UInt8) (n : Nat) (a : Nat × Int) : List UInt8 × Nat × Int := escQ l n (halfS l (wantS l a.1 a.2 117).1 (wantS l a.1 a.2 117).2 true)
def escG (l : List UInt8) (h : Nat × Nat × Int) : List UInt8 × Nat × Int :=
 if 55296 ≤ h.1 ∧ h.1 < 56320 then escP l h.1 (wantS l h.2.1 h.2.2 92) else (if h.2.2 ≠ 0 then [] else encL (h.1 : Int), h.2.1, h.2.2)
def escT' (l : List UInt8) (t : UInt8 × Nat × Int) : List UInt8 × Nat × Int :=
 if t.1 = 47 then ([47], t.2.1, t.2.2)
 else match backM t.1 with
  | some k => ([k], t.2.1, t.2.2)
  | none => escG l (halfS l t.2.1 (if t.1 = 117 then t.2.2 else failS t.2.2 41) false)
def escS (l : List UInt8) (at_ : Nat) (e : Int) : List UInt8 × Nat × Int := escT' l (takeS' l at_ e)
theorem half_lt (l : List UInt8) (at_ : Nat) (e : Int) (s : Bool) : (halfS l at_ e s).1 < 65536 := by
 have h0 := digit_lt l at_ e
 have h1 := digit_lt l (digitS l at_ e).2.1 (if s = true ∧ (digitS l at_ e).1 ≠ 13 then failS (digitS l at_ e).2.2 41 else (digitS l at_ e).2.2)
 unfold halfS
 dsimp only
 have h2 : ∀ a b, (digitS l a b).1 < 16 := fun a b => digit_lt l a b
 generalize hg : digitS l at_ e = d0 at *
 have a1 := h2 d0.2.1 (if s = true ∧ d0.1 ≠ 13 then failS d0.2.2 41 else d0.2.2)
 generalize digitS l d0.2.1 (if s = true ∧ d0.1 ≠ 13 then failS d0.2.2 41 else d0.2.2) = d1 at *
 have a2 := h2 d1.2.1 (if s ≠ decide (220 ≤ 16 * d0.1 + d1.1 ∧ 16 * d0.1 + d1.1 ≤ 223) then failS d1.2.2 41 else d1.2.2)
 generalize digitS l d1.2.1 (if s ≠ decide (220 ≤ 16 * d0.1 + d1.1 ∧ 16 * d0.1 + d1.1 ≤ 223) then failS d1.2.2 41 else d1.2.2) = d2 at *
 have a3 := h2 d2.2.1 d2.2.2
 generalize digitS l d2.2.1 d2.2.2 = d3 at *
 omega
section
variable {w : World} {l : List UInt8}
theorem escape_ok' {b at_ : Nat} {e : Int} {F : Nat → Prop} (hp : (rdrH b l at_ e).ok F w) (hl : l.length ≤ 1000000) (ha : at_ ≤ l.length) : Rets Tryz.prog 203 [selfP b] w fun r w' => r = str (escS l at_ e).1 ∧ Turn F (rdrH b l (escS l at_ e).2.1 (escS l at_ e).2.2) w w' := by
 have H := Sep.start1 hp
 obtain ⟨res, hres⟩ : ∃ res, res = escS l at_ e := ⟨_, rfl⟩
 rw [← hres]
 unfold escS escT' escG escP escQ at hres
 have hta := take_at (e := e) ha
 obtain ⟨t, ht⟩ : ∃ t, t = takeS' l at_ e := ⟨_, rfl⟩
 rw [← ht] at hta hres
 have htl := t.1.toNat_lt
 refine rets1 Tryz.func203 rfl rfl rfl rfl ?_
 refine Sr (Am ?_)
 refine Nx (Mv ?_)
 obtain ⟨F0, hp0, hS0, hput0⟩ := H.focus At0
 refine FL_call (take_ok' (l := l) hp0 hl ha) rfl rfl (fun v' w4 hv => ?_)
 obtain ⟨rfl, hkk, F1, hq, hs⟩ := hv
 have H4 := hput0 _ F1 _ hkk hq hs
 rw [← ht]
 rw [← ht] at H4
 refine Am ?_
 refine Qn (FW_seq (Sr (Mv ?_)))
 refine Ve ?_
 refine Qn (Cp rfl (fun hc8 => ?_) (fun hc8 => ?_))
 ·have h47 : t.1 = 47 := UInt8.toNat_inj.1 (by have h := hc8; show t.1.toNat = 47; omega)
  rw [if_pos h47] at hres
  refine Sr (Am ?_)
  refine Qn (Rs (Qfn_ret (hR := ?_)))
  exact ⟨by rw [hres]; rfl, by rw [hres]; exact H4.turn⟩
 rw [if_neg (fun h => by rw [h] at hc8; exact hc8 rfl)] at hres
 refine Sk (FW_seq (Sr (FL_call (short_ok) rfl rfl (fun v' w14 hv => ?_))))
 obtain ⟨m, rfl, _, hkk, F1, hq2, hsub⟩ := hv
 have H14 := H4.new hkk hq2 (fun b hb => (hsub b hb).resolve_left id)
 refine FL_rangeM H14 (H14.obj At0) (h := fun k w16 H16 => ?_)
 refine Qn (FW_block (FW_loop' (fun _ : Array Nat × Nat => [(0, selfP b), (3, B t.1), (12, .pointer (some ⟨k, 0, none⟩))]) (fun x w' => (7 ≤ x.2 ∧ ∀ y ∈ shortsA.toList, x.1.contains y.born = true → y.val ≠ B t.1) ∧ Sep w F [obj k (.mapIter (some m) 7 x.1 x.2), obj m (.map shortsA 7), rdrH b l t.2.1 t.2.2] w') (fun x _ => (leftOf shortsA x.1).size) (#[], 7) ⟨rfl, rfl, rfl, trivial⟩ ⟨⟨Nat.le_refl _, fun y _ hy => by simp at hy⟩, H16⟩ (fun x τ w18 hI => ?_)))
 obtain ⟨seen, c0⟩ := x
 obtain ⟨⟨hc0, hseen⟩, H18⟩ := hI
 dsimp only at hc0 hseen H18
 try simp only [upds, like, upd_ds, und_ds]
 refine Sr (FL_nextM H18 At0 (H18.obj At1) shorts_born hc0 (h1 := fun en hn19 w21 H21 => ?_) (h2 := fun hn19 => ?_))
 ·obtain ⟨hmem, hns⟩ := mem_left hn19
  obtain ⟨kk, vv, hke, hva, hk128, hbk⟩ := shorts_ent hmem
  have hshr := left_shrinks shortsA seen en hn19
  refine Vx ?_
  refine Qn (FW_seq (FW_cond_true rfl ?_))
  refine Sk (FW_block (Sr (Vv (Gives.entryM rfl (H21.obj At0) (H21.obj At1) hmem shorts_nodup) ?_)))
  rw [hke, hva]
  refine Vx ?_
  refine Vx ?_
  refine Am ?_
  refine Am ?_
  refine Nx (Mv ?_)
  refine Mv ?_
  refine Ve ?_
  refine Qn (Cp rfl (fun hc32 => ?_) (fun hc32 => ?_))
  ·have hvt : vv = t.1 := UInt8.toNat_inj.1 (by have h := hc32; omega)
   rw [hbk t.1 hvt.symm] at hres
   dsimp only at hres
   refine Sr (Mv ?_)
   refine Vv (Gives.runeT rfl) ?_
   rw [encL_eq kk.toNat (by omega) (by omega), show encodeRune (kk.toNat : Int) = [kk] from by unfold encodeRune; rw [encodeRuneZ_one (by omega) (by omega)]; simp]
   refine Am ?_
   refine Qn (FW_ret (Qblk_ret (Qround_ret (Qblk_ret (Qseq_ret (Qfn_ret (hR := ?_)))))))
   exact ⟨by rw [hres]; rfl, by rw [hres]; exact (H21.front2).firsts (l := [_]).turn⟩
  have hvt : vv ≠ t.1 := fun h => hc32 (by rw [h])
  refine FW_skip (Qblk_normal ?_)
  exact Qround_normal (seen.push en.born, 7) ⟨rfl, rfl, rfl, trivial⟩ ⟨⟨Nat.le_refl _, fun y hy hyc => by
  rw [contains_push] at hyc
  cases hsy : seen.contains y.born with
  | true => exact hseen y hy hsy
  | false =>
   rw [hsy, Bool.false_or, beq_iff_eq] at hyc
   have := born_inj shorts_nodup hy hmem hyc
   rw [this, hva]
   exact fun h => hvt (B_inj h)⟩, H21⟩ hshr
 have hall := all_seen shortsA seen hn19
 have hbn := back_none (fun x hx => hseen x hx (hall x hx))
 rw [hbn] at hres
 dsimp only at hres
 obtain ⟨e1, he1⟩ : ∃ e1, e1 = if t.1 = 117 then t.2.2 else failS t.2.2 41 := ⟨_, rfl⟩
 rw [← he1] at hres
 have hhl := half_lt l t.2.1 e1 false
 have hha := half_at (e := e1) (s := false) hta
 obtain ⟨h, hh⟩ : ∃ h, h = halfS l t.2.1 e1 false := ⟨_, rfl⟩
 rw [← hh] at hres hhl hha
 refine Vx ?_
 refine Qn (FW_seq (FW_cond_false rfl ?_))
 refine FW_exit (Qseq_exit (Qround_exit (Qblk_exit (Qseq_normal (FW_cut (fun _ : Unit => [(0, selfP b)]) (fun _ w' => Sep w F [rdrH b l t.2.1 e1] w') ?_ ?_)))))
 ·refine Sr (Mv ?_)
  refine Vn ?_
  refine Qn (Cp rfl (fun hc45 => ?_) (fun hc45 => ?_))
  ·have hee : failS t.2.2 41 = e1 := by rw [he1, if_neg (fun h => hc45 (by rw [h]; rfl))]
   refine FW_region (Mv ?_)
   obtain ⟨F0, hp0, hS0, hput0⟩ := H18.focus At2
   refine FL_call (fail_ok (l := l) 41 hp0) rfl rfl (fun v' w49 hv => ?_)
   obtain ⟨rfl, hkk, F1, hq, hs⟩ := hv
   have H49 := hput0 _ F1 _ hkk hq hs
   refine FL_nil ?_
   rw [hee] at H49; exact Qcut_normal () ⟨rfl, trivial⟩ ((H49.front2).firsts (l := [_]))
  have hee : t.2.2 = e1 := by rw [he1, if_pos (UInt8.toNat_inj.1 (by have h := hc45; show t.1.toNat = 117; omega))]
  refine FW_skip ?_
  rw [hee] at H18; exact Qcut_normal () ⟨rfl, trivial⟩ ((H18.front2).firsts (l := [_]))
 intro _ τ w54 H54
 simp only [upds, like, upd_ds]
 refine Sr (Mv ?_)
 obtain ⟨F0, hp0, hS0, hput0⟩ := H54.focus At0
 refine FL_call (half_ok' (l := l) false hp0 hl hta) rfl rfl (fun v' w57 hv => ?_)
 obtain ⟨rfl, hkk, F1, hq, hs⟩ := hv
 have H57 := hput0 _ F1 _ hkk hq hs
 rw [← hh]
 rw [← hh] at H57
 refine Am ?_
 refine Qn (FW_cut (fun z : Int × Nat × Int => [(0, selfP b), (6, I32 z.1)]) (fun z w' => res = (if z.2.2 ≠ 0 then [] else encL z.1, z.2.1, z.2.2) ∧ Sep w F [rdrH b l z.2.1 z.2.2] w') ?_ ?_)
 ·refine Sr (Mv ?_)
  refine Vv (Gives.geq rfl rfl) (Mv ?_)
  refine FL_splitP (t := 31) rfl (fun hs63 => ?_) (fun hs63 => ?_)
  ·have hge := hs63
   refine On (Mv ?_)
   refine On (Vl ?_)
   refine Pt ?_
   refine Qn (Cp rfl (fun hc68 => ?_) (fun hc68 => ?_))
   ·have hyes : 55296 ≤ h.1 ∧ h.1 < 56320 := by have h2 := hc68; omega
    rw [if_pos hyes] at hres
    have hwa := want_at (c := 92) (e := h.2.2) hha
    obtain ⟨a, haa⟩ : ∃ a, a = wantS l h.2.1 h.2.2 92 := ⟨_, rfl⟩
    rw [← haa] at hres hwa
    have hwb := want_at (c := 117) (e := a.2) hwa
    obtain ⟨d, hdd⟩ : ∃ d, d = wantS l a.1 a.2 117 := ⟨_, rfl⟩
    rw [← hdd] at hres hwb
    have hgl := half_lt l d.1 d.2 true
    obtain ⟨g, hgg⟩ : ∃ g, g = halfS l d.1 d.2 true := ⟨_, rfl⟩
    rw [← hgg] at hres hgl
    refine Sr (Mv ?_)
    obtain ⟨F0, hp0, hS0, hput0⟩ := H57.focus At0
    refine FL_call (want_ok' (l := l) 92 hp0 hl hha) rfl rfl (fun v' w72 hv => ?_)
    obtain ⟨rfl, hkk, F1, hq, hs⟩ := hv
    have H72 := hput0 _ F1 _ hkk hq hs
    rw [← haa] at H72
    refine Nx (Mv ?_)
    obtain ⟨F0, hp0, hS0, hput0⟩ := H72.focus At0
    refine FL_call (want_ok' (l := l) 117 hp0 hl hwa) rfl rfl (fun v' w75 hv => ?_)
    obtain ⟨rfl, hkk, F1, hq, hs⟩ := hv
    have H75 := hput0 _ F1 _ hkk hq hs
    rw [← hdd] at H75
    refine Qn (FW_region (Mv ?_))
    refine Vv (Gives.subW (c := (h.1 : Int) - 55296) rfl rfl (by rw [IntKind.wrap_i32]; omega)) ?_
    refine Vv (Gives.shlE (c := 1024 * ((h.1 : Int) - 55296)) rfl rfl (by omega) (by show IntKind.i32.wrap (((h.1 : Int) - 55296) * 1024) = _; rw [IntKind.wrap_i32]; omega)) (Vv (Gives.addW (c := 65536 + 1024 * ((h.1 : Int) - 55296)) rfl rfl (by rw [IntKind.wrap_i32]; omega)) ?_)
    refine Mv ?_
    obtain ⟨F0, hp0, hS0, hput0⟩ := H75.focus At0
    refine FL_call (half_ok' (l := l) true hp0 hl hwb) rfl rfl (fun v' w82 hv => ?_)
    obtain ⟨rfl, hkk, F1, hq, hs⟩ := hv
    have H82 := hput0 _ F1 _ hkk hq hs
    rw [← hgg]
    rw [← hgg] at H82
    refine Vv (Gives.addW (c := 65536 + 1024 * ((h.1 : Int) - 55296) + g.1) rfl rfl (by rw [IntKind.wrap_i32]; omega)) ?_
    refine Vv (Gives.subW (c := 65536 + 1024 * ((h.1 : Int) - 55296) + g.1 - 56320) rfl rfl (by rw [IntKind.wrap_i32]; omega)) ?_
    refine Am ?_
    refine FL_nil ?_
    exact Qcut_normal (65536 + 1024 * ((h.1 : Int) - 55296) + g.1 - 56320, g.2.1, g.2.2) ⟨rfl, rfl, trivial⟩ ⟨hres, H82⟩
   have hno : ¬ (55296 ≤ h.1 ∧ h.1 < 56320) := by have h2 := hc68; omega
   rw [if_neg hno] at hres
   refine FW_skip ?_
   exact Qcut_normal ((h.1 : Int), h.2.1, h.2.2) ⟨rfl, rfl, trivial⟩ ⟨hres, H57⟩
  have hno : ¬ (55296 ≤ h.1 ∧ h.1 < 56320) := by have h2 := hs63; omega
  rw [if_neg hno] at hres
  refine Of (Of (Pf ?_))
  refine Qn (FW_cond_false rfl ?_)
  refine FW_skip ?_
  exact Qcut_normal ((h.1 : Int), h.2.1, h.2.2) ⟨rfl, rfl, trivial⟩ ⟨hres, H57⟩
 rintro ⟨n2, a2, e2⟩ τ w93 ⟨hr2, H93⟩
 dsimp only at hr2 H93
 simp only [upds, like, upd_ds]
 refine FW_seq (Sr (Mv ?_))
 refine Vv (Gives.nilCheck rfl) (Vf ?_)
 refine Ld H93 ?_
 refine Vn ?_
 refine Qn (Cp rfl (fun hc99 => ?_) (fun hc99 => ?_))
 ·rw [if_pos hc99] at hr2
  refine Sr (Am ?_)
  refine Qn (Rs (Qfn_ret (hR := ?_)))
  exact ⟨by rw [hr2]; rfl, by rw [hr2]; exact H93.turn⟩
 rw [if_neg hc99] at hr2
 refine Sk (Sr (Mv ?_))
 refine Vv (Gives.runeT rfl) (Am ?_)
 refine Qn (FW_ret (Qfn_ret (hR := ?_)))
 exact ⟨by rw [hr2]; rfl, by rw [hr2]; exact H93.turn⟩
end
end Go.Proofs.YtolaedhdjcnijaaGreatDoor
namespace Go.Mw
open Go.RowKit
section
variable {P : Program} {r : Option Nat} {n : Nat} {ops : Array Oper} {Q : Post} {rest : List Oper} {σ : St} {w w₀ : World} {S : Nat → Prop} {rs : List HP} {put : HP → List HP} {ty : TypeId} {pos : String} {after : Array Edge}
theorem FL_appendT0 {d : Nat} {x y : Operand} {t u e : TypeId} [hs : IsSlice P t e] [hu : IsStr P u] [hc : Cells P e 1 1] [hz : Zero P e (.int .u8 0)]
    (H : Sep w₀ S rs w) (hat : At rs (bytesH e (.slice none 0 0) []) put) (hx : evF σ x = .slice none 0 0 := by exact rfl) (hy : evF σ y = str [] := by exact rfl) (hd : Nat.blt d n = true := by exact rfl)
    (h : ∀ w', Sep w₀ S (put (bytesH e (.slice none 0 0) [])) w' → FL P r n ops Q rest (upd σ d (.slice none 0 0)) w') :
    FL P r n ops Q ({ dst := some d, op := .call { callee := .builtin .append, args := #[x, y], argTypes := #[t, u] }, type := ty, pos := pos, after := after, guard := none } :: rest) σ w := by
  obtain ⟨F, hp, _, _⟩ := H.focus hat
  obtain ⟨i, hi, hsb⟩ := Option.map_eq_some_iff.1 hc.size
  simp only [Prod.mk.injEq] at hsb
  have hzero : i.zero = some (.int .u8 0) := by
    have := hz.run w
    simp [zeroValue, typeInfo, hi] at this
    cases hq : i.zero with
    | none => simp [hq] at this
    | some u => simp [hq] at this; rw [this]
  obtain ⟨v', w', hrun, h1, h2, h3⟩ := Lib.run_append_own_string (P := P) w 0 t u ty e i hs.und hu.und hi hzero hsb.1 hsb.2 (.slice none 0 0) 0 [] hp.1 ⟨#[]⟩ (by decide) (by decide) (Nat.zero_le _)
  have hv := h3.2 ⟨rfl, rfl⟩
  subst hv
  refine FL_val (v := .slice none 0 0) (w' := w') (fun _ _ _ _ => ?_) hd (h w' (H.rowTurn hat h2 h1 (.inl rfl)))
  have hrun' : (Builtin.append_ #[t, u] ty #[.slice none 0 0, .string ⟨#[]⟩]).run P w = .ok (.slice none 0 0) w' := hrun
  simp only [execOp, resolve, invoke, builtin, Sem.run_bind, Sem.run_pure, Result.andThen_ok, List.map_toArray, List.map_cons, List.map_nil, hx, hy, str, hrun']
end
end Go.Mw
namespace Go.Proofs.YtolaedhdjcnijaaGreatDoor
open Go Go.Mw Go.Lib
set_option maxRecDepth 4000
section
variable {w : World} {l : List UInt8}
theorem writeString_gen {b : Nat} {l news : List UInt8} {F : Nat → Prop} (hne : l ++ news ≠ []) (hp : (bldH b l).ok F w) (hl : l.length + news.length ≤ 100000000) : Rets Tryz.prog 79 [selfP b, str news] w fun r w' => r = .tuple #[I news.length, .nilIface] ∧ Turn F (bldH b (l ++ news)) w w' := by
 obtain ⟨a, v, ha, H⟩ := Sep.openB (Sep.start1 hp)
 refine rets2 Tryz.func79 rfl rfl rfl rfl ?_
 refine Sr (Am ?_)
 refine Am ?_
 refine Nx (Mv ?_)
 obtain ⟨F0, hp0, hS0, hput0⟩ := H.focus At0
 refine FL_call (check_ok ha.1 hp0) rfl rfl (fun v' w5 hv => ?_)
 obtain ⟨rfl, hkk, F1, hq, hs⟩ := hv
 have H5 := hput0 _ F1 _ hkk hq hs
 refine Nx (Mv ?_)
 refine Mv ?_
 refine Vv (Gives.nilCheck rfl) (Vf ?_)
 refine Ld H5 ?_
 refine Mv ?_
 refine FL_appendT H5 (news := news) At1 (by omega) (h := ?_)
 intro v2 w13 H13
 obtain ⟨A2, c2, rfl, _⟩ := Sep.rowForm H13 At1
 refine Vv (Gives.nilCheck rfl) (Vf ?_)
 refine FL_store H13 (h := fun w17 H17 => ?_)
 refine Nx (Mv ?_)
 refine Vt ?_
 refine Am ?_
 refine Am ?_
 refine Qn (FW_ret (Qfn_ret (hR := ?_)))
 exact ⟨rfl, (Sep.shutB ⟨.inr rfl, fun e => absurd e hne⟩ H17).turn⟩
theorem writeString_nil {b : Nat} {F : Nat → Prop} (hp : (bldH b []).ok F w) : Rets Tryz.prog 79 [selfP b, str []] w fun r w' => r = .tuple #[I 0, .nilIface] ∧ Turn F (bldH b []) w w' := by
 obtain ⟨a, v, ha, H⟩ := Sep.openB (Sep.start1 hp)
 have hv := ha.2 rfl
 subst hv
 refine rets2 Tryz.func79 rfl rfl rfl rfl ?_
 refine Sr (Am ?_)
 refine Am ?_
 refine Nx (Mv ?_)
 obtain ⟨F0, hp0, hS0, hput0⟩ := H.focus At0
 refine FL_call (check_ok ha.1 hp0) rfl rfl (fun v' w5 hv => ?_)
 obtain ⟨rfl, hkk, F1, hq, hs⟩ := hv
 have H5 := hput0 _ F1 _ hkk hq hs
 refine Nx (Mv ?_)
 refine Mv ?_
 refine Vv (Gives.nilCheck rfl) (Vf ?_)
 refine Ld H5 ?_
 refine Mv ?_
 refine FL_appendT0 H5 At1 (h := fun w13 H13 => ?_)
 refine Vv (Gives.nilCheck rfl) (Vf ?_)
 refine FL_store H13 (h := fun w17 H17 => ?_)
 refine Nx (Mv ?_)
 refine Vt ?_
 refine Am ?_
 refine Am ?_
 refine Qn (FW_ret (Qfn_ret (hR := ?_)))
 exact ⟨rfl, (Sep.shutB ⟨.inr rfl, fun _ => rfl⟩ H17).turn⟩
theorem writeString_any {b : Nat} {l news : List UInt8} {F : Nat → Prop} (hp : (bldH b l).ok F w) (hl : l.length + news.length ≤ 100000000) : Rets Tryz.prog 79 [selfP b, str news] w fun r w' => r = .tuple #[I news.length, .nilIface] ∧ Turn F (bldH b (l ++ news)) w w' := by
 by_cases h : l ++ news = []
 ·obtain ⟨rfl, rfl⟩ := List.append_eq_nil_iff.1 h
  exact writeString_nil hp
 exact writeString_gen h hp hl
end
end Go.Proofs.YtolaedhdjcnijaaGreatDoor
namespace Go.Proofs.YtolaedhdjcnijaaGreatDoor
open Go Go.Mw Go.Lib
theorem failS_ne (e : Int) : failS e 41 ≠ 0 := by
 unfold failS
 split
 ·decide
 assumption
theorem take_stick {l : List UInt8} {a : Nat} {e : Int} (h : e ≠ 0) : takeS' l a e = (0, a, e) := if_pos h
theorem errD {l : List UInt8} {a : Nat} {e : Int} (h : e ≠ 0) : (digitS l a e).2.2 ≠ 0 := by
 unfold digitS
 rw [take_stick h]
 show (failS e 41) ≠ 0
 exact failS_ne e
theorem errI {e : Int} {p : Prop} [Decidable p] (h : e ≠ 0) : (if p then failS e 41 else e) ≠ 0 := by
 split
 ·exact failS_ne e
 exact h
theorem errW {l : List UInt8} {a : Nat} {e : Int} {c : UInt8} (h : e ≠ 0) : (wantS l a e c).2 ≠ 0 := by
 unfold wantS
 rw [take_stick h]
 dsimp only
 split
 ·exact h
 exact failS_ne e
theorem errH {l : List UInt8} {a : Nat} {e : Int} {s : Bool} (h : e ≠ 0) : (halfS l a e s).2.2 ≠ 0 := by
 unfold halfS
 exact errD (errD (errI (errD (errI (errD h)))))
theorem dig_none {l : List UInt8} {a : Nat} (ha : a ≤ l.length) (h : l[a]? = none) : (digitS l a 0).2.2 ≠ 0 := by
 have : a = l.length := by have := List.getElem?_eq_none_iff.1 h; omega
 unfold digitS takeS'
 rw [if_neg (by simp), if_pos this]
 show failS 3 41 ≠ 0
 exact failS_ne 3
theorem take_some {l : List UInt8} {a : Nat} {c : UInt8} (h : l[a]? = some c) : takeS' l a 0 = (c, a + 1, 0) := by
 have := (List.getElem?_eq_some_iff.1 h).1
 unfold takeS'
 rw [if_neg (by simp), if_neg (by omega), List.getD_eq_getElem?_getD, h]; rfl
theorem dig_bad {l : List UInt8} {a : Nat} {c : UInt8} (h : l[a]? = some c) (hd : digitL c = none) : (digitS l a 0).2.2 ≠ 0 := by
 unfold digitS
 rw [take_some h]
 dsimp only
 rw [hd]
 exact failS_ne 0
theorem dig_ok {l : List UInt8} {a d : Nat} {c : UInt8} (h : l[a]? = some c) (hd : digitL c = some d) : digitS l a 0 = (d, a + 1, 0) := by
 unfold digitS
 rw [take_some h]
 dsimp only
 rw [hd]
theorem half_law {l : List UInt8} {a : Nat} {s : Bool} (ha : a ≤ l.length) : ((halfL (l.drop a) s).2 = 0 → halfS l a 0 s = ((halfL (l.drop a) s).1, a + 4, 0)) ∧ ((halfL (l.drop a) s).2 ≠ 0 → (halfS l a 0 s).2.2 ≠ 0) := by
 unfold halfL
 simp only [List.getElem?_drop, Nat.add_zero]
 unfold halfS
 cases h0 : l[a]? with
 | none => exact ⟨fun h => absurd h (show ¬ (3 : Int) = 0 by decide), fun _ => errD (errD (errI (errD (errI (dig_none ha h0)))))⟩
 | some c0 =>
 have hl0 := (List.getElem?_eq_some_iff.1 h0).1
 dsimp only
 cases g0 : digitL c0 with
 | none => exact ⟨fun h => absurd h (show ¬ (41 : Int) = 0 by decide), fun _ => errD (errD (errI (errD (errI (dig_bad h0 g0)))))⟩
 | some d0 =>
 rw [dig_ok h0 g0]
 dsimp only
 by_cases hs : s = true ∧ d0 ≠ 13
 ·rw [if_pos hs, if_pos hs]
  exact ⟨fun h => absurd h (show ¬ (41 : Int) = 0 by decide), fun _ => errD (errD (errI (errD (failS_ne 0))))⟩
 rw [if_neg hs, if_neg hs]
 cases h1 : l[a + 1]? with
 | none => exact ⟨fun h => absurd h (show ¬ (3 : Int) = 0 by decide), fun _ => errD (errD (errI (dig_none (by omega) h1)))⟩
 | some c1 =>
 have hl1 := (List.getElem?_eq_some_iff.1 h1).1
 dsimp only
 cases g1 : digitL c1 with
 | none => exact ⟨fun h => absurd h (show ¬ (41 : Int) = 0 by decide), fun _ => errD (errD (errI (dig_bad h1 g1)))⟩
 | some d1 =>
 rw [dig_ok h1 g1]
 dsimp only
 by_cases hs2 : s ≠ decide (220 ≤ 16 * d0 + d1 ∧ 16 * d0 + d1 ≤ 223)
 ·rw [if_pos hs2, if_pos hs2]
  exact ⟨fun h => absurd h (show ¬ (41 : Int) = 0 by decide), fun _ => errD (errD (failS_ne 0))⟩
 rw [if_neg hs2, if_neg hs2]
 cases h2 : l[a + 2]? with
 | none => exact ⟨fun h => absurd h (show ¬ (3 : Int) = 0 by decide), fun _ => errD (dig_none (by omega) h2)⟩
 | some c2 =>
 have hl2 := (List.getElem?_eq_some_iff.1 h2).1
 dsimp only
 cases g2 : digitL c2 with
 | none => exact ⟨fun h => absurd h (show ¬ (41 : Int) = 0 by decide), fun _ => errD (dig_bad h2 g2)⟩
 | some d2 =>
 have e2 : digitS l (a + 1 + 1) 0 = (d2, a + 1 + 1 + 1, 0) := dig_ok h2 g2
 rw [e2]
 dsimp only
 cases h3 : l[a + 3]? with
 | none => exact ⟨fun h => absurd h (show ¬ (3 : Int) = 0 by decide), fun _ => dig_none (by omega) h3⟩
 | some c3 =>
 dsimp only
 cases g3 : digitL c3 with
 | none => exact ⟨fun h => absurd h (show ¬ (41 : Int) = 0 by decide), fun _ => dig_bad h3 g3⟩
 | some d3 =>
 have e3 : digitS l (a + 1 + 1 + 1) 0 = (d3, a + 1 + 1 + 1 + 1, 0) := dig_ok h3 g3
 rw [e3]
 exact ⟨fun _ => rfl, fun h => absurd rfl h⟩
theorem encL_bad (r : Nat) (v : Utf8.valid (r : Int) = false) : (Utf8.encode (r : Int)).data.toList = [239, 191, 189] := by
 simp [Utf8.encode, v, Utf8.runeError]
theorem encL_all (r : Nat) : encL (r : Int) = encodeRune (r : Int) := by
 by_cases h : r ≤ 1114111 ∧ (r < 55296 ∨ 57343 < r)
 ·exact encL_eq r h.1 h.2
 have v : Utf8.valid (r : Int) = false := by simp [Utf8.valid]; omega
 rw [encL_of _ _ (encL_bad r v)]
 unfold encodeRune
 rw [encodeRuneZ_bad (by omega)]
 rfl
theorem want_none {l : List UInt8} {a : Nat} {c : UInt8} (ha : a ≤ l.length) (h : l[a]? = none) : (wantS l a 0 c).2 ≠ 0 := by
 have : a = l.length := by have := List.getElem?_eq_none_iff.1 h; omega
 unfold wantS takeS'
 rw [if_neg (by simp), if_pos this]
 dsimp only
 split
 ·decide
 exact failS_ne 3
theorem want_bad {l : List UInt8} {a : Nat} {c x : UInt8} (h : l[a]? = some x) (hne : x ≠ c) : (wantS l a 0 c).2 ≠ 0 := by
 unfold wantS
 rw [take_some h]
 dsimp only
 rw [if_neg hne]
 exact failS_ne 0
theorem want_ok {l : List UInt8} {a : Nat} {c : UInt8} (h : l[a]? = some c) : wantS l a 0 c = (a + 1, 0) := by
 unfold wantS
 rw [take_some h]
 dsimp only
 rw [if_pos rfl]
theorem shortL_eq (c : UInt8) : shortL c = if c = 47 then some 47 else backM c := by
 unfold shortL backM
 by_cases h1 : c = 34
 ·subst h1; rfl
 by_cases h2 : c = 92
 ·subst h2; rfl
 by_cases h3 : c = 47
 ·subst h3; rfl
 simp only [h1, h2, h3, if_false]
theorem back0 : backM 0 = none := by decide
theorem errQ {l : List UInt8} {n : Nat} {g : Nat × Nat × Int} (h : g.2.2 ≠ 0) : (escQ l n g).2.2 ≠ 0 := h
theorem errP {l : List UInt8} {n : Nat} {a : Nat × Int} (h : a.2 ≠ 0) : (escP l n a).2.2 ≠ 0 := errQ (errH (errW h))
theorem errG {l : List UInt8} {h : Nat × Nat × Int} (he : h.2.2 ≠ 0) : (escG l h).2.2 ≠ 0 := by
 unfold escG
 split
 ·exact errP (errW he)
 exact he
attribute [local irreducible] halfS wantS halfL digitS failS
theorem pair_law {l : List UInt8} {i r : Nat} (hi : i + 6 ≤ l.length) (hr : 55296 ≤ r) : ((escT (l.drop i) r).2.2 = 0 → escP l r (wantS l (i + 6) 0 92) = ((escT (l.drop i) r).1, i + (escT (l.drop i) r).2.1, 0)) ∧ ((escT (l.drop i) r).2.2 ≠ 0 → (escP l r (wantS l (i + 6) 0 92)).2.2 ≠ 0) := by
 have hd8 : (l.drop i).drop 8 = l.drop (i + 8) := by rw [List.drop_drop]
 unfold escT
 rw [List.getElem?_drop, List.getElem?_drop, hd8]
 cases h6 : l[i + 6]? with
 | none => exact ⟨fun h => absurd h (show ¬ (3 : Int) = 0 by decide), fun _ => errP (want_none hi h6)⟩
 | some c6 =>
 have hl6 := (List.getElem?_eq_some_iff.1 h6).1
 dsimp only
 by_cases g6 : c6 = 92
 ·subst g6
  rw [if_neg (by simp), want_ok h6]
  cases h7 : l[i + 7]? with
  | none => exact ⟨fun h => absurd h (show ¬ (3 : Int) = 0 by decide), fun _ => errQ (errH (want_none (a := i + 7) (by omega) h7))⟩
  | some c7 =>
  have hl7 := (List.getElem?_eq_some_iff.1 h7).1
  dsimp only
  by_cases g7 : c7 = 117
  ·subst g7
   rw [if_neg (by simp)]
   unfold escP
   have e7 : wantS l (i + 6 + 1) 0 117 = (i + 8, 0) := want_ok h7
   dsimp only
   rw [e7]
   obtain ⟨la, lb⟩ := half_law (l := l) (a := i + 8) (s := true) (by omega)
   by_cases he : (halfL (l.drop (i + 8)) true).2 ≠ 0
   ·rw [if_pos he]
    exact ⟨fun h => absurd h he, fun _ => errQ (lb he)⟩
   rw [if_neg he]
   have hq := la (Classical.not_not.1 he)
   dsimp only
   rw [hq]
   refine ⟨fun _ => ?_, fun h => (h (by dsimp only)).elim⟩
   unfold escQ
   dsimp only
   rw [if_neg (by simp)]
   have e : 65536 + 1024 * ((r : Int) - 55296) + ((halfL (l.drop (i + 8)) true).1 : Int) - 56320 = ((65536 + 1024 * (r - 55296) + (halfL (l.drop (i + 8)) true).1 - 56320 : Nat) : Int) := by omega
   rw [e, encL_all]
  rw [if_pos g7]
  exact ⟨fun h => absurd h (show ¬ (41 : Int) = 0 by decide), fun _ => errQ (errH (want_bad (a := i + 7) h7 g7))⟩
 rw [if_pos g6]
 exact ⟨fun h => absurd h (show ¬ (41 : Int) = 0 by decide), fun _ => errP (want_bad h6 g6)⟩
theorem half_len {l : List UInt8} {s : Bool} (h : (halfL l s).2 = 0) : 4 ≤ l.length := by
 unfold halfL at h
 cases h0 : l[0]? with
 | none => rw [h0] at h; cases h
 | some c0 =>
 cases h3 : l[3]? with
 | some c3 => have := (List.getElem?_eq_some_iff.1 h3).1; omega
 | none =>
  exfalso
  simp only [h0, h3] at h
  repeat' split at h
  all_goals first | cases h | exact absurd h (by decide)
theorem esc_law {l : List UInt8} {i : Nat} (hi : i < l.length) : ((escL (l.drop i)).2.2 = 0 → escS l (i + 1) 0 = ((escL (l.drop i)).1, i + (escL (l.drop i)).2.1, 0)) ∧ ((escL (l.drop i)).2.2 ≠ 0 → (escS l (i + 1) 0).2.2 ≠ 0) := by
 have hd2 : (l.drop i).drop 2 = l.drop (i + 2) := by rw [List.drop_drop]
 unfold escL escS
 rw [List.getElem?_drop, hd2]
 cases h1 : l[i + 1]? with
 | none =>
  have e1 : i + 1 = l.length := by have := List.getElem?_eq_none_iff.1 h1; omega
  have e2 : takeS' l (i + 1) 0 = (0, i + 1, 3) := by unfold takeS'; rw [if_neg (by simp), if_pos e1]
  refine ⟨fun h => absurd h (show ¬ (3 : Int) = 0 by decide), fun _ => ?_⟩
  rw [e2]
  unfold escT'
  dsimp only
  rw [if_neg (show ¬ (0 : UInt8) = 47 by decide), back0]
  exact errG (errH (by rw [if_neg (show ¬ (0 : UInt8) = 117 by decide)]; exact failS_ne 3))
 | some c =>
 have hl1 := (List.getElem?_eq_some_iff.1 h1).1
 rw [take_some h1]
 unfold escT'
 dsimp only
 rw [shortL_eq]
 by_cases h47 : c = 47
 ·rw [if_pos h47, if_pos h47]
  subst h47
  exact ⟨fun _ => by dsimp only, fun h => (h (by dsimp only)).elim⟩
 rw [if_neg h47, if_neg h47]
 cases hb : backM c with
 | some k => exact ⟨fun _ => by dsimp only, fun h => (h (by dsimp only)).elim⟩
 | none =>
 dsimp only
 by_cases h117 : c = 117
 ·rw [if_neg (by simp [h117]), if_pos h117]
  obtain ⟨la, lb⟩ := half_law (l := l) (a := i + 2) (s := false) (by omega)
  by_cases he : (halfL (l.drop (i + 2)) false).2 ≠ 0
  ·rw [if_pos he]
   exact ⟨fun h => absurd h he, fun _ => errG (lb he)⟩
  rw [if_neg he]
  have hh := half_len (Classical.not_not.1 he)
  rw [List.length_drop] at hh
  have hq : halfS l (i + 1 + 1) 0 false = ((halfL (l.drop (i + 2)) false).1, i + 6, 0) := la (Classical.not_not.1 he)
  rw [hq]
  unfold escG
  dsimp only
  generalize (halfL (l.drop (i + 2)) false).1 = r at hq
  by_cases hr : r < 55296 ∨ 56319 < r
  ·rw [if_pos hr, if_neg (by omega), if_neg (by simp), encL_all]
   exact ⟨fun _ => by dsimp only, fun h => (h (by dsimp only)).elim⟩
  rw [if_neg hr, if_pos (by omega)]
  exact pair_law (by omega) (by omega)
 rw [if_pos h117, if_neg h117]
 exact ⟨fun h => absurd h (show ¬ (41 : Int) = 0 by decide), fun _ => errG (errH (failS_ne 0))⟩
end Go.Proofs.YtolaedhdjcnijaaGreatDoor
