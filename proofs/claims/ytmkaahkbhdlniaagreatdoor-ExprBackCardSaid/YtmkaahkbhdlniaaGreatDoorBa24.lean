/-
 Drawn expressions, walked.
-/
import Derived.Test.YtmkaahkbhdlniaaGreatDoorBa23
import Derived.Test.YtmkaahkbhdlniaaGreatDoorBa6
import Derived.ProofKit
import Derived.Carry
import Derived.ChangeSame
import Derived.Deep.Slices
import Derived.Deep.Fields
set_option linter.unusedVariables false
set_option linter.unusedSimpArgs false
namespace Go.Proofs.YtmkaahkbhdlniaaGreatDoor
open Go Go.Mw Go.Lib
set_option maxRecDepth 4000
/-- Expressions of kinds, one behind the other. -/
def PartsE (d : Nat) : List Int → List StepM → Prop
 | [], l => l = []
 | k :: ks, l => ∃ a b, l = a ++ b ∧ Drawn k d a ∧ PartsE d ks b
theorem parts_snoc {d : Nat} {k : Int} {a : List StepM} (ha : Drawn k d a) : ∀ {ks : List Int} {l : List StepM}, PartsE d ks l → PartsE d (ks ++ [k]) (l ++ a)
 | [], l, h => by
  have h : l = [] := h
  subst h
  exact ⟨a, [], by simp, ha, rfl⟩
 | _ :: ks, l, h => by
  obtain ⟨x, y, rfl, hx, hy⟩ := h
  exact ⟨x, y ++ a, by rw [List.append_assoc], hx, parts_snoc ha hy⟩
theorem drawn_len {k : Int} {d : Nat} {l : List StepM} (h : Drawn k d l) : l.length ≤ 31 := by
 have h1 := h.2.2
 have h2 : 2 ^ (5 - d) ≤ 2 ^ 5 := Nat.pow_le_pow_right (by decide) (by omega)
 have h3 : (2 : Nat) ^ 5 = 32 := rfl
 omega
theorem parts_len {d : Nat} : ∀ {ks : List Int} {l : List StepM}, PartsE d ks l → l.length ≤ 31 * ks.length
 | [], l, h => by
  have h : l = [] := h
  subst h; simp
 | k :: ks, l, h => by
  obtain ⟨x, y, rfl, hx, hy⟩ := h
  have h1 := drawn_len hx
  have h2 := parts_len hy
  rw [List.length_append, List.length_cons]
  omega
theorem drawn_with2 {s k1 k2 k : Int} {d : Nat} {l : List StepM} (hd : d ≤ 3) (h : PartsE (d + 1) [k1, k2] l) (hm : mayS ⟨s, 0, []⟩ = true) (hk : takesS s = 2) (ht : ∀ n1 n2, ∃ n, madeT s ⟨k1, n1⟩ ⟨k2, n2⟩ = some ⟨k, n⟩) : Drawn k d (l ++ [⟨s, 0, []⟩]) := by
 obtain ⟨a, b, rfl, ha, c, e, rfl, hc, h0⟩ := h
 have h0 : e = [] := h0
 subst h0
 rw [List.append_nil]
 exact drawn_two hd ha hc hm hk ht
theorem drawn_with1 {s k1 k : Int} {d : Nat} {l : List StepM} (hd : d ≤ 3) (h : PartsE (d + 1) [k1] l) (hm : mayS ⟨s, 0, []⟩ = true) (hk : takesS s = 1) (ht : ∀ n1, ∃ n, madeT s ⟨k1, n1⟩ ⟨k1, n1⟩ = some ⟨k, n⟩) : Drawn k d (l ++ [⟨s, 0, []⟩]) := by
 obtain ⟨a, b, rfl, ha, h0⟩ := h
 have h0 : b = [] := h0
 subst h0
 rw [List.append_nil]
 exact drawn_one hd ha hm hk ht
theorem made_else (k : Int) (n1 n2 : Bool) : ∃ n, madeT 17 ⟨k, n1⟩ ⟨k, n2⟩ = some ⟨k, n⟩ := ⟨n1 && n2, by simp [madeT]⟩
theorem made_len {k : Int} (h : k = 4 ∨ k = 5) (n1 : Bool) : ∃ n, madeT 18 ⟨k, n1⟩ ⟨k, n1⟩ = some ⟨3, n⟩ := ⟨n1 || n1, by simp [madeT, h]⟩
theorem made_neg (n1 : Bool) : ∃ n, madeT 10 ⟨3, n1⟩ ⟨3, n1⟩ = some ⟨3, n⟩ := ⟨n1 || n1, by simp [madeT]⟩
theorem made_num {s : Int} (h : s = 7 ∨ s = 8 ∨ s = 9) (n1 n2 : Bool) : ∃ n, madeT s ⟨3, n1⟩ ⟨3, n2⟩ = some ⟨3, n⟩ := ⟨n1 || n2, by rcases h with rfl | rfl | rfl <;> simp [madeT]⟩
theorem made_cmp {s k : Int} (h : s = 11 ∨ s = 12) (n1 n2 : Bool) : ∃ n, madeT s ⟨k, n1⟩ ⟨k, n2⟩ = some ⟨1, n⟩ := ⟨n1 || n2, by rcases h with rfl | rfl <;> simp [madeT]⟩
theorem made_not (n1 : Bool) : ∃ n, madeT 15 ⟨1, n1⟩ ⟨1, n1⟩ = some ⟨1, n⟩ := ⟨n1 || n1, by simp [madeT]⟩
theorem made_isnull (k : Int) (n1 : Bool) : ∃ n, madeT 16 ⟨k, n1⟩ ⟨k, n1⟩ = some ⟨1, n⟩ := ⟨false, by simp [madeT]⟩
theorem made_logic {s : Int} (h : s = 13 ∨ s = 14) (n1 n2 : Bool) : ∃ n, madeT s ⟨1, n1⟩ ⟨1, n2⟩ = some ⟨1, n⟩ := ⟨n1 || n2, by rcases h with rfl | rfl <;> simp [madeT]⟩
theorem rd_blk {bk e : Nat} {l : List Int} {F : Nat → Prop} {w : World} (h : (blk bk (l.flatMap intCells) e).ok F w) : Rd w (some ⟨bk, 0, none⟩) intCells 1 l := Sep.blkRow (Sep.start1 h) At0 (flat_len (enc := intCells) (k := 1) (fun _ => rfl) l)
theorem oneD {α : Type} {enc : α → List Value} {k bs e : Nat} [hk : EncK enc k] {x : α} {w₀ w : World} {S : Nat → Prop} {rs : List HP} (H : Mw.Sep w₀ S (blk bs ([x].flatMap enc) e :: rs) w) : Mw.Sep w₀ S (rowD e k enc (.slice (some ⟨bs, 0, none⟩) 1 1) [x] :: rs) w :=
 Sep.asRow (n := 1) H At0 (flat_len hk.len [x]) (by decide)
/-- What is drawn at a depth. -/
def ExprP (d : Nat) : Prop := ∀ (w : World) (F : Nat → Prop) (b : Nat) (v0 : Value) (k : Int), kind4 k → (seedB b v0).ok F w → SeedAt F w v0 →
 Rets Tryz.prog 62 [.pointer (some ⟨b, 0, none⟩), I k, I (d : Nat)] w fun v w' => ∃ x : (Value × List StepM) × Value, v = x.1.1 ∧ (Drawn k d x.1.2 ∧ SufV v0 x.2) ∧ Turn F (star (rowD 57 3 stepCells x.1.1 x.1.2) (seedB b x.2)) w w'
section
variable {w : World} {F : Nat → Prop} {b : Nat} {v0 : Value}
theorem seedWith_ok {d : Nat} {s : Int} {ks : List Int} {A : Option Addr} {c : Nat} (hd : d ≤ 3) (hE : ExprP (d + 1)) (hks : ∀ k ∈ ks, kind4 k) (hkl : ks.length ≤ 2) (hc : ks.length ≤ c) (hp : (seedB b v0).ok F w) (hs : SeedAt F w v0) (hk : ∀ w', Kept F w w' → Rd w' A intCells 1 ks) :
    Rets Tryz.prog 110 [.pointer (some ⟨b, 0, none⟩), I s, I (d : Nat), .slice A ks.length c] w fun v w' => ∃ x : (Value × List StepM) × Value, v = x.1.1 ∧ ((∃ l, x.1.2 = l ++ [⟨s, 0, []⟩] ∧ PartsE (d + 1) ks l) ∧ SufV v0 x.2) ∧ Turn F (star (rowD 57 3 stepCells x.1.1 x.1.2) (seedB b x.2)) w w' := by
  have H := Sep.start1 hp
  refine rets4 Tryz.func110 rfl rfl rfl rfl ?_
  refine Sr ?_
  refine Am ?_
  refine Nx ?_
  refine Am ?_
  refine Qn ?_
  refine FW_seq ?_
  refine Sr ?_
  refine Am ?_
  refine Qn ?_
  refine FW_block ?_
  have H5 := Sep.nilD H 57 3 stepCells
  refine FW_loop' (fun x : (Nat × Value) × Value => [(0, .pointer (some ⟨b, 0, none⟩)), (1, I s), (2, I (d : Nat)), (3, .slice A ks.length c), (8, .slice none 0 0), (9, x.1.2), (10, I x.1.1)]) (fun x w' => (x.1.1 ≤ ks.length ∧ SufV v0 x.2) ∧ ∃ l, PartsE (d + 1) (ks.take x.1.1) l ∧ Sep w F [rowD 57 3 stepCells x.1.2 l, seedB b x.2] w') (fun x _ => ks.length - x.1.1) ((0, .slice none 0 0), v0) ⟨rfl, rfl, rfl, rfl, rfl, rfl, rfl, trivial⟩ ⟨⟨Nat.zero_le _, SufV.refl _⟩, [], rfl, H5⟩ (fun x τ w5 hI => ?_)
  obtain ⟨⟨i, vo⟩, v1⟩ := x
  obtain ⟨⟨hi, u1⟩, l, hl, H5⟩ := hI
  dsimp only at hi u1 hl H5
  have hll := parts_len hl
  rw [List.length_take] at hll
  try simp only [upds, like, upd_ds, und_ds]
  refine FW_seq ?_
  refine Sr ?_
  refine Mv ?_
  refine Mv ?_
  refine Vs ?_
  refine Vl ?_
  refine Qn ?_
  refine FW_condP rfl (fun hc10 => ?_) (fun hc10 => ?_)
  · have hlt : i < ks.length := by omega
    obtain ⟨k, hk1⟩ := get_some hlt
    have hA := hk _ H5.kept
    refine Sk ?_
    refine FW_seq ?_
    refine FW_block ?_
    refine FW_region ?_
    refine Mv ?_
    refine Mv ?_
    refine Mv ?_
    refine Mv ?_
    refine FL_val (Gives.idxR (l := ks) (enc := intCells) rfl rfl hA hlt) rfl ?_
    refine FL_val (Gives.loadW (f := 0) rfl hA hk1 rfl) rfl ?_
    refine Mv ?_
    refine FL_val (Gives.addI (c := ((d + 1 : Nat) : Int)) rfl rfl (by omega) (by omega)) rfl ?_
    refine FL_callT H5 At1 (fun _ hp' hF => hE _ _ _ _ k (hks k (List.mem_of_getElem? hk1)) hp' ((hs.suf u1).go H5.kept hF)) (h := fun x2 w21 hx H21 => ?_)
    obtain ⟨⟨vn, a⟩, v2⟩ := x2
    obtain ⟨ha, u2⟩ := hx
    dsimp only at ha u2 H21 ⊢
    have H21 := H21.front1.star0
    have hal := drawn_len ha
    obtain ⟨B, cb, rfl, hcb, hB⟩ := Sep.formD H21 At0
    refine FL_appendO H21 At2 hB (by unfold maxLen; omega) (by omega) (cells_one (fun _ => rfl) _) (h := ?_)
    intro v3 w23 H23
    refine Am ?_
    refine FL_nil (Qblk_normal (Qseq_normal ?_))
    refine FW_region ?_
    refine Mv ?_
    refine FL_val (Gives.addI (c := ((i + 1 : Nat) : Int)) rfl rfl (by omega) (by omega)) rfl ?_
    refine Am ?_
    refine FL_nil ?_
    exact Qround_normal ((i + 1, v3), v2) ⟨rfl, rfl, rfl, rfl, rfl, rfl, rfl, trivial⟩ ⟨⟨by dsimp only; omega, u1.trans u2⟩, l ++ a, by dsimp only; rw [List.take_add_one, hk1]; exact parts_snoc ha hl, H23.drop0.front1⟩ (by dsimp only; omega)
  · have hik : ks.take i = ks := List.take_of_length_le (by omega)
    rw [hik] at hl
    refine FW_exit (Qseq_exit (Qround_exit (Qblk_exit (Qseq_normal ?_))))
    refine Sr ?_
    refine Mv ?_
    refine Mv ?_
    refine FL_val (Gives.build (out := stepCells ⟨s, 0, []⟩) (Fills.one rfl rfl rfl (by simp) rfl Fills.nil)) rfl ?_
    refine FL_buildSlice H5 (xs := [.tmp 29]) (out := [(⟨s, 0, []⟩ : StepM)].flatMap stepCells) (Elems.many rfl rfl Elems.nil) rfl rfl rfl (fun bs w34 H34 k33 => ?_)
    refine FL_appendD H34 (news := [(⟨s, 0, []⟩ : StepM)]) At0 (by unfold maxLen; simp; omega) (by simp; omega) (cells_one (fun _ => rfl) _) (h := ?_)
    intro v2 w36 H36
    refine Am ?_
    refine Qn ?_
    refine FW_ret (Qfn_ret (hR := ?_))
    exact ⟨((_, _), _), rfl, ⟨⟨l, rfl, hl⟩, u1⟩, H36.join0.turn⟩
theorem seedExpr_at {d : Nat} (hd : d ≤ 4) (hE0 : d ≤ 3 → ExprP (d + 1)) : ExprP d := by
 intro w F b v0 k hk hp hs
 have H := Sep.start1 hp
 obtain ⟨ns, A, c, rfl, ⟨hc, hc'⟩, hR⟩ := hs w (Kept.refl F w)
 refine rets3 Tryz.func62 rfl rfl rfl rfl ?_
 refine Sr ?_
 refine Am ?_
 refine Qn ?_
 refine FW_seq ?_
 refine FW_cut (fun x : Bool × Value => [(0, .pointer (some ⟨b, 0, none⟩)), (1, I k), (2, I (d : Nat)), (6, .slice none 0 0), (22, .bool x.1)]) (fun x w' => (SufV (.slice A ns.length c) x.2 ∧ (x.1 = false → d ≤ 3)) ∧ Sep w F [seedB b x.2] w') ?_ ?_
 ·refine FW_region ?_
  refine Mv ?_
  refine Vg ?_
  refine Mv ?_
  refine FL_splitP (t := 10) rfl (fun hs6 => ?_) (fun hs6 => ?_)
  ·refine Of ?_
   refine Of ?_
   refine Of ?_
   refine Of ?_
   refine Of ?_
   refine Of ?_
   refine Pt ?_
   refine Mv ?_
   refine Of ?_
   refine Of ?_
   refine Of ?_
   refine Pt ?_
   refine FL_nil ?_
   exact Qcut_normal (true, _) ⟨rfl, rfl, rfl, rfl, rfl, trivial⟩ ⟨⟨SufV.refl _, fun h => Bool.noConfusion h⟩, H⟩
  ·refine On ?_
   refine Mv ?_
   refine On ?_
   refine FL_val (Gives.nilCheck rfl) rfl ?_
   refine On ?_
   refine Vf ?_
   refine On ?_
   refine Ld H ?_
   refine On ?_
   refine Vs ?_
   refine On ?_
   refine Ve ?_
   refine Pf ?_
   refine Mv ?_
   refine FL_splitP (t := 18) rfl (fun hs19 => ?_) (fun hs19 => ?_)
   ·refine Of ?_
    refine Of ?_
    refine Of ?_
    refine Pt ?_
    refine FL_nil ?_
    exact Qcut_normal (true, _) ⟨rfl, rfl, rfl, rfl, rfl, trivial⟩ ⟨⟨SufV.refl _, fun h => Bool.noConfusion h⟩, H⟩
   ·refine On ?_
    refine Mv ?_
    refine On ?_
    refine FL_callT H At0 (fun _ hp' hF => seedNext_ok (m := 4) hp' (hs.go H.kept hF) (by decide) (by decide)) (h := fun xr1 w24 hxr1 H24 => ?_)
    obtain ⟨r1, v1⟩ := xr1
    obtain ⟨hr1, u1⟩ := hxr1
    have hv1 := hs.suf u1
    dsimp only at hr1 u1 hv1 H24 ⊢
    refine On ?_
    refine Ve ?_
    refine Pf ?_
    refine FL_nil ?_
    exact Qcut_normal (_, _) ⟨rfl, rfl, rfl, rfl, rfl, trivial⟩ ⟨⟨u1, fun _ => by omega⟩, H24⟩
 ·rintro ⟨t, v1⟩ τ w29 ⟨⟨u1, ht⟩, H29⟩
  dsimp only at u1 ht H29
  have hv1 := hs.suf u1
  simp only [upds, like, upd_ds, und_ds]
  refine FW_cond rfl (fun hc30 => ?_) (fun hc30 => ?_)
  ·refine FW_seq ?_
   refine Sr ?_
   refine Mv ?_
   refine Ve ?_
   refine Qn ?_
   refine FW_condP rfl (fun hc33 => ?_) (fun hc33 => ?_)
   ·have hk3 : k = 3 := hc33
    refine Sr ?_
    refine Mv ?_
    refine FL_callT H29 At0 (fun _ hp' hF => seedWhole_ok hp' (hv1.go H29.kept hF)) (h := fun x2 w37 hx H37 => ?_)
    obtain ⟨x, v2⟩ := x2
    obtain ⟨hx, u2⟩ := hx
    dsimp only at hx u2 H37 ⊢
    refine FL_buildSlice H37 (xs := [.tmp 26]) (out := [x].flatMap stepCells) (Elems.many rfl rfl Elems.nil) rfl rfl rfl (fun bs w39 H39 k38 => ?_)
    refine Am ?_
    refine Qn ?_
    refine Rs (Qseq_ret (Qfn_ret (hR := ?_)))
    exact ⟨((_, [x]), _), rfl, ⟨by rw [hk3]; exact drawn_leaf hd hx.choose_spec, u1.trans u2⟩, (oneD H39).join0.turn⟩
   ·have hk145 : k = 1 ∨ k = 4 ∨ k = 5 := by unfold kind4 at hk; omega
    refine Sk ?_
    refine Sr ?_
    refine Mv ?_
    refine Mv ?_
    refine FL_callT H29 At0 (fun _ hp' hF => seedLeaf_ok hk145 hp' (hv1.go H29.kept hF)) (h := fun x2 w46 hx H46 => ?_)
    obtain ⟨x, v2⟩ := x2
    obtain ⟨hx, u2⟩ := hx
    dsimp only at hx u2 H46 ⊢
    refine FL_buildSlice H46 (xs := [.tmp 30]) (out := [x].flatMap stepCells) (Elems.many rfl rfl Elems.nil) rfl rfl rfl (fun bs w48 H48 k47 => ?_)
    refine Am ?_
    refine Qn ?_
    refine Rs (Qfn_ret (hR := ?_))
    exact ⟨((_, [x]), _), rfl, ⟨drawn_leaf hd hx.choose_spec, u1.trans u2⟩, (oneD H48).join0.turn⟩
  ·have hd3 := ht hc30
   have hE := hE0 hd3
   refine Sk ?_
   refine Sr ?_
   refine FL_buildSlice H29 (xs := [_, _, _, _]) (out := ([1, 3, 4, 5] : List Int).flatMap intCells) (Elems.one rfl rfl (Elems.one rfl rfl (Elems.one rfl rfl (Elems.one rfl rfl Elems.nil)))) rfl rfl rfl (fun bl w53 H53 k52 => ?_)
   refine Mv ?_
   refine FL_callT H53 At1 (fun _ hp' hF => seedNext_ok (m := 4) hp' (hv1.go H53.kept hF) (by decide) (by decide)) (h := fun xr2 w56 hxr2 H56 => ?_)
   obtain ⟨r2, v2⟩ := xr2
   obtain ⟨hr2, u2⟩ := hxr2
   have hv2 := hv1.suf u2
   dsimp only at hr2 u2 hv2 H56 ⊢
   obtain ⟨q, hq⟩ : ∃ q : Nat, r2 = q := ⟨r2.toNat, by omega⟩
   subst hq
   have hlt : q < ([1, 3, 4, 5] : List Int).length := by show q < 4; omega
   obtain ⟨one, hone⟩ := get_some hlt
   have hk1 : kind4 one := by have := List.mem_of_getElem? hone; simpa [kind4] using this
   have hRb : Rd w56 (some ⟨bl, 0, none⟩) intCells 1 ([1, 3, 4, 5] : List Int) := Sep.blkRow H56 At0 rfl
   refine FL_val (Gives.idxR (l := ([1, 3, 4, 5] : List Int)) (enc := intCells) rfl rfl hRb hlt) rfl ?_
   refine FL_val (Gives.loadW (f := 0) rfl hRb hone rfl) rfl ?_
   refine Am ?_
   refine Qn ?_
   refine FW_seq ?_
   refine Sr ?_
   refine Mv ?_
   have HH := H56.drop0
   refine FL_callT HH At0 (fun _ hp' hF => seedNext_ok (m := 5) hp' (hv2.go HH.kept hF) (by decide) (by decide)) (h := fun xr3 w62 hxr3 H62 => ?_)
   obtain ⟨r3, v3⟩ := xr3
   obtain ⟨hr3, u3⟩ := hxr3
   have hv3 := hv2.suf u3
   dsimp only at hr3 u3 hv3 H62 ⊢
   refine Ve ?_
   refine Qn ?_
   refine FW_condP rfl (fun hc64 => ?_) (fun hc64 => ?_)
   ·refine Sr ?_
    refine Mv ?_
    refine Mv ?_
    refine Mv ?_
    refine Mv ?_
    refine FL_buildSlice H62 (xs := [_, _]) (out := [k, k].flatMap intCells) (Elems.one rfl rfl (Elems.one rfl rfl Elems.nil)) rfl rfl rfl (fun bk w70 H70 k69 => ?_)
    refine FL_callR H70 At0 (fun _ _ hp' hF hq => seedWith_ok (s := 17) (ks := [k, k]) (c := 2) (A := some ⟨bk, 0, none⟩) hd3 hE (fun y hy => by simp only [List.mem_cons, List.not_mem_nil, or_false, or_self] at hy; subst hy; assumption) (Nat.le_of_ble_eq_true rfl) (Nat.le_of_ble_eq_true rfl) hp' (hv3.go H70.kept hF) (fun w' hk' => rd_blk (hq w' hk'))) (h := fun xw w72 hxw H72 => ?_)
    obtain ⟨⟨vw, lw⟩, vs⟩ := xw
    obtain ⟨⟨lp, elw, hlp⟩, uw⟩ := hxw
    dsimp only at elw uw H72 ⊢
    subst elw
    have hdr : Drawn k d (lp ++ [⟨17, 0, []⟩]) := drawn_with2 hd3 hlp (by decide) rfl (made_else k)
    refine Am ?_
    refine Qn ?_
    refine Rs (Qfn_ret (hR := ?_))
    exact ⟨((_, _), _), rfl, ⟨hdr, ((u1.trans u2).trans u3).trans uw⟩, H72.drop0.turn⟩
   ·refine Sk ?_
    refine FW_seq ?_
    refine Sr ?_
    refine Mv ?_
    refine Qn ?_
    refine FW_block ?_
    refine Sr ?_
    refine Ve ?_
    refine Am ?_
    refine Qn ?_
    refine FW_condP rfl (fun hc78 => ?_) (fun hc78 => ?_)
    ·have hk3 : k = 3 := hc78
     refine FW_seq ?_
     refine Sr ?_
     refine Mv ?_
     refine FL_callT H62 At0 (fun _ hp' hF => seedNext_ok (m := 6) hp' (hv3.go H62.kept hF) (by decide) (by decide)) (h := fun xr4 w82 hxr4 H82 => ?_)
     obtain ⟨r4, v4⟩ := xr4
     obtain ⟨hr4, u4⟩ := hxr4
     have hv4 := hv3.suf u4
     dsimp only at hr4 u4 hv4 H82 ⊢
     refine Qn ?_
     refine FW_block ?_
     refine Sr ?_
     refine Ve ?_
     refine Am ?_
     refine Qn ?_
     refine FW_condP rfl (fun hc85 => ?_) (fun hc85 => ?_)
     ·refine Sr ?_
      refine Mv ?_
      refine Mv ?_
      have k4 : kind4 4 := by unfold kind4; omega
      refine FL_buildSlice H82 (xs := [_]) (out := [4].flatMap intCells) (Elems.one rfl rfl Elems.nil) rfl rfl rfl (fun bk w89 H89 k88 => ?_)
      refine FL_callR H89 At0 (fun _ _ hp' hF hq => seedWith_ok (s := 18) (ks := [4]) (c := 1) (A := some ⟨bk, 0, none⟩) hd3 hE (fun y hy => by simp only [List.mem_cons, List.not_mem_nil, or_false] at hy; subst hy; assumption) (Nat.le_of_ble_eq_true rfl) (Nat.le_of_ble_eq_true rfl) hp' (hv4.go H89.kept hF) (fun w' hk' => rd_blk (hq w' hk'))) (h := fun xw w91 hxw H91 => ?_)
      obtain ⟨⟨vw, lw⟩, vs⟩ := xw
      obtain ⟨⟨lp, elw, hlp⟩, uw⟩ := hxw
      dsimp only at elw uw H91 ⊢
      subst elw
      have hdr : Drawn k d (lp ++ [⟨18, 0, []⟩]) := by rw [hk3]; exact drawn_with1 hd3 hlp (by decide) rfl (made_len (.inl rfl))
      refine Am ?_
      refine Qn ?_
      refine Rb (Qblk_ret (Qseq_ret (Qfn_ret (hR := ?_))))
      exact ⟨((_, _), _), rfl, ⟨hdr, (((u1.trans u2).trans u3).trans u4).trans uw⟩, H91.drop0.turn⟩
     ·refine Sr ?_
      refine Ve ?_
      refine Am ?_
      refine Qn ?_
      refine FW_condP rfl (fun hc96 => ?_) (fun hc96 => ?_)
      ·refine Sr ?_
       refine Mv ?_
       refine Mv ?_
       have k5 : kind4 5 := by unfold kind4; omega
       refine FL_buildSlice H82 (xs := [_]) (out := [5].flatMap intCells) (Elems.one rfl rfl Elems.nil) rfl rfl rfl (fun bk w100 H100 k99 => ?_)
       refine FL_callR H100 At0 (fun _ _ hp' hF hq => seedWith_ok (s := 18) (ks := [5]) (c := 1) (A := some ⟨bk, 0, none⟩) hd3 hE (fun y hy => by simp only [List.mem_cons, List.not_mem_nil, or_false] at hy; subst hy; assumption) (Nat.le_of_ble_eq_true rfl) (Nat.le_of_ble_eq_true rfl) hp' (hv4.go H100.kept hF) (fun w' hk' => rd_blk (hq w' hk'))) (h := fun xw w102 hxw H102 => ?_)
       obtain ⟨⟨vw, lw⟩, vs⟩ := xw
       obtain ⟨⟨lp, elw, hlp⟩, uw⟩ := hxw
       dsimp only at elw uw H102 ⊢
       subst elw
       have hdr : Drawn k d (lp ++ [⟨18, 0, []⟩]) := by rw [hk3]; exact drawn_with1 hd3 hlp (by decide) rfl (made_len (.inr rfl))
       refine Am ?_
       refine Qn ?_
       refine Rb (Qblk_ret (Qseq_ret (Qfn_ret (hR := ?_))))
       exact ⟨((_, _), _), rfl, ⟨hdr, (((u1.trans u2).trans u3).trans u4).trans uw⟩, H102.drop0.turn⟩
      ·refine Sr ?_
       refine Ve ?_
       refine Am ?_
       refine Qn ?_
       refine FW_condP rfl (fun hc107 => ?_) (fun hc107 => ?_)
       ·refine Sr ?_
        refine Mv ?_
        refine Mv ?_
        refine Mv ?_
        refine FL_buildSlice H82 (xs := [_]) (out := [k].flatMap intCells) (Elems.one rfl rfl Elems.nil) rfl rfl rfl (fun bk w112 H112 k111 => ?_)
        refine FL_callR H112 At0 (fun _ _ hp' hF hq => seedWith_ok (s := 10) (ks := [k]) (c := 1) (A := some ⟨bk, 0, none⟩) hd3 hE (fun y hy => by simp only [List.mem_cons, List.not_mem_nil, or_false] at hy; subst hy; assumption) (Nat.le_of_ble_eq_true rfl) (Nat.le_of_ble_eq_true rfl) hp' (hv4.go H112.kept hF) (fun w' hk' => rd_blk (hq w' hk'))) (h := fun xw w114 hxw H114 => ?_)
        obtain ⟨⟨vw, lw⟩, vs⟩ := xw
        obtain ⟨⟨lp, elw, hlp⟩, uw⟩ := hxw
        dsimp only at elw uw H114 ⊢
        subst elw
        have hdr : Drawn k d (lp ++ [⟨10, 0, []⟩]) := by subst hk3; exact drawn_with1 hd3 hlp (by decide) rfl made_neg
        refine Am ?_
        refine Qn ?_
        refine Rb (Qblk_ret (Qseq_ret (Qfn_ret (hR := ?_))))
        exact ⟨((_, _), _), rfl, ⟨hdr, (((u1.trans u2).trans u3).trans u4).trans uw⟩, H114.drop0.turn⟩
       ·refine FW_skip (Qblk_normal (Qseq_normal ?_))
        refine Sr ?_
        refine Mv ?_
        refine Mv ?_
        refine FL_callT H82 At0 (fun _ hp' hF => seedNext_ok (m := 3) hp' (hv4.go H82.kept hF) (by decide) (by decide)) (h := fun xr5 w120 hxr5 H120 => ?_)
        obtain ⟨r5, v5⟩ := xr5
        obtain ⟨hr5, u5⟩ := hxr5
        have hv5 := hv4.suf u5
        dsimp only at hr5 u5 hv5 H120 ⊢
        obtain ⟨s, hs7⟩ : ∃ s : Int, s = 7 + r5 := ⟨_, rfl⟩
        have hs8 : s = 7 ∨ s = 8 ∨ s = 9 := by omega
        have hmay : mayS ⟨s, 0, []⟩ = true := by rcases hs8 with h | h | h <;> rw [h] <;> rfl
        have htk : takesS s = 2 := by rcases hs8 with h | h | h <;> rw [h] <;> rfl
        refine FL_val (Gives.addI (c := s) rfl rfl (by omega) (by omega)) rfl ?_
        refine Mv ?_
        refine Mv ?_
        refine Mv ?_
        refine FL_buildSlice H120 (xs := [_, _]) (out := [k, k].flatMap intCells) (Elems.one rfl rfl (Elems.one rfl rfl Elems.nil)) rfl rfl rfl (fun bk w126 H126 k125 => ?_)
        refine FL_callR H126 At0 (fun _ _ hp' hF hq => seedWith_ok (s := s) (ks := [k, k]) (c := 2) (A := some ⟨bk, 0, none⟩) hd3 hE (fun y hy => by simp only [List.mem_cons, List.not_mem_nil, or_false, or_self] at hy; subst hy; assumption) (Nat.le_of_ble_eq_true rfl) (Nat.le_of_ble_eq_true rfl) hp' (hv5.go H126.kept hF) (fun w' hk' => rd_blk (hq w' hk'))) (h := fun xw w128 hxw H128 => ?_)
        obtain ⟨⟨vw, lw⟩, vs⟩ := xw
        obtain ⟨⟨lp, elw, hlp⟩, uw⟩ := hxw
        dsimp only at elw uw H128 ⊢
        subst elw
        have hdr : Drawn k d (lp ++ [⟨s, 0, []⟩]) := by subst hk3; exact drawn_with2 hd3 hlp hmay htk (made_num hs8)
        refine Am ?_
        refine Qn ?_
        refine Rb (Qfn_ret (hR := ?_))
        exact ⟨((_, _), _), rfl, ⟨hdr, ((((u1.trans u2).trans u3).trans u4).trans u5).trans uw⟩, H128.drop0.turn⟩
    ·refine Sr ?_
     refine Ve ?_
     refine Am ?_
     refine Qn ?_
     refine FW_condP rfl (fun hc133 => ?_) (fun hc133 => ?_)
     ·have hk1b : k = 1 := hc133
      refine FW_seq ?_
      refine Sr ?_
      refine Mv ?_
      refine FL_callT H62 At0 (fun _ hp' hF => seedNext_ok (m := 6) hp' (hv3.go H62.kept hF) (by decide) (by decide)) (h := fun xr4 w137 hxr4 H137 => ?_)
      obtain ⟨r4, v4⟩ := xr4
      obtain ⟨hr4, u4⟩ := hxr4
      have hv4 := hv3.suf u4
      dsimp only at hr4 u4 hv4 H137 ⊢
      refine Qn ?_
      refine FW_block ?_
      refine Sr ?_
      refine Ve ?_
      refine Am ?_
      refine Qn ?_
      refine FW_condP rfl (fun hc140 => ?_) (fun hc140 => ?_)
      ·refine Sr ?_
       refine Mv ?_
       refine Mv ?_
       refine Mv ?_
       refine Mv ?_
       refine FL_buildSlice H137 (xs := [_, _]) (out := [one, one].flatMap intCells) (Elems.one rfl rfl (Elems.one rfl rfl Elems.nil)) rfl rfl rfl (fun bk w146 H146 k145 => ?_)
       refine FL_callR H146 At0 (fun _ _ hp' hF hq => seedWith_ok (s := 11) (ks := [one, one]) (c := 2) (A := some ⟨bk, 0, none⟩) hd3 hE (fun y hy => by simp only [List.mem_cons, List.not_mem_nil, or_false, or_self] at hy; subst hy; assumption) (Nat.le_of_ble_eq_true rfl) (Nat.le_of_ble_eq_true rfl) hp' (hv4.go H146.kept hF) (fun w' hk' => rd_blk (hq w' hk'))) (h := fun xw w148 hxw H148 => ?_)
       obtain ⟨⟨vw, lw⟩, vs⟩ := xw
       obtain ⟨⟨lp, elw, hlp⟩, uw⟩ := hxw
       dsimp only at elw uw H148 ⊢
       subst elw
       have hdr : Drawn k d (lp ++ [⟨11, 0, []⟩]) := by rw [hk1b]; exact drawn_with2 hd3 hlp (by decide) rfl (made_cmp (.inl rfl))
       refine Am ?_
       refine Qn ?_
       refine Rb (Qblk_ret (Qseq_ret (Qfn_ret (hR := ?_))))
       exact ⟨((_, _), _), rfl, ⟨hdr, (((u1.trans u2).trans u3).trans u4).trans uw⟩, H148.drop0.turn⟩
      ·refine Sr ?_
       refine Ve ?_
       refine Am ?_
       refine Qn ?_
       refine FW_condP rfl (fun hc153 => ?_) (fun hc153 => ?_)
       ·refine Sr ?_
        refine Mv ?_
        refine Mv ?_
        refine Mv ?_
        refine Mv ?_
        refine FL_buildSlice H137 (xs := [_, _]) (out := [one, one].flatMap intCells) (Elems.one rfl rfl (Elems.one rfl rfl Elems.nil)) rfl rfl rfl (fun bk w159 H159 k158 => ?_)
        refine FL_callR H159 At0 (fun _ _ hp' hF hq => seedWith_ok (s := 12) (ks := [one, one]) (c := 2) (A := some ⟨bk, 0, none⟩) hd3 hE (fun y hy => by simp only [List.mem_cons, List.not_mem_nil, or_false, or_self] at hy; subst hy; assumption) (Nat.le_of_ble_eq_true rfl) (Nat.le_of_ble_eq_true rfl) hp' (hv4.go H159.kept hF) (fun w' hk' => rd_blk (hq w' hk'))) (h := fun xw w161 hxw H161 => ?_)
        obtain ⟨⟨vw, lw⟩, vs⟩ := xw
        obtain ⟨⟨lp, elw, hlp⟩, uw⟩ := hxw
        dsimp only at elw uw H161 ⊢
        subst elw
        have hdr : Drawn k d (lp ++ [⟨12, 0, []⟩]) := by rw [hk1b]; exact drawn_with2 hd3 hlp (by decide) rfl (made_cmp (.inr rfl))
        refine Am ?_
        refine Qn ?_
        refine Rb (Qblk_ret (Qseq_ret (Qfn_ret (hR := ?_))))
        exact ⟨((_, _), _), rfl, ⟨hdr, (((u1.trans u2).trans u3).trans u4).trans uw⟩, H161.drop0.turn⟩
       ·refine Sr ?_
        refine Ve ?_
        refine Am ?_
        refine Qn ?_
        refine FW_condP rfl (fun hc166 => ?_) (fun hc166 => ?_)
        ·refine Sr ?_
         refine Mv ?_
         refine Mv ?_
         refine Mv ?_
         refine FL_buildSlice H137 (xs := [_]) (out := [k].flatMap intCells) (Elems.one rfl rfl Elems.nil) rfl rfl rfl (fun bk w171 H171 k170 => ?_)
         refine FL_callR H171 At0 (fun _ _ hp' hF hq => seedWith_ok (s := 15) (ks := [k]) (c := 1) (A := some ⟨bk, 0, none⟩) hd3 hE (fun y hy => by simp only [List.mem_cons, List.not_mem_nil, or_false] at hy; subst hy; assumption) (Nat.le_of_ble_eq_true rfl) (Nat.le_of_ble_eq_true rfl) hp' (hv4.go H171.kept hF) (fun w' hk' => rd_blk (hq w' hk'))) (h := fun xw w173 hxw H173 => ?_)
         obtain ⟨⟨vw, lw⟩, vs⟩ := xw
         obtain ⟨⟨lp, elw, hlp⟩, uw⟩ := hxw
         dsimp only at elw uw H173 ⊢
         subst elw
         have hdr : Drawn k d (lp ++ [⟨15, 0, []⟩]) := by subst hk1b; exact drawn_with1 hd3 hlp (by decide) rfl made_not
         refine Am ?_
         refine Qn ?_
         refine Rb (Qblk_ret (Qseq_ret (Qfn_ret (hR := ?_))))
         exact ⟨((_, _), _), rfl, ⟨hdr, (((u1.trans u2).trans u3).trans u4).trans uw⟩, H173.drop0.turn⟩
        ·refine Sr ?_
         refine Ve ?_
         refine Am ?_
         refine Qn ?_
         refine FW_condP rfl (fun hc178 => ?_) (fun hc178 => ?_)
         ·refine Sr ?_
          refine Mv ?_
          refine Mv ?_
          refine Mv ?_
          refine FL_buildSlice H137 (xs := [_]) (out := [one].flatMap intCells) (Elems.one rfl rfl Elems.nil) rfl rfl rfl (fun bk w183 H183 k182 => ?_)
          refine FL_callR H183 At0 (fun _ _ hp' hF hq => seedWith_ok (s := 16) (ks := [one]) (c := 1) (A := some ⟨bk, 0, none⟩) hd3 hE (fun y hy => by simp only [List.mem_cons, List.not_mem_nil, or_false] at hy; subst hy; assumption) (Nat.le_of_ble_eq_true rfl) (Nat.le_of_ble_eq_true rfl) hp' (hv4.go H183.kept hF) (fun w' hk' => rd_blk (hq w' hk'))) (h := fun xw w185 hxw H185 => ?_)
          obtain ⟨⟨vw, lw⟩, vs⟩ := xw
          obtain ⟨⟨lp, elw, hlp⟩, uw⟩ := hxw
          dsimp only at elw uw H185 ⊢
          subst elw
          have hdr : Drawn k d (lp ++ [⟨16, 0, []⟩]) := by rw [hk1b]; exact drawn_with1 hd3 hlp (by decide) rfl (made_isnull one)
          refine Am ?_
          refine Qn ?_
          refine Rb (Qblk_ret (Qseq_ret (Qfn_ret (hR := ?_))))
          exact ⟨((_, _), _), rfl, ⟨hdr, (((u1.trans u2).trans u3).trans u4).trans uw⟩, H185.drop0.turn⟩
         ·refine FW_skip (Qblk_normal (Qseq_normal ?_))
          refine Sr ?_
          refine Mv ?_
          refine Mv ?_
          refine FL_callT H137 At0 (fun _ hp' hF => seedNext_ok (m := 2) hp' (hv4.go H137.kept hF) (by decide) (by decide)) (h := fun xr5 w191 hxr5 H191 => ?_)
          obtain ⟨r5, v5⟩ := xr5
          obtain ⟨hr5, u5⟩ := hxr5
          have hv5 := hv4.suf u5
          dsimp only at hr5 u5 hv5 H191 ⊢
          obtain ⟨s, hs7⟩ : ∃ s : Int, s = 13 + r5 := ⟨_, rfl⟩
          have hs8 : s = 13 ∨ s = 14 := by omega
          have hmay : mayS ⟨s, 0, []⟩ = true := by rcases hs8 with h | h <;> rw [h] <;> rfl
          have htk : takesS s = 2 := by rcases hs8 with h | h <;> rw [h] <;> rfl
          refine FL_val (Gives.addI (c := s) rfl rfl (by omega) (by omega)) rfl ?_
          refine Mv ?_
          refine Mv ?_
          refine Mv ?_
          refine FL_buildSlice H191 (xs := [_, _]) (out := [k, k].flatMap intCells) (Elems.one rfl rfl (Elems.one rfl rfl Elems.nil)) rfl rfl rfl (fun bk w197 H197 k196 => ?_)
          refine FL_callR H197 At0 (fun _ _ hp' hF hq => seedWith_ok (s := s) (ks := [k, k]) (c := 2) (A := some ⟨bk, 0, none⟩) hd3 hE (fun y hy => by simp only [List.mem_cons, List.not_mem_nil, or_false, or_self] at hy; subst hy; assumption) (Nat.le_of_ble_eq_true rfl) (Nat.le_of_ble_eq_true rfl) hp' (hv5.go H197.kept hF) (fun w' hk' => rd_blk (hq w' hk'))) (h := fun xw w199 hxw H199 => ?_)
          obtain ⟨⟨vw, lw⟩, vs⟩ := xw
          obtain ⟨⟨lp, elw, hlp⟩, uw⟩ := hxw
          dsimp only at elw uw H199 ⊢
          subst elw
          have hdr : Drawn k d (lp ++ [⟨s, 0, []⟩]) := by subst hk1b; exact drawn_with2 hd3 hlp hmay htk (made_logic hs8)
          refine Am ?_
          refine Qn ?_
          refine Rb (Qfn_ret (hR := ?_))
          exact ⟨((_, _), _), rfl, ⟨hdr, ((((u1.trans u2).trans u3).trans u4).trans u5).trans uw⟩, H199.drop0.turn⟩
     ·have hk145 : k = 1 ∨ k = 4 ∨ k = 5 := by unfold kind4 at hk; omega
      refine FW_skip (Qblk_normal (Qseq_normal ?_))
      refine Sr ?_
      refine Mv ?_
      refine Mv ?_
      refine FL_callT H62 At0 (fun _ hp' hF => seedLeaf_ok hk145 hp' (hv3.go H62.kept hF)) (h := fun x2 w206 hx H206 => ?_)
      obtain ⟨x, v4⟩ := x2
      obtain ⟨hx, u4⟩ := hx
      dsimp only at hx u4 H206 ⊢
      refine FL_buildSlice H206 (xs := [.tmp 124]) (out := [x].flatMap stepCells) (Elems.many rfl rfl Elems.nil) rfl rfl rfl (fun bs w208 H208 k207 => ?_)
      refine Am ?_
      refine Qn ?_
      refine FW_ret (Qfn_ret (hR := ?_))
      exact ⟨((_, [x]), _), rfl, ⟨drawn_leaf hd hx.choose_spec, ((u1.trans u2).trans u3).trans u4⟩, (oneD H208).join0.turn⟩
theorem seedExpr_ok : ∀ (e d : Nat), d + e = 4 → ExprP d := by
 intro e
 induction e with
 | zero => exact fun d hde => seedExpr_at (by omega) (fun h => absurd h (by omega))
 | succ e ih => exact fun d hde => seedExpr_at (by omega) (fun _ => ih (d + 1) (by omega))
end
end Go.Proofs.YtmkaahkbhdlniaaGreatDoor
/-
 What is drawn of a seed; the laws ExprOf and ExprWider, walked.
-/
namespace Go.Proofs.YtmkaahkbhdlniaaGreatDoor
open Go Go.Mw Go.Lib
set_option maxRecDepth 4000
theorem sufV_take {A : Option Addr} {n c m : Nat} (h : m ≤ n) : SufV (.slice A n c) (.slice A m c) := by
 intro w ns h1
 obtain ⟨A', c', e, ⟨h1, h2⟩, hR⟩ := h1
 injection e with e1 e2 e3
 subst e1 e2 e3
 have hl : (ns.take m).length = m := by rw [List.length_take]; omega
 exact ⟨ns.take m, A, c, by rw [hl], ⟨by omega, h2⟩, hR.cut m⟩
section
variable {w : World}
theorem drawn_ok {vn : Value} {ns : List Int} {k : Int} (hn : RowIn w vn intCells 1 ns) : Rets Tryz.prog 28 [agg [vn], I k] w fun v w' => ∃ x : Value × List StepM, v = .tuple #[x.1, I (kindOf k)] ∧ Drawn (kindOf k) 0 x.2 ∧ Turn noB (rowD 57 3 stepCells x.1 x.2) w w' := by
 have H := Sep.start0 w
 have hS : SeedAt noB w vn := fun w' hk => ⟨ns, hn.keep hk⟩
 obtain ⟨A, c, rfl, ⟨hc, hc'⟩, hR⟩ := hn
 obtain ⟨m, hm⟩ : ∃ m, m = min ns.length 60 := ⟨_, rfl⟩
 have hmin : Min.min ((ns.length : Nat) : Int) 60 = ((m : Nat) : Int) := by omega
 refine rets2 Tryz.func28 rfl rfl rfl rfl ?_
 refine Sr ?_
 refine FL_box H (cs := [.slice A ns.length c]) rfl (h := ?_)
 intro b2 w2 H2 k1
 refine Am ?_
 refine Am ?_
 refine Nx ?_
 refine FL_buildSlice H2 (xs := [_, _, _, _]) (out := ([1, 3, 4, 5] : List Int).flatMap intCells) (Elems.one rfl rfl (Elems.one rfl rfl (Elems.one rfl rfl (Elems.one rfl rfl Elems.nil)))) rfl rfl rfl (fun bl w6 H6 k5 => ?_)
 refine Mv ?_
 refine FL_callQ H6 (bring_ok (k := k) (m := 4) (by decide) (by decide)) (h := fun w9 H9 k8 => ?_)
 obtain ⟨q, hq⟩ : ∃ q : Nat, k % 4 = q := ⟨(k % 4).toNat, by omega⟩
 have hlt : q < ([1, 3, 4, 5] : List Int).length := by show q < 4; omega
 obtain ⟨y, hy⟩ := get_some hlt
 have hkk : y = kindOf k := by unfold kindOf; rw [hq, Int.toNat_natCast, getD_of hy]
 rw [hq]
 have hRb : Rd w9 (some ⟨bl, 0, none⟩) intCells 1 ([1, 3, 4, 5] : List Int) := Sep.blkRow H9 At0 rfl
 refine FL_val (Gives.idxR (l := ([1, 3, 4, 5] : List Int)) (enc := intCells) rfl rfl hRb hlt) rfl ?_
 refine FL_val (Gives.loadW (f := 0) rfl hRb hy rfl) rfl ?_
 rw [hkk]
 refine Am ?_
 refine Nx ?_
 refine Vf ?_
 refine Ld H9 ?_
 refine Vf ?_
 refine Ld H9 ?_
 refine Vs ?_
 refine FL_val (Gives.minE rfl rfl hmin) rfl ?_
 refine FL_val (Gives.sliceTo (h := m) rfl rfl (by omega)) rfl ?_
 refine FL_val (Gives.build (out := [.slice A m c]) (Fills.one rfl rfl rfl (by simp) rfl Fills.nil)) rfl ?_
 refine FL_alloc H9 (h := ?_)
 intro b21 w22 H22 k21
 refine FL_storeAll H22 (h := ?_)
 intro w24 H24
 refine Nx ?_
 refine Mv ?_
 refine FL_callT H24 At0 (fun _ hp' hF => seedExpr_ok 4 0 rfl _ _ _ _ (kindOf k) (kindOf_in k) hp' ((hS.suf (sufV_take (by omega))).go H24.kept hF)) (h := fun x w27 hx H27 => ?_)
 obtain ⟨⟨vx, l⟩, v2⟩ := x
 obtain ⟨hx, u2⟩ := hx
 dsimp only at hx u2 H27 ⊢
 refine Mv ?_
 refine Am ?_
 refine Am ?_
 refine Qn ?_
 refine FW_ret (Qfn_ret (hR := ?_))
 exact ⟨(_, _), rfl, hx, H27.star0.first.turn⟩
end
end Go.Proofs.YtmkaahkbhdlniaaGreatDoor
/-
 Structs are written into rows that are owned; the law ExprUnused, walked.
-/
namespace Go.Mw
open Go.RowKit
section
variable {P : Program} {r : Option Nat} {n : Nat} {ops : Array Oper} {Q : Post} {rest : List Oper} {σ : St} {w w₀ : World} {S : Nat → Prop} {rs : List HP} {put : HP → List HP} {ty : TypeId} {pos : String} {after : Array Edge} {lv : List Bool} {pd : List (Nat × Bool)} {guard : Option (Nat × Bool)}
variable {α : Type} {enc : α → List Value} {k e c : Nat} {l : List α} {A : Option Addr}
end
end Go.Mw
namespace Go.Proofs.YtmkaahkbhdlniaaGreatDoor
open Go Go.Mw Go.Lib
set_option maxRecDepth 4000
theorem RowTo.set {m i : Nat} {r : List CellM} {c : CellM} (h : RowTo m r) (hc : fits c.n ∧ ∀ b, okC (colAt b i).type c) : RowTo m (r.set i c) := by
 refine ⟨by rw [List.length_set]; exact h.len, fun y hy => ?_, fun b j d hd => ?_⟩
 ·rcases List.mem_or_eq_of_mem_set hy with h1 | h1
  ·exact h.fit y h1
  ·rw [h1]; exact hc.1
 ·by_cases hj : i = j
  ·subst hj
   rw [List.getElem?_set_self' ] at hd
   cases hg : r[i]? with
   | none => rw [hg] at hd; cases hd
   | some z => rw [hg] at hd; simp at hd; rw [← hd]; exact hc.2 b
  ·rw [List.getElem?_set_ne hj] at hd; exact h.ok b j d hd
section
variable {w : World}
end
end Go.Proofs.YtmkaahkbhdlniaaGreatDoor
/-
 The law ExprOne, walked.
-/
namespace Go.Proofs.YtmkaahkbhdlniaaGreatDoor
open Go Go.Mw Go.Lib
set_option maxRecDepth 4000
section
variable {w : World}
end
end Go.Proofs.YtmkaahkbhdlniaaGreatDoor
/-
 What a step that takes two makes, by halves, walked.
-/
namespace Go.Proofs.YtmkaahkbhdlniaaGreatDoor
open Go Go.Mw Go.Lib
set_option maxRecDepth 4000
section
variable {w : World}
end
end Go.Proofs.YtmkaahkbhdlniaaGreatDoor
/-
 The law ExprParts, walked.
-/
namespace Go.Proofs.YtmkaahkbhdlniaaGreatDoor
open Go Go.Mw Go.Lib
set_option maxRecDepth 4000
section
variable {w : World}
end
end Go.Proofs.YtmkaahkbhdlniaaGreatDoor
/-
 The laws ExprBack and ExprAgain, walked.
-/
namespace Go.Proofs.YtmkaahkbhdlniaaGreatDoor
open Go Go.Mw Go.Lib
set_option maxRecDepth 4000
theorem good_text {k : Int} {n : Bool} {l : List StepM} (h : GoodE k n l) (hl : l.length ≤ 31) (h0 : 0 < l.length) : ∃ t : List UInt8, t.length ≤ 1000000 ∧ textS l = (t, 0) ∧ parseS t = (l, 0) ∧ t.count 32 = l.length - 1 := by
 have hm : ∀ x ∈ l, mayS x = true ∧ -9223372036854775808 ≤ x.n ∧ x.n ≤ 9223372036854775807 := fun x hx => ⟨(h.may x hx).1, (h.may x hx).2⟩
 obtain ⟨h1, h2, h3⟩ := parse_text hm (by omega)
 refine ⟨_, ?_, h1, h2, h3 (by intro e; rw [e] at h0; cases h0)⟩
 have := len_join 32 (ws := l.map wordS) (k := 6146) fun w hw => by
  obtain ⟨x, hx, rfl⟩ := List.mem_map.1 hw
  exact (len_word (hm x hx).1 (hm x hx).2.1 (hm x hx).2.2).1
 rw [List.length_map] at this
 omega
section
variable {w : World}
theorem exprBack_ok {vn : Value} {ns : List Int} {kind : Int} (hn : RowIn w vn intCells 1 ns) (hT : TabsX w) :
    Rets Tryz.prog 10 [agg [vn], I kind] w fun v w' => v = .bool true ∧ Kept noB w w' := by
  have H := Sep.start0 w
  refine rets2 Tryz.func10 rfl rfl rfl rfl ?_
  refine Sr ?_
  refine FL_box H (cs := [vn]) rfl (h := ?_)
  intro b2 w2 H2 k1
  refine Am ?_
  refine Nx ?_
  refine FL_loadAll H2 (h := ?_)
  refine Mv ?_
  refine FL_callN H2 (drawn_ok (k := kind) (hn.keep H2.kept)) (h := fun x w7 hx H7 k6 => ?_)
  obtain ⟨vl, l⟩ := x
  obtain ⟨⟨nn, hg⟩, hpos, hlen⟩ := hx
  dsimp only at hg hpos hlen H7 ⊢
  have hl31 : l.length ≤ 31 := by have : (2 : Nat) ^ (5 - 0) = 32 := rfl; omega
  have hlf := eval_fits hg
  obtain ⟨B1, c1, rfl, hc1, hB1⟩ := Sep.formD H7 At0
  obtain ⟨t, htl, ht1, ht2, ht3⟩ := good_text hg hl31 hpos
  refine Mv ?_
  refine Vx ?_
  refine Vx ?_
  refine Am ?_
  refine Am ?_
  refine Qn ?_
  refine FW_seq ?_
  refine Sr ?_
  refine Mv ?_
  refine Vs ?_
  refine Vg ?_
  refine Qn ?_
  refine FW_condP rfl (fun hc16 => ?_) (fun hc16 => ?_)
  · omega
  · refine Sk ?_
    refine Sr ?_
    refine Mv ?_
    refine FL_callQ H7 (textE_ok (rowIn_own H7 At0 hc1) hlf (hT.keep H7.kept)) (h := fun w20 H20 k19 => ?_)
    rw [ht1]
    dsimp only
    refine Mv ?_
    refine Vx ?_
    refine Vx ?_
    refine Am ?_
    refine Am ?_
    refine Nx ?_
    refine Mv ?_
    refine FL_callN H20 (parseE_ok t (.inl htl) (by omega) (hT.keep H20.kept)) (h := fun x w28 _ H28 k27 => ?_)
    rw [ht2] at H28 ⊢
    dsimp only at H28 ⊢
    obtain ⟨B2, c2, rfl, hc2, hB2⟩ := Sep.formD H28 At0
    refine Mv ?_
    refine Vx ?_
    refine Vx ?_
    refine Am ?_
    refine Am ?_
    refine Nx ?_
    refine Mv ?_
    refine Ve ?_
    refine Mv ?_
    refine FL_splitP (t := 34) rfl (fun hs37 => ?_) (fun hs37 => ?_)
    · refine On ?_
      refine Mv ?_
      refine On ?_
      refine Ve ?_
      refine Pt ?_
      refine Mv ?_
      refine FL_splitP (t := 38) rfl (fun hs42 => ?_) (fun hs42 => ?_)
      · refine On ?_
        refine Mv ?_
        refine On ?_
        refine Mv ?_
        refine On ?_
        refine FL_callQ H28 (stepsEq_ok (rowIn_own H28 At1 hc1) (rowIn_own H28 At0 hc2)) (h := fun w46 H46 k45 => ?_)
        rw [decide_eq_true (rfl : l = l)]
        refine Pt ?_
        refine Mv ?_
        refine FL_split (t := 43) rfl (fun hs49 => ?_) (fun hs49 => ?_)
        · refine On ?_
          refine Mv ?_
          refine On ?_
          refine FL_callS (countOne_ok t) (h := ?_)
          rw [ht3]
          refine On ?_
          refine Mv ?_
          refine On ?_
          refine Vs ?_
          refine On ?_
          refine FL_val (Gives.subI (c := ((l.length - 1 : Nat) : Int)) rfl rfl (by omega) (by omega)) rfl ?_
          refine On ?_
          refine Ve ?_
          refine Pt ?_
          refine Mv ?_
          refine FL_splitP (t := 51) rfl (fun hs58 => ?_) (fun hs58 => ?_)
          · refine On ?_
            refine FL_callQ H46 (works_ok (hT.keep H46.kept)) (h := fun w60 H60 k59 => ?_)
            refine Pt ?_
            refine Am ?_
            refine Qn ?_
            refine FW_ret (Qfn_ret (hR := ?_))
            exact ⟨rfl, H60.kept⟩
          · exact (hs58 trivial).elim
        · exact absurd hs49 (by decide)
      · exact (hs42 trivial).elim
    · exact (hs37 trivial).elim
end
end Go.Proofs.YtmkaahkbhdlniaaGreatDoor
/-
 From a contract to a row: arguments read as rows; what a law's row asks behind the call. Nothing of a given program stands here.
-/
namespace Go.Mw
open Go.RowKit Go.ChangeShapes Go.WideShapes Go.Deep

section
variable {H : Type} {enc : TypeId × Value → H} {P : Program}
theorem trodAll_stays (hl : laidOutB P = true) {W W' : World} (hk : Kept noB W W') {sp : Nat → Bool} : ∀ {ts : List TypeId} {vs : List Value} {ds : List (DataW H)} {ps : List MemPlace}, (∀ t ∈ ts, P.readableRec t = true ∧ t < P.types.size) →
    DataW.TrodAll enc P W 0 (fun _ => true) true ts vs ds ps → (∀ x ∈ ps, x.block < W.heap.size) → (∀ x ∈ ps, sp x.block = true) → DataW.TrodAll enc P W' 0 sp true ts vs ds ps
  | [], [], [], _, _, h, _, _ => h
  | t :: ts, v :: vs, d :: ds, ps, ht, ⟨p, q, h1, h2, e⟩, hlt, hsp => by
    subst e
    exact ⟨p, q, WideElems.Trod_stays hl (ht t List.mem_cons_self).1 (ht t List.mem_cons_self).2 h1 (fun x hx => hk.below.same (hlt x (List.mem_append_left _ hx))) (fun x hx => hsp x (List.mem_append_left _ hx)),
      trodAll_stays hl hk (fun u hu => ht u (List.mem_cons_of_mem _ hu)) h2 (fun x hx => hlt x (List.mem_append_right _ hx)) (fun x hx => hsp x (List.mem_append_right _ hx)), rfl⟩
  | [], [], _ :: _, _, _, h, _, _ => h.elim
  | [], _ :: _, _, _, _, h, _, _ => by cases ‹List (DataW H)› <;> exact h.elim
  | _ :: _, [], _, _, _, h, _, _ => h.elim
  | _ :: _, _ :: _, [], _, _, h, _, _ => h.elim
/-- What a row asks, where nothing that was there has turned and the answer is true. -/
theorem post_law {f : Func} {s : ChangeSpec} {apart fresh handsOn again : Bool} {W W' : World} {args : Array Value} {t : TypeId} {ds gs : List (DataW H)} {before : List MemPlace} (hl : laidOutB P = true)
    (hW : DataW.Whole enc P f.params.toList s.vars apart W args.toList ds gs before) (hvars : s.vars = []) (hr : f.resultTypes = #[t]) (hb : P.underlying t = some .bool) (hp0 : (f.params.toList.all fun t => P.readableRec t && decide (t < P.types.size)) = true)
    (hs : s.fn H (ds ++ gs) = { results := [.lit (.bool true)], args := ds }) (hk : Kept noB W W') (hok : Value.okWide P W' .any 0 t (.bool true)) : s.post enc P f apart fresh handsOn again W args (.bool true) W' := by
  have hp : ∀ t ∈ f.params.toList, P.readableRec t = true ∧ t < P.types.size := fun t ht => by
    have := List.all_eq_true.1 hp0 t ht
    simpa using this
  have hW' := hW
  obtain ⟨pa, pv, hA, hV, rfl, hz, hn⟩ := hW
  have hnil : gs = [] ∧ pv = [] := by
    rw [hvars] at hV
    exact trodVars_none hV
  obtain ⟨rfl, rfl⟩ := hnil
  have hlt : ∀ p ∈ pa, p.block < W.heap.size := fun p hp => hW'.lt p (List.mem_append_left _ hp)
  have hres : ∀ (b : Nat) (sp : Nat → Bool) (hd : Bool), DataW.TrodAll enc P W' b sp hd f.resultTypes.toList ((Value.bool true).resultList f.resultTypes.size) (s.fn H (ds ++ [])).results [] := by
    intro b sp hd
    rw [hs, hr]
    exact trodAll_mk1 (shut_bool hb true)
  have hargs : ∀ sp : Nat → Bool, (∀ p ∈ pa, sp p.block = true) → DataW.TrodAll enc P W' 0 sp true f.params.toList args.toList (s.fn H (ds ++ [])).args pa := by
    intro sp hsp
    rw [hs]
    exact trodAll_stays hl hk hp hA hlt hsp
  have hvs : ∀ sp : Nat → Bool, DataW.TrodVars enc P W' sp s.vars (s.fn H (ds ++ [])).vars [] := by
    intro sp
    rw [hvars, hs]
    exact rfl
  refine ⟨ds, [], pa ++ [], [], pa, [], hW', hres _ _ _, hargs _ (fun p hp => by simpa using hlt p hp), hvs _, World.keptBut_mono (fun p hp => ⟨hp, ?_⟩) (hk.below.frame (· ∈ pa ++ [])), fun _ => ?_⟩
  · simpa using hp
  · refine ⟨fun j t' r hj hv => ?_, _, _, ([] ++ pa) ++ [], ⟨[] ++ pa, [], trodAll_append (hargs _ (fun _ _ => rfl)) (hres _ _ _), hvs _, rfl, ?_, ?_⟩, ?_⟩
    · exact ok_one hr rfl hok j t' r hj hv
    · intro b off hp
      have hin : MemPlace.cell b off ∈ pa := by simpa using hp
      rw [hk.below.frozen (hlt _ hin)]
      exact hz b off (by simpa using hin)
    · intro ha
      have := hn ha
      simpa using this
    · intro p hp _
      simpa using hp
/-- So many things that exist make a list. -/
theorem exists_list {α : Type} {Q : Nat → α → Prop} : ∀ n : Nat, (∀ i, i < n → ∃ x, Q i x) → ∃ l : List α, l.length = n ∧ ∀ i x, l[i]? = some x → Q i x
 | 0, _ => ⟨[], rfl, fun i x h => by simp at h⟩
 | n + 1, h => by
  obtain ⟨l, h1, h2⟩ := exists_list n fun i hi => h i (by omega)
  obtain ⟨x, hx⟩ := h n (by omega)
  refine ⟨l ++ [x], by simp [h1], fun i y hy => ?_⟩
  rw [List.getElem?_append] at hy
  split at hy
  ·exact h2 i y hy
  ·rename_i hge
   have hi : i = n := by
    rcases Nat.lt_or_ge (i - l.length) 1 with h3 | h3
    ·omega
    ·rw [List.getElem?_eq_none (by simpa using h3)] at hy; cases hy
   subst hi
   rw [h1, Nat.sub_self] at hy
   injection hy with hy
   rw [← hy]; exact hx
/-- Cells of things one behind the other. -/
theorem flatMap_get {α : Type} {f : α → List Value} {s : Nat} (hf : ∀ x, (f x).length = s) : ∀ (l : List α) (k : Nat) (v : Value), (l.flatMap f)[k]? = some v → ∃ i j x, l[i]? = some x ∧ (f x)[j]? = some v ∧ k = i * s + j
 | [], k, v, h => by simp at h
 | x :: l, k, v, h => by
  rw [List.flatMap_cons, List.getElem?_append] at h
  split at h
  ·exact ⟨0, k, x, rfl, h, by omega⟩
  ·rename_i hge
   obtain ⟨i, j, y, h1, h2, h3⟩ := flatMap_get hf l _ v h
   rw [hf] at h3 hge
   exact ⟨i + 1, j, y, by simpa using h1, h2, by rw [Nat.add_mul]; omega⟩
theorem flatMap_len {α : Type} {f : α → List Value} {s : Nat} (hf : ∀ x, (f x).length = s) : ∀ l : List α, (l.flatMap f).length = l.length * s
 | [] => by simp
 | x :: l => by rw [List.flatMap_cons, List.length_append, hf, flatMap_len hf l, List.length_cons, Nat.add_mul]; omega
/-- A struct's reading, field by field. -/
theorem struct_fields {e : TypeId} {fs : Array Field} {W : World} {base n : Nat} {sp : Nat → Bool} {held : Bool} {cs : List Value} {y : DataW H × List MemPlace} (he : P.underlying e = some (.struct fs)) (hone : oneCellFields P fs = true) (h : DataW.trod enc P W base sp held n e cs = some y) (_hC : P.cellsOf e = fs.size) (hcl : cs.length = fs.size) :
    ∀ (j : Nat) (fd : Field), fs[j]? = some fd → ∃ v y' n', cs[j]? = some v ∧ DataW.trod enc P W base sp held n' fd.type [v] = some y' := by
  obtain ⟨ys, n', hn', hy, hlen, hyl, hf⟩ := DataW.trod_struct he h
  intro j fd hj
  obtain ⟨ho, hk⟩ := hone_of hone j fd hj
  have hjl : j < fs.size := (Array.getElem?_eq_some_iff.1 hj).1
  have h1 := hf j fd hj
  rw [ho, hk] at h1
  have hone' : (cs.drop j).take 1 = [cs[j]'(by omega)] := by
    rw [List.drop_eq_getElem_cons (by omega)]
    rfl
  rw [hone'] at h1
  have hys : ys[j]? = some (ys[j]'(by omega)) := List.getElem?_eq_getElem (by omega)
  exact ⟨_, _, _, List.getElem?_eq_getElem (by omega), h1.trans hys⟩
end
end Go.Mw
