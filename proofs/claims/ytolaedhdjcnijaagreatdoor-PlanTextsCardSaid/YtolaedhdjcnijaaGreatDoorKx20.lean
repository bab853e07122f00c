/-
 The program's bytes of hex digits, walked.
-/
import Derived.Test.YtolaedhdjcnijaaGreatDoorKx19
import Derived.Lib.ItoaLen
set_option linter.unusedVariables false
set_option linter.unusedSimpArgs false
namespace Go.Mw
section gives
variable {P : Program} {ρ : Operand → Value} {ty : TypeId} {w : World} {x y : Operand} {T U : TypeId} {k : IntKind} {a b c : Int}
theorem Gives.shlE {yk : IntKind} (hx : ρ x = .int k a) (hy : ρ y = .int yk b) (h0 : 0 ≤ b) (he : k.wrap (a * 2 ^ (Min.min b.toNat k.bits)) = c) : Gives P ρ (.binOp .shl T x y U) ty w (.int k c) w := by subst he; exact Gives.shl hx hy h0
theorem Gives.maxE {ts : Array TypeId} (hx : ρ x = .int k a) (hy : ρ y = .int k b) (he : Max.max a b = c) : Gives P ρ (.call { callee := .builtin .max, args := #[x, y], argTypes := ts }) ty w (.int k c) w := by subst he; exact Gives.max hx hy
end gives
end Go.Mw
namespace Go.Proofs.YtolaedhdjcnijaaGreatDoor
open Go Go.Mw Go.Lib
set_option maxRecDepth 4000
theorem index_hex (c : UInt8) : max 0 (Lib.indexByte hexS c) = (((hexD c).getD 0 : Nat) : Int) := by
 have key : ∀ i : Fin 256, max 0 (Lib.indexByte hexS i.val.toUInt8) = (((hexD i.val.toUInt8).getD 0 : Nat) : Int) := by decide +kernel
 have := key ⟨c.toNat, c.toNat_lt⟩
 have e : (c.toNat).toUInt8 = c := by simp
 simpa only [e] using this
theorem hexD_lt16 (c : UInt8) : (hexD c).getD 0 < 16 := by
 unfold hexD
 split
 ·rw [Option.getD_some]; omega
 split
 ·rw [Option.getD_some]; omega
 decide
theorem or_hex {a b : Nat} (ha : a < 16) (hb : b < 16) : bits .or .i64 ((16 * a : Nat) : Int) (b : Int) = ((a * 16 + b : Nat) : Int) := by
 have key : ∀ i j : Fin 16, bits .or .i64 ((16 * i.val : Nat) : Int) (j.val : Int) = ((i.val * 16 + j.val : Nat) : Int) := by decide +kernel
 exact key ⟨a, ha⟩ ⟨b, hb⟩
theorem pairsL_two (a b : UInt8) (t : List UInt8) : pairsL (a :: b :: t) = ((hexD a).getD 0 * 16 + (hexD b).getD 0).toUInt8 :: pairsL t := rfl
theorem pairsL_short {l : List UInt8} (h : l.length ≤ 1) : pairsL l = [] := by
 match l, h with
 | [], _ => rfl
 | [_], _ => rfl
section
variable {w : World}
theorem indexByte_ok (l : List UInt8) (c : UInt8) : Rets Tryz.prog 89 [str l, B c] w fun v w' => v = I (Lib.indexByte l c) ∧ w = w' :=
 rets_same (by
  have := Tryz.strings_IndexByte ⟨l.toArray⟩ (c.toNat : Int) w
  have e : ((c.toNat : Int).toNat).toUInt8 = c := by simp
  rw [e] at this
  exact this)
theorem cutPrefix_ok (l p : List UInt8) : Rets Tryz.prog 252 [str l, str p] w fun v w' => v = .tuple #[str (Lib.trimPrefix l p), .bool (Lib.hasPrefix l p)] ∧ w = w' :=
 rets_same (Tryz.strings_CutPrefix ⟨l.toArray⟩ ⟨p.toArray⟩ w)
theorem unhexE_ok (l : List UInt8) (hl : l.length ≤ 1000000) (h0 : l.head? = some 120) : Rets Tryz.prog 223 [str l] w fun v w' => v = agg (cellCells ⟨false, 0, pairsL (l.drop 1)⟩) ∧ Kept noB w w' := by
 have H := Sep.start0 w
 have htrim : Lib.trimPrefix l [120] = l.drop 1 := by
  cases l with
  | nil => cases h0
  | cons c t =>
   injection h0 with h0
   subst h0
   rfl
 refine retsC1 Tryz.func223 rfl rfl rfl rfl ?_
 refine Sr (FL_alloc H (h := fun b1 w2 H2 k1 => ?_))
 refine Nx (Mv ?_)
 refine FL_callS (cutPrefix_ok l [120]) (h := ?_)
 rw [htrim]
 refine Mv ?_
 refine Vx ?_
 refine Vx ?_
 refine Am ?_
 refine Nx (Am ?_)
 refine Qn (FW_seq (FW_block ?_))
 have H11 := H2.nilBytes 5
 refine FW_loop' (fun x : List UInt8 × List UInt8 × Value => [(0, str x.1), (2, .pointer (some ⟨b1, 0, none⟩)), (3, x.2.2)]) (fun x w' => (x.1.length ≤ l.length ∧ x.2.1.length + x.1.length ≤ l.length ∧ x.2.1 ++ pairsL x.1 = pairsL (l.drop 1)) ∧ Sep w noB [bytesH 5 x.2.2 x.2.1, blk b1 (cellCells cell0) 47] w') (fun x _ => x.1.length) (l.drop 1, [], .slice none 0 0) ⟨rfl, rfl, rfl, trivial⟩ ⟨⟨by dsimp only; rw [List.length_drop]; omega, by simp, rfl⟩, H11⟩ (fun x τ w11 hI => ?_)
 obtain ⟨s, acc, v1⟩ := x
 obtain ⟨⟨hs1, hs2, hst⟩, H11⟩ := hI
 dsimp only at hs1 hs2 hst H11
 try simp only [upds, like, upd_ds, und_ds]
 refine FW_seq (Sr (Mv ?_))
 refine Vt ?_
 refine Vg ?_
 refine Qn (Cp rfl (fun hc15 => ?_) (fun hc15 => ?_))
 ·have hlt : 1 < s.length := by omega
  obtain ⟨a, b, t, rfl⟩ : ∃ a b t, s = a :: b :: t := by
   match s, hlt with
   | a :: b :: t, _ => exact ⟨a, b, t, rfl⟩
  rw [pairsL_two] at hst
  have ha := hexD_lt16 a
  have hb := hexD_lt16 b
  have hbv : Value.int .u8 (((hexD a).getD 0 * 16 + (hexD b).getD 0 : Nat) : Int) = B ((hexD a).getD 0 * 16 + (hexD b).getD 0).toUInt8 := (B_of (by omega)).symm
  simp only [List.length_cons] at hs1 hs2
  refine Sk (FW_seq (FW_block (FW_drawS rfl H11 (h := fun hok17 w19 H19 => ?_))))
  refine Gm hok17 0 ?_
  refine Gm hok17 1 ?_
  refine Gp hok17 2 rfl rfl (fun _ => (Gives.idxD (i := 0) rfl rfl (by omega))) (Gm hok17 6 ?_)
  refine Gp hok17 7 rfl rfl (fun _ => (Gives.idxD (i := 1) rfl rfl (by omega))) (FGcallS hok17 3 [(7, true), (6, true), (0, true)] H19 (indexByte_ok hexS a) (h := fun w23 H23 => ⟨Stab_pure (Stab_pure (Stab_pure (Stab_nil))), ?_⟩))
  refine Gp hok17 4 rfl rfl (fun _ => (Gives.maxE rfl rfl (index_hex a))) (Gp hok17 5 rfl rfl (fun _ => (Gives.shlE (c := ((16 * (hexD a).getD 0 : Nat) : Int)) rfl rfl (by omega) (by show IntKind.i64.wrap (((hexD a).getD 0 : Nat) * 16) = _; rw [IntKind.wrap_i64]; omega))) ?_)
  refine FGcallS hok17 8 [(5, true), (4, true), (0, true)] H23 (indexByte_ok hexS b) (h := fun w27 H27 => ⟨Stab_pure (Stab_pure (Stab_pure (Stab_nil))), ?_⟩)
  refine Gp hok17 9 rfl rfl (fun _ => (Gives.maxE rfl rfl (index_hex b))) (Gp hok17 10 rfl rfl (fun _ => (Gives.orE rfl rfl (or_hex ha hb))) ?_)
  refine Gp hok17 11 rfl rfl (fun _ => (Gives.convU8 rfl (by omega))) (FGbuildSlice hok17 12 [(0, true)] H27 (xs := [.tmp 25]) (out := [((hexD a).getD 0 * 16 + (hexD b).getD 0).toUInt8].map B) (Elems.one rfl rfl Elems.nil) (h := fun bs w32 H32 => ⟨Stab_pure (Stab_nil), ?_⟩))
  refine FGappendB hok17 13 [] H32 (news := [((hexD a).getD 0 * 16 + (hexD b).getD 0).toUInt8]) At0 (by simp; omega) (h := fun v2 w34 H34 => ⟨Stab_nil, ?_⟩)
  refine FGset hok17 14 [] (h := ⟨Stab_nil, ?_⟩)
  refine FG_end hok17 (by kernel_rfl) ?_
  refine Qblk_normal (Qseq_normal (FW_region (Mv ?_)))
  refine Vv (Gives.sliceFromT (l := a :: b :: t) (i := 2) rfl rfl (by simp)) ?_
  refine Am ?_
  refine FL_nil ?_
  exact Qround_normal (t, acc ++ [((hexD a).getD 0 * 16 + (hexD b).getD 0).toUInt8], v2) ⟨rfl, rfl, rfl, trivial⟩ ⟨⟨by dsimp only; omega, by dsimp only; rw [List.length_append]; simp; omega, by dsimp only; rw [List.append_assoc]; exact hst⟩, H34⟩ (by simp; omega)
 have hsh : s.length ≤ 1 := by omega
 rw [pairsL_short hsh, List.append_nil] at hst
 refine FW_exit (Qseq_exit (Qround_exit (Qblk_exit (Qseq_normal (Sr (Mv ?_))))))
 refine Vv (Gives.bytesO H11 At0 rfl) (Vv (Gives.build (out := cellCells ⟨false, 0, acc⟩) (Fills.one rfl rfl rfl (by simp) rfl Fills.nil)) ?_)
 refine FL_storeAll H11 (h := fun w45 H45 => ?_)
 refine Qn (FW_ret (QfnC_ret (h := ?_)))
 exact ⟨_, resC1 H45, by rw [hst]; rfl, H45.kept⟩
end
def typeRaw : TypeM := ⟨5, false⟩
def textRaw (c : CellM) : List UInt8 × Int := if checkC typeRaw c = 0 then (120 :: hexL c.s, 0) else ([], checkC typeRaw c)
theorem raw_null {c : CellM} (h : checkC typeRaw c = 0) : c.null = false ∧ c.s.length ≤ 1024 := by
 unfold checkC at h
 have e : mayT typeRaw = true := rfl
 rw [e, if_neg (by decide)] at h
 cases hn : c.null with
 | true => rw [hn, if_pos rfl] at h; split at h <;> rename_i hx; exact absurd hx.1 (by decide); cases h
 | false =>
  rw [hn, if_neg (by decide)] at h
  split at h
  ·rename_i hx
   have : isC typeRaw.kind c = decide (c.n = 0 ∧ c.s.length ≤ 1024) := rfl
   rw [this, decide_eq_true_eq] at hx
   exact ⟨rfl, hx.2⟩
  cases h
section
variable {w : World}
theorem textRaw_ok (c : CellM) (hf : fits c.n) (hT : TabsU w) : Rets Tryz.prog 128 [agg (typeCells typeRaw), agg (cellCells c)] w fun v w' => v = .tuple #[str (textRaw c).1, I (textRaw c).2] ∧ Kept noB w w' := by
 have H := Sep.start0 w
 refine rets2 Tryz.func128 rfl rfl rfl rfl ?_
 refine Sr (FL_box H (cs := typeCells typeRaw) rfl (h := fun b0 w2 H2 k0 => ?_))
 refine FL_box H2 (h := fun b3 w4 H4 k3 => ?_)
 refine Am ?_
 refine Am ?_
 refine Qn (FW_seq (Sr (FL_loadAll H4 (h := ?_))))
 refine FL_loadAll H4 (h := ?_)
 refine FL_callQ H4 (cellCheck_ok typeRaw c hf (hT.keep H4.kept)) (h := fun w10 H10 k9 => ?_)
 refine Am ?_
 refine Nx (Mv ?_)
 refine Vn ?_
 refine Qn (Cp rfl (fun hc14 => ?_) (fun hc14 => ?_))
 ·have hres : textRaw c = ([], checkC typeRaw c) := if_neg hc14
  refine Sr (Mv ?_)
  refine Am ?_
  refine Am ?_
  refine Qn (Rs (Qfn_ret (hR := ?_)))
  exact ⟨by rw [hres]; rfl, H10.kept⟩
 have hck : checkC typeRaw c = 0 := by simpa using hc14
 have hres : textRaw c = (120 :: hexL c.s, 0) := if_pos hck
 obtain ⟨hnn, hsl⟩ := raw_null hck
 refine Sk (FW_seq (Sr (Vf ?_)))
 refine Ld H10 ?_
 refine Qn (Cd rfl (fun hc23 => ?_) (fun hc23 => ?_))
 ·exact absurd hc23 (by rw [hnn]; decide)
 refine Sk (FW_seq (FW_drawS rfl H10 (h := fun hok25 w27 H27 => ?_)))
 refine FGloadAll hok25 0 H27 (h := ?_)
 refine FGloadAll hok25 3 H27 (h := ?_)
 refine FGcall hok25 1 [(3, false)] rfl (by kernel_rfl) (of_ok typeRaw (by decide) (by decide) (hT.keep H27.kept)) rfl (by kernel_rfl) (by kernel_rfl) (fun v' w31 hv => ?_)
 obtain ⟨⟨isF, rfl, _⟩, hkk⟩ := hv
 have H31 := H27.keep hkk
 rw [show kindF typeRaw.kind = kF5 from rfl]
 refine ⟨(Stab_cons rfl (by kernel_rfl) (Gives.loadN rfl (H31.obj At0) (us := cellCells c) rfl rfl) rfl (Stab_nil)), ?_⟩
 refine Gp hok25 2 rfl rfl (fun _ => (Gives.fieldOf1 rfl rfl)) (FGcallV hok25 4 [] (y := .tmp 17) (f := 222) (fs := []) (cs := []) (vals := [agg (cellCells c)]) rfl (hexE_ok c (by omega)) (h := fun v' w34 hv => ?_))
 obtain ⟨rfl, hkk2⟩ := hv
 have H34 := H31.keep hkk2
 refine ⟨Stab_nil, ?_⟩
 refine Gp hok25 5 rfl rfl (fun _ => Gives.assign rfl) (Gp hok25 6 rfl rfl (fun _ => Gives.assign rfl) ?_)
 refine FG_end hok25 (by kernel_rfl) ?_
 refine Qseq_normal (FW_ret (Qfn_ret (hR := ?_)))
 exact ⟨by rw [hres]; rfl, H34.kept⟩
theorem readRaw_ok (l : List UInt8) (hl : l.length ≤ 1000000) (h0 : l.head? = some 120) (hT : TabsU w) : Rets Tryz.prog 147 [agg (typeCells typeRaw), str l] w fun v w' => (∃ e, v = .tuple #[agg (cellCells ⟨false, 0, readX l⟩), I e]) ∧ Kept noB w w' := by
  have H := Sep.start0 w
  obtain ⟨s, hs⟩ : ∃ s, s = pairsL (l.drop 1) := ⟨_, rfl⟩
  have hrx : readX l = if 120 :: hexL s = l ∧ s.length ≤ 1024 then s else [] := by rw [hs]; rfl
  have hck0 : checkC typeRaw ⟨false, 0, s⟩ = if s.length ≤ 1024 then 0 else 90 := by
    have e : isC typeRaw.kind ⟨false, 0, s⟩ = decide ((0 : Int) = 0 ∧ s.length ≤ 1024) := rfl
    have e1 : mayT typeRaw = true := rfl
    unfold checkC
    rw [e1, if_neg (by decide), if_neg (by simp), e]
    by_cases h : s.length ≤ 1024 <;> simp [h]
  refine retsC2 Tryz.func147 rfl rfl rfl rfl ?_
  refine Sr (FL_box H (cs := typeCells typeRaw) rfl (h := fun b0 w2 H2 k0 => ?_))
  refine FL_alloc H2 (h := fun b3 w4 H4 k3 => ?_)
  refine Am ?_
  refine Qn (FW_seq (Sr (FL_loadAll H4 (h := ?_))))
  refine FL_callQ H4 (cellMay_ok typeRaw) (h := fun w8 H8 k7 => ?_)
  refine Vv (Gives.notP rfl) (Qn ?_)
  refine Cp rfl (fun hc10 => ?_) (fun hc10 => ?_)
  · exact absurd hc10 (by decide)
  refine Sk (Sr (FL_loadAll H8 (h := ?_)))
  refine FL_call (of_ok typeRaw (by decide) (by decide) (hT.keep H8.kept)) rfl rfl (fun v' w14 hv => ?_)
  obtain ⟨⟨isF, rfl, _⟩, hkk⟩ := hv
  have H14 := H8.keep hkk
  rw [show kindF typeRaw.kind = kF5 from rfl]
  refine Vv (Gives.fieldOf1 rfl rfl) (Mv ?_)
  refine FL_callV (f := 223) (fs := []) (cs := []) (vals := [str l]) rfl (unhexE_ok l hl h0) rfl rfl (fun v' w18 hv => ?_)
  obtain ⟨rfl, hkk⟩ := hv
  have H18 := H14.keep hkk
  rw [← hs]
  refine FL_alloc H18 (h := fun b19 w20 H20 k19 => ?_)
  refine FL_storeAll H20 (h := fun w22 H22 => ?_)
  refine Qn (FW_seq (Sr (Mv ?_)))
  refine Vv (Gives.eqlT rfl rfl) (Qn ?_)
  refine Cp rfl (fun hc25 => ?_) (fun hc25 => ?_)
  · have hln : l = [110, 117, 108, 108] := hc25
    rw [hln] at h0; cases h0
  refine Sk (FW_seq (Sr (FL_loadAll H22 (h := ?_))))
  refine FL_loadAll H22 (h := ?_)
  refine FL_callQ H22 (textRaw_ok ⟨false, 0, s⟩ ⟨(by show (-9223372036854775808 : Int) ≤ 0; decide), (by show (0 : Int) ≤ 9223372036854775807; decide)⟩ (hT.keep H22.kept)) (h := fun w30 H30 k29 => ?_)
  refine Mv ?_
  refine Vx ?_
  refine Vx ?_
  refine Am ?_
  refine Am ?_
  refine Nx (Mv ?_)
  refine Vn ?_
  refine Mv ?_
  refine FL_splitP (t := 29) rfl (fun hs39 => ?_) (fun hs39 => ?_)
  · have hno : readX l = [] := by
      rw [hrx, if_neg]
      rintro ⟨_, h2⟩
      refine hs39 ?_
      unfold textRaw
      rw [hck0, if_pos h2, if_pos rfl]
    refine Of (Of (Of (Pt ?_)))
    refine Qn (FW_cond_true rfl ?_)
    refine Sr (Vv (Gives.build (out := cellCells cell0) Fills.nil) (FL_storeAll H30 (h := fun w44 H44 => ?_)))
    refine Am ?_
    refine Qn (Rs (QfnC_ret (h := ?_)))
    exact ⟨_, resC2 H44, ⟨4, by rw [hno]; rfl⟩, H44.kept⟩
  have hz : s.length ≤ 1024 := by
    refine Classical.byContradiction fun h => hs39 ?_
    unfold textRaw
    rw [hck0, if_neg h, if_neg (by decide)]
    decide
  have htx : (textRaw ⟨false, 0, s⟩).1 = 120 :: hexL s := by
    unfold textRaw
    rw [hck0, if_pos hz, if_pos rfl]
  refine On (Mv ?_)
  refine On (Mv ?_)
  refine On (Vv (Gives.neqT rfl rfl) (Pf ?_))
  refine Qn (Cp rfl (fun hc52 => ?_) (fun hc52 => ?_))
  · have hno : readX l = [] := by rw [hrx, if_neg (fun h => hc52 (by rw [htx]; exact h.1))]
    refine Sr (Vv (Gives.build (out := cellCells cell0) Fills.nil) (FL_storeAll H30 (h := fun w56 H56 => ?_)))
    refine Am ?_
    refine Qn (Rs (QfnC_ret (h := ?_)))
    exact ⟨_, resC2 H56, ⟨4, by rw [hno]; rfl⟩, H56.kept⟩
  have hyes : readX l = s := by rw [hrx, if_pos ⟨by rw [← htx]; exact Classical.not_not.1 hc52, hz⟩]
  refine Sk (Sr (FL_loadAll H30 (h := ?_)))
  refine FL_storeAll H30 (h := fun w62 H62 => ?_)
  refine Am ?_
  refine Qn (FW_ret (QfnC_ret (h := ?_)))
  exact ⟨_, resC2 H62, ⟨0, by rw [hyes]; rfl⟩, H62.kept⟩
end
theorem index_nil1 (b : UInt8) : Lib.index [] [b] = -1 := rfl
theorem index_hit1 (b : UInt8) (t : List UInt8) : Lib.index (b :: t) [b] = 0 := by
 unfold Lib.index
 rw [if_pos (by simp [List.isPrefixOf])]
theorem index_miss1 {b c : UInt8} (h : c ≠ b) (t : List UInt8) : Lib.index (c :: t) [b] = if Lib.index t [b] = -1 then -1 else Lib.index t [b] + 1 := by
 rw [Lib.index, if_neg (by simp [List.isPrefixOf]; exact fun e => h e.symm)]
 by_cases h1 : Lib.index t [b] = -1 <;> simp [h1]
theorem replaceK_one (b : UInt8) (new : List UInt8) : ∀ (s : List UInt8) (k : Nat), s.count b ≤ k → Lib.replaceK [b] new k s = s.flatMap fun c => if c = b then new else [c]
 | [], 0, _ => rfl
 | [], k + 1, _ => by rw [Lib.replaceK, index_nil1, if_pos (by decide)]; rfl
 | c :: t, k, hk => by
  by_cases h : c = b
  ·subst h
   rw [List.count_cons_self] at hk
   obtain ⟨k, rfl⟩ : ∃ k', k = k' + 1 := ⟨k - 1, by omega⟩
   rw [Lib.replaceK_hit [c] new k (c :: t) 0 (index_hit1 c t), List.flatMap_cons, if_pos rfl]
   show [] ++ new ++ Lib.replaceK [c] new k t = _
   rw [replaceK_one c new t k (by omega)]
   rfl
  rw [List.count_cons_of_ne h] at hk
  rw [List.flatMap_cons, if_neg h, ← replaceK_one b new t k hk]
  cases k with
  | zero => rfl
  | succ k =>
   rw [Lib.replaceK, Lib.replaceK, index_miss1 h]
   by_cases h1 : Lib.index t [b] = -1
   ·rw [h1]; rfl
   have hge := Lib.index_ge t [b]
   have e0 : ¬ (Lib.index t [b] == -1) = true := by simpa using h1
   have e1 : ¬ (Lib.index t [b] + 1 == -1) = true := by simp; omega
   rw [if_neg h1, if_neg e0, if_neg e1]
   have e2 : (Lib.index t [b] + 1).toNat = (Lib.index t [b]).toNat + 1 := by omega
   have e3 : (Lib.index t [b]).toNat + 1 + [b].length = ((Lib.index t [b]).toNat + [b].length) + 1 := by omega
   rw [e2, e3, List.take_succ_cons, List.drop_succ_cons]
   rfl
theorem replaceAll_one (b : UInt8) (new s : List UInt8) (h : new ≠ [b]) : Lib.replaceAll s [b] new = s.flatMap fun c => if c = b then new else [c] := by
 unfold Lib.replaceAll Lib.replace
 rw [if_neg (by simpa using fun e => h e.symm)]
 refine replaceK_one b new s _ ?_
 unfold Lib.replaceNum
 rw [if_pos (.inl (by decide)), Lib.count_one]
 exact Nat.le_refl _
theorem kept_grow (w : World) (k : Nat) (os : Array Obj) : Kept noB w (Go.Sort.grow (w.drewN k) os) := by
 refine ⟨rfl, rfl, rfl, ?_, fun b hb _ => ?_⟩
 ·show w.heap.size ≤ (w.heap ++ os).size
  rw [Array.size_append]; omega
 show (w.heap ++ os)[b]? = w.heap[b]?
 rw [Array.getElem?_append_left hb]
section
variable {w : World}
theorem formatInt_ok (n : Int) (hn : fits n) (hT : TabsX w) : Rets Tryz.prog 125 [.int .i64 n, I 10] w fun v w' => v = str (Lib.itoa n) ∧ Kept noB w w' :=
 Calls.mono (Tryz.strconv_FormatInt_10 n hn.1 hn.2 w hT.pow) fun e w' he => by
  obtain ⟨rfl, k, os, rfl⟩ := he
  exact ⟨rfl, kept_grow w k os⟩
theorem formatBool_ok (b : Bool) : Rets Tryz.prog 126 [.bool b] w fun v w' => v = str (if b = true then [116, 114, 117, 101] else [102, 97, 108, 115, 101]) ∧ w = w' :=
 rets_same (by
  have := Tryz.strconv_FormatBool b w
  cases b <;> exact this)
theorem replaceAll_ok (l : List UInt8) (hl : l.length ≤ 10000000) (hT : TabsX w) : Rets Tryz.prog 98 [str l, str [32], str [92, 117, 48, 48, 50, 48]] w fun v w' => v = str (l.flatMap fun c => if c = 32 then [92, 117, 48, 48, 50, 48] else [c]) ∧ Kept noB w w' := by
 obtain ⟨m, hm⟩ := hT.len
 have h1 := Lib.countB_le ⟨#[32]⟩ (by decide) l.length ⟨l.toArray⟩ (by rw [Mw.size_mk]; exact Nat.le_refl _)
 rw [Mw.size_mk] at h1
 have := rets_below (Tryz.strings_ReplaceAll ⟨l.toArray⟩ ⟨#[32]⟩ ⟨#[92, 117, 48, 48, 50, 48]⟩ m w (by rw [Mw.size_mk]; omega) hm (by decide) (by
  rw [Mw.size_mk]
  show l.length + Lib.countB ⟨l.toArray⟩ ⟨#[32]⟩ * 6 ≤ _
  omega))
 have e : Lib.replaceAll l [32] [92, 117, 48, 48, 50, 48] = l.flatMap fun c => if c = 32 then [92, 117, 48, 48, 50, 48] else [c] := replaceAll_one 32 _ l (by decide)
 rw [← e]
 exact this
theorem signs_ok : Rets Tryz.prog 129 [] w fun v w' => ∃ b : Nat, v = .slice (some ⟨b, 0, none⟩) 12 12 ∧ True ∧ Turn noB (blk b (signsW.flatMap textCells) 9) w w' := by
 have H := Sep.start0 w
 refine rets0 Tryz.func129 rfl rfl rfl ?_
 refine Sr (Am ?_)
 refine Nx (FL_buildSlice H (xs := [_, _, _, _, _, _, _, _, _, _, _, _]) (out := signsW.flatMap textCells) (Elems.one rfl rfl (Elems.one rfl rfl (Elems.one rfl rfl (Elems.one rfl rfl (Elems.one rfl rfl (Elems.one rfl rfl (Elems.one rfl rfl (Elems.one rfl rfl (Elems.one rfl rfl (Elems.one rfl rfl (Elems.one rfl rfl (Elems.one rfl rfl Elems.nil)))))))))))) rfl rfl rfl (fun b1 w3 H3 k2 => ?_))
 refine Am ?_
 refine Qn (FW_ret (Qfn_ret (hR := ?_)))
 exact ⟨b1, rfl, trivial, H3.turn⟩
theorem wordE_ok (x : StepM) (hm : mayS x = true) (hf : fits x.n) (hT : TabsX w) : Rets Tryz.prog 83 [agg (stepCells x)] w fun v w' => v = str (wordS x) ∧ Kept noB w w' := by
 have H := Sep.start0 w
 have hil := itoa_len hf.1 hf.2
 obtain ⟨res, hres⟩ : ∃ res, res = wordS x := ⟨_, rfl⟩
 rw [← hres]
 unfold wordS at hres
 unfold mayS at hm
 refine rets1 Tryz.func83 rfl rfl rfl rfl ?_
 refine Sr (FL_box H (cs := stepCells x) rfl (h := fun b0 w2 H2 k0 => ?_))
 refine Am ?_
 refine Qn (FW_seq (Sr (Vf ?_)))
 refine Ld H2 ?_
 refine Qn (FW_block (Sr (Ve ?_)))
 refine Am ?_
 refine Qn (Cp rfl (fun hc8 => ?_) (fun hc8 => ?_))
 ·rw [if_pos hc8] at hres hm
  refine Sr (Vf ?_)
  refine Ld H2 ?_
  refine FL_callQ H2 (formatInt_ok x.n hf (hT.keep H2.kept)) (h := fun w13 H13 k12 => ?_)
  refine Vv (Gives.catT rfl rfl (by first | omega | (simp; done) | (simp; omega))) ?_
  refine Am ?_
  refine Qn (Rb (Qfn_ret (hR := ?_)))
  exact ⟨by rw [hres]; rfl, H13.kept⟩
 rw [if_neg hc8] at hres hm
 refine Sr (Ve ?_)
 refine Am ?_
 refine Qn (Cp rfl (fun hc20 => ?_) (fun hc20 => ?_))
 ·rw [if_pos hc20] at hres hm
  refine Sr (Vf ?_)
  refine Ld H2 ?_
  refine FL_callQ H2 (formatInt_ok x.n hf (hT.keep H2.kept)) (h := fun w25 H25 k24 => ?_)
  refine Am ?_
  refine Qn (Rb (Qfn_ret (hR := ?_)))
  exact ⟨by rw [hres]; rfl, H25.kept⟩
 rw [if_neg hc20] at hres hm
 refine Sr (Ve ?_)
 refine Am ?_
 refine Qn (Cp rfl (fun hc31 => ?_) (fun hc31 => ?_))
 ·rw [if_pos hc31] at hres hm
  refine Sr (Vf ?_)
  refine Ld H2 ?_
  refine Ve ?_
  refine FL_callS (formatBool_ok (decide (x.n = 1))) (h := ?_)
  refine Am ?_
  refine Qn (Rb (Qfn_ret (hR := ?_)))
  exact ⟨by rw [hres]; by_cases h1 : x.n = 1 <;> simp only [h1, decide_true, decide_false, if_true, if_false] <;> rfl, H2.kept⟩
 rw [if_neg hc31] at hres hm
 refine Sr (Ve ?_)
 refine Am ?_
 refine Qn (Cp rfl (fun hc42 => ?_) (fun hc42 => ?_))
 ·rw [if_pos hc42] at hres hm
  simp only [decide_eq_true_eq] at hm
  obtain ⟨_, hlen, hval⟩ := hm
  have hql := quote_len x.s
  refine Sr (Vf ?_)
  refine Ld H2 ?_
  refine FL_callQ H2 (quoteE_ok x.s (by omega) (hT.keep H2.kept).utf) (h := fun w47 H47 k46 => ?_)
  rw [show quoteP x.s = (quoteL x.s, 0) by unfold quoteP; rw [if_pos hval]]
  refine Mv ?_
  refine Vx ?_
  refine Vx ?_
  refine Am ?_
  refine Am ?_
  refine Nx (Mv ?_)
  refine FL_callQ H47 (replaceAll_ok (quoteL x.s) (by omega) (hT.keep H47.kept)) (h := fun w55 H55 k54 => ?_)
  refine Am ?_
  refine Qn (Rb (Qfn_ret (hR := ?_)))
  exact ⟨by rw [hres]; rfl, H55.kept⟩
 rw [if_neg hc42] at hres hm
 refine Sr (Ve ?_)
 refine Am ?_
 refine Qn (Cp rfl (fun hc61 => ?_) (fun hc61 => ?_))
 ·rw [if_pos hc61] at hres hm
  simp only [decide_eq_true_eq] at hm
  obtain ⟨hn0, hlen⟩ := hm
  have hck : checkC typeRaw ⟨false, 0, x.s⟩ = 0 := by
   have e : isC typeRaw.kind ⟨false, 0, x.s⟩ = decide ((0 : Int) = 0 ∧ x.s.length ≤ 1024) := rfl
   have e1 : mayT typeRaw = true := rfl
   unfold checkC
   rw [e1, if_neg (by decide), if_neg (by simp), e, if_pos (by simp [hlen])]
  refine Sr (Vv (Gives.build (out := typeCells typeRaw) (Fills.one rfl rfl rfl (by simp) rfl Fills.nil)) (Vf ?_))
  refine Ld H2 ?_
  refine Vv (Gives.build (out := cellCells ⟨false, 0, x.s⟩) (Fills.one rfl rfl rfl (by simp) rfl Fills.nil)) (FL_callQ H2 (textRaw_ok ⟨false, 0, x.s⟩ ⟨(by show (-9223372036854775808 : Int) ≤ 0; decide), (by show (0 : Int) ≤ 9223372036854775807; decide)⟩ (hT.keep H2.kept).utf) (h := fun w68 H68 k67 => ?_))
  rw [show textRaw ⟨false, 0, x.s⟩ = (120 :: hexL x.s, 0) from if_pos hck]
  refine Mv ?_
  refine Vx ?_
  refine Vx ?_
  refine Am ?_
  refine Am ?_
  refine Nx (Mv ?_)
  refine Am ?_
  refine Qn (Rb (Qfn_ret (hR := ?_)))
  exact ⟨by rw [hres]; rfl, H68.kept⟩
 rw [if_neg hc61] at hres hm
 refine Sr (Ve ?_)
 refine Am ?_
 refine Qn (Cp rfl (fun hc80 => ?_) (fun hc80 => ?_))
 ·rw [if_pos hc80] at hres hm
  simp only [decide_eq_true_eq] at hm
  refine Sr (Vf ?_)
  refine Ld H2 ?_
  refine FL_callQ H2 (null_ok x.n) (h := fun w85 H85 k84 => ?_)
  refine Am ?_
  refine Qn (Rb (Qfn_ret (hR := ?_)))
  exact ⟨by rw [hres]; rfl, H85.kept⟩
 rw [if_neg hc80] at hres hm
 simp only [decide_eq_true_eq] at hm
 obtain ⟨h7, h18, _, _⟩ := hm
 have hg := sign_get h7 h18
 rw [← hres] at hg
 have htn : (((x.kind - 7).toNat : Nat) : Int) = x.kind - 7 := Int.toNat_of_nonneg (by omega)
 refine FW_skip (Qblk_normal (Qseq_normal (FW_seq (FW_drawS rfl H2 (h := fun hok89 w91 H91 => ?_)))))
 refine Gp hok89 1 rfl rfl (fun _ => (Gives.field0 rfl)) (FGload hok89 2 H91 (h := ?_))
 refine Gp hok89 3 rfl rfl (fun _ => (Gives.subI (c := (((x.kind - 7).toNat : Nat) : Int)) rfl rfl (by omega) (by omega))) (FGcall hok89 0 [(3, true), (2, false), (1, true)] rfl (by kernel_rfl) (signs_ok) rfl (by kernel_rfl) (by kernel_rfl) (fun v' w96 hv => ?_))
 obtain ⟨b1, rfl, _, hkk, F1, hq, hsub⟩ := hv
 have H96 := H91.new hkk hq (fun b hb => (hsub b hb).resolve_left id)
 have hR : Rd w96 (some ⟨b1, 0, none⟩) textCells 1 signsW := Sep.blkRow H96 At0 rfl
 refine ⟨Stab_pure (Stab_load H96 (h := Stab_pure (Stab_nil))), ?_⟩
 refine Gp hok89 4 rfl rfl (fun _ => (Gives.idxR (l := signsW) (enc := textCells) rfl rfl hR (get_lt hg))) (Gl hok89 5 rfl rfl (Gives.loadW (f := 0) rfl hR hg rfl) ?_)
 refine Gp hok89 6 rfl rfl (fun _ => Gives.assign rfl) (FG_end hok89 (by kernel_rfl) ?_)
 refine Qseq_normal (FW_ret (Qfn_ret (hR := ?_)))
 exact ⟨rfl, H96.kept⟩
end
theorem join_eq (sep : UInt8) : ∀ ws : List (List UInt8), Lib.join ws [sep] = joinW sep ws
 | [] => rfl
 | [w] => Lib.join_one w [sep]
 | w :: x :: l => by
  have ih := join_eq sep (x :: l)
  show _ = w ++ sep :: joinW sep (x :: l)
  rw [← ih]
  simp [Lib.join, List.intercalate]
attribute [local irreducible] mayS wordS
section
variable {w : World}
theorem join_ok {l : List (List UInt8)} {v : Value} (hr : RowIn w v textCells 1 l) (hl : l.length ≤ 1000000) (hlen : (joinW 32 l).length ≤ 140737488355328) : Rets Tryz.prog 39 [v, str [32]] w fun v' w' => v' = str (joinW 32 l) ∧ Kept noB w w' := by
 obtain ⟨A, c, rfl, ⟨hc, hc'⟩, hR⟩ := hr
 by_cases h0 : l = []
 ·subst h0
  exact Calls.mono (Tryz.strings_Join_none A c ⟨#[32]⟩ w) fun e w' he => by
   obtain ⟨rfl, rfl⟩ := he
   exact ⟨rfl, Kept.refl _ _⟩
 have hpos : 0 < l.length := List.length_pos_iff.2 h0
 obtain ⟨ad, rfl⟩ := hR.addr hpos
 obtain ⟨x0, hx0⟩ := get_some hpos
 obtain ⟨ad', e0, hc0⟩ := hR.cell (f := 0) hx0 rfl
 injection e0 with e0; subst e0
 have hsp := World.cell?_spot hc0
 obtain ⟨bk, o, sp⟩ := ad
 have hsp' : sp = none := hsp
 subst hsp'
 have hbk : bk < w.heap.size := by
  refine Classical.byContradiction fun hn => ?_
  unfold World.cell? at hc0
  rw [Array.getElem?_eq_none (by show w.heap.size ≤ bk; omega)] at hc0
  cases hc0
 have hml : (l.map fun s : List UInt8 => (⟨s.toArray⟩ : ByteArray)).map (·.data.toList) = l := by
  rw [List.map_map]
  exact (List.map_congr_left fun s _ => rfl).trans (List.map_id l)
 have := rets_below (Tryz.strings_Join bk o c (l.map fun s => ⟨s.toArray⟩) ⟨#[32]⟩ w (fun j x hj => by
  rw [List.getElem?_map] at hj
  obtain ⟨s, hs, rfl⟩ := Option.map_eq_some_iff.1 hj
  obtain ⟨ad', e1, hcs⟩ := hR.cell (f := 0) hs rfl
  injection e1 with e1; subst e1
  rw [Nat.mul_one, Nat.add_zero, Addr.add_lit] at hcs
  exact hcs) hbk (by rw [List.length_map]; omega) (by rw [List.length_map]; exact hc) (by rw [hml]; show (Lib.join l [32]).length ≤ _; rw [join_eq]; exact hlen))
 rw [hml, List.length_map] at this
 have e : Lib.join l [32] = joinW 32 l := join_eq 32 l
 rw [← e]
 exact this
theorem textE_ok {l : List StepM} {vl : Value} (hl : RowIn w vl stepCells 3 l) (hx : ∀ x ∈ l, fits x.n) (hT : TabsX w) : Rets Tryz.prog 37 [vl] w fun v w' => v = .tuple #[str (textS l).1, I (textS l).2] ∧ Kept noB w w' := by
  obtain ⟨C, n, rfl, ⟨hn, hn'⟩, hC⟩ := hl
  have H := Sep.start0 w
  obtain ⟨res, hres⟩ : ∃ res, res = textS l := ⟨_, rfl⟩
  rw [← hres]
  unfold textS at hres
  refine rets1 Tryz.func37 rfl rfl rfl rfl ?_
  refine Sr (Am ?_)
  refine Am ?_
  refine Qn (FW_seq (Sr (Mv ?_)))
  refine Vs ?_
  refine Vg ?_
  refine Qn (Cp rfl (fun hc6 => ?_) (fun hc6 => ?_))
  · rw [if_pos (by omega)] at hres
    refine Sr (Am ?_)
    refine Am ?_
    refine Qn (Rs (Qfn_ret (hR := ?_)))
    exact ⟨by rw [hres]; rfl, H.kept⟩
  rw [if_neg (by omega)] at hres
  refine Sk (Sr (Am ?_))
  refine Qn (FW_seq (Sr (Mv ?_)))
  refine Vs ?_
  refine Mv ?_
  refine Qn (FW_block ?_)
  have H17 := Sep.nilD H 9 1 textCells
  refine FW_loop' (fun x : Nat × Value => [(0, .slice C l.length n), (4, x.2), (10, .slice C l.length n), (11, I l.length), (12, I x.1)]) (fun x w' => (x.1 ≤ l.length ∧ ∀ (j : Nat) y, j < x.1 → l[j]? = some y → mayS y = true) ∧ Sep w noB [rowD 9 1 textCells x.2 ((l.take x.1).map wordS)] w') (fun x _ => l.length - x.1) (0, .slice none 0 0) ⟨rfl, rfl, rfl, rfl, rfl, trivial⟩ ⟨⟨Nat.zero_le _, fun j x hj => absurd hj (Nat.not_lt_zero j)⟩, H17⟩ (fun x τ w17 hI => ?_)
  obtain ⟨i, v1⟩ := x
  obtain ⟨⟨hi, hmay⟩, H17⟩ := hI
  dsimp only at hi hmay H17
  have hml : ((l.take i).map wordS).length = i := by rw [List.length_map, List.length_take]; omega
  try simp only [upds, like, upd_ds, und_ds]
  refine Sr (Vl ?_)
  refine Qn (FW_seq (Cp rfl (fun hc19 => ?_) (fun hc19 => ?_)))
  · have hlt : i < l.length := by omega
    obtain ⟨x, hx'⟩ := get_some hlt
    have hfx := hx x (List.mem_of_getElem? hx')
    have htk : (l.take (i + 1)).map wordS = (l.take i).map wordS ++ [wordS x] := by rw [List.take_add_one, hx', List.map_append]; rfl
    refine Sk (FW_seq (FW_block (Sr (Vv (Gives.idxR rfl rfl (by assumption) (by omega)) (Vv (Gives.loadE0 rfl H17 (by assumption) (by assumption)) ?_)))))
    refine FL_alloc H17 (h := fun b6 w24 H24 k23 => ?_)
    refine FL_storeAll H24 (h := fun w26 H26 => ?_)
    refine Qn (FW_seq (Sr (FL_loadAll H26 (h := ?_))))
    refine FL_callQ H26 (may_ok x hfx (hT.keep H26.kept).utf) (h := fun w29 H29 k28 => ?_)
    refine Vv (Gives.not rfl) (Qn ?_)
    refine Cd rfl (fun hc31 => ?_) (fun hc31 => ?_)
    · have hno : l.all mayS = false := by
        rw [← Bool.not_eq_true, List.all_eq_true]
        intro h
        have := h x (List.mem_of_getElem? hx')
        rw [this] at hc31; cases hc31
      rw [if_pos hno] at hres
      refine Sr (Am ?_)
      refine Am ?_
      refine Qn (Rs (Qblk_ret (Qseq_ret (Qround_ret (Qblk_ret (Qseq_ret (Qfn_ret (hR := ?_))))))))
      exact ⟨by rw [hres]; rfl, H29.kept⟩
    have hmx : mayS x = true := by simpa using hc31
    refine Sk (FW_region (Mv ?_))
    refine FL_loadAll H29 (h := ?_)
    refine FL_callQ H29 (wordE_ok x hmx hfx (hT.keep H29.kept)) (h := fun w40 H40 k39 => ?_)
    refine FL_buildSlice H40 (xs := [.tmp 21]) (out := [wordS x].flatMap textCells) (Elems.one rfl rfl Elems.nil) rfl rfl rfl (fun bs w42 H42 k41 => ?_)
    refine FL_appendD H42 (news := [wordS x]) At1 (by rw [hml]; unfold maxLen; simp; omega) (by rw [hml]; show (i + 1) * 16 ≤ _; omega) (by intro u hu; simp only [List.flatMap_cons, List.flatMap_nil, textCells, List.append_nil, List.mem_cons, List.not_mem_nil, or_false] at hu; subst hu; rfl) (h := ?_)
    intro v2 w44 H44
    rw [← htk] at H44
    refine Am ?_
    refine FL_nil (Qblk_normal (Qseq_normal (FW_region (Vv (Gives.addI rfl rfl rfl (by omega)) ?_))))
    refine Mv ?_
    refine FL_nil ?_
    exact Qround_normal (i + 1, v2) ⟨rfl, rfl, rfl, rfl, rfl, trivial⟩ ⟨⟨by dsimp only; omega, fun j y hj hy => by
    by_cases e : j = i
    · subst e; rw [hx'] at hy; injection hy with hy; rw [← hy]; exact hmx
    exact hmay j y (by dsimp only at hj; omega) hy⟩, (H44.front1).firsts (l := [_])⟩ (by dsimp only; omega)
  have hil : i = l.length := by omega
  have hall : l.all mayS = true := List.all_eq_true.2 fun x hxm => by
    obtain ⟨j, hj⟩ := List.getElem?_of_mem hxm
    exact hmay j x (by have := get_lt hj; omega) hj
  rw [if_neg (by rw [hall]; simp)] at hres
  rw [hil, List.take_length] at H17
  rw [hil, List.take_length] at hml
  have hlen : (joinW 32 (l.map wordS)).length ≤ (6146 + 1) * l.length := by
    have := len_join 32 (k := 6146) (ws := l.map wordS) fun w hw => by
      obtain ⟨x, hxm, rfl⟩ := List.mem_map.1 hw
      exact word_len (List.all_eq_true.1 hall x hxm) (hx x hxm)
    rw [List.length_map] at this
    exact this
  obtain ⟨B, cb, rfl, hcb, hB⟩ := Sep.formD H17 At0
  refine FW_exit (Qseq_exit (Qround_exit (Qblk_exit (Qseq_normal (Sr (Mv ?_))))))
  refine FL_callQ H17 (join_ok (w := w17) ⟨B, cb, rfl, ⟨hcb, Sep.capD H17 At0⟩, Sep_rdD H17 At0⟩ (by omega) (by omega)) (h := fun w52 H52 k51 => ?_)
  refine Am ?_
  refine Am ?_
  refine Qn (FW_ret (Qfn_ret (hR := ?_)))
  exact ⟨by rw [hres]; rfl, H52.kept⟩
end
def rdrH (b : Nat) (l : List UInt8) (at_ : Nat) (e : Int) : HP := blk b [str l, I at_, I e] 235
def failS (e k : Int) : Int := if e = 0 then k else e
def takeS' (l : List UInt8) (at_ : Nat) (e : Int) : UInt8 × Nat × Int := if e ≠ 0 then (0, at_, e) else if at_ = l.length then (0, at_, 3) else (l.getD at_ 0, at_ + 1, 0)
def wantS (l : List UInt8) (at_ : Nat) (e : Int) (c : UInt8) : Nat × Int := ((takeS' l at_ e).2.1, if (takeS' l at_ e).1 = c then (takeS' l at_ e).2.2 else failS (takeS' l at_ e).2.2 41)
def digitS (l : List UInt8) (at_ : Nat) (e : Int) : Nat × Nat × Int :=
 match digitL (takeS' l at_ e).1 with
 | none => (0, (takeS' l at_ e).2.1, failS (takeS' l at_ e).2.2 41)
 | some d => (d, (takeS' l at_ e).2.1, (takeS' l at_ e).2.2)
def halfS (l : List UInt8) (at_ : Nat) (e : Int) (second : Bool) : Nat × Nat × Int :=
 let d0 := digitS l at_ e
 let e1 := if second = true ∧ d0.1 ≠ 13 then failS d0.2.2 41 else d0.2.2
 let d1 := digitS l d0.2.1 e1
 let n1 := 16 * d0.1 + d1.1
 let e2 := if second ≠ decide (220 ≤ n1 ∧ n1 ≤ 223) then failS d1.2.2 41 else d1.2.2
 let d2 := digitS l d1.2.1 e2
 let n2 := 16 * n1 + d2.1
 let d3 := digitS l d2.2.1 d2.2.2
 (16 * n2 + d3.1, d3.2.1, d3.2.2)
theorem take_at {l : List UInt8} {at_ : Nat} {e : Int} (h : at_ ≤ l.length) : (takeS' l at_ e).2.1 ≤ l.length := by
 unfold takeS'
 split
 ·exact h
 split
 ·exact h
 dsimp only; omega
theorem digit_at {l : List UInt8} {at_ : Nat} {e : Int} (h : at_ ≤ l.length) : (digitS l at_ e).2.1 ≤ l.length := by
 unfold digitS
 split <;> exact take_at h
theorem digit_lt (l : List UInt8) (at_ : Nat) (e : Int) : (digitS l at_ e).1 < 16 := by
 unfold digitS
 split
 ·exact Nat.zero_lt_succ 15
 rename_i h; exact digitL_lt h
theorem half_at {l : List UInt8} {at_ : Nat} {e : Int} {s : Bool} (h : at_ ≤ l.length) : (halfS l at_ e s).2.1 ≤ l.length := digit_at (digit_at (digit_at (digit_at h)))
theorem want_at {l : List UInt8} {at_ : Nat} {e : Int} {c : UInt8} (h : at_ ≤ l.length) : (wantS l at_ e c).1 ≤ l.length := take_at h
section
variable {w : World} {l : List UInt8}
theorem fail_ok {b at_ : Nat} {e : Int} {F : Nat → Prop} (k : Int) (hp : (rdrH b l at_ e).ok F w) : Rets Tryz.prog 202 [selfP b, I k] w fun r w' => r = .tuple #[] ∧ Turn F (rdrH b l at_ (failS e k)) w w' := by
 have H := Sep.start1 hp
 unfold rdrH at H
 refine rets2 Tryz.func202 rfl rfl rfl rfl ?_
 refine Sr (Mv ?_)
 refine Vv (Gives.nilCheck rfl) (Vf ?_)
 refine Ld H ?_
 refine Ve ?_
 refine Qn (Cp rfl (fun hc6 => ?_) (fun hc6 => ?_))
 ·have hres : failS e k = k := if_pos hc6
  refine FW_region (Mv ?_)
  refine Mv ?_
  refine Vv (Gives.nilCheck rfl) (Vf ?_)
  refine FL_store H (h := fun w13 H13 => ?_)
  refine FL_nil (Qfn_normal (hR := ?_))
  exact ⟨rfl, by rw [hres]; exact H13.turn⟩
 have hres : failS e k = e := if_neg hc6
 refine FW_skip (Qfn_normal (hR := ?_))
 exact ⟨rfl, by rw [hres]; exact H.turn⟩
theorem take_ok' {b at_ : Nat} {e : Int} {F : Nat → Prop} (hp : (rdrH b l at_ e).ok F w) (hl : l.length ≤ 1000000) (ha : at_ ≤ l.length) : Rets Tryz.prog 248 [selfP b] w fun r w' => r = B (takeS' l at_ e).1 ∧ Turn F (rdrH b l (takeS' l at_ e).2.1 (takeS' l at_ e).2.2) w w' := by
 have H := Sep.start1 hp
 unfold rdrH at H
 obtain ⟨res, hres⟩ : ∃ res, res = takeS' l at_ e := ⟨_, rfl⟩
 rw [← hres]
 unfold takeS' at hres
 refine rets1 Tryz.func248 rfl rfl rfl rfl ?_
 refine Sr (Am ?_)
 refine Qn (FW_seq (Sr (Mv ?_)))
 refine Vv (Gives.nilCheck rfl) (Vf ?_)
 refine Ld H ?_
 refine Vn ?_
 refine Qn (Cp rfl (fun hc7 => ?_) (fun hc7 => ?_))
 ·rw [if_pos hc7] at hres
  refine Sr (Am ?_)
  refine Qn (Rs (Qfn_ret (hR := ?_)))
  exact ⟨by rw [hres]; rfl, by rw [hres]; exact H.turn⟩
 have hc7 := hc7
 rw [if_neg hc7] at hres
 refine Sk (FW_seq (FW_seq (FW_drawS rfl H (h := fun hok12 w14 H14 => ?_))))
 refine Gm hok12 0 ?_
 refine Gp hok12 1 rfl rfl (fun _ => (Gives.nilCheck rfl)) (Gp hok12 2 rfl rfl (fun _ => (Gives.field0 rfl)) ?_)
 refine FGload hok12 3 H14 (h := ?_)
 refine Gm hok12 4 ?_
 refine Gp hok12 5 rfl rfl (fun _ => (Gives.nilCheck rfl)) (Gp hok12 6 rfl rfl (fun _ => (Gives.field0 rfl)) ?_)
 refine FGload hok12 7 H14 (h := ?_)
 refine Gp hok12 8 rfl rfl (fun _ => (Gives.lenT rfl)) (Gp hok12 9 rfl rfl (fun _ => (Gives.eql rfl rfl)) ?_)
 refine FG_end hok12 (by kernel_rfl) ?_
 refine Qseq_normal (Cp rfl (fun hc23 => ?_) (fun hc23 => ?_))
 ·rw [if_pos (by omega)] at hres
  refine Sr (Mv ?_)
  obtain ⟨F0, hp0, hS0, hput0⟩ := H14.focus At0
  refine FL_call (fail_ok (l := l) 3 hp0) rfl rfl (fun v' w27 hv => ?_)
  obtain ⟨rfl, hkk, F1, hq, hs⟩ := hv
  have H27 := hput0 _ F1 _ hkk hq hs
  have he0 : e = 0 := Classical.not_not.1 hc7
  have hfl : failS e 3 = 3 := if_pos he0
  rw [hfl] at H27
  refine Nx (Am ?_)
  refine Qn (Rs (Qfn_ret (hR := ?_)))
  exact ⟨by rw [hres]; rfl, by rw [hres]; exact H27.turn⟩
 rw [if_neg (by omega)] at hres
 refine Sk (Sr (Mv ?_))
 refine Vv (Gives.nilCheck rfl) (Vf ?_)
 refine Ld H14 ?_
 refine Vv (Gives.addI (c := ((at_ + 1 : Nat) : Int)) rfl rfl (by omega) (by omega)) (Vv (Gives.nilCheck rfl) ?_)
 refine Vf ?_
 refine FL_store H14 (h := fun w39 H39 => ?_)
 refine Qn (FW_seq (FW_drawS rfl H39 (h := fun hok40 w42 H42 => ?_)))
 refine Gm hok40 0 ?_
 refine Gp hok40 1 rfl rfl (fun _ => (Gives.nilCheck rfl)) (Gp hok40 2 rfl rfl (fun _ => (Gives.field0 rfl)) ?_)
 refine FGload hok40 3 H42 (h := ?_)
 refine Gm hok40 4 ?_
 refine Gp hok40 5 rfl rfl (fun _ => (Gives.nilCheck rfl)) (Gp hok40 6 rfl rfl (fun _ => (Gives.field0 rfl)) ?_)
 refine FGload hok40 7 H42 (h := ?_)
 refine Gp hok40 8 rfl rfl (fun _ => (Gives.subI (c := (at_ : Int)) rfl rfl (by omega) (by omega))) (Gp hok40 9 rfl rfl (fun _ => (Gives.idxD rfl rfl (by omega))) ?_)
 refine Gp hok40 10 rfl rfl (fun _ => Gives.assign rfl) (FG_end hok40 (by kernel_rfl) ?_)
 refine Qseq_normal (FW_ret (Qfn_ret (hR := ?_)))
 exact ⟨by rw [hres]; rfl, by rw [hres]; have he0 : e = 0 := Classical.not_not.1 hc7; rw [he0] at H42; exact H42.turn⟩
theorem want_ok' {b at_ : Nat} {e : Int} {F : Nat → Prop} (c : UInt8) (hp : (rdrH b l at_ e).ok F w) (hl : l.length ≤ 1000000) (ha : at_ ≤ l.length) : Rets Tryz.prog 201 [selfP b, B c] w fun r w' => r = .tuple #[] ∧ Turn F (rdrH b l (wantS l at_ e c).1 (wantS l at_ e c).2) w w' := by
  have H := Sep.start1 hp
  refine rets2 Tryz.func201 rfl rfl rfl rfl ?_
  refine Sr (Mv ?_)
  obtain ⟨F0, hp0, hS0, hput0⟩ := H.focus At0
  refine FL_call (take_ok' (l := l) hp0 hl ha) rfl rfl (fun v' w3 hv => ?_)
  obtain ⟨rfl, hkk, F1, hq, hs⟩ := hv
  have H3 := hput0 _ F1 _ hkk hq hs
  refine Am ?_
  refine Nx (Mv ?_)
  refine Mv ?_
  refine Vn ?_
  refine Qn (Cp rfl (fun hc8 => ?_) (fun hc8 => ?_))
  · have hres : wantS l at_ e c = ((takeS' l at_ e).2.1, failS (takeS' l at_ e).2.2 41) := by
      unfold wantS
      rw [if_neg (fun h => hc8 (by rw [h]))]
    refine FW_region (Mv ?_)
    obtain ⟨F0, hp0, hS0, hput0⟩ := H3.focus At0
    refine FL_call (fail_ok (l := l) 41 hp0) rfl rfl (fun v' w12 hv => ?_)
    obtain ⟨rfl, hkk, F1, hq, hs⟩ := hv
    have H12 := hput0 _ F1 _ hkk hq hs
    refine FL_nil (Qfn_normal (hR := ?_))
    exact ⟨rfl, by rw [hres]; exact H12.turn⟩
  have hres : wantS l at_ e c = ((takeS' l at_ e).2.1, (takeS' l at_ e).2.2) := by
    unfold wantS
    rw [if_pos (UInt8.toNat_inj.1 (by have h := hc8; omega))]
  refine FW_skip (Qfn_normal (hR := ?_))
  exact ⟨rfl, by rw [hres]; exact H3.turn⟩
theorem next_go (l : List UInt8) : nextL l = if (Lib.decodeGo ⟨l.toArray⟩).1 = 65533 ∧ (Lib.decodeGo ⟨l.toArray⟩).2 < 2 then none else some (Lib.decodeGo ⟨l.toArray⟩) := by
 by_cases h0 : l = []
 ·subst h0; rfl
 have hd : Lib.decodeGo ⟨l.toArray⟩ = decodeL l := by
  unfold Lib.decodeGo
  rw [if_neg (by rw [Mw.size_mk]; exact fun e => h0 (List.eq_nil_of_length_eq_zero e))]
  rfl
 rw [hd]
 cases hn : nextL l with
 | none =>
  unfold nextL at hn
  split at hn
  ·rename_i h
   rcases h with h | ⟨h1, h2⟩
   ·exact absurd h h0
   rw [if_pos ⟨h1, by omega⟩]
  cases hn
 | some p =>
  obtain ⟨r, n⟩ := p
  obtain ⟨e1, h1, _, _⟩ := next_some hn
  rw [e1, if_neg]
  rintro ⟨h2, h3⟩
  dsimp only at h2 h3
  unfold nextL at hn
  rw [if_pos (.inr ⟨by rw [e1]; exact h2, by rw [e1]; dsimp only; omega⟩)] at hn
  cases hn
theorem next_okU (l : List UInt8) (hT : TabsU w) : Rets Tryz.prog 250 [str l] w fun v w' => v = .tuple #[I32 (nextP l).1, I (nextP l).2, .bool (nextL l).isSome] ∧ Kept noB w w' := by
 have H := Sep.start0 w
 refine rets1 Tryz.func250 rfl rfl rfl rfl ?_
 refine Sr (Am ?_)
 refine Am ?_
 refine Am ?_
 refine Nx (Mv ?_)
 refine FL_callQ H (rets_below (Tryz.utf8_DecodeRuneInString ⟨l.toArray⟩ _ (hT.keep H.kept))) (h := fun w6 H6 k5 => ?_)
 refine Mv ?_
 refine Vx ?_
 refine Vx ?_
 refine Am ?_
 refine Am ?_
 refine Qn (FW_seq (Sr (Mv ?_)))
 refine Ve ?_
 refine Mv ?_
 refine FL_splitP (t := 12) rfl (fun hs15 => ?_) (fun hs15 => ?_)
 ·have hr := hs15
  refine On (Mv ?_)
  refine On (Vl ?_)
  refine Pt ?_
  refine Qn (Cp rfl (fun hc20 => ?_) (fun hc20 => ?_))
  ·have hres := next_go l
   rw [if_pos ⟨by omega, by omega⟩] at hres
   have hresP : nextP l = (0, 0) := by unfold nextP; rw [hres]; rfl
   refine Sr (Am ?_)
   refine Am ?_
   refine Am ?_
   refine Qn (Rs (Qfn_ret (hR := ?_)))
   exact ⟨by rw [hresP, hres]; rfl, H6.kept⟩
  have hres := next_go l
  rw [if_neg (fun h => by omega)] at hres
  refine Sk (Sr (Mv ?_))
  refine Mv ?_
  refine Am ?_
  refine Am ?_
  refine Am ?_
  refine Qn (FW_ret (Qfn_ret (hR := ?_)))
  have hres := next_go l
  rw [if_neg (by omega)] at hres
  have hresP : nextP l = Lib.decodeGo ⟨l.toArray⟩ := by unfold nextP; rw [hres]; rfl
  exact ⟨by rw [hresP, hres]; rfl, H6.kept⟩
 have hr := hs15
 refine Of (Of (Pf ?_))
 refine Qn (FW_cond_false rfl ?_)
 refine Sk (Sr (Mv ?_))
 refine Mv ?_
 refine Am ?_
 refine Am ?_
 refine Am ?_
 refine Qn (FW_ret (Qfn_ret (hR := ?_)))
 have hres := next_go l
 rw [if_neg (by omega)] at hres
 have hresP : nextP l = Lib.decodeGo ⟨l.toArray⟩ := by unfold nextP; rw [hres]; rfl
 exact ⟨by rw [hresP, hres]; rfl, H6.kept⟩
end
end Go.Proofs.YtolaedhdjcnijaaGreatDoor
