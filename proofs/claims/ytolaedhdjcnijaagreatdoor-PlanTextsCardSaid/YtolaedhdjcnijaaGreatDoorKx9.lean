/-
 The document's runes, walked.
-/
import Derived.Test.YtolaedhdjcnijaaGreatDoorKx8
set_option linter.unusedVariables false
set_option linter.unusedSimpArgs false
namespace Go.Proofs.YtolaedhdjcnijaaGreatDoor
open Go Go.Mw Go.Lib
set_option maxRecDepth 4000

def numI (l : List UInt8) : Nat := if l.length = 2 then (l.getD 0 0).toNat % 32 else if l.length = 3 then (l.getD 0 0).toNat % 16 else if l.length = 4 then (l.getD 0 0).toNat % 8 else (l.getD 0 0).toNat
def numAt (l : List UInt8) (i : Nat) : Nat := ((l.take i).drop 1).foldl (fun n c => 64 * n + c.toNat % 64) (numI l)
theorem numAt_one (l : List UInt8) : numAt l 1 = numI l := by
 unfold numAt
 rw [List.drop_of_length_le (by rw [List.length_take]; omega)]
 rfl
theorem numAt_succ {l : List UInt8} {i : Nat} (h1 : 1 ≤ i) (h : i < l.length) : numAt l (i + 1) = 64 * numAt l i + (l.getD i 0).toNat % 64 := by
 unfold numAt
 rw [List.take_add_one, List.getElem?_eq_getElem h, List.drop_append_of_le_length (by rw [List.length_take]; omega), List.foldl_append]
 simp [List.getD_eq_getElem?_getD, List.getElem?_eq_getElem h]
theorem numAt_lt {l : List UInt8} {i : Nat} (h1 : 1 ≤ i) (h4 : i ≤ 4) (h : i ≤ l.length) : numAt l i < 67108864 := by
 have a : numAt l 1 ≤ 255 := by
  rw [numAt_one]
  have := (l.getD 0 0).toNat_lt
  unfold numI
  repeat' split
  all_goals omega
 have hi : i = 1 ∨ i = 2 ∨ i = 3 ∨ i = 4 := by omega
 have s2 : 1 < l.length → numAt l 2 = 64 * numAt l 1 + (l.getD 1 0).toNat % 64 := numAt_succ (by omega)
 have s3 : 2 < l.length → numAt l 3 = 64 * numAt l 2 + (l.getD 2 0).toNat % 64 := numAt_succ (by omega)
 have s4 : 3 < l.length → numAt l 4 = 64 * numAt l 3 + (l.getD 3 0).toNat % 64 := numAt_succ (by omega)
 rcases hi with rfl | rfl | rfl | rfl <;> omega
theorem numAt_all {l : List UInt8} (h1 : 1 ≤ l.length) (h4 : l.length ≤ 4) : numAt l l.length = numL l := by
 match l, h1, h4 with
 | [a], _, _ => rfl
 | [a, b], _, _ => rfl
 | [a, b, c], _, _ => rfl
 | [a, b, c, d], _, _ => rfl
section
variable {w : World} {l : List UInt8}
theorem number_ok (h1 : 1 ≤ l.length) (h4 : l.length ≤ 4) : Rets Tryz.prog 240 [str l] w fun v w' => v = I32 (numL l) ∧ w = w' := by
 have H := Sep.start0 w
 have h8 := (l.getD 0 0).toNat_lt
 refine rets1 Tryz.func240 rfl rfl rfl rfl ?_
 refine Sr (Am ?_)
 refine Nx (Mv ?_)
 refine Vv (Gives.idxD (i := 0) rfl rfl (by omega)) (Vv (Gives.convB rfl) ?_)
 refine Am ?_
 refine Qn (FW_cut (fun _ : Unit => [(0, str l), (3, I (numI l))]) (fun _ w' => Sep w noB [] w' ∧ w = w') ?_ ?_)
 ·refine Sr (Mv ?_)
  refine Vt ?_
  refine Qn (FW_block (Sr (Ve ?_)))
  refine Am ?_
  refine Qn (Cp rfl (fun hc11 => ?_) (fun hc11 => ?_))
  ·have e0 : numI l = (l.getD 0 0).toNat % 32 := by unfold numI; rw [if_pos (by omega)]
   refine FW_region (Mv ?_)
   refine Vv (Gives.remN (b := 32) rfl rfl (by omega)) (Am ?_)
   refine FL_nil (Qblk_normal ?_)
   exact Qcut_normal () ⟨rfl, by rw [e0]; rfl, trivial⟩ ⟨H, rfl⟩
  refine Sr (Ve ?_)
  refine Am ?_
  refine Qn (Cp rfl (fun hc19 => ?_) (fun hc19 => ?_))
  ·have e0 : numI l = (l.getD 0 0).toNat % 16 := by unfold numI; rw [if_neg (by omega), if_pos (by omega)]
   refine FW_region (Mv ?_)
   refine Vv (Gives.remN (b := 16) rfl rfl (by omega)) (Am ?_)
   refine FL_nil (Qblk_normal ?_)
   exact Qcut_normal () ⟨rfl, by rw [e0]; rfl, trivial⟩ ⟨H, rfl⟩
  refine Sr (Ve ?_)
  refine Am ?_
  refine Qn (Cp rfl (fun hc27 => ?_) (fun hc27 => ?_))
  ·have e0 : numI l = (l.getD 0 0).toNat % 8 := by unfold numI; rw [if_neg (by omega), if_neg (by omega), if_pos (by omega)]
   refine FW_region (Mv ?_)
   refine Vv (Gives.remN (b := 8) rfl rfl (by omega)) (Am ?_)
   refine FL_nil (Qblk_normal ?_)
   exact Qcut_normal () ⟨rfl, by rw [e0]; rfl, trivial⟩ ⟨H, rfl⟩
  have e0 : numI l = (l.getD 0 0).toNat := by unfold numI; rw [if_neg (by omega), if_neg (by omega), if_neg (by omega)]
  refine FW_skip (Qblk_normal ?_)
  exact Qcut_normal () ⟨rfl, by rw [e0]; rfl, trivial⟩ ⟨H, rfl⟩
 intro _ τ w36 hI
 obtain ⟨H36, rfl⟩ := hI
 simp only [upds, like, upd_ds, und_ds]
 refine FW_seq (Sr (Am ?_))
 refine Qn (FW_block (FW_loop' (fun i : Nat => [(0, str l), (3, I (numAt l i)), (4, I i)]) (fun i w' => (1 ≤ i ∧ i ≤ l.length) ∧ w = w') (fun i _ => l.length - i) 1 ⟨rfl, by rw [numAt_one]; rfl, rfl, trivial⟩ ⟨⟨Nat.le_refl _, h1⟩, rfl⟩ (fun i τ w39 hI => ?_)))
 obtain ⟨⟨hi1, hi2⟩, rfl⟩ := hI
 have hb := numAt_lt hi1 (by omega) hi2
 try simp only [upds, like, upd_ds]
 refine FW_seq (Sr (Mv ?_))
 refine Mv ?_
 refine Vt ?_
 refine Vl ?_
 refine Qn (Cp rfl (fun hc44 => ?_) (fun hc44 => ?_))
 ·have hlt : i < l.length := by omega
  have hs := numAt_succ hi1 hlt
  have h9 := (l.getD i 0).toNat_lt
  refine Sk (FW_seq (FW_block (FW_region (Mv ?_))))
  refine Vv (Gives.mulI rfl rfl rfl (by omega)) (Mv ?_)
  refine Mv ?_
  refine Vv (Gives.idxD rfl rfl (by omega)) (Vv (Gives.convB rfl) ?_)
  refine Vv (Gives.remN (b := 64) rfl rfl (by omega)) (Vv (Gives.addI rfl rfl rfl (by omega)) ?_)
  refine Am ?_
  refine FL_nil (Qblk_normal (Qseq_normal (FW_region (Mv ?_))))
  refine Vv (Gives.addI rfl rfl rfl (by omega)) (Am ?_)
  refine FL_nil ?_
  exact Qround_normal (i + 1) ⟨rfl, by rw [hs, Int.natCast_add, Int.natCast_mul]; rfl, rfl, trivial⟩ ⟨⟨by omega, by omega⟩, rfl⟩ (by omega)
 have he : i = l.length := by omega
 refine FW_exit (Qseq_exit (Qround_exit (Qblk_exit (Qseq_normal (Sr (Mv ?_))))))
 refine Vv (Gives.convI32 rfl (by omega)) ?_
 rw [he, numAt_all h1 h4]
 refine Am ?_
 refine Qn (FW_ret (Qfn_ret (hR := ?_)))
 exact ⟨rfl, rfl⟩
theorem put_ok (r : Int) (hr : -2147483648 ≤ r ∧ r ≤ 2147483647) : Rets Tryz.prog 241 [I32 r] w fun v w' => v = .tuple #[str ((putL r).getD []), .bool (putL r).isSome] ∧ Kept noB w w' := by
 have H := Sep.start0 w
 refine rets1 Tryz.func241 rfl rfl rfl rfl ?_
 by_cases hv : r < 0 ∨ 1114111 < r ∨ (55296 ≤ r ∧ r ≤ 57343)
 ·have hp : putL r = none := if_pos hv
  rw [hp]
  refine Sr (Am ?_)
  refine Am ?_
  refine Nx (Mv ?_)
  refine Vv (Gives.convI64 rfl (by omega)) (Am ?_)
  refine Qn (FW_seq (Sr (Mv ?_)))
  refine Vl ?_
  refine Mv ?_
  refine FL_splitP (t := 10) rfl (fun hs9 => ?_) (fun hs9 => ?_)
  ·refine Of (Of (Pt ?_))
   refine Mv ?_
   refine Of (Of (Of (Ou (Ou (Of (Pt ?_))))))
   refine Qn (FW_cond_true rfl ?_)
   refine Sr (Am ?_)
   refine Am ?_
   refine Qn (Rs (Qfn_ret (hR := ?_)))
   exact ⟨rfl, H.kept⟩
  refine On (Mv ?_)
  refine On (Vg ?_)
  refine Pf ?_
  refine Mv ?_
  refine FL_splitP (t := 14) rfl (fun hs20 => ?_) (fun hs20 => ?_)
  ·refine Of (Of (Of (Ou (Ou (Of (Pt ?_))))))
   refine Qn (FW_cond_true rfl ?_)
   refine Sr (Am ?_)
   refine Am ?_
   refine Qn (Rs (Qfn_ret (hR := ?_)))
   exact ⟨rfl, H.kept⟩
  refine On (Mv ?_)
  refine On (Vv (Gives.geq rfl rfl) (On ?_))
  refine Mv ?_
  refine FL_splitP (t := 17) rfl (fun hs28 => ?_) (fun hs28 => ?_)
  ·refine On (Mv ?_)
   refine On (Vv (Gives.leq rfl rfl) (On ?_))
   refine Pt ?_
   refine Pf ?_
   refine Qn (Cp rfl (fun hc33 => ?_) (fun hc33 => ?_))
   ·refine Sr (Am ?_)
    refine Am ?_
    refine Qn (Rs (Qfn_ret (hR := ?_)))
    exact ⟨rfl, H.kept⟩
   omega
  omega
 have hp : putL r = some (encodeRune r) := if_neg hv
 rw [hp]
 obtain ⟨n, rfl⟩ : ∃ n : Nat, r = n := ⟨r.toNat, by omega⟩
 refine Sr (Am ?_)
 refine Am ?_
 refine Nx (Mv ?_)
 refine Vv (Gives.convI64 rfl (by omega)) (Am ?_)
 refine Qn (FW_seq (Sr (Mv ?_)))
 refine Vl ?_
 refine Mv ?_
 refine FL_splitP (t := 10) rfl (fun hs9 => ?_) (fun hs9 => ?_)
 ·omega
 refine On (Mv ?_)
 refine On (Vg ?_)
 refine Pf ?_
 refine Mv ?_
 refine FL_splitP (t := 14) rfl (fun hs15 => ?_) (fun hs15 => ?_)
 ·omega
 refine On (Mv ?_)
 refine On (Vv (Gives.geq rfl rfl) (On ?_))
 refine Mv ?_
 refine FL_splitP (t := 17) rfl (fun hs20 => ?_) (fun hs20 => ?_)
 ·refine On (Mv ?_)
  refine On (Vv (Gives.leq rfl rfl) (On ?_))
  refine Pt ?_
  refine Pf ?_
  refine Qn (Cp rfl (fun hc25 => ?_) (fun hc25 => ?_))
  ·omega
  refine Sk (Sr (Mv ?_))
  refine Vv (Gives.convU8 rfl (by omega)) (FL_buildSlice H (xs := [.tmp 23]) (out := [Value.int .u8 (((n : Int).toNat.toUInt8).toNat : Int)]) (Elems.one rfl rfl Elems.nil) rfl rfl rfl (fun b w30 H30 _ => ?_))
  refine Am ?_
  refine Qn (FW_seq (FW_block (Sr (Mv ?_))))
  refine Vv (Gives.geq rfl rfl) (Am ?_)
  refine Qn (Cp rfl (fun hc35 => ?_) (fun hc35 => ?_))
  ·have he : [Value.int .u8 ((((240 + (n / 262144 : Nat) : Int)).toNat.toUInt8).toNat : Int), Value.int .u8 ((((128 + (n / 4096 % 64 : Nat) : Int)).toNat.toUInt8).toNat : Int), Value.int .u8 ((((128 + (n / 64 % 64 : Nat) : Int)).toNat.toUInt8).toNat : Int), Value.int .u8 ((((128 + (n % 64 : Nat) : Int)).toNat.toUInt8).toNat : Int)] = (encodeRune n).map fun u => Value.int .u8 u.toNat := by rw [encodeRune, encodeRuneZ_four (by omega) (by omega)]; rfl
   refine FW_region (Mv ?_)
   refine Vv (Gives.quoN (b := 262144) rfl rfl (by omega) (by omega)) (Vv (Gives.addI rfl rfl rfl (by omega)) ?_)
   refine Vv (Gives.convU8 rfl (by omega)) (Mv ?_)
   refine Vv (Gives.quoN (b := 4096) rfl rfl (by omega) (by omega)) (Vv (Gives.remN (b := 64) rfl rfl (by omega)) ?_)
   refine Vv (Gives.addI rfl rfl rfl (by omega)) (Vv (Gives.convU8 rfl (by omega)) ?_)
   refine Mv ?_
   refine Vv (Gives.quoN (b := 64) rfl rfl (by omega) (by omega)) (Vv (Gives.remN (b := 64) rfl rfl (by omega)) ?_)
   refine Vv (Gives.addI rfl rfl rfl (by omega)) (Vv (Gives.convU8 rfl (by omega)) ?_)
   refine Mv ?_
   refine Vv (Gives.remN (b := 64) rfl rfl (by omega)) (Vv (Gives.addI rfl rfl rfl (by omega)) ?_)
   refine Vv (Gives.convU8 rfl (by omega)) (FL_buildSlice H30 (xs := [.tmp 31, .tmp 36, .tmp 41, .tmp 45]) (out := [Value.int .u8 ((((240 + (n / 262144 : Nat) : Int)).toNat.toUInt8).toNat : Int), Value.int .u8 ((((128 + (n / 4096 % 64 : Nat) : Int)).toNat.toUInt8).toNat : Int), Value.int .u8 ((((128 + (n / 64 % 64 : Nat) : Int)).toNat.toUInt8).toNat : Int), Value.int .u8 ((((128 + (n % 64 : Nat) : Int)).toNat.toUInt8).toNat : Int)]) (Elems.one rfl rfl (Elems.one rfl rfl (Elems.one rfl rfl (Elems.one rfl rfl Elems.nil)))) rfl rfl rfl (fun b2 w56 H56 _ => ?_))
   refine Am ?_
   refine FL_nil (Qblk_normal (Qseq_normal (Sr (Mv ?_))))
   refine Vv (Gives.bytesT (l := encodeRune n) rfl (by rw [← he]; exact Sep.blkRow H56 At0 rfl)) ?_
   refine Am ?_
   refine Am ?_
   refine Qn (FW_ret (Qfn_ret (hR := ?_)))
   exact ⟨rfl, H56.kept⟩
  refine Sr (Mv ?_)
  refine Vv (Gives.geq rfl rfl) (Am ?_)
  refine Qn (Cp rfl (fun hc66 => ?_) (fun hc66 => ?_))
  ·have he : [Value.int .u8 ((((224 + (n / 4096 : Nat) : Int)).toNat.toUInt8).toNat : Int), Value.int .u8 ((((128 + (n / 64 % 64 : Nat) : Int)).toNat.toUInt8).toNat : Int), Value.int .u8 ((((128 + (n % 64 : Nat) : Int)).toNat.toUInt8).toNat : Int)] = (encodeRune n).map fun u => Value.int .u8 u.toNat := by rw [encodeRune, encodeRuneZ_three (by omega)]; rfl
   refine FW_region (Mv ?_)
   refine Vv (Gives.quoN (b := 4096) rfl rfl (by omega) (by omega)) (Vv (Gives.addI rfl rfl rfl (by omega)) ?_)
   refine Vv (Gives.convU8 rfl (by omega)) (Mv ?_)
   refine Vv (Gives.quoN (b := 64) rfl rfl (by omega) (by omega)) (Vv (Gives.remN (b := 64) rfl rfl (by omega)) ?_)
   refine Vv (Gives.addI rfl rfl rfl (by omega)) (Vv (Gives.convU8 rfl (by omega)) ?_)
   refine Mv ?_
   refine Vv (Gives.remN (b := 64) rfl rfl (by omega)) (Vv (Gives.addI rfl rfl rfl (by omega)) ?_)
   refine Vv (Gives.convU8 rfl (by omega)) (FL_buildSlice H30 (xs := [.tmp 53, .tmp 58, .tmp 62]) (out := [Value.int .u8 ((((224 + (n / 4096 : Nat) : Int)).toNat.toUInt8).toNat : Int), Value.int .u8 ((((128 + (n / 64 % 64 : Nat) : Int)).toNat.toUInt8).toNat : Int), Value.int .u8 ((((128 + (n % 64 : Nat) : Int)).toNat.toUInt8).toNat : Int)]) (Elems.one rfl rfl (Elems.one rfl rfl (Elems.one rfl rfl Elems.nil))) rfl rfl rfl (fun b2 w82 H82 _ => ?_))
   refine Am ?_
   refine FL_nil (Qblk_normal (Qseq_normal (Sr (Mv ?_))))
   refine Vv (Gives.bytesT (l := encodeRune n) rfl (by rw [← he]; exact Sep.blkRow H82 At0 rfl)) ?_
   refine Am ?_
   refine Am ?_
   refine Qn (FW_ret (Qfn_ret (hR := ?_)))
   exact ⟨rfl, H82.kept⟩
  refine Sr (Mv ?_)
  refine Vv (Gives.geq rfl rfl) (Am ?_)
  refine Qn (Cp rfl (fun hc92 => ?_) (fun hc92 => ?_))
  ·have he : [Value.int .u8 ((((192 + (n / 64 : Nat) : Int)).toNat.toUInt8).toNat : Int), Value.int .u8 ((((128 + (n % 64 : Nat) : Int)).toNat.toUInt8).toNat : Int)] = (encodeRune n).map fun u => Value.int .u8 u.toNat := by rw [encodeRune, encodeRuneZ_two (by omega) (by omega)]; rfl
   refine FW_region (Mv ?_)
   refine Vv (Gives.quoN (b := 64) rfl rfl (by omega) (by omega)) (Vv (Gives.addI rfl rfl rfl (by omega)) ?_)
   refine Vv (Gives.convU8 rfl (by omega)) (Mv ?_)
   refine Vv (Gives.remN (b := 64) rfl rfl (by omega)) (Vv (Gives.addI rfl rfl rfl (by omega)) ?_)
   refine Vv (Gives.convU8 rfl (by omega)) (FL_buildSlice H30 (xs := [.tmp 70, .tmp 74]) (out := [Value.int .u8 ((((192 + (n / 64 : Nat) : Int)).toNat.toUInt8).toNat : Int), Value.int .u8 ((((128 + (n % 64 : Nat) : Int)).toNat.toUInt8).toNat : Int)]) (Elems.one rfl rfl (Elems.one rfl rfl Elems.nil)) rfl rfl rfl (fun b2 w103 H103 _ => ?_))
   refine Am ?_
   refine FL_nil (Qblk_normal (Qseq_normal (Sr (Mv ?_))))
   refine Vv (Gives.bytesT (l := encodeRune n) rfl (by rw [← he]; exact Sep.blkRow H103 At0 rfl)) ?_
   refine Am ?_
   refine Am ?_
   refine Qn (FW_ret (Qfn_ret (hR := ?_)))
   exact ⟨rfl, H103.kept⟩
  have he : [Value.int .u8 (((n : Int).toNat.toUInt8).toNat : Int)] = (encodeRune n).map fun u => Value.int .u8 u.toNat := by rw [encodeRune, encodeRuneZ_one (by omega) (by omega)]; rfl
  refine FW_skip (Qblk_normal (Qseq_normal (Sr (Mv ?_))))
  refine Vv (Gives.bytesT (l := encodeRune n) rfl (by rw [← he]; exact Sep.blkRow H30 At0 rfl)) ?_
  refine Am ?_
  refine Am ?_
  refine Qn (FW_ret (Qfn_ret (hR := ?_)))
  exact ⟨rfl, H30.kept⟩
 refine Of (Of (On (Pf ?_)))
 refine Pf ?_
 refine Qn (FW_cond_false rfl ?_)
 refine Sk (Sr (Mv ?_))
 refine Vv (Gives.convU8 rfl (by omega)) (FL_buildSlice H (xs := [.tmp 23]) (out := [Value.int .u8 (((n : Int).toNat.toUInt8).toNat : Int)]) (Elems.one rfl rfl Elems.nil) rfl rfl rfl (fun b w121 H121 _ => ?_))
 refine Am ?_
 refine Qn (FW_seq (FW_block (Sr (Mv ?_))))
 refine Vv (Gives.geq rfl rfl) (Am ?_)
 refine Qn (Cp rfl (fun hc126 => ?_) (fun hc126 => ?_))
 ·have he : [Value.int .u8 ((((240 + (n / 262144 : Nat) : Int)).toNat.toUInt8).toNat : Int), Value.int .u8 ((((128 + (n / 4096 % 64 : Nat) : Int)).toNat.toUInt8).toNat : Int), Value.int .u8 ((((128 + (n / 64 % 64 : Nat) : Int)).toNat.toUInt8).toNat : Int), Value.int .u8 ((((128 + (n % 64 : Nat) : Int)).toNat.toUInt8).toNat : Int)] = (encodeRune n).map fun u => Value.int .u8 u.toNat := by rw [encodeRune, encodeRuneZ_four (by omega) (by omega)]; rfl
  refine FW_region (Mv ?_)
  refine Vv (Gives.quoN (b := 262144) rfl rfl (by omega) (by omega)) (Vv (Gives.addI rfl rfl rfl (by omega)) ?_)
  refine Vv (Gives.convU8 rfl (by omega)) (Mv ?_)
  refine Vv (Gives.quoN (b := 4096) rfl rfl (by omega) (by omega)) (Vv (Gives.remN (b := 64) rfl rfl (by omega)) ?_)
  refine Vv (Gives.addI rfl rfl rfl (by omega)) (Vv (Gives.convU8 rfl (by omega)) ?_)
  refine Mv ?_
  refine Vv (Gives.quoN (b := 64) rfl rfl (by omega) (by omega)) (Vv (Gives.remN (b := 64) rfl rfl (by omega)) ?_)
  refine Vv (Gives.addI rfl rfl rfl (by omega)) (Vv (Gives.convU8 rfl (by omega)) ?_)
  refine Mv ?_
  refine Vv (Gives.remN (b := 64) rfl rfl (by omega)) (Vv (Gives.addI rfl rfl rfl (by omega)) ?_)
  refine Vv (Gives.convU8 rfl (by omega)) (FL_buildSlice H121 (xs := [.tmp 31, .tmp 36, .tmp 41, .tmp 45]) (out := [Value.int .u8 ((((240 + (n / 262144 : Nat) : Int)).toNat.toUInt8).toNat : Int), Value.int .u8 ((((128 + (n / 4096 % 64 : Nat) : Int)).toNat.toUInt8).toNat : Int), Value.int .u8 ((((128 + (n / 64 % 64 : Nat) : Int)).toNat.toUInt8).toNat : Int), Value.int .u8 ((((128 + (n % 64 : Nat) : Int)).toNat.toUInt8).toNat : Int)]) (Elems.one rfl rfl (Elems.one rfl rfl (Elems.one rfl rfl (Elems.one rfl rfl Elems.nil)))) rfl rfl rfl (fun b2 w147 H147 _ => ?_))
  refine Am ?_
  refine FL_nil (Qblk_normal (Qseq_normal (Sr (Mv ?_))))
  refine Vv (Gives.bytesT (l := encodeRune n) rfl (by rw [← he]; exact Sep.blkRow H147 At0 rfl)) ?_
  refine Am ?_
  refine Am ?_
  refine Qn (FW_ret (Qfn_ret (hR := ?_)))
  exact ⟨rfl, H147.kept⟩
 refine Sr (Mv ?_)
 refine Vv (Gives.geq rfl rfl) (Am ?_)
 refine Qn (Cp rfl (fun hc157 => ?_) (fun hc157 => ?_))
 ·have he : [Value.int .u8 ((((224 + (n / 4096 : Nat) : Int)).toNat.toUInt8).toNat : Int), Value.int .u8 ((((128 + (n / 64 % 64 : Nat) : Int)).toNat.toUInt8).toNat : Int), Value.int .u8 ((((128 + (n % 64 : Nat) : Int)).toNat.toUInt8).toNat : Int)] = (encodeRune n).map fun u => Value.int .u8 u.toNat := by rw [encodeRune, encodeRuneZ_three (by omega)]; rfl
  refine FW_region (Mv ?_)
  refine Vv (Gives.quoN (b := 4096) rfl rfl (by omega) (by omega)) (Vv (Gives.addI rfl rfl rfl (by omega)) ?_)
  refine Vv (Gives.convU8 rfl (by omega)) (Mv ?_)
  refine Vv (Gives.quoN (b := 64) rfl rfl (by omega) (by omega)) (Vv (Gives.remN (b := 64) rfl rfl (by omega)) ?_)
  refine Vv (Gives.addI rfl rfl rfl (by omega)) (Vv (Gives.convU8 rfl (by omega)) ?_)
  refine Mv ?_
  refine Vv (Gives.remN (b := 64) rfl rfl (by omega)) (Vv (Gives.addI rfl rfl rfl (by omega)) ?_)
  refine Vv (Gives.convU8 rfl (by omega)) (FL_buildSlice H121 (xs := [.tmp 53, .tmp 58, .tmp 62]) (out := [Value.int .u8 ((((224 + (n / 4096 : Nat) : Int)).toNat.toUInt8).toNat : Int), Value.int .u8 ((((128 + (n / 64 % 64 : Nat) : Int)).toNat.toUInt8).toNat : Int), Value.int .u8 ((((128 + (n % 64 : Nat) : Int)).toNat.toUInt8).toNat : Int)]) (Elems.one rfl rfl (Elems.one rfl rfl (Elems.one rfl rfl Elems.nil))) rfl rfl rfl (fun b2 w173 H173 _ => ?_))
  refine Am ?_
  refine FL_nil (Qblk_normal (Qseq_normal (Sr (Mv ?_))))
  refine Vv (Gives.bytesT (l := encodeRune n) rfl (by rw [← he]; exact Sep.blkRow H173 At0 rfl)) ?_
  refine Am ?_
  refine Am ?_
  refine Qn (FW_ret (Qfn_ret (hR := ?_)))
  exact ⟨rfl, H173.kept⟩
 refine Sr (Mv ?_)
 refine Vv (Gives.geq rfl rfl) (Am ?_)
 refine Qn (Cp rfl (fun hc183 => ?_) (fun hc183 => ?_))
 ·have he : [Value.int .u8 ((((192 + (n / 64 : Nat) : Int)).toNat.toUInt8).toNat : Int), Value.int .u8 ((((128 + (n % 64 : Nat) : Int)).toNat.toUInt8).toNat : Int)] = (encodeRune n).map fun u => Value.int .u8 u.toNat := by rw [encodeRune, encodeRuneZ_two (by omega) (by omega)]; rfl
  refine FW_region (Mv ?_)
  refine Vv (Gives.quoN (b := 64) rfl rfl (by omega) (by omega)) (Vv (Gives.addI rfl rfl rfl (by omega)) ?_)
  refine Vv (Gives.convU8 rfl (by omega)) (Mv ?_)
  refine Vv (Gives.remN (b := 64) rfl rfl (by omega)) (Vv (Gives.addI rfl rfl rfl (by omega)) ?_)
  refine Vv (Gives.convU8 rfl (by omega)) (FL_buildSlice H121 (xs := [.tmp 70, .tmp 74]) (out := [Value.int .u8 ((((192 + (n / 64 : Nat) : Int)).toNat.toUInt8).toNat : Int), Value.int .u8 ((((128 + (n % 64 : Nat) : Int)).toNat.toUInt8).toNat : Int)]) (Elems.one rfl rfl (Elems.one rfl rfl Elems.nil)) rfl rfl rfl (fun b2 w194 H194 _ => ?_))
  refine Am ?_
  refine FL_nil (Qblk_normal (Qseq_normal (Sr (Mv ?_))))
  refine Vv (Gives.bytesT (l := encodeRune n) rfl (by rw [← he]; exact Sep.blkRow H194 At0 rfl)) ?_
  refine Am ?_
  refine Am ?_
  refine Qn (FW_ret (Qfn_ret (hR := ?_)))
  exact ⟨rfl, H194.kept⟩
 have he : [Value.int .u8 (((n : Int).toNat.toUInt8).toNat : Int)] = (encodeRune n).map fun u => Value.int .u8 u.toNat := by rw [encodeRune, encodeRuneZ_one (by omega) (by omega)]; rfl
 refine FW_skip (Qblk_normal (Qseq_normal (Sr (Mv ?_))))
 refine Vv (Gives.bytesT (l := encodeRune n) rfl (by rw [← he]; exact Sep.blkRow H121 At0 rfl)) ?_
 refine Am ?_
 refine Am ?_
 refine Qn (FW_ret (Qfn_ret (hR := ?_)))
 exact ⟨rfl, H121.kept⟩
def nextP (l : List UInt8) : Nat × Nat := (nextL l).getD (0, 0)
def nextV (l : List UInt8) : Value := .tuple #[I32 (nextP l).1, I (nextP l).2, .bool (nextL l).isSome]
theorem nextP_some {l : List UInt8} (h : (nextL l).isSome = true) : nextL l = some (nextP l) := by
 unfold nextP
 cases e : nextL l with
 | none => rw [e] at h; cases h
 | some x => rfl
theorem nextP_le {l : List UInt8} (h : (nextL l).isSome = true) : 1 ≤ (nextP l).2 ∧ (nextP l).2 ≤ 4 ∧ (nextP l).2 ≤ l.length := by
 obtain ⟨a, b, c, _, _⟩ := next_ok (r := (nextP l).1) (n := (nextP l).2) (nextP_some h)
 exact ⟨a, b, c⟩
theorem valid_next {l : List UInt8} (hne : l ≠ []) : validD l = if (nextL l).isSome = true then validD (l.drop (nextP l).2) else false := by
 rw [valid_step hne]
 unfold nextP
 cases nextL l <;> rfl
theorem okL_iff {l : List UInt8} {n : Nat} : okL l n ↔ (putL (numL (l.take n))).isSome = true ∧ (putL (numL (l.take n))).getD [] = l.take n := by
 unfold okL
 cases h : putL (numL (l.take n)) with
 | none => simp
 | some x => simp
theorem numL_lt (l : List UInt8) : numL l < 67108864 := by
 unfold numL
 split
 ·rename_i a; have := a.toNat_lt; omega
 all_goals omega
theorem next_ok4 (l : List UInt8) (hl : l.length ≤ 9223372036854775807) : Rets Tryz.prog 188 [str l] w fun v w' => v = nextV l ∧ Kept noB w w' := by
 have H := Sep.start0 w
 refine rets1 Tryz.func188 rfl rfl rfl rfl ?_
 refine Sr (Am ?_)
 refine Am ?_
 refine Am ?_
 refine Qn (FW_seq (Sr (Am ?_)))
 refine Qn (FW_block (FW_loop' (fun n : Nat => [(0, str l), (5, I n)]) (fun n w' => ((1 ≤ n ∧ n ≤ 5) ∧ ∀ j, 1 ≤ j → j < n → j ≤ l.length → ¬ okL l j) ∧ Sep w noB [] w') (fun n _ => 5 - n) 1 ⟨rfl, rfl, trivial⟩ ⟨⟨⟨Nat.le_refl _, by omega⟩, fun j h1 h2 => by omega⟩, H⟩ (fun n τ w6 hI => ?_)))
 obtain ⟨⟨⟨h1, h5⟩, hno⟩, H6⟩ := hI
 try simp only [upds, like, upd_ds, und_ds]
 refine FW_seq (Sr (Mv ?_))
 refine Vv (Gives.leq rfl rfl) (Mv ?_)
 refine FL_splitP (t := 11) rfl (fun hs10 => ?_) (fun hs10 => ?_)
 ·refine On (Mv ?_)
  refine On (Mv ?_)
  refine On (Vt ?_)
  refine On (Vv (Gives.leq rfl rfl) (Pt ?_))
  refine Qn (Cp rfl (fun hc16 => ?_) (fun hc16 => ?_))
  ·have h4 : n ≤ 4 ∧ n ≤ l.length := by omega
   have htl : (l.take n).length = n := by rw [List.length_take]; omega
   have hnl := numL_lt (l.take n)
   refine Sk (FW_seq (FW_block (Sr (Mv ?_))))
   refine Mv ?_
   refine Vv (Gives.sliceToT rfl rfl (by omega)) (FL_callS (number_ok (l := l.take n) (by omega) (by omega)) (h := ?_))
   refine Am ?_
   refine Nx (Mv ?_)
   refine FL_callQ H6 (put_ok (numL (l.take n)) (by omega)) (h := fun w25 H25 _ => ?_)
   refine Mv ?_
   refine Vx ?_
   refine Vx ?_
   refine Am ?_
   refine Am ?_
   refine Nx (Mv ?_)
   refine Mv ?_
   refine FL_split (t := 29) rfl (fun hs33 => ?_) (fun hs33 => ?_)
   ·have hsome : (putL (numL (l.take n))).isSome = true := hs33
    refine On (Mv ?_)
    refine On (Mv ?_)
    refine On (Mv ?_)
    refine On (Vv (Gives.sliceToT rfl rfl (by omega)) (On ?_))
    refine Vv (Gives.eqlT rfl rfl) (Pt ?_)
    refine Qn (Cp rfl (fun hc41 => ?_) (fun hc41 => ?_))
    ·have hsm : nextL l = some (numL (l.take n), n) := next_of_ok h1 h4.1 h4.2 (okL_iff.2 ⟨hsome, hc41⟩)
     refine Sr (Mv ?_)
     refine Mv ?_
     refine Am ?_
     refine Am ?_
     refine Am ?_
     refine Qn (Rb (Qround_ret (Qblk_ret (Qseq_ret (Qfn_ret (hR := ?_))))))
     exact ⟨by unfold nextV nextP; rw [hsm]; rfl, H25.kept⟩
    have hno2 : ¬ okL l n := fun h => hc41 (okL_iff.1 h).2
    refine FW_skip (Qblk_normal (Qseq_normal (FW_region (Mv ?_))))
    refine Vv (Gives.addI rfl rfl rfl (by omega)) (Am ?_)
    refine FL_nil ?_
    exact Qround_normal (n + 1) ⟨rfl, rfl, trivial⟩ ⟨⟨⟨by omega, by omega⟩, fun j a b c => by
    rcases Nat.lt_or_ge j n with h | h
    ·exact hno j a h c
    have : j = n := by omega
    subst this
    exact hno2⟩, H25⟩ (by omega)
   have hno2 : ¬ okL l n := fun h => by rw [(okL_iff.1 h).1] at hs33; cases hs33
   refine Of (Of (Of (Of (Of (Pf ?_)))))
   refine Qn (FW_cond_false rfl ?_)
   refine FW_skip (Qblk_normal (Qseq_normal (FW_region (Mv ?_))))
   refine Vv (Gives.addI rfl rfl rfl (by omega)) (Am ?_)
   refine FL_nil ?_
   exact Qround_normal (n + 1) ⟨rfl, rfl, trivial⟩ ⟨⟨⟨by omega, by omega⟩, fun j a b c => by
   rcases Nat.lt_or_ge j n with h | h
   ·exact hno j a h c
   have : j = n := by omega
   subst this
   exact hno2⟩, H25⟩ (by omega)
  have hnone : nextL l = none := next_none fun j a b c => by
   rcases Nat.lt_or_ge j n with h | h
   ·exact hno j a h c
   exfalso; omega
  refine FW_exit (Qseq_exit (Qround_exit (Qblk_exit (Qseq_normal (Sr (Am ?_))))))
  refine Am ?_
  refine Am ?_
  refine Qn (FW_ret (Qfn_ret (hR := ?_)))
  exact ⟨by unfold nextV nextP; rw [hnone]; rfl, H6.kept⟩
 have hn5 : n = 5 := by omega
 have hnone : nextL l = none := next_none fun j a b c => hno j a (by omega) c
 refine Of (Of (Of (Of (Pf ?_))))
 refine Qn (FW_cond_false rfl ?_)
 refine FW_exit (Qseq_exit (Qround_exit (Qblk_exit (Qseq_normal (Sr (Am ?_))))))
 refine Am ?_
 refine Am ?_
 refine Qn (FW_ret (Qfn_ret (hR := ?_)))
 exact ⟨by unfold nextV nextP; rw [hnone]; rfl, H6.kept⟩
end

section
variable {w : World} {l : List UInt8}
theorem valid_ok4 (l : List UInt8) (hl : l.length ≤ 9223372036854775807) : Rets Tryz.prog 131 [str l] w fun v w' => v = .bool (validD l) ∧ Kept noB w w' := by
 have H := Sep.start0 w
 refine rets1 Tryz.func131 rfl rfl rfl rfl ?_
 refine Sr (Am ?_)
 refine Qn (FW_seq (FW_block (FW_loop' (fun m : List UInt8 => [(0, str m)]) (fun m w' => (m.length ≤ l.length ∧ validD m = validD l) ∧ Sep w noB [] w') (fun m _ => m.length) l ⟨rfl, trivial⟩ ⟨⟨Nat.le_refl _, rfl⟩, H⟩ (fun m τ w3 hI => ?_))))
 obtain ⟨⟨hm1, hm2⟩, H3⟩ := hI
 try simp only [upds, like, upd_ds, und_ds]
 refine FW_seq (Sr (Mv ?_))
 refine Vt ?_
 refine Vg ?_
 refine Qn (Cp rfl (fun hc7 => ?_) (fun hc7 => ?_))
 ·have hne : m ≠ [] := fun e => by rw [e] at hc7; simp at hc7
  have hst := valid_next hne
  refine Sk (FW_block (Sr (Mv ?_)))
  refine FL_callQ H3 (next_ok4 m (by omega)) (h := fun w11 H11 _ => ?_)
  refine Mv ?_
  refine Vx ?_
  refine Vx ?_
  refine Vx ?_
  refine Am ?_
  refine Am ?_
  refine Am ?_
  refine Qn (FW_seq (Sr (Mv ?_)))
  refine Vv (Gives.not rfl) (Qn ?_)
  refine Cd rfl (fun hc21 => ?_) (fun hc21 => ?_)
  ·have hv : validD l = false := by rw [← hm2, hst, if_neg (by simpa using hc21)]
   refine Sr (Am ?_)
   refine Qn (Rs (Qblk_ret (Qround_ret (Qblk_ret (Qseq_ret (Qfn_ret (hR := ?_)))))))
   exact ⟨by rw [hv]; rfl, H11.kept⟩
  have hs : (nextL m).isSome = true := by simpa using hc21
  have hle := nextP_le hs
  refine Sk (FW_region (Mv ?_))
  refine Mv ?_
  refine Vv (Gives.sliceFromT rfl rfl (by omega)) (Am ?_)
  refine FL_nil (Qblk_normal ?_)
  exact Qround_normal (m.drop (nextP m).2) ⟨rfl, trivial⟩ ⟨⟨by rw [List.length_drop]; omega, by rw [← hm2, hst, if_pos hs]⟩, H11⟩ (by rw [List.length_drop]; omega)
 have he : m = [] := List.eq_nil_of_length_eq_zero (by omega)
 have hv : validD l = true := by rw [← hm2, he]; rfl
 refine FW_exit (Qseq_exit (Qround_exit (Qblk_exit (Qseq_normal (Sr (Am ?_))))))
 refine Qn (FW_ret (Qfn_ret (hR := ?_)))
 exact ⟨by rw [hv]; rfl, H3.kept⟩
def digI (c : UInt8) : Int := match digitL c with | some d => d | none => -1
def digS : List UInt8 := [48, 49, 50, 51, 52, 53, 54, 55, 56, 57, 97, 98, 99, 100, 101, 102]
def digC : List UInt8 := [48, 49, 50, 51, 52, 53, 54, 55, 56, 57, 65, 66, 67, 68, 69, 70]
theorem dig_at {c : UInt8} {i : Nat} (h : i < 16) (hc : c.toNat = (digS.getD i 0).toNat ∨ c.toNat = (digC.getD i 0).toNat) : digI c = i := by
 have key : ∀ i : Fin 16, digI (digS.getD i.val 0) = (i.val : Int) ∧ digI (digC.getD i.val 0) = (i.val : Int) := by decide
 rcases hc with hc | hc
 ·rw [UInt8.toNat_inj.1 hc]; exact (key ⟨i, h⟩).1
 rw [UInt8.toNat_inj.1 hc]; exact (key ⟨i, h⟩).2
theorem dig_no {c : UInt8} (h : ∀ i, i < 16 → ¬ (c.toNat = (digS.getD i 0).toNat ∨ c.toNat = (digC.getD i 0).toNat)) : digI c = -1 := by
 have k : ∀ i : Nat, i < 16 → c.toNat ≠ (digS.getD i 0).toNat ∧ c.toNat ≠ (digC.getD i 0).toNat := fun i hi => ⟨fun e => h i hi (.inl e), fun e => h i hi (.inr e)⟩
 have k0 := k 0 (by omega); have k1 := k 1 (by omega); have k2 := k 2 (by omega); have k3 := k 3 (by omega); have k4 := k 4 (by omega); have k5 := k 5 (by omega); have k6 := k 6 (by omega); have k7 := k 7 (by omega); have k8 := k 8 (by omega); have k9 := k 9 (by omega)
 have ka := k 10 (by omega); have kb := k 11 (by omega); have kc := k 12 (by omega); have kd := k 13 (by omega); have ke := k 14 (by omega); have kf := k 15 (by omega)
 simp [digS, digC] at k0 k1 k2 k3 k4 k5 k6 k7 k8 k9 ka kb kc kd ke kf
 unfold digI digitL
 rw [if_neg (by omega), if_neg (by omega), if_neg (by omega)]
theorem digit_ok4 (c : UInt8) : Rets Tryz.prog 266 [B c] w fun v w' => v = I (digI c) ∧ w = w' := by
 refine rets1 Tryz.func266 rfl rfl rfl rfl ?_
 have H := Sep.start0 w
 refine Sr (Am ?_)
 refine Qn (FW_seq (Sr (Am ?_)))
 refine Qn (FW_block (FW_loop' (fun i : Nat => [(0, B c), (3, I i)]) (fun i w' => (i ≤ 16 ∧ ∀ j, j < i → ¬ (c.toNat = (digS.getD j 0).toNat ∨ c.toNat = (digC.getD j 0).toNat)) ∧ w = w') (fun i _ => 16 - i) 0 ⟨rfl, rfl, trivial⟩ ⟨⟨by omega, fun j hj => by omega⟩, rfl⟩ (fun i τ w4 hI => ?_)))
 obtain ⟨⟨hi, hno⟩, rfl⟩ := hI
 try simp only [upds, like, upd_ds, und_ds]
 refine FW_seq (Sr (Mv ?_))
 refine Vl ?_
 refine Qn (Cp rfl (fun hc7 => ?_) (fun hc7 => ?_))
 ·have hlt : i < 16 := by omega
  refine Sk (FW_seq (FW_block (Sr (Mv ?_))))
  refine Mv ?_
  refine Vv (Gives.idxD (l := digS) rfl rfl hlt) (Ve ?_)
  refine Mv ?_
  refine FL_splitP (t := 12) rfl (fun hs14 => ?_) (fun hs14 => ?_)
  ·have hd : digI c = i := dig_at hlt (.inl (by omega))
   refine Of (Of (Of (Of (Pt ?_))))
   refine Qn (FW_cond_true rfl ?_)
   refine Sr (Mv ?_)
   refine Am ?_
   refine Qn (Rb (Qround_ret (Qblk_ret (Qseq_ret (Qfn_ret (hR := ?_))))))
   exact ⟨by rw [hd]; rfl, rfl⟩
  refine On (Mv ?_)
  refine On (Mv ?_)
  refine On (Vv (Gives.idxD (l := digC) rfl rfl hlt) (On ?_))
  refine Ve ?_
  refine Pf ?_
  refine Qn (Cp rfl (fun hc25 => ?_) (fun hc25 => ?_))
  ·have hd : digI c = i := dig_at hlt (.inr (by omega))
   refine Sr (Mv ?_)
   refine Am ?_
   refine Qn (Rb (Qround_ret (Qblk_ret (Qseq_ret (Qfn_ret (hR := ?_))))))
   exact ⟨by rw [hd]; rfl, rfl⟩
  refine FW_skip (Qblk_normal (Qseq_normal (FW_region (Mv ?_))))
  refine Vv (Gives.addI rfl rfl rfl (by omega)) (Am ?_)
  refine FL_nil ?_
  exact Qround_normal (i + 1) ⟨rfl, rfl, trivial⟩ ⟨⟨by omega, fun j hj => by
  rcases Nat.lt_or_ge j i with h | h
  ·exact hno j h
  have : j = i := by omega
  subst this; omega⟩, rfl⟩ (by omega)
 have hd : digI c = -1 := dig_no fun j hj => hno j (by omega)
 refine FW_exit (Qseq_exit (Qround_exit (Qblk_exit (Qseq_normal (Sr (Am ?_))))))
 refine Qn (FW_ret (Qfn_ret (hR := ?_)))
 exact ⟨by rw [hd]; rfl, rfl⟩
def halfF (s : List UInt8) (second : Bool) : Nat → Nat → Nat → Nat × Int
 | 0, _, n => (n, 0)
 | f + 1, i, n => match s[i]? with
  | none => (0, 3)
  | some c => match digitL c with
   | none => (0, 41)
   | some d => if (i = 0 ∧ second = true ∧ 16 * n + d ≠ 13) ∨ (i = 1 ∧ ¬ (second = true ↔ (220 ≤ 16 * n + d ∧ 16 * n + d ≤ 223))) then (0, 41) else halfF s second f (i + 1) (16 * n + d)
theorem halfF_eq (s : List UInt8) (second : Bool) : halfF s second 4 0 0 = halfL s second := by
 unfold halfL
 cases h0 : s[0]? with
 | none => simp [halfF, h0]
 | some c0 =>
  cases d0 : digitL c0 with
  | none => simp [halfF, h0, d0]
  | some d0' =>
   cases h1 : s[1]? with
   | none => cases second <;> simp [halfF, h0, d0, h1]
   | some c1 =>
    cases d1 : digitL c1 with
    | none => cases second <;> simp [halfF, h0, d0, h1, d1]
    | some d1' =>
     cases h2 : s[2]? with
     | none => cases second <;> simp [halfF, h0, d0, h1, d1, h2]
     | some c2 =>
      cases d2 : digitL c2 with
      | none => cases second <;> simp [halfF, h0, d0, h1, d1, h2, d2]
      | some d2' =>
       cases h3 : s[3]? with
       | none => cases second <;> simp [halfF, h0, d0, h1, d1, h2, d2, h3]
       | some c3 => cases d3 : digitL c3 <;> cases second <;> simp [halfF, h0, d0, h1, d1, h2, d2, h3, d3]
theorem digI_neg {c : UInt8} (h : digI c < 0) : digitL c = none := by
 unfold digI at h
 split at h
 ·omega
 assumption
theorem digI_pos {c : UInt8} (h : ¬ digI c < 0) : ∃ d, digitL c = some d ∧ digI c = d ∧ d < 16 := by
 unfold digI at h ⊢
 cases e : digitL c with
 | none => rw [e] at h; exact absurd (by decide) h
 | some d =>
  refine ⟨d, rfl, rfl, ?_⟩
  have := c.toNat_lt
  unfold digitL at e
  repeat' split at e
  all_goals first | (injection e with e; omega) | cases e
theorem half_ok4 (l : List UInt8) (second : Bool) (hl : l.length ≤ 9223372036854775807) : Rets Tryz.prog 262 [str l, .bool second] w fun v w' => v = .tuple #[I (halfL l second).1, I (halfL l second).2] ∧ w = w' := by
  refine rets2 Tryz.func262 rfl rfl rfl rfl ?_
  have H := Sep.start0 w
  rw [← halfF_eq]
  obtain ⟨res, hres⟩ : ∃ res, halfF l second 4 0 0 = res := ⟨_, rfl⟩
  rw [hres]
  refine Sr (Am ?_)
  refine Am ?_
  refine Nx (Am ?_)
  refine Qn (FW_seq (Sr (Am ?_)))
  refine Qn (FW_block (FW_loop' (fun x : Nat × Nat => [(0, str l), (1, .bool second), (6, I x.2), (7, I x.1)]) (fun x w' => (x.1 ≤ 4 ∧ x.2 < 16 ^ x.1 ∧ halfF l second (4 - x.1) x.1 x.2 = res) ∧ w = w') (fun x _ => 4 - x.1) (0, 0) ⟨rfl, rfl, rfl, rfl, trivial⟩ ⟨⟨by simp, by simp, hres⟩, rfl⟩ (fun x τ w6 hI => ?_)))
  obtain ⟨i, m⟩ := x
  obtain ⟨⟨hi, hm, hr⟩, rfl⟩ := hI
  dsimp only at hi hm hr
  try simp only [upds, like, upd_ds, und_ds]
  refine FW_seq (Sr (Mv ?_))
  refine Vl ?_
  refine Qn (Cp rfl (fun hc9 => ?_) (fun hc9 => ?_))
  · have hlt : i < 4 := by omega
    refine Sk (FW_seq (FW_block (FW_seq (Sr (Mv ?_)))))
    refine Mv ?_
    refine Vt ?_
    refine Vv (Gives.geq rfl rfl) (Qn ?_)
    refine Cp rfl (fun hc15 => ?_) (fun hc15 => ?_)
    · have hfin : ((0 : Nat), (3 : Int)) = res := by
        rw [← hr, show 4 - i = (3 - i) + 1 by omega, halfF, List.getElem?_eq_none (by omega)]
      refine Sr (Am ?_)
      refine Am ?_
      refine Qn (Rs (Qblk_ret (Qseq_ret (Qround_ret (Qblk_ret (Qseq_ret (Qfn_ret (hR := ?_))))))))
      exact ⟨by rw [← hfin]; rfl, rfl⟩
    have hil : i < l.length := by omega
    have hg : l[i]? = some (l.getD i 0) := by rw [List.getD_eq_getElem?_getD, List.getElem?_eq_getElem hil]; rfl
    refine Sk (Sr (Mv ?_))
    refine Mv ?_
    refine Vv (Gives.idxD rfl rfl (by omega)) (FL_callS (digit_ok4 (l.getD i 0)) (h := ?_))
    refine Am ?_
    refine Qn (FW_seq (Sr (Mv ?_)))
    refine Vl ?_
    refine Qn (Cp rfl (fun hc28 => ?_) (fun hc28 => ?_))
    · have hfin : ((0 : Nat), (41 : Int)) = res := by
        rw [← hr, show 4 - i = (3 - i) + 1 by omega, halfF, hg]
        simp only [digI_neg hc28]
      refine Sr (Am ?_)
      refine Am ?_
      refine Qn (Rs (Qblk_ret (Qseq_ret (Qround_ret (Qblk_ret (Qseq_ret (Qfn_ret (hR := ?_))))))))
      exact ⟨by rw [← hfin]; rfl, rfl⟩
    obtain ⟨d, hd1, hd2, hd3⟩ := digI_pos hc28
    have hstep : halfF l second (4 - i) i m = if (i = 0 ∧ second = true ∧ 16 * m + d ≠ 13) ∨ (i = 1 ∧ ¬ (second = true ↔ (220 ≤ 16 * m + d ∧ 16 * m + d ≤ 223))) then (0, 41) else halfF l second (4 - (i + 1)) (i + 1) (16 * m + d) := by
      rw [show 4 - i = (4 - (i + 1)) + 1 by omega, halfF, hg]
      simp only [hd1]
    rw [hr] at hstep
    have hm2 : m < 4096 := by
      have : i = 0 ∨ i = 1 ∨ i = 2 ∨ i = 3 := by omega
      rcases this with rfl | rfl | rfl | rfl <;> simp at hm <;> omega
    have hm3 : 16 * m + d < 16 ^ (i + 1) := by rw [Nat.pow_succ]; omega
    rw [hd2]
    refine Sk (Sr (Mv ?_))
    refine Vv (Gives.mulI rfl rfl rfl (by omega)) (Mv ?_)
    refine Vv (Gives.addI rfl rfl rfl (by omega)) (Am ?_)
    refine Nx (Mv ?_)
    refine Ve ?_
    refine Mv ?_
    refine FL_splitP (t := 29) rfl (fun hs42 => ?_) (fun hs42 => ?_)
    · refine On (Mv ?_)
      refine Pt ?_
      refine Mv ?_
      refine FL_split (t := 32) rfl (fun hs46 => ?_) (fun hs46 => ?_)
      · refine On (Mv ?_)
        refine On (Vn ?_)
        refine Pt ?_
        refine Mv ?_
        refine FL_splitP (t := 36) rfl (fun hs51 => ?_) (fun hs51 => ?_)
        · refine Of (Of (Of (Ou (Ou (Ou (Ou (Ou (Ou (Ou (Ou (Of (Pt ?_))))))))))))
          refine Qn (FW_cond_true rfl ?_)
          refine Sr (Am ?_)
          refine Am ?_
          refine Qn (Rb (Qround_ret (Qblk_ret (Qseq_ret (Qfn_ret (hR := ?_))))))
          exact ⟨by rw [hstep, if_pos (by cases second <;> simp at * <;> omega)]; rfl, rfl⟩
        refine On (Mv ?_)
        refine On (Ve ?_)
        refine On (Mv ?_)
        refine FL_splitP (t := 39) rfl (fun hs59 => ?_) (fun hs59 => ?_)
        · refine On (Mv ?_)
          refine On (Mv ?_)
          refine On (Vv (Gives.geq rfl rfl) (On ?_))
          refine Mv ?_
          refine FL_splitP (t := 43) rfl (fun hs64 => ?_) (fun hs64 => ?_)
          · refine On (Mv ?_)
            refine On (Vv (Gives.leq rfl rfl) (On ?_))
            refine Pt ?_
            refine On (Vv (Gives.neqB rfl rfl) (On ?_))
            refine Pt ?_
            refine Pf ?_
            refine Qn (Cd rfl (fun hc71 => ?_) (fun hc71 => ?_))
            · refine Sr (Am ?_)
              refine Am ?_
              refine Qn (Rb (Qround_ret (Qblk_ret (Qseq_ret (Qfn_ret (hR := ?_))))))
              exact ⟨by rw [hstep, if_pos (by cases second <;> simp at * <;> omega)]; rfl, rfl⟩
            refine FW_skip (Qblk_normal (Qseq_normal (FW_region (Mv ?_))))
            refine Vv (Gives.addI rfl rfl rfl (by omega)) (Am ?_)
            refine FL_nil ?_
            exact Qround_normal (i + 1, 16 * m + d) ⟨rfl, rfl, by dsimp only; rw [Int.natCast_add, Int.natCast_mul]; rfl, rfl, trivial⟩ ⟨⟨by dsimp only; omega, hm3, (hstep.trans (if_neg (by cases second <;> simp at * <;> omega))).symm⟩, rfl⟩ (by dsimp only; omega)
          refine Of (Of (On (Pf ?_)))
          refine On (Vv (Gives.neqB rfl rfl) (On ?_))
          refine Pt ?_
          refine Pf ?_
          refine Qn (Cd rfl (fun hc83 => ?_) (fun hc83 => ?_))
          · refine Sr (Am ?_)
            refine Am ?_
            refine Qn (Rb (Qround_ret (Qblk_ret (Qseq_ret (Qfn_ret (hR := ?_))))))
            exact ⟨by rw [hstep, if_pos (by cases second <;> simp at * <;> omega)]; rfl, rfl⟩
          refine FW_skip (Qblk_normal (Qseq_normal (FW_region (Mv ?_))))
          refine Vv (Gives.addI rfl rfl rfl (by omega)) (Am ?_)
          refine FL_nil ?_
          exact Qround_normal (i + 1, 16 * m + d) ⟨rfl, rfl, by dsimp only; rw [Int.natCast_add, Int.natCast_mul]; rfl, rfl, trivial⟩ ⟨⟨by dsimp only; omega, hm3, (hstep.trans (if_neg (by cases second <;> simp at * <;> omega))).symm⟩, rfl⟩ (by dsimp only; omega)
        refine Of (Of (Of (Of (Ou (Ou (Of (Of (On (Pf ?_)))))))))
        refine Pf ?_
        refine Qn (FW_cond_false rfl ?_)
        refine FW_skip (Qblk_normal (Qseq_normal (FW_region (Mv ?_))))
        refine Vv (Gives.addI rfl rfl rfl (by omega)) (Am ?_)
        refine FL_nil ?_
        exact Qround_normal (i + 1, 16 * m + d) ⟨rfl, rfl, by dsimp only; rw [Int.natCast_add, Int.natCast_mul]; rfl, rfl, trivial⟩ ⟨⟨by dsimp only; omega, hm3, (hstep.trans (if_neg (by cases second <;> simp at * <;> omega))).symm⟩, rfl⟩ (by dsimp only; omega)
      refine Of (Of (Pf ?_))
      refine Mv ?_
      refine On (Mv ?_)
      refine On (Ve ?_)
      refine On (Mv ?_)
      refine FL_splitP (t := 39) rfl (fun hs102 => ?_) (fun hs102 => ?_)
      · refine On (Mv ?_)
        refine On (Mv ?_)
        refine On (Vv (Gives.geq rfl rfl) (On ?_))
        refine Mv ?_
        refine FL_splitP (t := 43) rfl (fun hs107 => ?_) (fun hs107 => ?_)
        · refine On (Mv ?_)
          refine On (Vv (Gives.leq rfl rfl) (On ?_))
          refine Pt ?_
          refine On (Vv (Gives.neqB rfl rfl) (On ?_))
          refine Pt ?_
          refine Pf ?_
          refine Qn (Cd rfl (fun hc114 => ?_) (fun hc114 => ?_))
          · refine Sr (Am ?_)
            refine Am ?_
            refine Qn (Rb (Qround_ret (Qblk_ret (Qseq_ret (Qfn_ret (hR := ?_))))))
            exact ⟨by rw [hstep, if_pos (by cases second <;> simp at * <;> omega)]; rfl, rfl⟩
          refine FW_skip (Qblk_normal (Qseq_normal (FW_region (Mv ?_))))
          refine Vv (Gives.addI rfl rfl rfl (by omega)) (Am ?_)
          refine FL_nil ?_
          exact Qround_normal (i + 1, 16 * m + d) ⟨rfl, rfl, by dsimp only; rw [Int.natCast_add, Int.natCast_mul]; rfl, rfl, trivial⟩ ⟨⟨by dsimp only; omega, hm3, (hstep.trans (if_neg (by cases second <;> simp at * <;> omega))).symm⟩, rfl⟩ (by dsimp only; omega)
        refine Of (Of (On (Pf ?_)))
        refine On (Vv (Gives.neqB rfl rfl) (On ?_))
        refine Pt ?_
        refine Pf ?_
        refine Qn (Cd rfl (fun hc126 => ?_) (fun hc126 => ?_))
        · refine Sr (Am ?_)
          refine Am ?_
          refine Qn (Rb (Qround_ret (Qblk_ret (Qseq_ret (Qfn_ret (hR := ?_))))))
          exact ⟨by rw [hstep, if_pos (by cases second <;> simp at * <;> omega)]; rfl, rfl⟩
        refine FW_skip (Qblk_normal (Qseq_normal (FW_region (Mv ?_))))
        refine Vv (Gives.addI rfl rfl rfl (by omega)) (Am ?_)
        refine FL_nil ?_
        exact Qround_normal (i + 1, 16 * m + d) ⟨rfl, rfl, by dsimp only; rw [Int.natCast_add, Int.natCast_mul]; rfl, rfl, trivial⟩ ⟨⟨by dsimp only; omega, hm3, (hstep.trans (if_neg (by cases second <;> simp at * <;> omega))).symm⟩, rfl⟩ (by dsimp only; omega)
      refine Of (Of (Of (Of (Ou (Ou (Of (Of (On (Pf ?_)))))))))
      refine Pf ?_
      refine Qn (FW_cond_false rfl ?_)
      refine FW_skip (Qblk_normal (Qseq_normal (FW_region (Mv ?_))))
      refine Vv (Gives.addI rfl rfl rfl (by omega)) (Am ?_)
      refine FL_nil ?_
      exact Qround_normal (i + 1, 16 * m + d) ⟨rfl, rfl, by dsimp only; rw [Int.natCast_add, Int.natCast_mul]; rfl, rfl, trivial⟩ ⟨⟨by dsimp only; omega, hm3, (hstep.trans (if_neg (by cases second <;> simp at * <;> omega))).symm⟩, rfl⟩ (by dsimp only; omega)
    refine Of (Pf ?_)
    refine Mv ?_
    refine Of (Of (Pf ?_))
    refine Mv ?_
    refine On (Mv ?_)
    refine On (Ve ?_)
    refine On (Mv ?_)
    refine FL_splitP (t := 39) rfl (fun hs147 => ?_) (fun hs147 => ?_)
    · refine On (Mv ?_)
      refine On (Mv ?_)
      refine On (Vv (Gives.geq rfl rfl) (On ?_))
      refine Mv ?_
      refine FL_splitP (t := 43) rfl (fun hs152 => ?_) (fun hs152 => ?_)
      · refine On (Mv ?_)
        refine On (Vv (Gives.leq rfl rfl) (On ?_))
        refine Pt ?_
        refine On (Vv (Gives.neqB rfl rfl) (On ?_))
        refine Pt ?_
        refine Pf ?_
        refine Qn (Cd rfl (fun hc159 => ?_) (fun hc159 => ?_))
        · refine Sr (Am ?_)
          refine Am ?_
          refine Qn (Rb (Qround_ret (Qblk_ret (Qseq_ret (Qfn_ret (hR := ?_))))))
          exact ⟨by rw [hstep, if_pos (by cases second <;> simp at * <;> omega)]; rfl, rfl⟩
        refine FW_skip (Qblk_normal (Qseq_normal (FW_region (Mv ?_))))
        refine Vv (Gives.addI rfl rfl rfl (by omega)) (Am ?_)
        refine FL_nil ?_
        exact Qround_normal (i + 1, 16 * m + d) ⟨rfl, rfl, by dsimp only; rw [Int.natCast_add, Int.natCast_mul]; rfl, rfl, trivial⟩ ⟨⟨by dsimp only; omega, hm3, (hstep.trans (if_neg (by cases second <;> simp at * <;> omega))).symm⟩, rfl⟩ (by dsimp only; omega)
      refine Of (Of (On (Pf ?_)))
      refine On (Vv (Gives.neqB rfl rfl) (On ?_))
      refine Pt ?_
      refine Pf ?_
      refine Qn (Cd rfl (fun hc171 => ?_) (fun hc171 => ?_))
      · refine Sr (Am ?_)
        refine Am ?_
        refine Qn (Rb (Qround_ret (Qblk_ret (Qseq_ret (Qfn_ret (hR := ?_))))))
        exact ⟨by rw [hstep, if_pos (by cases second <;> simp at * <;> omega)]; rfl, rfl⟩
      refine FW_skip (Qblk_normal (Qseq_normal (FW_region (Mv ?_))))
      refine Vv (Gives.addI rfl rfl rfl (by omega)) (Am ?_)
      refine FL_nil ?_
      exact Qround_normal (i + 1, 16 * m + d) ⟨rfl, rfl, by dsimp only; rw [Int.natCast_add, Int.natCast_mul]; rfl, rfl, trivial⟩ ⟨⟨by dsimp only; omega, hm3, (hstep.trans (if_neg (by cases second <;> simp at * <;> omega))).symm⟩, rfl⟩ (by dsimp only; omega)
    refine Of (Of (Of (Of (Ou (Ou (Of (Of (On (Pf ?_)))))))))
    refine Pf ?_
    refine Qn (FW_cond_false rfl ?_)
    refine FW_skip (Qblk_normal (Qseq_normal (FW_region (Mv ?_))))
    refine Vv (Gives.addI rfl rfl rfl (by omega)) (Am ?_)
    refine FL_nil ?_
    exact Qround_normal (i + 1, 16 * m + d) ⟨rfl, rfl, by dsimp only; rw [Int.natCast_add, Int.natCast_mul]; rfl, rfl, trivial⟩ ⟨⟨by dsimp only; omega, hm3, (hstep.trans (if_neg (by cases second <;> simp at * <;> omega))).symm⟩, rfl⟩ (by dsimp only; omega)
  have h4 : i = 4 := by omega
  subst h4
  have hfin : (m, (0 : Int)) = res := hr
  refine FW_exit (Qseq_exit (Qround_exit (Qblk_exit (Qseq_normal (Sr (Mv ?_))))))
  refine Am ?_
  refine Am ?_
  refine Qn (FW_ret (Qfn_ret (hR := ?_)))
  exact ⟨by rw [← hfin]; rfl, rfl⟩
end
end Go.Proofs.YtolaedhdjcnijaaGreatDoor
