/-
 The document's runes, walked.
-/
import Derived.Test.YtmkaahkbhdlniaaGreatDoorTx8
set_option linter.unusedVariables false
set_option linter.unusedSimpArgs false
namespace Go.Proofs.YtmkaahkbhdlniaaGreatDoor
open Go Go.Mw Go.Lib
set_option maxRecDepth 4000

def numI (l : List UInt8) : Nat := if l.length = 2 then (l.getD 0 0).toNat % 32 else if l.length = 3 then (l.getD 0 0).toNat % 16 else if l.length = 4 then (l.getD 0 0).toNat % 8 else (l.getD 0 0).toNat
def numAt (l : List UInt8) (i : Nat) : Nat := ((l.take i).drop 1).foldl (fun n c => 64 * n + c.toNat % 64) (numI l)
theorem numAt_one (l : List UInt8) : numAt l 1 = numI l := by
 unfold numAt
 rw [List.drop_of_length_le (by rw [List.length_take]; omega)]
 rfl
theorem numAt_succ {l : List UInt8} {i : Nat} (h1 : 1 ≤ i) (h : i < l.length) : numAt l (i + 1) = 64 * numAt l i + (l.getD i 0).toNat % 64 := by
 unfold numAt
 rw [List.take_add_one, List.getElem?_eq_getElem h, List.drop_append_of_le_length (by rw [List.length_take]; omega), List.foldl_append]
 simp [List.getD_eq_getElem?_getD, List.getElem?_eq_getElem h]
theorem numAt_lt {l : List UInt8} {i : Nat} (h1 : 1 ≤ i) (h4 : i ≤ 4) (h : i ≤ l.length) : numAt l i < 67108864 := by
 have a : numAt l 1 ≤ 255 := by
  rw [numAt_one]
  have := (l.getD 0 0).toNat_lt
  unfold numI
  repeat' split
  all_goals omega
 have hi : i = 1 ∨ i = 2 ∨ i = 3 ∨ i = 4 := by omega
 have s2 : 1 < l.length → numAt l 2 = 64 * numAt l 1 + (l.getD 1 0).toNat % 64 := numAt_succ (by omega)
 have s3 : 2 < l.length → numAt l 3 = 64 * numAt l 2 + (l.getD 2 0).toNat % 64 := numAt_succ (by omega)
 have s4 : 3 < l.length → numAt l 4 = 64 * numAt l 3 + (l.getD 3 0).toNat % 64 := numAt_succ (by omega)
 rcases hi with rfl | rfl | rfl | rfl <;> omega
theorem numAt_all {l : List UInt8} (h1 : 1 ≤ l.length) (h4 : l.length ≤ 4) : numAt l l.length = numL l := by
 match l, h1, h4 with
 | [a], _, _ => rfl
 | [a, b], _, _ => rfl
 | [a, b, c], _, _ => rfl
 | [a, b, c, d], _, _ => rfl
section
variable {w : World} {l : List UInt8}
theorem number_ok (h1 : 1 ≤ l.length) (h4 : l.length ≤ 4) : Rets Tryz.prog 201 [str l] w fun v w' => v = I32 (numL l) ∧ w = w' := by
 have H := Sep.start0 w
 have h8 := (l.getD 0 0).toNat_lt
 refine rets1 Tryz.func201 rfl rfl rfl rfl ?_
 refine Sr ?_
 refine Am ?_
 refine Nx ?_
 refine Mv ?_
 refine FL_val (Gives.idxD (i := 0) rfl rfl (by omega)) rfl ?_
 refine FL_val (Gives.convB rfl) rfl ?_
 refine Am ?_
 refine Qn ?_
 refine FW_cut (fun _ : Unit => [(0, str l), (3, I (numI l))]) (fun _ w' => Sep w noB [] w' ∧ w = w') ?_ ?_
 ·refine Sr ?_
  refine Mv ?_
  refine Vt ?_
  refine Qn ?_
  refine FW_block ?_
  refine Sr ?_
  refine Ve ?_
  refine Am ?_
  refine Qn ?_
  refine FW_condP rfl (fun hc11 => ?_) (fun hc11 => ?_)
  ·have e0 : numI l = (l.getD 0 0).toNat % 32 := by unfold numI; rw [if_pos (by omega)]
   refine FW_region ?_
   refine Mv ?_
   refine FL_val (Gives.remN (b := 32) rfl rfl (by omega)) rfl ?_
   refine Am ?_
   refine FL_nil (Qblk_normal ?_)
   exact Qcut_normal () ⟨rfl, by rw [e0]; rfl, trivial⟩ ⟨H, rfl⟩
  ·refine Sr ?_
   refine Ve ?_
   refine Am ?_
   refine Qn ?_
   refine FW_condP rfl (fun hc19 => ?_) (fun hc19 => ?_)
   ·have e0 : numI l = (l.getD 0 0).toNat % 16 := by unfold numI; rw [if_neg (by omega), if_pos (by omega)]
    refine FW_region ?_
    refine Mv ?_
    refine FL_val (Gives.remN (b := 16) rfl rfl (by omega)) rfl ?_
    refine Am ?_
    refine FL_nil (Qblk_normal ?_)
    exact Qcut_normal () ⟨rfl, by rw [e0]; rfl, trivial⟩ ⟨H, rfl⟩
   ·refine Sr ?_
    refine Ve ?_
    refine Am ?_
    refine Qn ?_
    refine FW_condP rfl (fun hc27 => ?_) (fun hc27 => ?_)
    ·have e0 : numI l = (l.getD 0 0).toNat % 8 := by unfold numI; rw [if_neg (by omega), if_neg (by omega), if_pos (by omega)]
     refine FW_region ?_
     refine Mv ?_
     refine FL_val (Gives.remN (b := 8) rfl rfl (by omega)) rfl ?_
     refine Am ?_
     refine FL_nil (Qblk_normal ?_)
     exact Qcut_normal () ⟨rfl, by rw [e0]; rfl, trivial⟩ ⟨H, rfl⟩
    ·have e0 : numI l = (l.getD 0 0).toNat := by unfold numI; rw [if_neg (by omega), if_neg (by omega), if_neg (by omega)]
     refine FW_skip (Qblk_normal ?_)
     exact Qcut_normal () ⟨rfl, by rw [e0]; rfl, trivial⟩ ⟨H, rfl⟩
 ·intro _ τ w36 hI
  obtain ⟨H36, rfl⟩ := hI
  simp only [upds, like, upd_ds, und_ds]
  refine FW_seq ?_
  refine Sr ?_
  refine Am ?_
  refine Qn ?_
  refine FW_block ?_
  refine FW_loop' (fun i : Nat => [(0, str l), (3, I (numAt l i)), (4, I i)]) (fun i w' => (1 ≤ i ∧ i ≤ l.length) ∧ w = w') (fun i _ => l.length - i) 1 ⟨rfl, by rw [numAt_one]; rfl, rfl, trivial⟩ ⟨⟨Nat.le_refl _, h1⟩, rfl⟩ (fun i τ w39 hI => ?_)
  obtain ⟨⟨hi1, hi2⟩, rfl⟩ := hI
  have hb := numAt_lt hi1 (by omega) hi2
  try simp only [upds, like, upd_ds]
  refine FW_seq ?_
  refine Sr ?_
  refine Mv ?_
  refine Mv ?_
  refine Vt ?_
  refine Vl ?_
  refine Qn ?_
  refine FW_condP rfl (fun hc44 => ?_) (fun hc44 => ?_)
  ·have hlt : i < l.length := by omega
   have hs := numAt_succ hi1 hlt
   have h9 := (l.getD i 0).toNat_lt
   refine Sk ?_
   refine FW_seq ?_
   refine FW_block ?_
   refine FW_region ?_
   refine Mv ?_
   refine FL_val (Gives.mulI rfl rfl rfl (by omega)) rfl ?_
   refine Mv ?_
   refine Mv ?_
   refine FL_val (Gives.idxD rfl rfl (by omega)) rfl ?_
   refine FL_val (Gives.convB rfl) rfl ?_
   refine FL_val (Gives.remN (b := 64) rfl rfl (by omega)) rfl ?_
   refine FL_val (Gives.addI rfl rfl rfl (by omega)) rfl ?_
   refine Am ?_
   refine FL_nil (Qblk_normal (Qseq_normal ?_))
   refine FW_region ?_
   refine Mv ?_
   refine FL_val (Gives.addI rfl rfl rfl (by omega)) rfl ?_
   refine Am ?_
   refine FL_nil ?_
   exact Qround_normal (i + 1) ⟨rfl, by rw [hs, Int.natCast_add, Int.natCast_mul]; rfl, rfl, trivial⟩ ⟨⟨by omega, by omega⟩, rfl⟩ (by omega)
  ·have he : i = l.length := by omega
   refine FW_exit (Qseq_exit (Qround_exit (Qblk_exit (Qseq_normal ?_))))
   refine Sr ?_
   refine Mv ?_
   refine FL_val (Gives.convI32 rfl (by omega)) rfl ?_
   rw [he, numAt_all h1 h4]
   refine Am ?_
   refine Qn ?_
   refine FW_ret (Qfn_ret (hR := ?_))
   exact ⟨rfl, rfl⟩
theorem put_ok (r : Int) (hr : -2147483648 ≤ r ∧ r ≤ 2147483647) : Rets Tryz.prog 202 [I32 r] w fun v w' => v = .tuple #[str ((putL r).getD []), .bool (putL r).isSome] ∧ Kept noB w w' := by
 have H := Sep.start0 w
 refine rets1 Tryz.func202 rfl rfl rfl rfl ?_
 by_cases hv : r < 0 ∨ 1114111 < r ∨ (55296 ≤ r ∧ r ≤ 57343)
 ·have hp : putL r = none := if_pos hv
  rw [hp]
  refine Sr ?_
  refine Am ?_
  refine Am ?_
  refine Nx ?_
  refine Mv ?_
  refine FL_val (Gives.convI64 rfl (by omega)) rfl ?_
  refine Am ?_
  refine Qn ?_
  refine FW_seq ?_
  refine Sr ?_
  refine Mv ?_
  refine Vl ?_
  refine Mv ?_
  refine FL_splitP (t := 10) rfl (fun hs9 => ?_) (fun hs9 => ?_)
  ·refine Of ?_
   refine Of ?_
   refine Pt ?_
   refine Mv ?_
   refine Of ?_
   refine Of ?_
   refine Of ?_
   refine Ou ?_
   refine Ou ?_
   refine Of ?_
   refine Pt ?_
   refine Qn ?_
   refine FW_cond_true rfl ?_
   refine Sr ?_
   refine Am ?_
   refine Am ?_
   refine Qn ?_
   refine Rs (Qfn_ret (hR := ?_))
   exact ⟨rfl, H.kept⟩
  ·refine On ?_
   refine Mv ?_
   refine On ?_
   refine Vg ?_
   refine Pf ?_
   refine Mv ?_
   refine FL_splitP (t := 14) rfl (fun hs20 => ?_) (fun hs20 => ?_)
   ·refine Of ?_
    refine Of ?_
    refine Of ?_
    refine Ou ?_
    refine Ou ?_
    refine Of ?_
    refine Pt ?_
    refine Qn ?_
    refine FW_cond_true rfl ?_
    refine Sr ?_
    refine Am ?_
    refine Am ?_
    refine Qn ?_
    refine Rs (Qfn_ret (hR := ?_))
    exact ⟨rfl, H.kept⟩
   ·refine On ?_
    refine Mv ?_
    refine On ?_
    refine FL_val (Gives.geq rfl rfl) rfl ?_
    refine On ?_
    refine Mv ?_
    refine FL_splitP (t := 17) rfl (fun hs28 => ?_) (fun hs28 => ?_)
    ·refine On ?_
     refine Mv ?_
     refine On ?_
     refine FL_val (Gives.leq rfl rfl) rfl ?_
     refine On ?_
     refine Pt ?_
     refine Pf ?_
     refine Qn ?_
     refine FW_condP rfl (fun hc33 => ?_) (fun hc33 => ?_)
     ·refine Sr ?_
      refine Am ?_
      refine Am ?_
      refine Qn ?_
      refine Rs (Qfn_ret (hR := ?_))
      exact ⟨rfl, H.kept⟩
     ·omega --done
    ·omega --done
 ·have hp : putL r = some (encodeRune r) := if_neg hv
  rw [hp]
  obtain ⟨n, rfl⟩ : ∃ n : Nat, r = n := ⟨r.toNat, by omega⟩
  refine Sr ?_
  refine Am ?_
  refine Am ?_
  refine Nx ?_
  refine Mv ?_
  refine FL_val (Gives.convI64 rfl (by omega)) rfl ?_
  refine Am ?_
  refine Qn ?_
  refine FW_seq ?_
  refine Sr ?_
  refine Mv ?_
  refine Vl ?_
  refine Mv ?_
  refine FL_splitP (t := 10) rfl (fun hs9 => ?_) (fun hs9 => ?_)
  ·omega --done
  ·refine On ?_
   refine Mv ?_
   refine On ?_
   refine Vg ?_
   refine Pf ?_
   refine Mv ?_
   refine FL_splitP (t := 14) rfl (fun hs15 => ?_) (fun hs15 => ?_)
   ·omega --done
   ·refine On ?_
    refine Mv ?_
    refine On ?_
    refine FL_val (Gives.geq rfl rfl) rfl ?_
    refine On ?_
    refine Mv ?_
    refine FL_splitP (t := 17) rfl (fun hs20 => ?_) (fun hs20 => ?_)
    ·refine On ?_
     refine Mv ?_
     refine On ?_
     refine FL_val (Gives.leq rfl rfl) rfl ?_
     refine On ?_
     refine Pt ?_
     refine Pf ?_
     refine Qn ?_
     refine FW_condP rfl (fun hc25 => ?_) (fun hc25 => ?_)
     ·omega --done
     ·refine Sk ?_
      refine Sr ?_
      refine Mv ?_
      refine FL_val (Gives.convU8 rfl (by omega)) rfl ?_
      refine FL_buildSlice H (xs := [.tmp 23]) (out := [Value.int .u8 (((n : Int).toNat.toUInt8).toNat : Int)]) (Elems.one rfl rfl Elems.nil) rfl rfl rfl (fun b w30 H30 _ => ?_)
      refine Am ?_
      refine Qn ?_
      refine FW_seq ?_
      refine FW_block ?_
      refine Sr ?_
      refine Mv ?_
      refine FL_val (Gives.geq rfl rfl) rfl ?_
      refine Am ?_
      refine Qn ?_
      refine FW_condP rfl (fun hc35 => ?_) (fun hc35 => ?_)
      ·have he : [Value.int .u8 ((((240 + (n / 262144 : Nat) : Int)).toNat.toUInt8).toNat : Int), Value.int .u8 ((((128 + (n / 4096 % 64 : Nat) : Int)).toNat.toUInt8).toNat : Int), Value.int .u8 ((((128 + (n / 64 % 64 : Nat) : Int)).toNat.toUInt8).toNat : Int), Value.int .u8 ((((128 + (n % 64 : Nat) : Int)).toNat.toUInt8).toNat : Int)] = (encodeRune n).map fun u => Value.int .u8 u.toNat := by rw [encodeRune, encodeRuneZ_four (by omega) (by omega)]; rfl
       refine FW_region ?_
       refine Mv ?_
       refine FL_val (Gives.quoN (b := 262144) rfl rfl (by omega) (by omega)) rfl ?_
       refine FL_val (Gives.addI rfl rfl rfl (by omega)) rfl ?_
       refine FL_val (Gives.convU8 rfl (by omega)) rfl ?_
       refine Mv ?_
       refine FL_val (Gives.quoN (b := 4096) rfl rfl (by omega) (by omega)) rfl ?_
       refine FL_val (Gives.remN (b := 64) rfl rfl (by omega)) rfl ?_
       refine FL_val (Gives.addI rfl rfl rfl (by omega)) rfl ?_
       refine FL_val (Gives.convU8 rfl (by omega)) rfl ?_
       refine Mv ?_
       refine FL_val (Gives.quoN (b := 64) rfl rfl (by omega) (by omega)) rfl ?_
       refine FL_val (Gives.remN (b := 64) rfl rfl (by omega)) rfl ?_
       refine FL_val (Gives.addI rfl rfl rfl (by omega)) rfl ?_
       refine FL_val (Gives.convU8 rfl (by omega)) rfl ?_
       refine Mv ?_
       refine FL_val (Gives.remN (b := 64) rfl rfl (by omega)) rfl ?_
       refine FL_val (Gives.addI rfl rfl rfl (by omega)) rfl ?_
       refine FL_val (Gives.convU8 rfl (by omega)) rfl ?_
       refine FL_buildSlice H30 (xs := [.tmp 31, .tmp 36, .tmp 41, .tmp 45]) (out := [Value.int .u8 ((((240 + (n / 262144 : Nat) : Int)).toNat.toUInt8).toNat : Int), Value.int .u8 ((((128 + (n / 4096 % 64 : Nat) : Int)).toNat.toUInt8).toNat : Int), Value.int .u8 ((((128 + (n / 64 % 64 : Nat) : Int)).toNat.toUInt8).toNat : Int), Value.int .u8 ((((128 + (n % 64 : Nat) : Int)).toNat.toUInt8).toNat : Int)]) (Elems.one rfl rfl (Elems.one rfl rfl (Elems.one rfl rfl (Elems.one rfl rfl Elems.nil)))) rfl rfl rfl (fun b2 w56 H56 _ => ?_)
       refine Am ?_
       refine FL_nil (Qblk_normal (Qseq_normal ?_))
       refine Sr ?_
       refine Mv ?_
       refine FL_val (Gives.bytesT (l := encodeRune n) rfl (by rw [← he]; exact Sep.blkRow H56 At0 rfl)) rfl ?_
       refine Am ?_
       refine Am ?_
       refine Qn ?_
       refine FW_ret (Qfn_ret (hR := ?_))
       exact ⟨rfl, H56.kept⟩
      ·refine Sr ?_
       refine Mv ?_
       refine FL_val (Gives.geq rfl rfl) rfl ?_
       refine Am ?_
       refine Qn ?_
       refine FW_condP rfl (fun hc66 => ?_) (fun hc66 => ?_)
       ·have he : [Value.int .u8 ((((224 + (n / 4096 : Nat) : Int)).toNat.toUInt8).toNat : Int), Value.int .u8 ((((128 + (n / 64 % 64 : Nat) : Int)).toNat.toUInt8).toNat : Int), Value.int .u8 ((((128 + (n % 64 : Nat) : Int)).toNat.toUInt8).toNat : Int)] = (encodeRune n).map fun u => Value.int .u8 u.toNat := by rw [encodeRune, encodeRuneZ_three (by omega)]; rfl
        refine FW_region ?_
        refine Mv ?_
        refine FL_val (Gives.quoN (b := 4096) rfl rfl (by omega) (by omega)) rfl ?_
        refine FL_val (Gives.addI rfl rfl rfl (by omega)) rfl ?_
        refine FL_val (Gives.convU8 rfl (by omega)) rfl ?_
        refine Mv ?_
        refine FL_val (Gives.quoN (b := 64) rfl rfl (by omega) (by omega)) rfl ?_
        refine FL_val (Gives.remN (b := 64) rfl rfl (by omega)) rfl ?_
        refine FL_val (Gives.addI rfl rfl rfl (by omega)) rfl ?_
        refine FL_val (Gives.convU8 rfl (by omega)) rfl ?_
        refine Mv ?_
        refine FL_val (Gives.remN (b := 64) rfl rfl (by omega)) rfl ?_
        refine FL_val (Gives.addI rfl rfl rfl (by omega)) rfl ?_
        refine FL_val (Gives.convU8 rfl (by omega)) rfl ?_
        refine FL_buildSlice H30 (xs := [.tmp 53, .tmp 58, .tmp 62]) (out := [Value.int .u8 ((((224 + (n / 4096 : Nat) : Int)).toNat.toUInt8).toNat : Int), Value.int .u8 ((((128 + (n / 64 % 64 : Nat) : Int)).toNat.toUInt8).toNat : Int), Value.int .u8 ((((128 + (n % 64 : Nat) : Int)).toNat.toUInt8).toNat : Int)]) (Elems.one rfl rfl (Elems.one rfl rfl (Elems.one rfl rfl Elems.nil))) rfl rfl rfl (fun b2 w82 H82 _ => ?_)
        refine Am ?_
        refine FL_nil (Qblk_normal (Qseq_normal ?_))
        refine Sr ?_
        refine Mv ?_
        refine FL_val (Gives.bytesT (l := encodeRune n) rfl (by rw [← he]; exact Sep.blkRow H82 At0 rfl)) rfl ?_
        refine Am ?_
        refine Am ?_
        refine Qn ?_
        refine FW_ret (Qfn_ret (hR := ?_))
        exact ⟨rfl, H82.kept⟩
       ·refine Sr ?_
        refine Mv ?_
        refine FL_val (Gives.geq rfl rfl) rfl ?_
        refine Am ?_
        refine Qn ?_
        refine FW_condP rfl (fun hc92 => ?_) (fun hc92 => ?_)
        ·have he : [Value.int .u8 ((((192 + (n / 64 : Nat) : Int)).toNat.toUInt8).toNat : Int), Value.int .u8 ((((128 + (n % 64 : Nat) : Int)).toNat.toUInt8).toNat : Int)] = (encodeRune n).map fun u => Value.int .u8 u.toNat := by rw [encodeRune, encodeRuneZ_two (by omega) (by omega)]; rfl
         refine FW_region ?_
         refine Mv ?_
         refine FL_val (Gives.quoN (b := 64) rfl rfl (by omega) (by omega)) rfl ?_
         refine FL_val (Gives.addI rfl rfl rfl (by omega)) rfl ?_
         refine FL_val (Gives.convU8 rfl (by omega)) rfl ?_
         refine Mv ?_
         refine FL_val (Gives.remN (b := 64) rfl rfl (by omega)) rfl ?_
         refine FL_val (Gives.addI rfl rfl rfl (by omega)) rfl ?_
         refine FL_val (Gives.convU8 rfl (by omega)) rfl ?_
         refine FL_buildSlice H30 (xs := [.tmp 70, .tmp 74]) (out := [Value.int .u8 ((((192 + (n / 64 : Nat) : Int)).toNat.toUInt8).toNat : Int), Value.int .u8 ((((128 + (n % 64 : Nat) : Int)).toNat.toUInt8).toNat : Int)]) (Elems.one rfl rfl (Elems.one rfl rfl Elems.nil)) rfl rfl rfl (fun b2 w103 H103 _ => ?_)
         refine Am ?_
         refine FL_nil (Qblk_normal (Qseq_normal ?_))
         refine Sr ?_
         refine Mv ?_
         refine FL_val (Gives.bytesT (l := encodeRune n) rfl (by rw [← he]; exact Sep.blkRow H103 At0 rfl)) rfl ?_
         refine Am ?_
         refine Am ?_
         refine Qn ?_
         refine FW_ret (Qfn_ret (hR := ?_))
         exact ⟨rfl, H103.kept⟩
        ·have he : [Value.int .u8 (((n : Int).toNat.toUInt8).toNat : Int)] = (encodeRune n).map fun u => Value.int .u8 u.toNat := by rw [encodeRune, encodeRuneZ_one (by omega) (by omega)]; rfl
         refine FW_skip (Qblk_normal (Qseq_normal ?_))
         refine Sr ?_
         refine Mv ?_
         refine FL_val (Gives.bytesT (l := encodeRune n) rfl (by rw [← he]; exact Sep.blkRow H30 At0 rfl)) rfl ?_
         refine Am ?_
         refine Am ?_
         refine Qn ?_
         refine FW_ret (Qfn_ret (hR := ?_))
         exact ⟨rfl, H30.kept⟩
    ·refine Of ?_
     refine Of ?_
     refine On ?_
     refine Pf ?_
     refine Pf ?_
     refine Qn ?_
     refine FW_cond_false rfl ?_
     refine Sk ?_
     refine Sr ?_
     refine Mv ?_
     refine FL_val (Gives.convU8 rfl (by omega)) rfl ?_
     refine FL_buildSlice H (xs := [.tmp 23]) (out := [Value.int .u8 (((n : Int).toNat.toUInt8).toNat : Int)]) (Elems.one rfl rfl Elems.nil) rfl rfl rfl (fun b w121 H121 _ => ?_)
     refine Am ?_
     refine Qn ?_
     refine FW_seq ?_
     refine FW_block ?_
     refine Sr ?_
     refine Mv ?_
     refine FL_val (Gives.geq rfl rfl) rfl ?_
     refine Am ?_
     refine Qn ?_
     refine FW_condP rfl (fun hc126 => ?_) (fun hc126 => ?_)
     ·have he : [Value.int .u8 ((((240 + (n / 262144 : Nat) : Int)).toNat.toUInt8).toNat : Int), Value.int .u8 ((((128 + (n / 4096 % 64 : Nat) : Int)).toNat.toUInt8).toNat : Int), Value.int .u8 ((((128 + (n / 64 % 64 : Nat) : Int)).toNat.toUInt8).toNat : Int), Value.int .u8 ((((128 + (n % 64 : Nat) : Int)).toNat.toUInt8).toNat : Int)] = (encodeRune n).map fun u => Value.int .u8 u.toNat := by rw [encodeRune, encodeRuneZ_four (by omega) (by omega)]; rfl
      refine FW_region ?_
      refine Mv ?_
      refine FL_val (Gives.quoN (b := 262144) rfl rfl (by omega) (by omega)) rfl ?_
      refine FL_val (Gives.addI rfl rfl rfl (by omega)) rfl ?_
      refine FL_val (Gives.convU8 rfl (by omega)) rfl ?_
      refine Mv ?_
      refine FL_val (Gives.quoN (b := 4096) rfl rfl (by omega) (by omega)) rfl ?_
      refine FL_val (Gives.remN (b := 64) rfl rfl (by omega)) rfl ?_
      refine FL_val (Gives.addI rfl rfl rfl (by omega)) rfl ?_
      refine FL_val (Gives.convU8 rfl (by omega)) rfl ?_
      refine Mv ?_
      refine FL_val (Gives.quoN (b := 64) rfl rfl (by omega) (by omega)) rfl ?_
      refine FL_val (Gives.remN (b := 64) rfl rfl (by omega)) rfl ?_
      refine FL_val (Gives.addI rfl rfl rfl (by omega)) rfl ?_
      refine FL_val (Gives.convU8 rfl (by omega)) rfl ?_
      refine Mv ?_
      refine FL_val (Gives.remN (b := 64) rfl rfl (by omega)) rfl ?_
      refine FL_val (Gives.addI rfl rfl rfl (by omega)) rfl ?_
      refine FL_val (Gives.convU8 rfl (by omega)) rfl ?_
      refine FL_buildSlice H121 (xs := [.tmp 31, .tmp 36, .tmp 41, .tmp 45]) (out := [Value.int .u8 ((((240 + (n / 262144 : Nat) : Int)).toNat.toUInt8).toNat : Int), Value.int .u8 ((((128 + (n / 4096 % 64 : Nat) : Int)).toNat.toUInt8).toNat : Int), Value.int .u8 ((((128 + (n / 64 % 64 : Nat) : Int)).toNat.toUInt8).toNat : Int), Value.int .u8 ((((128 + (n % 64 : Nat) : Int)).toNat.toUInt8).toNat : Int)]) (Elems.one rfl rfl (Elems.one rfl rfl (Elems.one rfl rfl (Elems.one rfl rfl Elems.nil)))) rfl rfl rfl (fun b2 w147 H147 _ => ?_)
      refine Am ?_
      refine FL_nil (Qblk_normal (Qseq_normal ?_))
      refine Sr ?_
      refine Mv ?_
      refine FL_val (Gives.bytesT (l := encodeRune n) rfl (by rw [← he]; exact Sep.blkRow H147 At0 rfl)) rfl ?_
      refine Am ?_
      refine Am ?_
      refine Qn ?_
      refine FW_ret (Qfn_ret (hR := ?_))
      exact ⟨rfl, H147.kept⟩
     ·refine Sr ?_
      refine Mv ?_
      refine FL_val (Gives.geq rfl rfl) rfl ?_
      refine Am ?_
      refine Qn ?_
      refine FW_condP rfl (fun hc157 => ?_) (fun hc157 => ?_)
      ·have he : [Value.int .u8 ((((224 + (n / 4096 : Nat) : Int)).toNat.toUInt8).toNat : Int), Value.int .u8 ((((128 + (n / 64 % 64 : Nat) : Int)).toNat.toUInt8).toNat : Int), Value.int .u8 ((((128 + (n % 64 : Nat) : Int)).toNat.toUInt8).toNat : Int)] = (encodeRune n).map fun u => Value.int .u8 u.toNat := by rw [encodeRune, encodeRuneZ_three (by omega)]; rfl
       refine FW_region ?_
       refine Mv ?_
       refine FL_val (Gives.quoN (b := 4096) rfl rfl (by omega) (by omega)) rfl ?_
       refine FL_val (Gives.addI rfl rfl rfl (by omega)) rfl ?_
       refine FL_val (Gives.convU8 rfl (by omega)) rfl ?_
       refine Mv ?_
       refine FL_val (Gives.quoN (b := 64) rfl rfl (by omega) (by omega)) rfl ?_
       refine FL_val (Gives.remN (b := 64) rfl rfl (by omega)) rfl ?_
       refine FL_val (Gives.addI rfl rfl rfl (by omega)) rfl ?_
       refine FL_val (Gives.convU8 rfl (by omega)) rfl ?_
       refine Mv ?_
       refine FL_val (Gives.remN (b := 64) rfl rfl (by omega)) rfl ?_
       refine FL_val (Gives.addI rfl rfl rfl (by omega)) rfl ?_
       refine FL_val (Gives.convU8 rfl (by omega)) rfl ?_
       refine FL_buildSlice H121 (xs := [.tmp 53, .tmp 58, .tmp 62]) (out := [Value.int .u8 ((((224 + (n / 4096 : Nat) : Int)).toNat.toUInt8).toNat : Int), Value.int .u8 ((((128 + (n / 64 % 64 : Nat) : Int)).toNat.toUInt8).toNat : Int), Value.int .u8 ((((128 + (n % 64 : Nat) : Int)).toNat.toUInt8).toNat : Int)]) (Elems.one rfl rfl (Elems.one rfl rfl (Elems.one rfl rfl Elems.nil))) rfl rfl rfl (fun b2 w173 H173 _ => ?_)
       refine Am ?_
       refine FL_nil (Qblk_normal (Qseq_normal ?_))
       refine Sr ?_
       refine Mv ?_
       refine FL_val (Gives.bytesT (l := encodeRune n) rfl (by rw [← he]; exact Sep.blkRow H173 At0 rfl)) rfl ?_
       refine Am ?_
       refine Am ?_
       refine Qn ?_
       refine FW_ret (Qfn_ret (hR := ?_))
       exact ⟨rfl, H173.kept⟩
      ·refine Sr ?_
       refine Mv ?_
       refine FL_val (Gives.geq rfl rfl) rfl ?_
       refine Am ?_
       refine Qn ?_
       refine FW_condP rfl (fun hc183 => ?_) (fun hc183 => ?_)
       ·have he : [Value.int .u8 ((((192 + (n / 64 : Nat) : Int)).toNat.toUInt8).toNat : Int), Value.int .u8 ((((128 + (n % 64 : Nat) : Int)).toNat.toUInt8).toNat : Int)] = (encodeRune n).map fun u => Value.int .u8 u.toNat := by rw [encodeRune, encodeRuneZ_two (by omega) (by omega)]; rfl
        refine FW_region ?_
        refine Mv ?_
        refine FL_val (Gives.quoN (b := 64) rfl rfl (by omega) (by omega)) rfl ?_
        refine FL_val (Gives.addI rfl rfl rfl (by omega)) rfl ?_
        refine FL_val (Gives.convU8 rfl (by omega)) rfl ?_
        refine Mv ?_
        refine FL_val (Gives.remN (b := 64) rfl rfl (by omega)) rfl ?_
        refine FL_val (Gives.addI rfl rfl rfl (by omega)) rfl ?_
        refine FL_val (Gives.convU8 rfl (by omega)) rfl ?_
        refine FL_buildSlice H121 (xs := [.tmp 70, .tmp 74]) (out := [Value.int .u8 ((((192 + (n / 64 : Nat) : Int)).toNat.toUInt8).toNat : Int), Value.int .u8 ((((128 + (n % 64 : Nat) : Int)).toNat.toUInt8).toNat : Int)]) (Elems.one rfl rfl (Elems.one rfl rfl Elems.nil)) rfl rfl rfl (fun b2 w194 H194 _ => ?_)
        refine Am ?_
        refine FL_nil (Qblk_normal (Qseq_normal ?_))
        refine Sr ?_
        refine Mv ?_
        refine FL_val (Gives.bytesT (l := encodeRune n) rfl (by rw [← he]; exact Sep.blkRow H194 At0 rfl)) rfl ?_
        refine Am ?_
        refine Am ?_
        refine Qn ?_
        refine FW_ret (Qfn_ret (hR := ?_))
        exact ⟨rfl, H194.kept⟩
       ·have he : [Value.int .u8 (((n : Int).toNat.toUInt8).toNat : Int)] = (encodeRune n).map fun u => Value.int .u8 u.toNat := by rw [encodeRune, encodeRuneZ_one (by omega) (by omega)]; rfl
        refine FW_skip (Qblk_normal (Qseq_normal ?_))
        refine Sr ?_
        refine Mv ?_
        refine FL_val (Gives.bytesT (l := encodeRune n) rfl (by rw [← he]; exact Sep.blkRow H121 At0 rfl)) rfl ?_
        refine Am ?_
        refine Am ?_
        refine Qn ?_
        refine FW_ret (Qfn_ret (hR := ?_))
        exact ⟨rfl, H121.kept⟩
def nextP (l : List UInt8) : Nat × Nat := (nextL l).getD (0, 0)
def nextV (l : List UInt8) : Value := .tuple #[I32 (nextP l).1, I (nextP l).2, .bool (nextL l).isSome]
theorem nextP_some {l : List UInt8} (h : (nextL l).isSome = true) : nextL l = some (nextP l) := by
 unfold nextP
 cases e : nextL l with
 | none => rw [e] at h; cases h
 | some x => rfl
theorem nextP_le {l : List UInt8} (h : (nextL l).isSome = true) : 1 ≤ (nextP l).2 ∧ (nextP l).2 ≤ 4 ∧ (nextP l).2 ≤ l.length := by
 obtain ⟨a, b, c, _, _⟩ := next_ok (r := (nextP l).1) (n := (nextP l).2) (nextP_some h)
 exact ⟨a, b, c⟩
theorem valid_next {l : List UInt8} (hne : l ≠ []) : validD l = if (nextL l).isSome = true then validD (l.drop (nextP l).2) else false := by
 rw [valid_step hne]
 unfold nextP
 cases nextL l <;> rfl
theorem okL_iff {l : List UInt8} {n : Nat} : okL l n ↔ (putL (numL (l.take n))).isSome = true ∧ (putL (numL (l.take n))).getD [] = l.take n := by
 unfold okL
 cases h : putL (numL (l.take n)) with
 | none => simp
 | some x => simp
theorem numL_lt (l : List UInt8) : numL l < 67108864 := by
 unfold numL
 split
 ·rename_i a; have := a.toNat_lt; omega
 all_goals omega
theorem next_ok4 (l : List UInt8) (hl : l.length ≤ 9223372036854775807) : Rets Tryz.prog 156 [str l] w fun v w' => v = nextV l ∧ Kept noB w w' := by
  have H := Sep.start0 w
  refine rets1 Tryz.func156 rfl rfl rfl rfl ?_
  refine Sr ?_
  refine Am ?_
  refine Am ?_
  refine Am ?_
  refine Qn ?_
  refine FW_seq ?_
  refine Sr ?_
  refine Am ?_
  refine Qn ?_
  refine FW_block ?_
  refine FW_loop' (fun n : Nat => [(0, str l), (5, I n)]) (fun n w' => ((1 ≤ n ∧ n ≤ 5) ∧ ∀ j, 1 ≤ j → j < n → j ≤ l.length → ¬ okL l j) ∧ Sep w noB [] w') (fun n _ => 5 - n) 1 ⟨rfl, rfl, trivial⟩ ⟨⟨⟨Nat.le_refl _, by omega⟩, fun j h1 h2 => by omega⟩, H⟩ (fun n τ w6 hI => ?_)
  obtain ⟨⟨⟨h1, h5⟩, hno⟩, H6⟩ := hI
  try simp only [upds, like, upd_ds, und_ds]
  refine FW_seq ?_
  refine Sr ?_
  refine Mv ?_
  refine FL_val (Gives.leq rfl rfl) rfl ?_
  refine Mv ?_
  refine FL_splitP (t := 11) rfl (fun hs10 => ?_) (fun hs10 => ?_)
  · refine On ?_
    refine Mv ?_
    refine On ?_
    refine Mv ?_
    refine On ?_
    refine Vt ?_
    refine On ?_
    refine FL_val (Gives.leq rfl rfl) rfl ?_
    refine Pt ?_
    refine Qn ?_
    refine FW_condP rfl (fun hc16 => ?_) (fun hc16 => ?_)
    · have h4 : n ≤ 4 ∧ n ≤ l.length := by omega
      have htl : (l.take n).length = n := by rw [List.length_take]; omega
      have hnl := numL_lt (l.take n)
      refine Sk ?_
      refine FW_seq ?_
      refine FW_block ?_
      refine Sr ?_
      refine Mv ?_
      refine Mv ?_
      refine FL_val (Gives.sliceToT rfl rfl (by omega)) rfl ?_
      refine FL_callS (number_ok (l := l.take n) (by omega) (by omega)) (h := ?_)
      refine Am ?_
      refine Nx ?_
      refine Mv ?_
      refine FL_callQ H6 (put_ok (numL (l.take n)) (by omega)) (h := fun w25 H25 _ => ?_)
      refine Mv ?_
      refine Vx ?_
      refine Vx ?_
      refine Am ?_
      refine Am ?_
      refine Nx ?_
      refine Mv ?_
      refine Mv ?_
      refine FL_split (t := 29) rfl (fun hs33 => ?_) (fun hs33 => ?_)
      · have hsome : (putL (numL (l.take n))).isSome = true := hs33
        refine On ?_
        refine Mv ?_
        refine On ?_
        refine Mv ?_
        refine On ?_
        refine Mv ?_
        refine On ?_
        refine FL_val (Gives.sliceToT rfl rfl (by omega)) rfl ?_
        refine On ?_
        refine FL_val (Gives.eqlT rfl rfl) rfl ?_
        refine Pt ?_
        refine Qn ?_
        refine FW_condP rfl (fun hc41 => ?_) (fun hc41 => ?_)
        · have hsm : nextL l = some (numL (l.take n), n) := next_of_ok h1 h4.1 h4.2 (okL_iff.2 ⟨hsome, hc41⟩)
          refine Sr ?_
          refine Mv ?_
          refine Mv ?_
          refine Am ?_
          refine Am ?_
          refine Am ?_
          refine Qn ?_
          refine Rb (Qround_ret (Qblk_ret (Qseq_ret (Qfn_ret (hR := ?_)))))
          exact ⟨by unfold nextV nextP; rw [hsm]; rfl, H25.kept⟩
        · have hno2 : ¬ okL l n := fun h => hc41 (okL_iff.1 h).2
          refine FW_skip (Qblk_normal (Qseq_normal ?_))
          refine FW_region ?_
          refine Mv ?_
          refine FL_val (Gives.addI rfl rfl rfl (by omega)) rfl ?_
          refine Am ?_
          refine FL_nil ?_
          exact Qround_normal (n + 1) ⟨rfl, rfl, trivial⟩ ⟨⟨⟨by omega, by omega⟩, fun j a b c => by
          rcases Nat.lt_or_ge j n with h | h
          · exact hno j a h c
          · have : j = n := by omega
            subst this
            exact hno2⟩, H25⟩ (by omega)
      · have hno2 : ¬ okL l n := fun h => by rw [(okL_iff.1 h).1] at hs33; cases hs33
        refine Of ?_
        refine Of ?_
        refine Of ?_
        refine Of ?_
        refine Of ?_
        refine Pf ?_
        refine Qn ?_
        refine FW_cond_false rfl ?_
        refine FW_skip (Qblk_normal (Qseq_normal ?_))
        refine FW_region ?_
        refine Mv ?_
        refine FL_val (Gives.addI rfl rfl rfl (by omega)) rfl ?_
        refine Am ?_
        refine FL_nil ?_
        exact Qround_normal (n + 1) ⟨rfl, rfl, trivial⟩ ⟨⟨⟨by omega, by omega⟩, fun j a b c => by
        rcases Nat.lt_or_ge j n with h | h
        · exact hno j a h c
        · have : j = n := by omega
          subst this
          exact hno2⟩, H25⟩ (by omega)
    · have hnone : nextL l = none := next_none fun j a b c => by
        rcases Nat.lt_or_ge j n with h | h
        · exact hno j a h c
        · exfalso; omega
      refine FW_exit (Qseq_exit (Qround_exit (Qblk_exit (Qseq_normal ?_))))
      refine Sr ?_
      refine Am ?_
      refine Am ?_
      refine Am ?_
      refine Qn ?_
      refine FW_ret (Qfn_ret (hR := ?_))
      exact ⟨by unfold nextV nextP; rw [hnone]; rfl, H6.kept⟩
  · have hn5 : n = 5 := by omega
    have hnone : nextL l = none := next_none fun j a b c => hno j a (by omega) c
    refine Of ?_
    refine Of ?_
    refine Of ?_
    refine Of ?_
    refine Pf ?_
    refine Qn ?_
    refine FW_cond_false rfl ?_
    refine FW_exit (Qseq_exit (Qround_exit (Qblk_exit (Qseq_normal ?_))))
    refine Sr ?_
    refine Am ?_
    refine Am ?_
    refine Am ?_
    refine Qn ?_
    refine FW_ret (Qfn_ret (hR := ?_))
    exact ⟨by unfold nextV nextP; rw [hnone]; rfl, H6.kept⟩
end
end Go.Proofs.YtmkaahkbhdlniaaGreatDoor
