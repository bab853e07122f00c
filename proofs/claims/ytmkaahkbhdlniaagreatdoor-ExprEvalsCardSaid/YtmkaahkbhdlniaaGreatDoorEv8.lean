/-
 The document's runes, walked.
-/
import Derived.Test.YtmkaahkbhdlniaaGreatDoorEv7
set_option linter.unusedVariables false
set_option linter.unusedSimpArgs false
namespace Go.Proofs.YtmkaahkbhdlniaaGreatDoor
open Go Go.Mw Go.Lib
set_option maxRecDepth 4000

def numI (l : List UInt8) : Nat := if l.length = 2 then (l.getD 0 0).toNat % 32 else if l.length = 3 then (l.getD 0 0).toNat % 16 else if l.length = 4 then (l.getD 0 0).toNat % 8 else (l.getD 0 0).toNat
def numAt (l : List UInt8) (i : Nat) : Nat := ((l.take i).drop 1).foldl (fun n c => 64 * n + c.toNat % 64) (numI l)
theorem numAt_one (l : List UInt8) : numAt l 1 = numI l := by
 unfold numAt
 rw [List.drop_of_length_le (by rw [List.length_take]; omega)]
 rfl
theorem numAt_succ {l : List UInt8} {i : Nat} (h1 : 1 ≤ i) (h : i < l.length) : numAt l (i + 1) = 64 * numAt l i + (l.getD i 0).toNat % 64 := by
 unfold numAt
 rw [List.take_add_one, List.getElem?_eq_getElem h, List.drop_append_of_le_length (by rw [List.length_take]; omega), List.foldl_append]
 simp [List.getD_eq_getElem?_getD, List.getElem?_eq_getElem h]
theorem numAt_lt {l : List UInt8} {i : Nat} (h1 : 1 ≤ i) (h4 : i ≤ 4) (h : i ≤ l.length) : numAt l i < 67108864 := by
 have a : numAt l 1 ≤ 255 := by
  rw [numAt_one]
  have := (l.getD 0 0).toNat_lt
  unfold numI
  repeat' split
  all_goals omega
 have hi : i = 1 ∨ i = 2 ∨ i = 3 ∨ i = 4 := by omega
 have s2 : 1 < l.length → numAt l 2 = 64 * numAt l 1 + (l.getD 1 0).toNat % 64 := numAt_succ (by omega)
 have s3 : 2 < l.length → numAt l 3 = 64 * numAt l 2 + (l.getD 2 0).toNat % 64 := numAt_succ (by omega)
 have s4 : 3 < l.length → numAt l 4 = 64 * numAt l 3 + (l.getD 3 0).toNat % 64 := numAt_succ (by omega)
 rcases hi with rfl | rfl | rfl | rfl <;> omega
theorem numAt_all {l : List UInt8} (h1 : 1 ≤ l.length) (h4 : l.length ≤ 4) : numAt l l.length = numL l := by
 match l, h1, h4 with
 | [a], _, _ => rfl
 | [a, b], _, _ => rfl
 | [a, b, c], _, _ => rfl
 | [a, b, c, d], _, _ => rfl
section
variable {w : World} {l : List UInt8}
theorem number_ok (h1 : 1 ≤ l.length) (h4 : l.length ≤ 4) : Rets Tryz.prog 201 [str l] w fun v w' => v = I32 (numL l) ∧ w = w' := by
 have H := Sep.start0 w
 have h8 := (l.getD 0 0).toNat_lt
 refine rets1 Tryz.func201 rfl rfl rfl rfl ?_
 refine Sr ?_
 refine Am ?_
 refine Nx ?_
 refine Mv ?_
 refine FL_val (Gives.idxD (i := 0) rfl rfl (by omega)) rfl ?_
 refine FL_val (Gives.convB rfl) rfl ?_
 refine Am ?_
 refine Qn ?_
 refine FW_cut (fun _ : Unit => [(0, str l), (3, I (numI l))]) (fun _ w' => Sep w noB [] w' ∧ w = w') ?_ ?_
 ·refine Sr ?_
  refine Mv ?_
  refine Vt ?_
  refine Qn ?_
  refine FW_block ?_
  refine Sr ?_
  refine Ve ?_
  refine Am ?_
  refine Qn ?_
  refine FW_condP rfl (fun hc11 => ?_) (fun hc11 => ?_)
  ·have e0 : numI l = (l.getD 0 0).toNat % 32 := by unfold numI; rw [if_pos (by omega)]
   refine FW_region ?_
   refine Mv ?_
   refine FL_val (Gives.remN (b := 32) rfl rfl (by omega)) rfl ?_
   refine Am ?_
   refine FL_nil (Qblk_normal ?_)
   exact Qcut_normal () ⟨rfl, by rw [e0]; rfl, trivial⟩ ⟨H, rfl⟩
  ·refine Sr ?_
   refine Ve ?_
   refine Am ?_
   refine Qn ?_
   refine FW_condP rfl (fun hc19 => ?_) (fun hc19 => ?_)
   ·have e0 : numI l = (l.getD 0 0).toNat % 16 := by unfold numI; rw [if_neg (by omega), if_pos (by omega)]
    refine FW_region ?_
    refine Mv ?_
    refine FL_val (Gives.remN (b := 16) rfl rfl (by omega)) rfl ?_
    refine Am ?_
    refine FL_nil (Qblk_normal ?_)
    exact Qcut_normal () ⟨rfl, by rw [e0]; rfl, trivial⟩ ⟨H, rfl⟩
   ·refine Sr ?_
    refine Ve ?_
    refine Am ?_
    refine Qn ?_
    refine FW_condP rfl (fun hc27 => ?_) (fun hc27 => ?_)
    ·have e0 : numI l = (l.getD 0 0).toNat % 8 := by unfold numI; rw [if_neg (by omega), if_neg (by omega), if_pos (by omega)]
     refine FW_region ?_
     refine Mv ?_
     refine FL_val (Gives.remN (b := 8) rfl rfl (by omega)) rfl ?_
     refine Am ?_
     refine FL_nil (Qblk_normal ?_)
     exact Qcut_normal () ⟨rfl, by rw [e0]; rfl, trivial⟩ ⟨H, rfl⟩
    ·have e0 : numI l = (l.getD 0 0).toNat := by unfold numI; rw [if_neg (by omega), if_neg (by omega), if_neg (by omega)]
     refine FW_skip (Qblk_normal ?_)
     exact Qcut_normal () ⟨rfl, by rw [e0]; rfl, trivial⟩ ⟨H, rfl⟩
 ·intro _ τ w36 hI
  obtain ⟨H36, rfl⟩ := hI
  simp only [upds, like, upd_ds, und_ds]
  refine FW_seq ?_
  refine Sr ?_
  refine Am ?_
  refine Qn ?_
  refine FW_block ?_
  refine FW_loop' (fun i : Nat => [(0, str l), (3, I (numAt l i)), (4, I i)]) (fun i w' => (1 ≤ i ∧ i ≤ l.length) ∧ w = w') (fun i _ => l.length - i) 1 ⟨rfl, by rw [numAt_one]; rfl, rfl, trivial⟩ ⟨⟨Nat.le_refl _, h1⟩, rfl⟩ (fun i τ w39 hI => ?_)
  obtain ⟨⟨hi1, hi2⟩, rfl⟩ := hI
  have hb := numAt_lt hi1 (by omega) hi2
  try simp only [upds, like, upd_ds]
  refine FW_seq ?_
  refine Sr ?_
  refine Mv ?_
  refine Mv ?_
  refine Vt ?_
  refine Vl ?_
  refine Qn ?_
  refine FW_condP rfl (fun hc44 => ?_) (fun hc44 => ?_)
  ·have hlt : i < l.length := by omega
   have hs := numAt_succ hi1 hlt
   have h9 := (l.getD i 0).toNat_lt
   refine Sk ?_
   refine FW_seq ?_
   refine FW_block ?_
   refine FW_region ?_
   refine Mv ?_
   refine FL_val (Gives.mulI rfl rfl rfl (by omega)) rfl ?_
   refine Mv ?_
   refine Mv ?_
   refine FL_val (Gives.idxD rfl rfl (by omega)) rfl ?_
   refine FL_val (Gives.convB rfl) rfl ?_
   refine FL_val (Gives.remN (b := 64) rfl rfl (by omega)) rfl ?_
   refine FL_val (Gives.addI rfl rfl rfl (by omega)) rfl ?_
   refine Am ?_
   refine FL_nil (Qblk_normal (Qseq_normal ?_))
   refine FW_region ?_
   refine Mv ?_
   refine FL_val (Gives.addI rfl rfl rfl (by omega)) rfl ?_
   refine Am ?_
   refine FL_nil ?_
   exact Qround_normal (i + 1) ⟨rfl, by rw [hs, Int.natCast_add, Int.natCast_mul]; rfl, rfl, trivial⟩ ⟨⟨by omega, by omega⟩, rfl⟩ (by omega)
  ·have he : i = l.length := by omega
   refine FW_exit (Qseq_exit (Qround_exit (Qblk_exit (Qseq_normal ?_))))
   refine Sr ?_
   refine Mv ?_
   refine FL_val (Gives.convI32 rfl (by omega)) rfl ?_
   rw [he, numAt_all h1 h4]
   refine Am ?_
   refine Qn ?_
   refine FW_ret (Qfn_ret (hR := ?_))
   exact ⟨rfl, rfl⟩
theorem put_ok (r : Int) (hr : -2147483648 ≤ r ∧ r ≤ 2147483647) : Rets Tryz.prog 202 [I32 r] w fun v w' => v = .tuple #[str ((putL r).getD []), .bool (putL r).isSome] ∧ Kept noB w w' := by
 have H := Sep.start0 w
 refine rets1 Tryz.func202 rfl rfl rfl rfl ?_
 by_cases hv : r < 0 ∨ 1114111 < r ∨ (55296 ≤ r ∧ r ≤ 57343)
 ·have hp : putL r = none := if_pos hv
  rw [hp]
  refine Sr ?_
  refine Am ?_
  refine Am ?_
  refine Nx ?_
  refine Mv ?_
  refine FL_val (Gives.convI64 rfl (by omega)) rfl ?_
  refine Am ?_
  refine Qn ?_
  refine FW_seq ?_
  refine Sr ?_
  refine Mv ?_
  refine Vl ?_
  refine Mv ?_
  refine FL_splitP (t := 10) rfl (fun hs9 => ?_) (fun hs9 => ?_)
  ·refine Of ?_
   refine Of ?_
   refine Pt ?_
   refine Mv ?_
   refine Of ?_
   refine Of ?_
   refine Of ?_
   refine Ou ?_
   refine Ou ?_
   refine Of ?_
   refine Pt ?_
   refine Qn ?_
   refine FW_cond_true rfl ?_
   refine Sr ?_
   refine Am ?_
   refine Am ?_
   refine Qn ?_
   refine Rs (Qfn_ret (hR := ?_))
   exact ⟨rfl, H.kept⟩
  ·refine On ?_
   refine Mv ?_
   refine On ?_
   refine Vg ?_
   refine Pf ?_
   refine Mv ?_
   refine FL_splitP (t := 14) rfl (fun hs20 => ?_) (fun hs20 => ?_)
   ·refine Of ?_
    refine Of ?_
    refine Of ?_
    refine Ou ?_
    refine Ou ?_
    refine Of ?_
    refine Pt ?_
    refine Qn ?_
    refine FW_cond_true rfl ?_
    refine Sr ?_
    refine Am ?_
    refine Am ?_
    refine Qn ?_
    refine Rs (Qfn_ret (hR := ?_))
    exact ⟨rfl, H.kept⟩
   ·refine On ?_
    refine Mv ?_
    refine On ?_
    refine FL_val (Gives.geq rfl rfl) rfl ?_
    refine On ?_
    refine Mv ?_
    refine FL_splitP (t := 17) rfl (fun hs28 => ?_) (fun hs28 => ?_)
    ·refine On ?_
     refine Mv ?_
     refine On ?_
     refine FL_val (Gives.leq rfl rfl) rfl ?_
     refine On ?_
     refine Pt ?_
     refine Pf ?_
     refine Qn ?_
     refine FW_condP rfl (fun hc33 => ?_) (fun hc33 => ?_)
     ·refine Sr ?_
      refine Am ?_
      refine Am ?_
      refine Qn ?_
      refine Rs (Qfn_ret (hR := ?_))
      exact ⟨rfl, H.kept⟩
     ·omega --done
    ·omega --done
 ·have hp : putL r = some (encodeRune r) := if_neg hv
  rw [hp]
  obtain ⟨n, rfl⟩ : ∃ n : Nat, r = n := ⟨r.toNat, by omega⟩
  refine Sr ?_
  refine Am ?_
  refine Am ?_
  refine Nx ?_
  refine Mv ?_
  refine FL_val (Gives.convI64 rfl (by omega)) rfl ?_
  refine Am ?_
  refine Qn ?_
  refine FW_seq ?_
  refine Sr ?_
  refine Mv ?_
  refine Vl ?_
  refine Mv ?_
  refine FL_splitP (t := 10) rfl (fun hs9 => ?_) (fun hs9 => ?_)
  ·omega --done
  ·refine On ?_
   refine Mv ?_
   refine On ?_
   refine Vg ?_
   refine Pf ?_
   refine Mv ?_
   refine FL_splitP (t := 14) rfl (fun hs15 => ?_) (fun hs15 => ?_)
   ·omega --done
   ·refine On ?_
    refine Mv ?_
    refine On ?_
    refine FL_val (Gives.geq rfl rfl) rfl ?_
    refine On ?_
    refine Mv ?_
    refine FL_splitP (t := 17) rfl (fun hs20 => ?_) (fun hs20 => ?_)
    ·refine On ?_
     refine Mv ?_
     refine On ?_
     refine FL_val (Gives.leq rfl rfl) rfl ?_
     refine On ?_
     refine Pt ?_
     refine Pf ?_
     refine Qn ?_
     refine FW_condP rfl (fun hc25 => ?_) (fun hc25 => ?_)
     ·omega --done
     ·refine Sk ?_
      refine Sr ?_
      refine Mv ?_
      refine FL_val (Gives.convU8 rfl (by omega)) rfl ?_
      refine FL_buildSlice H (xs := [.tmp 23]) (out := [Value.int .u8 (((n : Int).toNat.toUInt8).toNat : Int)]) (Elems.one rfl rfl Elems.nil) rfl rfl rfl (fun b w30 H30 _ => ?_)
      refine Am ?_
      refine Qn ?_
      refine FW_seq ?_
      refine FW_block ?_
      refine Sr ?_
      refine Mv ?_
      refine FL_val (Gives.geq rfl rfl) rfl ?_
      refine Am ?_
      refine Qn ?_
      refine FW_condP rfl (fun hc35 => ?_) (fun hc35 => ?_)
      ·have he : [Value.int .u8 ((((240 + (n / 262144 : Nat) : Int)).toNat.toUInt8).toNat : Int), Value.int .u8 ((((128 + (n / 4096 % 64 : Nat) : Int)).toNat.toUInt8).toNat : Int), Value.int .u8 ((((128 + (n / 64 % 64 : Nat) : Int)).toNat.toUInt8).toNat : Int), Value.int .u8 ((((128 + (n % 64 : Nat) : Int)).toNat.toUInt8).toNat : Int)] = (encodeRune n).map fun u => Value.int .u8 u.toNat := by rw [encodeRune, encodeRuneZ_four (by omega) (by omega)]; rfl
       refine FW_region ?_
       refine Mv ?_
       refine FL_val (Gives.quoN (b := 262144) rfl rfl (by omega) (by omega)) rfl ?_
       refine FL_val (Gives.addI rfl rfl rfl (by omega)) rfl ?_
       refine FL_val (Gives.convU8 rfl (by omega)) rfl ?_
       refine Mv ?_
       refine FL_val (Gives.quoN (b := 4096) rfl rfl (by omega) (by omega)) rfl ?_
       refine FL_val (Gives.remN (b := 64) rfl rfl (by omega)) rfl ?_
       refine FL_val (Gives.addI rfl rfl rfl (by omega)) rfl ?_
       refine FL_val (Gives.convU8 rfl (by omega)) rfl ?_
       refine Mv ?_
       refine FL_val (Gives.quoN (b := 64) rfl rfl (by omega) (by omega)) rfl ?_
       refine FL_val (Gives.remN (b := 64) rfl rfl (by omega)) rfl ?_
       refine FL_val (Gives.addI rfl rfl rfl (by omega)) rfl ?_
       refine FL_val (Gives.convU8 rfl (by omega)) rfl ?_
       refine Mv ?_
       refine FL_val (Gives.remN (b := 64) rfl rfl (by omega)) rfl ?_
       refine FL_val (Gives.addI rfl rfl rfl (by omega)) rfl ?_
       refine FL_val (Gives.convU8 rfl (by omega)) rfl ?_
       refine FL_buildSlice H30 (xs := [.tmp 31, .tmp 36, .tmp 41, .tmp 45]) (out := [Value.int .u8 ((((240 + (n / 262144 : Nat) : Int)).toNat.toUInt8).toNat : Int), Value.int .u8 ((((128 + (n / 4096 % 64 : Nat) : Int)).toNat.toUInt8).toNat : Int), Value.int .u8 ((((128 + (n / 64 % 64 : Nat) : Int)).toNat.toUInt8).toNat : Int), Value.int .u8 ((((128 + (n % 64 : Nat) : Int)).toNat.toUInt8).toNat : Int)]) (Elems.one rfl rfl (Elems.one rfl rfl (Elems.one rfl rfl (Elems.one rfl rfl Elems.nil)))) rfl rfl rfl (fun b2 w56 H56 _ => ?_)
       refine Am ?_
       refine FL_nil (Qblk_normal (Qseq_normal ?_))
       refine Sr ?_
       refine Mv ?_
       refine FL_val (Gives.bytesT (l := encodeRune n) rfl (by rw [← he]; exact Sep.blkRow H56 At0 rfl)) rfl ?_
       refine Am ?_
       refine Am ?_
       refine Qn ?_
       refine FW_ret (Qfn_ret (hR := ?_))
       exact ⟨rfl, H56.kept⟩
      ·refine Sr ?_
       refine Mv ?_
       refine FL_val (Gives.geq rfl rfl) rfl ?_
       refine Am ?_
       refine Qn ?_
       refine FW_condP rfl (fun hc66 => ?_) (fun hc66 => ?_)
       ·have he : [Value.int .u8 ((((224 + (n / 4096 : Nat) : Int)).toNat.toUInt8).toNat : Int), Value.int .u8 ((((128 + (n / 64 % 64 : Nat) : Int)).toNat.toUInt8).toNat : Int), Value.int .u8 ((((128 + (n % 64 : Nat) : Int)).toNat.toUInt8).toNat : Int)] = (encodeRune n).map fun u => Value.int .u8 u.toNat := by rw [encodeRune, encodeRuneZ_three (by omega)]; rfl
        refine FW_region ?_
        refine Mv ?_
        refine FL_val (Gives.quoN (b := 4096) rfl rfl (by omega) (by omega)) rfl ?_
        refine FL_val (Gives.addI rfl rfl rfl (by omega)) rfl ?_
        refine FL_val (Gives.convU8 rfl (by omega)) rfl ?_
        refine Mv ?_
        refine FL_val (Gives.quoN (b := 64) rfl rfl (by omega) (by omega)) rfl ?_
        refine FL_val (Gives.remN (b := 64) rfl rfl (by omega)) rfl ?_
        refine FL_val (Gives.addI rfl rfl rfl (by omega)) rfl ?_
        refine FL_val (Gives.convU8 rfl (by omega)) rfl ?_
        refine Mv ?_
        refine FL_val (Gives.remN (b := 64) rfl rfl (by omega)) rfl ?_
        refine FL_val (Gives.addI rfl rfl rfl (by omega)) rfl ?_
        refine FL_val (Gives.convU8 rfl (by omega)) rfl ?_
        refine FL_buildSlice H30 (xs := [.tmp 53, .tmp 58, .tmp 62]) (out := [Value.int .u8 ((((224 + (n / 4096 : Nat) : Int)).toNat.toUInt8).toNat : Int), Value.int .u8 ((((128 + (n / 64 % 64 : Nat) : Int)).toNat.toUInt8).toNat : Int), Value.int .u8 ((((128 + (n % 64 : Nat) : Int)).toNat.toUInt8).toNat : Int)]) (Elems.one rfl rfl (Elems.one rfl rfl (Elems.one rfl rfl Elems.nil))) rfl rfl rfl (fun b2 w82 H82 _ => ?_)
        refine Am ?_
        refine FL_nil (Qblk_normal (Qseq_normal ?_))
        refine Sr ?_
        refine Mv ?_
        refine FL_val (Gives.bytesT (l := encodeRune n) rfl (by rw [← he]; exact Sep.blkRow H82 At0 rfl)) rfl ?_
        refine Am ?_
        refine Am ?_
        refine Qn ?_
        refine FW_ret (Qfn_ret (hR := ?_))
        exact ⟨rfl, H82.kept⟩
       ·refine Sr ?_
        refine Mv ?_
        refine FL_val (Gives.geq rfl rfl) rfl ?_
        refine Am ?_
        refine Qn ?_
        refine FW_condP rfl (fun hc92 => ?_) (fun hc92 => ?_)
        ·have he : [Value.int .u8 ((((192 + (n / 64 : Nat) : Int)).toNat.toUInt8).toNat : Int), Value.int .u8 ((((128 + (n % 64 : Nat) : Int)).toNat.toUInt8).toNat : Int)] = (encodeRune n).map fun u => Value.int .u8 u.toNat := by rw [encodeRune, encodeRuneZ_two (by omega) (by omega)]; rfl
         refine FW_region ?_
         refine Mv ?_
         refine FL_val (Gives.quoN (b := 64) rfl rfl (by omega) (by omega)) rfl ?_
         refine FL_val (Gives.addI rfl rfl rfl (by omega)) rfl ?_
         refine FL_val (Gives.convU8 rfl (by omega)) rfl ?_
         refine Mv ?_
         refine FL_val (Gives.remN (b := 64) rfl rfl (by omega)) rfl ?_
         refine FL_val (Gives.addI rfl rfl rfl (by omega)) rfl ?_
         refine FL_val (Gives.convU8 rfl (by omega)) rfl ?_
         refine FL_buildSlice H30 (xs := [.tmp 70, .tmp 74]) (out := [Value.int .u8 ((((192 + (n / 64 : Nat) : Int)).toNat.toUInt8).toNat : Int), Value.int .u8 ((((128 + (n % 64 : Nat) : Int)).toNat.toUInt8).toNat : Int)]) (Elems.one rfl rfl (Elems.one rfl rfl Elems.nil)) rfl rfl rfl (fun b2 w103 H103 _ => ?_)
         refine Am ?_
         refine FL_nil (Qblk_normal (Qseq_normal ?_))
         refine Sr ?_
         refine Mv ?_
         refine FL_val (Gives.bytesT (l := encodeRune n) rfl (by rw [← he]; exact Sep.blkRow H103 At0 rfl)) rfl ?_
         refine Am ?_
         refine Am ?_
         refine Qn ?_
         refine FW_ret (Qfn_ret (hR := ?_))
         exact ⟨rfl, H103.kept⟩
        ·have he : [Value.int .u8 (((n : Int).toNat.toUInt8).toNat : Int)] = (encodeRune n).map fun u => Value.int .u8 u.toNat := by rw [encodeRune, encodeRuneZ_one (by omega) (by omega)]; rfl
         refine FW_skip (Qblk_normal (Qseq_normal ?_))
         refine Sr ?_
         refine Mv ?_
         refine FL_val (Gives.bytesT (l := encodeRune n) rfl (by rw [← he]; exact Sep.blkRow H30 At0 rfl)) rfl ?_
         refine Am ?_
         refine Am ?_
         refine Qn ?_
         refine FW_ret (Qfn_ret (hR := ?_))
         exact ⟨rfl, H30.kept⟩
    ·refine Of ?_
     refine Of ?_
     refine On ?_
     refine Pf ?_
     refine Pf ?_
     refine Qn ?_
     refine FW_cond_false rfl ?_
     refine Sk ?_
     refine Sr ?_
     refine Mv ?_
     refine FL_val (Gives.convU8 rfl (by omega)) rfl ?_
     refine FL_buildSlice H (xs := [.tmp 23]) (out := [Value.int .u8 (((n : Int).toNat.toUInt8).toNat : Int)]) (Elems.one rfl rfl Elems.nil) rfl rfl rfl (fun b w121 H121 _ => ?_)
     refine Am ?_
     refine Qn ?_
     refine FW_seq ?_
     refine FW_block ?_
     refine Sr ?_
     refine Mv ?_
     refine FL_val (Gives.geq rfl rfl) rfl ?_
     refine Am ?_
     refine Qn ?_
     refine FW_condP rfl (fun hc126 => ?_) (fun hc126 => ?_)
     ·have he : [Value.int .u8 ((((240 + (n / 262144 : Nat) : Int)).toNat.toUInt8).toNat : Int), Value.int .u8 ((((128 + (n / 4096 % 64 : Nat) : Int)).toNat.toUInt8).toNat : Int), Value.int .u8 ((((128 + (n / 64 % 64 : Nat) : Int)).toNat.toUInt8).toNat : Int), Value.int .u8 ((((128 + (n % 64 : Nat) : Int)).toNat.toUInt8).toNat : Int)] = (encodeRune n).map fun u => Value.int .u8 u.toNat := by rw [encodeRune, encodeRuneZ_four (by omega) (by omega)]; rfl
      refine FW_region ?_
      refine Mv ?_
      refine FL_val (Gives.quoN (b := 262144) rfl rfl (by omega) (by omega)) rfl ?_
      refine FL_val (Gives.addI rfl rfl rfl (by omega)) rfl ?_
      refine FL_val (Gives.convU8 rfl (by omega)) rfl ?_
      refine Mv ?_
      refine FL_val (Gives.quoN (b := 4096) rfl rfl (by omega) (by omega)) rfl ?_
      refine FL_val (Gives.remN (b := 64) rfl rfl (by omega)) rfl ?_
      refine FL_val (Gives.addI rfl rfl rfl (by omega)) rfl ?_
      refine FL_val (Gives.convU8 rfl (by omega)) rfl ?_
      refine Mv ?_
      refine FL_val (Gives.quoN (b := 64) rfl rfl (by omega) (by omega)) rfl ?_
      refine FL_val (Gives.remN (b := 64) rfl rfl (by omega)) rfl ?_
      refine FL_val (Gives.addI rfl rfl rfl (by omega)) rfl ?_
      refine FL_val (Gives.convU8 rfl (by omega)) rfl ?_
      refine Mv ?_
      refine FL_val (Gives.remN (b := 64) rfl rfl (by omega)) rfl ?_
      refine FL_val (Gives.addI rfl rfl rfl (by omega)) rfl ?_
      refine FL_val (Gives.convU8 rfl (by omega)) rfl ?_
      refine FL_buildSlice H121 (xs := [.tmp 31, .tmp 36, .tmp 41, .tmp 45]) (out := [Value.int .u8 ((((240 + (n / 262144 : Nat) : Int)).toNat.toUInt8).toNat : Int), Value.int .u8 ((((128 + (n / 4096 % 64 : Nat) : Int)).toNat.toUInt8).toNat : Int), Value.int .u8 ((((128 + (n / 64 % 64 : Nat) : Int)).toNat.toUInt8).toNat : Int), Value.int .u8 ((((128 + (n % 64 : Nat) : Int)).toNat.toUInt8).toNat : Int)]) (Elems.one rfl rfl (Elems.one rfl rfl (Elems.one rfl rfl (Elems.one rfl rfl Elems.nil)))) rfl rfl rfl (fun b2 w147 H147 _ => ?_)
      refine Am ?_
      refine FL_nil (Qblk_normal (Qseq_normal ?_))
      refine Sr ?_
      refine Mv ?_
      refine FL_val (Gives.bytesT (l := encodeRune n) rfl (by rw [← he]; exact Sep.blkRow H147 At0 rfl)) rfl ?_
      refine Am ?_
      refine Am ?_
      refine Qn ?_
      refine FW_ret (Qfn_ret (hR := ?_))
      exact ⟨rfl, H147.kept⟩
     ·refine Sr ?_
      refine Mv ?_
      refine FL_val (Gives.geq rfl rfl) rfl ?_
      refine Am ?_
      refine Qn ?_
      refine FW_condP rfl (fun hc157 => ?_) (fun hc157 => ?_)
      ·have he : [Value.int .u8 ((((224 + (n / 4096 : Nat) : Int)).toNat.toUInt8).toNat : Int), Value.int .u8 ((((128 + (n / 64 % 64 : Nat) : Int)).toNat.toUInt8).toNat : Int), Value.int .u8 ((((128 + (n % 64 : Nat) : Int)).toNat.toUInt8).toNat : Int)] = (encodeRune n).map fun u => Value.int .u8 u.toNat := by rw [encodeRune, encodeRuneZ_three (by omega)]; rfl
       refine FW_region ?_
       refine Mv ?_
       refine FL_val (Gives.quoN (b := 4096) rfl rfl (by omega) (by omega)) rfl ?_
       refine FL_val (Gives.addI rfl rfl rfl (by omega)) rfl ?_
       refine FL_val (Gives.convU8 rfl (by omega)) rfl ?_
       refine Mv ?_
       refine FL_val (Gives.quoN (b := 64) rfl rfl (by omega) (by omega)) rfl ?_
       refine FL_val (Gives.remN (b := 64) rfl rfl (by omega)) rfl ?_
       refine FL_val (Gives.addI rfl rfl rfl (by omega)) rfl ?_
       refine FL_val (Gives.convU8 rfl (by omega)) rfl ?_
       refine Mv ?_
       refine FL_val (Gives.remN (b := 64) rfl rfl (by omega)) rfl ?_
       refine FL_val (Gives.addI rfl rfl rfl (by omega)) rfl ?_
       refine FL_val (Gives.convU8 rfl (by omega)) rfl ?_
       refine FL_buildSlice H121 (xs := [.tmp 53, .tmp 58, .tmp 62]) (out := [Value.int .u8 ((((224 + (n / 4096 : Nat) : Int)).toNat.toUInt8).toNat : Int), Value.int .u8 ((((128 + (n / 64 % 64 : Nat) : Int)).toNat.toUInt8).toNat : Int), Value.int .u8 ((((128 + (n % 64 : Nat) : Int)).toNat.toUInt8).toNat : Int)]) (Elems.one rfl rfl (Elems.one rfl rfl (Elems.one rfl rfl Elems.nil))) rfl rfl rfl (fun b2 w173 H173 _ => ?_)
       refine Am ?_
       refine FL_nil (Qblk_normal (Qseq_normal ?_))
       refine Sr ?_
       refine Mv ?_
       refine FL_val (Gives.bytesT (l := encodeRune n) rfl (by rw [← he]; exact Sep.blkRow H173 At0 rfl)) rfl ?_
       refine Am ?_
       refine Am ?_
       refine Qn ?_
       refine FW_ret (Qfn_ret (hR := ?_))
       exact ⟨rfl, H173.kept⟩
      ·refine Sr ?_
       refine Mv ?_
       refine FL_val (Gives.geq rfl rfl) rfl ?_
       refine Am ?_
       refine Qn ?_
       refine FW_condP rfl (fun hc183 => ?_) (fun hc183 => ?_)
       ·have he : [Value.int .u8 ((((192 + (n / 64 : Nat) : Int)).toNat.toUInt8).toNat : Int), Value.int .u8 ((((128 + (n % 64 : Nat) : Int)).toNat.toUInt8).toNat : Int)] = (encodeRune n).map fun u => Value.int .u8 u.toNat := by rw [encodeRune, encodeRuneZ_two (by omega) (by omega)]; rfl
        refine FW_region ?_
        refine Mv ?_
        refine FL_val (Gives.quoN (b := 64) rfl rfl (by omega) (by omega)) rfl ?_
        refine FL_val (Gives.addI rfl rfl rfl (by omega)) rfl ?_
        refine FL_val (Gives.convU8 rfl (by omega)) rfl ?_
        refine Mv ?_
        refine FL_val (Gives.remN (b := 64) rfl rfl (by omega)) rfl ?_
        refine FL_val (Gives.addI rfl rfl rfl (by omega)) rfl ?_
        refine FL_val (Gives.convU8 rfl (by omega)) rfl ?_
        refine FL_buildSlice H121 (xs := [.tmp 70, .tmp 74]) (out := [Value.int .u8 ((((192 + (n / 64 : Nat) : Int)).toNat.toUInt8).toNat : Int), Value.int .u8 ((((128 + (n % 64 : Nat) : Int)).toNat.toUInt8).toNat : Int)]) (Elems.one rfl rfl (Elems.one rfl rfl Elems.nil)) rfl rfl rfl (fun b2 w194 H194 _ => ?_)
        refine Am ?_
        refine FL_nil (Qblk_normal (Qseq_normal ?_))
        refine Sr ?_
        refine Mv ?_
        refine FL_val (Gives.bytesT (l := encodeRune n) rfl (by rw [← he]; exact Sep.blkRow H194 At0 rfl)) rfl ?_
        refine Am ?_
        refine Am ?_
        refine Qn ?_
        refine FW_ret (Qfn_ret (hR := ?_))
        exact ⟨rfl, H194.kept⟩
       ·have he : [Value.int .u8 (((n : Int).toNat.toUInt8).toNat : Int)] = (encodeRune n).map fun u => Value.int .u8 u.toNat := by rw [encodeRune, encodeRuneZ_one (by omega) (by omega)]; rfl
        refine FW_skip (Qblk_normal (Qseq_normal ?_))
        refine Sr ?_
        refine Mv ?_
        refine FL_val (Gives.bytesT (l := encodeRune n) rfl (by rw [← he]; exact Sep.blkRow H121 At0 rfl)) rfl ?_
        refine Am ?_
        refine Am ?_
        refine Qn ?_
        refine FW_ret (Qfn_ret (hR := ?_))
        exact ⟨rfl, H121.kept⟩
def nextP (l : List UInt8) : Nat × Nat := (nextL l).getD (0, 0)
def nextV (l : List UInt8) : Value := .tuple #[I32 (nextP l).1, I (nextP l).2, .bool (nextL l).isSome]
theorem nextP_some {l : List UInt8} (h : (nextL l).isSome = true) : nextL l = some (nextP l) := by
 unfold nextP
 cases e : nextL l with
 | none => rw [e] at h; cases h
 | some x => rfl
theorem nextP_le {l : List UInt8} (h : (nextL l).isSome = true) : 1 ≤ (nextP l).2 ∧ (nextP l).2 ≤ 4 ∧ (nextP l).2 ≤ l.length := by
 obtain ⟨a, b, c, _, _⟩ := next_ok (r := (nextP l).1) (n := (nextP l).2) (nextP_some h)
 exact ⟨a, b, c⟩
theorem valid_next {l : List UInt8} (hne : l ≠ []) : validD l = if (nextL l).isSome = true then validD (l.drop (nextP l).2) else false := by
 rw [valid_step hne]
 unfold nextP
 cases nextL l <;> rfl
theorem okL_iff {l : List UInt8} {n : Nat} : okL l n ↔ (putL (numL (l.take n))).isSome = true ∧ (putL (numL (l.take n))).getD [] = l.take n := by
 unfold okL
 cases h : putL (numL (l.take n)) with
 | none => simp
 | some x => simp
theorem numL_lt (l : List UInt8) : numL l < 67108864 := by
 unfold numL
 split
 ·rename_i a; have := a.toNat_lt; omega
 all_goals omega
theorem next_ok4 (l : List UInt8) (hl : l.length ≤ 9223372036854775807) : Rets Tryz.prog 156 [str l] w fun v w' => v = nextV l ∧ Kept noB w w' := by
  have H := Sep.start0 w
  refine rets1 Tryz.func156 rfl rfl rfl rfl ?_
  refine Sr ?_
  refine Am ?_
  refine Am ?_
  refine Am ?_
  refine Qn ?_
  refine FW_seq ?_
  refine Sr ?_
  refine Am ?_
  refine Qn ?_
  refine FW_block ?_
  refine FW_loop' (fun n : Nat => [(0, str l), (5, I n)]) (fun n w' => ((1 ≤ n ∧ n ≤ 5) ∧ ∀ j, 1 ≤ j → j < n → j ≤ l.length → ¬ okL l j) ∧ Sep w noB [] w') (fun n _ => 5 - n) 1 ⟨rfl, rfl, trivial⟩ ⟨⟨⟨Nat.le_refl _, by omega⟩, fun j h1 h2 => by omega⟩, H⟩ (fun n τ w6 hI => ?_)
  obtain ⟨⟨⟨h1, h5⟩, hno⟩, H6⟩ := hI
  try simp only [upds, like, upd_ds, und_ds]
  refine FW_seq ?_
  refine Sr ?_
  refine Mv ?_
  refine FL_val (Gives.leq rfl rfl) rfl ?_
  refine Mv ?_
  refine FL_splitP (t := 11) rfl (fun hs10 => ?_) (fun hs10 => ?_)
  · refine On ?_
    refine Mv ?_
    refine On ?_
    refine Mv ?_
    refine On ?_
    refine Vt ?_
    refine On ?_
    refine FL_val (Gives.leq rfl rfl) rfl ?_
    refine Pt ?_
    refine Qn ?_
    refine FW_condP rfl (fun hc16 => ?_) (fun hc16 => ?_)
    · have h4 : n ≤ 4 ∧ n ≤ l.length := by omega
      have htl : (l.take n).length = n := by rw [List.length_take]; omega
      have hnl := numL_lt (l.take n)
      refine Sk ?_
      refine FW_seq ?_
      refine FW_block ?_
      refine Sr ?_
      refine Mv ?_
      refine Mv ?_
      refine FL_val (Gives.sliceToT rfl rfl (by omega)) rfl ?_
      refine FL_callS (number_ok (l := l.take n) (by omega) (by omega)) (h := ?_)
      refine Am ?_
      refine Nx ?_
      refine Mv ?_
      refine FL_callQ H6 (put_ok (numL (l.take n)) (by omega)) (h := fun w25 H25 _ => ?_)
      refine Mv ?_
      refine Vx ?_
      refine Vx ?_
      refine Am ?_
      refine Am ?_
      refine Nx ?_
      refine Mv ?_
      refine Mv ?_
      refine FL_split (t := 29) rfl (fun hs33 => ?_) (fun hs33 => ?_)
      · have hsome : (putL (numL (l.take n))).isSome = true := hs33
        refine On ?_
        refine Mv ?_
        refine On ?_
        refine Mv ?_
        refine On ?_
        refine Mv ?_
        refine On ?_
        refine FL_val (Gives.sliceToT rfl rfl (by omega)) rfl ?_
        refine On ?_
        refine FL_val (Gives.eqlT rfl rfl) rfl ?_
        refine Pt ?_
        refine Qn ?_
        refine FW_condP rfl (fun hc41 => ?_) (fun hc41 => ?_)
        · have hsm : nextL l = some (numL (l.take n), n) := next_of_ok h1 h4.1 h4.2 (okL_iff.2 ⟨hsome, hc41⟩)
          refine Sr ?_
          refine Mv ?_
          refine Mv ?_
          refine Am ?_
          refine Am ?_
          refine Am ?_
          refine Qn ?_
          refine Rb (Qround_ret (Qblk_ret (Qseq_ret (Qfn_ret (hR := ?_)))))
          exact ⟨by unfold nextV nextP; rw [hsm]; rfl, H25.kept⟩
        · have hno2 : ¬ okL l n := fun h => hc41 (okL_iff.1 h).2
          refine FW_skip (Qblk_normal (Qseq_normal ?_))
          refine FW_region ?_
          refine Mv ?_
          refine FL_val (Gives.addI rfl rfl rfl (by omega)) rfl ?_
          refine Am ?_
          refine FL_nil ?_
          exact Qround_normal (n + 1) ⟨rfl, rfl, trivial⟩ ⟨⟨⟨by omega, by omega⟩, fun j a b c => by
          rcases Nat.lt_or_ge j n with h | h
          · exact hno j a h c
          · have : j = n := by omega
            subst this
            exact hno2⟩, H25⟩ (by omega)
      · have hno2 : ¬ okL l n := fun h => by rw [(okL_iff.1 h).1] at hs33; cases hs33
        refine Of ?_
        refine Of ?_
        refine Of ?_
        refine Of ?_
        refine Of ?_
        refine Pf ?_
        refine Qn ?_
        refine FW_cond_false rfl ?_
        refine FW_skip (Qblk_normal (Qseq_normal ?_))
        refine FW_region ?_
        refine Mv ?_
        refine FL_val (Gives.addI rfl rfl rfl (by omega)) rfl ?_
        refine Am ?_
        refine FL_nil ?_
        exact Qround_normal (n + 1) ⟨rfl, rfl, trivial⟩ ⟨⟨⟨by omega, by omega⟩, fun j a b c => by
        rcases Nat.lt_or_ge j n with h | h
        · exact hno j a h c
        · have : j = n := by omega
          subst this
          exact hno2⟩, H25⟩ (by omega)
    · have hnone : nextL l = none := next_none fun j a b c => by
        rcases Nat.lt_or_ge j n with h | h
        · exact hno j a h c
        · exfalso; omega
      refine FW_exit (Qseq_exit (Qround_exit (Qblk_exit (Qseq_normal ?_))))
      refine Sr ?_
      refine Am ?_
      refine Am ?_
      refine Am ?_
      refine Qn ?_
      refine FW_ret (Qfn_ret (hR := ?_))
      exact ⟨by unfold nextV nextP; rw [hnone]; rfl, H6.kept⟩
  · have hn5 : n = 5 := by omega
    have hnone : nextL l = none := next_none fun j a b c => hno j a (by omega) c
    refine Of ?_
    refine Of ?_
    refine Of ?_
    refine Of ?_
    refine Pf ?_
    refine Qn ?_
    refine FW_cond_false rfl ?_
    refine FW_exit (Qseq_exit (Qround_exit (Qblk_exit (Qseq_normal ?_))))
    refine Sr ?_
    refine Am ?_
    refine Am ?_
    refine Am ?_
    refine Qn ?_
    refine FW_ret (Qfn_ret (hR := ?_))
    exact ⟨by unfold nextV nextP; rw [hnone]; rfl, H6.kept⟩
end
end Go.Proofs.YtmkaahkbhdlniaaGreatDoor
/-
 The document's literals, walked.
-/
namespace Go.Proofs.YtmkaahkbhdlniaaGreatDoor
open Go Go.Mw Go.Lib
set_option maxRecDepth 4000

section
variable {w : World} {l : List UInt8}
theorem valid_ok4 (l : List UInt8) (hl : l.length ≤ 9223372036854775807) : Rets Tryz.prog 88 [str l] w fun v w' => v = .bool (validD l) ∧ Kept noB w w' := by
 have H := Sep.start0 w
 refine rets1 Tryz.func88 rfl rfl rfl rfl ?_
 refine Sr ?_
 refine Am ?_
 refine Qn ?_
 refine FW_seq ?_
 refine FW_block ?_
 refine FW_loop' (fun m : List UInt8 => [(0, str m)]) (fun m w' => (m.length ≤ l.length ∧ validD m = validD l) ∧ Sep w noB [] w') (fun m _ => m.length) l ⟨rfl, trivial⟩ ⟨⟨Nat.le_refl _, rfl⟩, H⟩ (fun m τ w3 hI => ?_)
 obtain ⟨⟨hm1, hm2⟩, H3⟩ := hI
 try simp only [upds, like, upd_ds, und_ds]
 refine FW_seq ?_
 refine Sr ?_
 refine Mv ?_
 refine Vt ?_
 refine Vg ?_
 refine Qn ?_
 refine FW_condP rfl (fun hc7 => ?_) (fun hc7 => ?_)
 ·have hne : m ≠ [] := fun e => by rw [e] at hc7; simp at hc7
  have hst := valid_next hne
  refine Sk ?_
  refine FW_block ?_
  refine Sr ?_
  refine Mv ?_
  refine FL_callQ H3 (next_ok4 m (by omega)) (h := fun w11 H11 _ => ?_)
  refine Mv ?_
  refine Vx ?_
  refine Vx ?_
  refine Vx ?_
  refine Am ?_
  refine Am ?_
  refine Am ?_
  refine Qn ?_
  refine FW_seq ?_
  refine Sr ?_
  refine Mv ?_
  refine FL_val (Gives.not rfl) rfl ?_
  refine Qn ?_
  refine FW_cond rfl (fun hc21 => ?_) (fun hc21 => ?_)
  ·have hv : validD l = false := by rw [← hm2, hst, if_neg (by simpa using hc21)]
   refine Sr ?_
   refine Am ?_
   refine Qn ?_
   refine Rs (Qblk_ret (Qround_ret (Qblk_ret (Qseq_ret (Qfn_ret (hR := ?_))))))
   exact ⟨by rw [hv]; rfl, H11.kept⟩
  ·have hs : (nextL m).isSome = true := by simpa using hc21
   have hle := nextP_le hs
   refine Sk ?_
   refine FW_region ?_
   refine Mv ?_
   refine Mv ?_
   refine FL_val (Gives.sliceFromT rfl rfl (by omega)) rfl ?_
   refine Am ?_
   refine FL_nil (Qblk_normal ?_)
   exact Qround_normal (m.drop (nextP m).2) ⟨rfl, trivial⟩ ⟨⟨by rw [List.length_drop]; omega, by rw [← hm2, hst, if_pos hs]⟩, H11⟩ (by rw [List.length_drop]; omega)
 ·have he : m = [] := List.eq_nil_of_length_eq_zero (by omega)
  have hv : validD l = true := by rw [← hm2, he]; rfl
  refine FW_exit (Qseq_exit (Qround_exit (Qblk_exit (Qseq_normal ?_))))
  refine Sr ?_
  refine Am ?_
  refine Qn ?_
  refine FW_ret (Qfn_ret (hR := ?_))
  exact ⟨by rw [hv]; rfl, H3.kept⟩
end
end Go.Proofs.YtmkaahkbhdlniaaGreatDoor
/-
 The document's literals, walked: Quote, Unquote.
-/
namespace Go.Proofs.YtmkaahkbhdlniaaGreatDoor
open Go Go.Mw Go.Lib
set_option maxRecDepth 4000

theorem quoteB_nat (c : UInt8) : quoteB c = if c.toNat = 34 then [92, 34] else if c.toNat = 92 then [92, 92] else if c.toNat = 8 then [92, 98] else if c.toNat = 12 then [92, 102] else if c.toNat = 10 then [92, 110] else if c.toNat = 13 then [92, 114] else if c.toNat = 9 then [92, 116]
    else if c.toNat < 32 then [92, 117, 48, 48, hexB (c.toNat / 16), hexB (c.toNat % 16)] else [c] := by
  have e : ∀ k : UInt8, (c = k) = (c.toNat = k.toNat) := fun k => propext UInt8.toNat_inj.symm
  have e2 : (c < 32) = (c.toNat < 32) := propext UInt8.lt_iff_toNat_lt
  unfold quoteB
  simp only [e, e2]
  rfl
theorem len_quoteB (c : UInt8) : (quoteB c).length ≤ 6 := by
 unfold quoteB
 repeat' split
 all_goals simp
def outQ (l : List UInt8) (i : Nat) : List UInt8 := 34 :: (l.take i).flatMap quoteB
theorem outQ_len (l : List UInt8) (i : Nat) : (outQ l i).length ≤ 6 * i + 1 := by
 have h := len_flat len_quoteB (l.take i)
 have h2 : (l.take i).length ≤ i := by rw [List.length_take]; omega
 unfold outQ
 simp only [List.length_cons]
 omega
section
variable {w : World} {l : List UInt8}
def quoteP (l : List UInt8) : List UInt8 × Int := if validD l = true then (quoteL l, 0) else ([], 40)
end
end Go.Proofs.YtmkaahkbhdlniaaGreatDoor
/-
 The document's literals, walked: escapes.
-/
namespace Go.Proofs.YtmkaahkbhdlniaaGreatDoor
open Go Go.Mw Go.Lib
set_option maxRecDepth 4000

theorem digitL_lt {c : UInt8} {d : Nat} (e : digitL c = some d) : d < 16 := by
 have := c.toNat_lt
 unfold digitL at e
 repeat' split at e
 all_goals first | (injection e with e; omega) | cases e
section
variable {w : World} {l : List UInt8}
end
end Go.Proofs.YtmkaahkbhdlniaaGreatDoor
/-
 The document's literals, walked: Unquote.
-/
namespace Go.Proofs.YtmkaahkbhdlniaaGreatDoor
open Go Go.Mw Go.Lib
set_option maxRecDepth 4000

section
variable {w : World} {l : List UInt8}
end
end Go.Proofs.YtmkaahkbhdlniaaGreatDoor
/-
 The document's Unquote, walked.
-/
namespace Go.Proofs.YtmkaahkbhdlniaaGreatDoor
open Go Go.Mw Go.Lib
set_option maxRecDepth 4000

def unqAt (l : List UInt8) (i : Nat) (out : List UInt8) : List UInt8 × Nat × Int := unqR (l.length + 1 - i) (l.drop i) i out
theorem unqAt_end {l : List UInt8} {i : Nat} {out : List UInt8} (h : l.length ≤ i) : unqAt l i out = ([], 0, 3) := by
 unfold unqAt
 rw [List.drop_of_length_le h]
 cases l.length + 1 - i <;> rfl
theorem unqAt_more {l : List UInt8} {i f : Nat} {out : List UInt8} (hf : l.length - i < f) : unqR f (l.drop i) i out = unqAt l i out := by
 rcases Nat.lt_or_ge i (l.length + 1) with h | h
 ·exact unqR_more (by rw [List.length_drop]; omega) (by rw [List.length_drop]; omega)
 ·rw [unqAt_end (by omega), List.drop_of_length_le (by omega)]
  cases f <;> rfl
theorem drop_cons {l : List UInt8} {i : Nat} (h : i < l.length) : l.drop i = l.getD i 0 :: l.drop (i + 1) := by
 rw [List.drop_eq_getElem_cons h, List.getD_eq_getElem?_getD, List.getElem?_eq_getElem h]; rfl
theorem unqAt_step {l : List UInt8} {i : Nat} {out : List UInt8} {c : UInt8} (h : i < l.length) (hc : c = l.getD i 0) : unqAt l i out =
    if c = 34 then (out, i + 1, 0) else if c < 32 then ([], 0, 41) else if c = 92 then (if (escL (l.drop i)).2.2 ≠ 0 then ([], 0, (escL (l.drop i)).2.2) else unqAt l (i + (escL (l.drop i)).2.1) (out ++ (escL (l.drop i)).1))
    else if (nextL (l.drop i)).isSome = true then unqAt l (i + (nextP (l.drop i)).2) (out ++ (l.drop i).take (nextP (l.drop i)).2) else ([], 0, if beginsL (l.drop i) then 3 else 40) := by
  have hd := drop_cons h
  rw [← hc] at hd
  have hrec : ∀ n o, 1 ≤ n → unqR (l.length - i) ((l.drop i).drop n) (i + n) o = unqAt l (i + n) o := fun n o hn => by
    rw [List.drop_drop]
    exact unqAt_more (by omega)
  rw [show unqAt l i out = unqR (l.length - i + 1) (l.drop i) i out by unfold unqAt; congr 1; omega]
  rw [hd] at hrec ⊢
  rw [unqR]
  by_cases h1 : c = 34
  · rw [if_pos h1, if_pos h1]
  rw [if_neg h1, if_neg h1]
  by_cases h2 : c < 32
  · rw [if_pos h2, if_pos h2]
  rw [if_neg h2, if_neg h2]
  by_cases h3 : c = 92
  · rw [if_pos h3, if_pos h3]
    dsimp only
    by_cases h4 : (escL (c :: l.drop (i + 1))).2.2 ≠ 0
    · rw [if_pos h4, if_pos h4]
    · rw [if_neg h4, if_neg h4]
      refine hrec _ _ ?_
      rcases escL_cases (c :: l.drop (i + 1)) with ⟨e, h0, hx⟩ | ⟨b, n, hn, hx⟩
      · rw [hx] at h4; exact absurd h0 h4
      · rw [hx]; exact hn
  rw [if_neg h3, if_neg h3]
  unfold nextP
  cases hn : nextL (c :: l.drop (i + 1)) with
  | none => rfl
  | some x =>
    obtain ⟨r, n⟩ := x
    obtain ⟨k1, _, _, _, _⟩ := next_ok hn
    exact hrec n _ k1
theorem enc_len (r : Int) : (encodeRune r).length ≤ 4 := by
 unfold encodeRune encodeRuneZ
 repeat' split
 all_goals simp
section
variable {w : World} {l : List UInt8}
end
end Go.Proofs.YtmkaahkbhdlniaaGreatDoor
