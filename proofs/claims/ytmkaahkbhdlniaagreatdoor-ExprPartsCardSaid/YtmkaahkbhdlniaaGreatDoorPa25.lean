/-
 What a step that takes two makes, by halves, walked.
-/
import Derived.Test.YtmkaahkbhdlniaaGreatDoorPa24
set_option linter.unusedVariables false
set_option linter.unusedSimpArgs false
namespace Go.Proofs.YtmkaahkbhdlniaaGreatDoor
open Go Go.Mw Go.Lib
set_option maxRecDepth 4000
theorem and32 (a : Int) : bits .and .i64 a 4294967295 = a % 4294967296 := by
 obtain ⟨m, hm⟩ : ∃ m : Nat, a % 18446744073709551616 = m := ⟨(a % 18446744073709551616).toNat, by omega⟩
 have h1 : (BitVec.ofInt 64 a).toNat = m := by
  rw [BitVec.toNat_ofInt]
  have : (2 ^ 64 : Nat) = 18446744073709551616 := rfl
  rw [this]
  show (a % 18446744073709551616).toNat = m
  rw [hm, Int.toNat_natCast]
 have h2 : (BitVec.ofInt 64 4294967295).toNat = 2 ^ 32 - 1 := by decide
 have h3 : bits .and .i64 a 4294967295 = IntKind.i64.wrap (((BitVec.ofInt 64 a &&& BitVec.ofInt 64 4294967295).toNat : Nat) : Int) := rfl
 rw [h3, BitVec.toNat_and, h1, h2, Nat.and_two_pow_sub_one_eq_mod, IntKind.wrap_i64]
 have : (2 ^ 32 : Nat) = 4294967296 := rfl
 rw [this]
 omega
theorem shr32 (a : Int) : a.fdiv (2 ^ (min (32 : Int).toNat IntKind.i64.bits)) = a / 4294967296 := by
 rw [Int.fdiv_eq_ediv_of_nonneg _ (by decide)]
 rfl
theorem Gives.shr32 {P : Program} {ρ : Operand → Value} {x y : Operand} {T U ty : TypeId} {w : World} {a : Int} (hx : ρ x = I a) (hy : ρ y = .int .u64 32) : Gives P ρ (.binOp .shr T x y U) ty w (I (a / 4294967296)) w := by
 have := Gives.shr (P := P) (T := T) (U := U) (ty := ty) (w := w) hx hy (by decide)
 rw [Go.Proofs.YtmkaahkbhdlniaaGreatDoor.shr32] at this
 exact this
def hi0 (k a b : Int) : Int := if k = 8 then a / 4294967296 - b / 4294967296 else a / 4294967296 + b / 4294967296
def lo0 (k a b : Int) : Int := if k = 8 then a % 4294967296 - b % 4294967296 else a % 4294967296 + b % 4294967296
theorem high_eq (k a b : Int) : highC k a b = hi0 k a b + lo0 k a b / 4294967296 := rfl
section
variable {w : World}
theorem comb1_ok {x : Bool} {b8 b9 : Nat} (h8 : w.heap[b8]? = some (.cells (cellCells (flagC true)).toArray 34 (0, 0))) (h9 : w.heap[b9]? = some (.cells (cellCells cell0).toArray 34 (0, 0))) :
    Rets Tryz.prog 65 ([] ++ [.bool x] ++ [.pointer (some ⟨b8, 0, none⟩), .pointer (some ⟨b9, 0, none⟩)]) w fun v w' => v = agg (cellCells (flagC x)) ∧ Kept noB w w' := by
  have H := Sep.start0 w
  refine retsC3 Tryz.func65 rfl rfl rfl rfl ?_
  refine Sr ?_
  refine FL_alloc H (h := ?_)
  intro b1 w2 H2 k1
  refine Qn ?_
  refine FW_seq ?_
  refine Sr ?_
  refine Mv ?_
  refine Qn ?_
  refine FW_cond rfl (fun hc4 => ?_) (fun hc4 => ?_)
  · subst hc4
    refine Sr ?_
    refine FL_val (Gives.loadN (us := cellCells (flagC true)) rfl (H2.kept.get h8 (fun h => h)) rfl rfl) rfl ?_
    refine FL_storeAll H2 (h := ?_)
    intro w8 H8
    refine Qn ?_
    refine Rs (QfnC_ret (h := ?_))
    exact ⟨_, resC1 H8, rfl, H8.drop0.kept⟩
  · subst hc4
    refine Sk ?_
    refine Sr ?_
    refine FL_val (Gives.loadN (us := cellCells cell0) rfl (H2.kept.get h9 (fun h => h)) rfl rfl) rfl ?_
    refine FL_storeAll H2 (h := ?_)
    intro w13 H13
    refine Qn ?_
    refine FW_ret (QfnC_ret (h := ?_))
    exact ⟨_, resC1 H13, rfl, H13.drop0.kept⟩
theorem combined_ok {k : Int} {a b : CellM} (hk : stepsTwo k) (ha : fits a.n) (hb : fits b.n) :
    Rets Tryz.prog 33 [I k, agg (cellCells a), agg (cellCells b)] w fun v w' => v = .tuple #[agg (cellCells (combM k a b).1), .bool (combM k a b).2] ∧ Kept noB w w' := by
  have H := Sep.start0 w
  unfold fits at ha hb
  refine retsC3 Tryz.func33 rfl rfl rfl rfl ?_
  refine Sr ?_
  refine FL_box H (cs := cellCells a) rfl (h := ?_)
  intro b4 w2 H2 k1
  refine FL_box H2 (cs := cellCells b) rfl (h := ?_)
  intro b5 w4 H4 k3
  refine FL_alloc H4 (h := ?_)
  intro b6 w6 H6 k5
  refine Am ?_
  refine Nx ?_
  refine FL_val (Gives.build (out := cellCells (flagC true)) (Fills.one rfl rfl rfl (by decide) rfl Fills.nil)) rfl ?_
  refine FL_val (Gives.build (out := cellCells cell0) Fills.nil) rfl ?_
  refine FL_val (Gives.build (out := cellCells cellNull) (Fills.one rfl rfl rfl (by simp) rfl Fills.nil)) rfl ?_
  refine FL_alloc H6 (h := ?_)
  intro b8 w12 H12 k11
  refine FL_alloc H12 (h := ?_)
  intro b9 w14 H14 k13
  refine FL_alloc H14 (h := ?_)
  intro b10 w16 H16 k15
  refine FL_storeAll H16 (h := ?_)
  intro w18 H18
  refine FL_storeAll H18 (h := ?_)
  intro w20 H20
  refine FL_storeAll H20 (h := ?_)
  intro w22 H22
  refine Nx ?_
  refine FL_val (Gives.makeFunc rfl rfl) rfl ?_
  refine Am ?_
  refine Qn ?_
  refine FW_cut (fun _ : Unit => [(0, I k), (4, .pointer (some ⟨b4, 0, none⟩)), (5, .pointer (some ⟨b5, 0, none⟩)), (6, .pointer (some ⟨b6, 0, none⟩)), (8, .pointer (some ⟨b8, 0, none⟩)), (9, .pointer (some ⟨b9, 0, none⟩)), (10, .pointer (some ⟨b10, 0, none⟩)), (11, .func (.func 65) #[] #[.pointer (some ⟨b8, 0, none⟩), .pointer (some ⟨b9, 0, none⟩)])]) (fun _ w' => (¬ (k = 13 ∧ (a = cell0 ∨ b = cell0)) ∧ ¬ (k = 14 ∧ (a = flagC true ∨ b = flagC true)) ∧ ¬ k = 17) ∧ Sep w noB [blk b10 (cellCells cellNull) 34, blk b9 (cellCells cell0) 34, blk b8 (cellCells (flagC true)) 34, blk b6 (cellCells cell0) 34, blk b5 (cellCells b) 34, blk b4 (cellCells a) 34] w') ?_ ?_
  · refine Sr ?_
    refine Mv ?_
    refine Qn ?_
    refine FW_block ?_
    refine Sr ?_
    refine Ve ?_
    refine Am ?_
    refine Qn ?_
    refine FW_condP rfl (fun hc29 => ?_) (fun hc29 => ?_)
    · have k13 : k = 13 := hc29
      refine Sr ?_
      refine FL_loadAll H22 (h := ?_)
      refine FL_loadAll H22 (h := ?_)
      refine FL_val (Gives.eqlG (enc := cellCells) _ _ rfl rfl) rfl ?_
      refine Mv ?_
      refine FL_splitP (t := 24) rfl (fun hs35 => ?_) (fun hs35 => ?_)
      · have hc : combM k a b = (cell0, true) := by unfold combM; rw [if_pos ⟨k13, .inl hs35⟩]
        refine Of ?_
        refine Of ?_
        refine Of ?_
        refine Pt ?_
        refine Qn ?_
        refine FW_cond_true rfl ?_
        refine Sr ?_
        refine FL_loadAll H22 (h := ?_)
        refine FL_storeAll H22 (h := ?_)
        intro w40 H40
        refine Am ?_
        refine Qn ?_
        refine FW_ret (Qblk_ret (Qcut_ret (QfnC_ret (h := ?_))))
        exact ⟨_, resC2 H40, by rw [hc]; rfl, H40.kept⟩
      · have p1 := hs35
        refine On ?_
        refine FL_loadAll H22 (h := ?_)
        refine On ?_
        refine FL_loadAll H22 (h := ?_)
        refine On ?_
        refine FL_val (Gives.eqlG (enc := cellCells) _ _ rfl rfl) rfl ?_
        refine Pf ?_
        refine Qn ?_
        refine FW_condP rfl (fun hc48 => ?_) (fun hc48 => ?_)
        · have hc : combM k a b = (cell0, true) := by unfold combM; rw [if_pos ⟨k13, .inr hc48⟩]
          refine Sr ?_
          refine FL_loadAll H22 (h := ?_)
          refine FL_storeAll H22 (h := ?_)
          intro w52 H52
          refine Am ?_
          refine Qn ?_
          refine FW_ret (Qblk_ret (Qcut_ret (QfnC_ret (h := ?_))))
          exact ⟨_, resC2 H52, by rw [hc]; rfl, H52.kept⟩
        · have n1 : ¬ (k = 13 ∧ (a = cell0 ∨ b = cell0)) := fun h => h.2.elim p1 hc48
          have n2 : ¬ (k = 14 ∧ (a = flagC true ∨ b = flagC true)) := fun h => by omega
          have n17 : ¬ k = 17 := by omega
          refine FW_skip (Qblk_normal ?_)
          exact Qcut_normal () ⟨rfl, rfl, rfl, rfl, rfl, rfl, rfl, rfl, trivial⟩ ⟨⟨n1, n2, n17⟩, H22⟩
    · have n13 : ¬ k = 13 := hc29
      refine Sr ?_
      refine Ve ?_
      refine Am ?_
      refine Qn ?_
      refine FW_condP rfl (fun hc60 => ?_) (fun hc60 => ?_)
      · have k14 : k = 14 := hc60
        refine Sr ?_
        refine FL_loadAll H22 (h := ?_)
        refine FL_loadAll H22 (h := ?_)
        refine FL_val (Gives.eqlG (enc := cellCells) _ _ rfl rfl) rfl ?_
        refine Mv ?_
        refine FL_splitP (t := 35) rfl (fun hs66 => ?_) (fun hs66 => ?_)
        · have hc : combM k a b = (flagC true, true) := by unfold combM; rw [if_neg (fun h => n13 h.1), if_pos ⟨k14, .inl hs66⟩]
          refine Of ?_
          refine Of ?_
          refine Of ?_
          refine Pt ?_
          refine Qn ?_
          refine FW_cond_true rfl ?_
          refine Sr ?_
          refine FL_loadAll H22 (h := ?_)
          refine FL_storeAll H22 (h := ?_)
          intro w71 H71
          refine Am ?_
          refine Qn ?_
          refine FW_ret (Qblk_ret (Qcut_ret (QfnC_ret (h := ?_))))
          exact ⟨_, resC2 H71, by rw [hc]; rfl, H71.kept⟩
        · have p1 := hs66
          refine On ?_
          refine FL_loadAll H22 (h := ?_)
          refine On ?_
          refine FL_loadAll H22 (h := ?_)
          refine On ?_
          refine FL_val (Gives.eqlG (enc := cellCells) _ _ rfl rfl) rfl ?_
          refine Pf ?_
          refine Qn ?_
          refine FW_condP rfl (fun hc79 => ?_) (fun hc79 => ?_)
          · have hc : combM k a b = (flagC true, true) := by unfold combM; rw [if_neg (fun h => n13 h.1), if_pos ⟨k14, .inr hc79⟩]
            refine Sr ?_
            refine FL_loadAll H22 (h := ?_)
            refine FL_storeAll H22 (h := ?_)
            intro w83 H83
            refine Am ?_
            refine Qn ?_
            refine FW_ret (Qblk_ret (Qcut_ret (QfnC_ret (h := ?_))))
            exact ⟨_, resC2 H83, by rw [hc]; rfl, H83.kept⟩
          · have n1 : ¬ (k = 13 ∧ (a = cell0 ∨ b = cell0)) := fun h => n13 h.1
            have n2 : ¬ (k = 14 ∧ (a = flagC true ∨ b = flagC true)) := fun h => h.2.elim p1 hc79
            have n17 : ¬ k = 17 := by omega
            refine FW_skip (Qblk_normal ?_)
            exact Qcut_normal () ⟨rfl, rfl, rfl, rfl, rfl, rfl, rfl, rfl, trivial⟩ ⟨⟨n1, n2, n17⟩, H22⟩
      · have n14 : ¬ k = 14 := hc60
        refine Sr ?_
        refine Ve ?_
        refine Am ?_
        refine Qn ?_
        refine FW_condP rfl (fun hc91 => ?_) (fun hc91 => ?_)
        · have k17 : k = 17 := hc91
          refine FW_seq ?_
          refine Sr ?_
          refine Vf ?_
          refine Ld H22 ?_
          refine Qn ?_
          refine FW_cond rfl (fun hc95 => ?_) (fun hc95 => ?_)
          · have hc : combM k a b = (b, true) := by unfold combM; rw [if_neg (fun h => n13 h.1), if_neg (fun h => n14 h.1), if_pos k17, if_pos hc95]
            refine Sr ?_
            refine FL_loadAll H22 (h := ?_)
            refine FL_storeAll H22 (h := ?_)
            intro w99 H99
            refine Am ?_
            refine Qn ?_
            refine Rs (Qblk_ret (Qcut_ret (QfnC_ret (h := ?_))))
            exact ⟨_, resC2 H99, by rw [hc]; rfl, H99.kept⟩
          · have hc : combM k a b = (a, true) := by unfold combM; rw [if_neg (fun h => n13 h.1), if_neg (fun h => n14 h.1), if_pos k17, if_neg (by rw [hc95]; decide)]
            refine Sk ?_
            refine Sr ?_
            refine FL_loadAll H22 (h := ?_)
            refine FL_storeAll H22 (h := ?_)
            intro w105 H105
            refine Am ?_
            refine Qn ?_
            refine FW_ret (Qblk_ret (Qcut_ret (QfnC_ret (h := ?_))))
            exact ⟨_, resC2 H105, by rw [hc]; rfl, H105.kept⟩
        · have n17 : ¬ k = 17 := hc91
          refine FW_skip (Qblk_normal ?_)
          exact Qcut_normal () ⟨rfl, rfl, rfl, rfl, rfl, rfl, rfl, rfl, trivial⟩ ⟨⟨fun h => n13 h.1, fun h => n14 h.1, n17⟩, H22⟩
  · rintro _ τ w111 ⟨⟨n1, n2, n17⟩, H111⟩
    simp only [upds, like, upd_ds, und_ds]
    refine FW_seq ?_
    refine Sr ?_
    refine Vf ?_
    refine Ld H111 ?_
    refine Mv ?_
    refine FL_split (t := 49) rfl (fun hs115 => ?_) (fun hs115 => ?_)
    · have hnn : a.null = true ∨ b.null = true := .inl hs115
      have hc : combM k a b = (cellNull, true) := by unfold combM; rw [if_neg n1, if_neg n2, if_neg n17, if_pos hnn]
      refine Of ?_
      refine Of ?_
      refine Pt ?_
      refine Qn ?_
      refine FW_cond_true rfl ?_
      refine Sr ?_
      refine FL_loadAll H111 (h := ?_)
      refine FL_storeAll H111 (h := ?_)
      intro w120 H120
      refine Am ?_
      refine Qn ?_
      refine Rs (QfnC_ret (h := ?_))
      exact ⟨_, resC2 H120, by rw [hc]; rfl, H120.kept⟩
    · have an := hs115
      refine On ?_
      refine Vf ?_
      refine On ?_
      refine Ld H111 ?_
      refine Pf ?_
      refine Qn ?_
      refine FW_cond rfl (fun hc127 => ?_) (fun hc127 => ?_)
      · have hnn : a.null = true ∨ b.null = true := .inr hc127
        have hc : combM k a b = (cellNull, true) := by unfold combM; rw [if_neg n1, if_neg n2, if_neg n17, if_pos hnn]
        refine Sr ?_
        refine FL_loadAll H111 (h := ?_)
        refine FL_storeAll H111 (h := ?_)
        intro w131 H131
        refine Am ?_
        refine Qn ?_
        refine Rs (QfnC_ret (h := ?_))
        exact ⟨_, resC2 H131, by rw [hc]; rfl, H131.kept⟩
      · have nn : ¬ (a.null = true ∨ b.null = true) := fun h => h.elim (fun h => by rw [an] at h; cases h) (fun h => by rw [hc127] at h; cases h)
        refine Sk ?_
        refine FW_seq ?_
        refine Sr ?_
        refine Mv ?_
        refine Qn ?_
        refine FW_block ?_
        refine Sr ?_
        refine Ve ?_
        refine Am ?_
        refine Qn ?_
        refine FW_condP rfl (fun hc138 => ?_) (fun hc138 => ?_)
        · have hc : combM k a b = (flagC true, true) := by unfold combM; rw [if_neg n1, if_neg n2, if_neg n17, if_neg nn, if_pos hc138]
          refine Sr ?_
          refine FL_loadAll H111 (h := ?_)
          refine FL_storeAll H111 (h := ?_)
          intro w142 H142
          refine Am ?_
          refine Qn ?_
          refine Rb (QfnC_ret (h := ?_))
          exact ⟨_, resC2 H142, by rw [hc]; rfl, H142.kept⟩
        · have m13 := hc138
          refine Sr ?_
          refine Ve ?_
          refine Am ?_
          refine Qn ?_
          refine FW_condP rfl (fun hc148 => ?_) (fun hc148 => ?_)
          · have hc : combM k a b = (cell0, true) := by unfold combM; rw [if_neg n1, if_neg n2, if_neg n17, if_neg nn, if_neg m13, if_pos hc148]
            refine Sr ?_
            refine FL_loadAll H111 (h := ?_)
            refine FL_storeAll H111 (h := ?_)
            intro w152 H152
            refine Am ?_
            refine Qn ?_
            refine Rb (QfnC_ret (h := ?_))
            exact ⟨_, resC2 H152, by rw [hc]; rfl, H152.kept⟩
          · have m14 := hc148
            refine Sr ?_
            refine Ve ?_
            refine Am ?_
            refine Qn ?_
            refine FW_condP rfl (fun hc158 => ?_) (fun hc158 => ?_)
            · have hc : combM k a b = (flagC (decide (a = b)), true) := by unfold combM; rw [if_neg n1, if_neg n2, if_neg n17, if_neg nn, if_neg m13, if_neg m14, if_pos hc158]
              refine Sr ?_
              refine Mv ?_
              refine FL_loadAll H111 (h := ?_)
              refine FL_loadAll H111 (h := ?_)
              refine FL_val (Gives.eqlG (enc := cellCells) _ _ rfl rfl) rfl ?_
              refine FL_callV (vals := [_]) rfl (comb1_ok (x := decide (a = b)) (H111.obj At2) (H111.obj At1)) rfl rfl (fun v' w165 hv => ?_)
              obtain ⟨rfl, hkk⟩ := hv
              have H165 := H111.keep hkk
              refine FL_storeAll H165 (h := ?_)
              intro w167 H167
              refine Am ?_
              refine Qn ?_
              refine Rb (QfnC_ret (h := ?_))
              exact ⟨_, resC2 H167, by rw [hc]; rfl, H167.kept⟩
            · have m11 := hc158
              refine Sr ?_
              refine Ve ?_
              refine Am ?_
              refine Qn ?_
              refine FW_condP rfl (fun hc173 => ?_) (fun hc173 => ?_)
              · have hc : combM k a b = (flagC (decide (a.n < b.n ∨ a.n = b.n ∧ Op.bytesLess a.s b.s = true)), true) := by unfold combM; rw [if_neg n1, if_neg n2, if_neg n17, if_neg nn, if_neg m13, if_neg m14, if_neg m11, if_pos hc173]
                refine Sr ?_
                refine Mv ?_
                refine Vf ?_
                refine Ld H111 ?_
                refine Vf ?_
                refine Ld H111 ?_
                refine Vl ?_
                refine Mv ?_
                refine FL_splitP (t := 76) rfl (fun hs182 => ?_) (fun hs182 => ?_)
                · rw [show decide (a.n < b.n ∨ a.n = b.n ∧ Op.bytesLess a.s b.s = true) = true from decide_eq_true (.inl hs182)] at hc
                  refine Of ?_
                  refine Of ?_
                  refine Of ?_
                  refine Of ?_
                  refine Of ?_
                  refine Of ?_
                  refine Ou ?_
                  refine Ou ?_
                  refine Ou ?_
                  refine Ou ?_
                  refine Ou ?_
                  refine Of ?_
                  refine Pt ?_
                  refine FL_callV (vals := [_]) rfl (comb1_ok (H111.obj At2) (H111.obj At1)) rfl rfl (fun v' w186 hv => ?_)
                  obtain ⟨rfl, hkk⟩ := hv
                  have H186 := H111.keep hkk
                  refine FL_storeAll H186 (h := ?_)
                  intro w188 H188
                  refine Am ?_
                  refine Qn ?_
                  refine Rb (QfnC_ret (h := ?_))
                  exact ⟨_, resC2 H188, by rw [hc]; rfl, H188.kept⟩
                · have l1 := hs182
                  refine On ?_
                  refine Vf ?_
                  refine On ?_
                  refine Ld H111 ?_
                  refine On ?_
                  refine Vf ?_
                  refine On ?_
                  refine Ld H111 ?_
                  refine On ?_
                  refine Ve ?_
                  refine On ?_
                  refine Mv ?_
                  refine FL_splitP (t := 82) rfl (fun hs198 => ?_) (fun hs198 => ?_)
                  · rw [show decide (a.n < b.n ∨ a.n = b.n ∧ Op.bytesLess a.s b.s = true) = Op.bytesLess a.s b.s from by simp [l1, hs198]] at hc
                    refine On ?_
                    refine Vf ?_
                    refine On ?_
                    refine Ld H111 ?_
                    refine On ?_
                    refine Vf ?_
                    refine On ?_
                    refine Ld H111 ?_
                    refine On ?_
                    refine FL_val (Gives.lssT rfl rfl) rfl ?_
                    refine On ?_
                    refine Pt ?_
                    refine Pf ?_
                    refine FL_callV (vals := [_]) rfl (comb1_ok (H111.obj At2) (H111.obj At1)) rfl rfl (fun v' w208 hv => ?_)
                    obtain ⟨rfl, hkk⟩ := hv
                    have H208 := H111.keep hkk
                    refine FL_storeAll H208 (h := ?_)
                    intro w210 H210
                    refine Am ?_
                    refine Qn ?_
                    refine Rb (QfnC_ret (h := ?_))
                    exact ⟨_, resC2 H210, by rw [hc]; rfl, H210.kept⟩
                  · rw [show decide (a.n < b.n ∨ a.n = b.n ∧ Op.bytesLess a.s b.s = true) = false from by simp [l1, hs198]] at hc
                    refine Of ?_
                    refine Of ?_
                    refine Of ?_
                    refine Of ?_
                    refine Of ?_
                    refine On ?_
                    refine Pf ?_
                    refine Pf ?_
                    refine FL_callV (vals := [_]) rfl (comb1_ok (H111.obj At2) (H111.obj At1)) rfl rfl (fun v' w217 hv => ?_)
                    obtain ⟨rfl, hkk⟩ := hv
                    have H217 := H111.keep hkk
                    refine FL_storeAll H217 (h := ?_)
                    intro w219 H219
                    refine Am ?_
                    refine Qn ?_
                    refine Rb (QfnC_ret (h := ?_))
                    exact ⟨_, resC2 H219, by rw [hc]; rfl, H219.kept⟩
              · have m12 := hc173
                have hc0 : combM k a b = if fitsI (sumC k a.n b.n) = true then (⟨false, sumC k a.n b.n, []⟩, true) else (cell0, false) := by unfold combM; rw [if_neg n1, if_neg n2, if_neg n17, if_neg nn, if_neg m13, if_neg m14, if_neg m11, if_neg m12]
                have hk78 : k = 7 ∨ k = 8 := by unfold stepsTwo at hk; omega
                refine FW_skip (Qblk_normal (Qseq_normal ?_))
                refine FW_seq ?_
                refine FW_drawS rfl H111 (h := fun hok223 w225 H225 => ?_)
                refine FGp hok223 0 rfl rfl (fun _ => (Gives.field0 rfl)) (by kernel_rfl) ?_
                refine FGload hok223 1 H225 (h := ?_)
                refine FGp hok223 2 rfl rfl (fun _ => Gives.shr32 rfl rfl) (by kernel_rfl) ?_
                refine FGp hok223 3 rfl rfl (fun _ => (Gives.field0 rfl)) (by kernel_rfl) ?_
                refine FGload hok223 4 H225 (h := ?_)
                refine FGp hok223 5 rfl rfl (fun _ => Gives.shr32 rfl rfl) (by kernel_rfl) ?_
                refine FGp hok223 6 rfl rfl (fun _ => (Gives.addI rfl rfl rfl (by omega))) (by kernel_rfl) ?_
                refine FGp hok223 7 rfl rfl (fun _ => (Gives.field0 rfl)) (by kernel_rfl) ?_
                refine FGload hok223 8 H225 (h := ?_)
                refine FGp hok223 9 rfl rfl (fun _ => Gives.andE rfl rfl (and32 _)) (by kernel_rfl) ?_
                refine FGp hok223 10 rfl rfl (fun _ => (Gives.field0 rfl)) (by kernel_rfl) ?_
                refine FGload hok223 11 H225 (h := ?_)
                refine FGp hok223 12 rfl rfl (fun _ => Gives.andE rfl rfl (and32 _)) (by kernel_rfl) ?_
                refine FGp hok223 13 rfl rfl (fun _ => (Gives.addI rfl rfl rfl (by omega))) (by kernel_rfl) ?_
                refine FGp hok223 14 rfl rfl (fun _ => Gives.assign rfl) (by kernel_rfl) ?_
                refine FGp hok223 15 rfl rfl (fun _ => Gives.assign rfl) (by kernel_rfl) ?_
                refine FG_end hok223 (by kernel_rfl) ?_
                refine Qseq_normal ?_
                refine FW_cut (fun _ : Unit => [(4, .pointer (some ⟨b4, 0, none⟩)), (5, .pointer (some ⟨b5, 0, none⟩)), (6, .pointer (some ⟨b6, 0, none⟩)), (9, .pointer (some ⟨b9, 0, none⟩)), (12, I (hi0 k a.n b.n)), (13, I (lo0 k a.n b.n))]) (fun _ w' => Sep w noB [blk b10 (cellCells cellNull) 34, blk b9 (cellCells cell0) 34, blk b8 (cellCells (flagC true)) 34, blk b6 (cellCells cell0) 34, blk b5 (cellCells b) 34, blk b4 (cellCells a) 34] w') ?_ ?_
                · refine Sr ?_
                  refine Mv ?_
                  refine Ve ?_
                  refine Qn ?_
                  refine FW_condP rfl (fun hc245 => ?_) (fun hc245 => ?_)
                  · have e1 : a.n / 4294967296 - b.n / 4294967296 = hi0 k a.n b.n := by unfold hi0; rw [if_pos hc245]
                    have e2 : a.n % 4294967296 - b.n % 4294967296 = lo0 k a.n b.n := by unfold lo0; rw [if_pos hc245]
                    refine FW_drawS rfl H225 (h := fun hok247 w249 H249 => ?_)
                    refine FGp hok247 0 rfl rfl (fun _ => (Gives.field0 rfl)) (by kernel_rfl) ?_
                    refine FGload hok247 1 H249 (h := ?_)
                    refine FGp hok247 2 rfl rfl (fun _ => Gives.shr32 rfl rfl) (by kernel_rfl) ?_
                    refine FGp hok247 3 rfl rfl (fun _ => (Gives.field0 rfl)) (by kernel_rfl) ?_
                    refine FGload hok247 4 H249 (h := ?_)
                    refine FGp hok247 5 rfl rfl (fun _ => Gives.shr32 rfl rfl) (by kernel_rfl) ?_
                    refine FGp hok247 6 rfl rfl (fun _ => (Gives.subI rfl rfl rfl (by omega))) (by kernel_rfl) ?_
                    refine FGp hok247 7 rfl rfl (fun _ => (Gives.field0 rfl)) (by kernel_rfl) ?_
                    refine FGload hok247 8 H249 (h := ?_)
                    refine FGp hok247 9 rfl rfl (fun _ => Gives.andE rfl rfl (and32 _)) (by kernel_rfl) ?_
                    refine FGp hok247 10 rfl rfl (fun _ => (Gives.field0 rfl)) (by kernel_rfl) ?_
                    refine FGload hok247 11 H249 (h := ?_)
                    refine FGp hok247 12 rfl rfl (fun _ => Gives.andE rfl rfl (and32 _)) (by kernel_rfl) ?_
                    refine FGp hok247 13 rfl rfl (fun _ => (Gives.subI rfl rfl rfl (by omega))) (by kernel_rfl) ?_
                    refine FGp hok247 14 rfl rfl (fun _ => Gives.assign rfl) (by kernel_rfl) ?_
                    refine FGp hok247 15 rfl rfl (fun _ => Gives.assign rfl) (by kernel_rfl) ?_
                    refine FG_end hok247 (by kernel_rfl) ?_
                    exact Qcut_normal () ⟨rfl, rfl, rfl, rfl, congrArg I e1, congrArg I e2, trivial⟩ H249
                  · have e1 : a.n / 4294967296 + b.n / 4294967296 = hi0 k a.n b.n := by unfold hi0; rw [if_neg hc245]
                    have e2 : a.n % 4294967296 + b.n % 4294967296 = lo0 k a.n b.n := by unfold lo0; rw [if_neg hc245]
                    refine FW_skip ?_
                    exact Qcut_normal () ⟨rfl, rfl, rfl, rfl, congrArg I e1, congrArg I e2, trivial⟩ H225
                · rintro _ τ w270 H270
                  have hlo : -4294967296 ≤ lo0 k a.n b.n ∧ lo0 k a.n b.n ≤ 8589934592 := by unfold lo0; split <;> omega
                  have hhi : -4294967298 ≤ hi0 k a.n b.n ∧ hi0 k a.n b.n ≤ 4294967298 := by unfold hi0; split <;> omega
                  have hsum := high_low k a.n b.n
                  have hlow := low_in k a.n b.n
                  have hfit := high_fits k a.n b.n
                  simp only [upds, like, upd_ds]
                  refine Sr ?_
                  refine Mv ?_
                  refine Mv ?_
                  refine FL_val (Gives.shr32 rfl rfl) rfl ?_
                  refine FL_val (Gives.addI (c := highC k a.n b.n) rfl rfl rfl (by rw [high_eq]; omega)) rfl ?_
                  refine Am ?_
                  refine Nx ?_
                  refine Mv ?_
                  refine FL_val (Gives.andE (c := lowC k a.n b.n) rfl rfl (and32 _)) rfl ?_
                  refine Am ?_
                  refine Qn ?_
                  refine FW_seq ?_
                  refine Sr ?_
                  refine Mv ?_
                  refine Vl ?_
                  refine Mv ?_
                  refine FL_splitP (t := 129) rfl (fun hs282 => ?_) (fun hs282 => ?_)
                  · have hc : combM k a b = (cell0, false) := by rw [hc0, if_neg (fun h => by have := hfit.2 h; omega)]
                    refine Of ?_
                    refine Of ?_
                    refine Pt ?_
                    refine Qn ?_
                    refine FW_cond_true rfl ?_
                    refine Sr ?_
                    refine FL_loadAll H270 (h := ?_)
                    refine FL_storeAll H270 (h := ?_)
                    intro w287 H287
                    refine Am ?_
                    refine Qn ?_
                    refine Rs (QfnC_ret (h := ?_))
                    exact ⟨_, resC2 H287, by rw [hc]; rfl, H287.kept⟩
                  · have g1 := hs282
                    refine On ?_
                    refine Mv ?_
                    refine On ?_
                    refine Vg ?_
                    refine Pf ?_
                    refine Qn ?_
                    refine FW_condP rfl (fun hc294 => ?_) (fun hc294 => ?_)
                    · have hc : combM k a b = (cell0, false) := by rw [hc0, if_neg (fun h => by have := hfit.2 h; omega)]
                      refine Sr ?_
                      refine FL_loadAll H270 (h := ?_)
                      refine FL_storeAll H270 (h := ?_)
                      intro w298 H298
                      refine Am ?_
                      refine Qn ?_
                      refine Rs (QfnC_ret (h := ?_))
                      exact ⟨_, resC2 H298, by rw [hc]; rfl, H298.kept⟩
                    · have hf : fitsI (sumC k a.n b.n) = true := hfit.1 (by omega)
                      have hc : combM k a b = (⟨false, sumC k a.n b.n, []⟩, true) := by rw [hc0, if_pos hf]
                      have hf2 : -9223372036854775808 ≤ sumC k a.n b.n ∧ sumC k a.n b.n ≤ 9223372036854775807 := of_decide_eq_true hf
                      refine Sk ?_
                      refine Sr ?_
                      refine Mv ?_
                      refine FL_val (Gives.shl rfl rfl (by decide)) rfl ?_
                      rw [show IntKind.i64.wrap (highC k a.n b.n * 2 ^ (min (32 : Int).toNat IntKind.i64.bits)) = highC k a.n b.n * 4294967296 from by
                        show IntKind.i64.wrap (highC k a.n b.n * 4294967296) = _
                        exact wrap64 (by omega)]
                      refine Mv ?_
                      refine FL_val (Gives.addI (c := sumC k a.n b.n) rfl rfl hsum hf2) rfl ?_
                      refine FL_val (Gives.build (out := cellCells ⟨false, sumC k a.n b.n, []⟩) (Fills.one rfl rfl rfl (by simp) rfl Fills.nil)) rfl ?_
                      refine FL_storeAll H270 (h := ?_)
                      intro w308 H308
                      refine Am ?_
                      refine Qn ?_
                      refine FW_ret (QfnC_ret (h := ?_))
                      exact ⟨_, resC2 H308, by rw [hc]; rfl, H308.kept⟩
end
end Go.Proofs.YtmkaahkbhdlniaaGreatDoor
/-
 The law ExprParts, walked.
-/
namespace Go.Proofs.YtmkaahkbhdlniaaGreatDoor
open Go Go.Mw Go.Lib
set_option maxRecDepth 4000
def twoNums : List Int := [7, 8, 11, 12, 13, 14, 17]
theorem two_in {k : Int} (h : k ∈ twoNums) : stepsTwo k := by
 unfold twoNums at h
 simp only [List.mem_cons, List.not_mem_nil, or_false] at h
 exact h
theorem two_may {k kk : Int} (h : stepsTwo k) (h1 : k = 7 ∨ k = 8 → kk = 3) (h2 : k = 13 ∨ k = 14 → kk = 1) : mayS ⟨k, 0, []⟩ = true ∧ takesS k = 2 ∧ ∀ n1 n2, ∃ t, madeT k ⟨kk, n1⟩ ⟨kk, n2⟩ = some t := by
 rcases h with rfl | rfl | rfl | rfl | rfl | rfl | rfl
 ·obtain rfl := h1 (.inl rfl); exact ⟨rfl, rfl, fun n1 n2 => let ⟨n, h⟩ := made_num (.inl rfl) n1 n2; ⟨_, h⟩⟩
 ·obtain rfl := h1 (.inr rfl); exact ⟨rfl, rfl, fun n1 n2 => let ⟨n, h⟩ := made_num (.inr (.inl rfl)) n1 n2; ⟨_, h⟩⟩
 ·exact ⟨rfl, rfl, fun n1 n2 => let ⟨n, h⟩ := made_cmp (.inl rfl) n1 n2; ⟨_, h⟩⟩
 ·exact ⟨rfl, rfl, fun n1 n2 => let ⟨n, h⟩ := made_cmp (.inr rfl) n1 n2; ⟨_, h⟩⟩
 ·obtain rfl := h2 (.inl rfl); exact ⟨rfl, rfl, fun n1 n2 => let ⟨n, h⟩ := made_logic (.inl rfl) n1 n2; ⟨_, h⟩⟩
 ·obtain rfl := h2 (.inr rfl); exact ⟨rfl, rfl, fun n1 n2 => let ⟨n, h⟩ := made_logic (.inr rfl) n1 n2; ⟨_, h⟩⟩
 ·exact ⟨rfl, rfl, fun n1 n2 => let ⟨n, h⟩ := made_else kk n1 n2; ⟨_, h⟩⟩
theorem two_eval {k1 k2 : Int} {n1 n2 : Bool} {a b : List StepM} {r : List CellM} {s : Int} {t : TypeM} (ha : GoodE k1 n1 a) (hb : GoodE k2 n2 b) (hl : (a ++ b).length ≤ 63) (hr : RowS r) (hm : mayS ⟨s, 0, []⟩ = true) (hk : takesS s = 2) (ht : madeT s ⟨k1, n1⟩ ⟨k2, n2⟩ = some t) :
    GoodE t.kind t.null (a ++ b ++ [⟨s, 0, []⟩]) ∧ evalS (colsS false) (a ++ b ++ [⟨s, 0, []⟩]) r = (match (gotE false r a).bind fun c => (gotE false r b).bind fun d => madeC s c d with | none => (cell0, 50) | some c => (c, 0)) := by
  have hg : GoodE t.kind t.null (a ++ b ++ [⟨s, 0, []⟩]) := good_two ha hb hm (by unfold fits; dsimp only; omega) hk ht
  refine ⟨hg, ?_⟩
  rw [evalS_good hg (by rw [List.length_append]; simp only [List.length_cons, List.length_nil]; omega) hr, got_two ha hb hr hk]
  rfl
section
variable {w : World}
theorem exprParts_ok {vn vm vr : Value} {ns ms rn : List Int} {step : Int} (hn : RowIn w vn intCells 1 ns) (hm : RowIn w vm intCells 1 ms) (hr : RowIn w vr intCells 1 rn) (hrf : ∀ x ∈ rn, fits x) (hT : TabsX w) :
    Rets Tryz.prog 7 [agg [vn, vm], I step, vr] w fun v w' => v = .bool true ∧ Kept noB w w' := by
  have H := Sep.start0 w
  have hrs := rowS_ok hrf
  refine rets3 Tryz.func7 rfl rfl rfl rfl ?_
  refine Sr ?_
  refine FL_box H (cs := [vn, vm]) rfl (h := ?_)
  intro b3 w2 H2 k1
  refine Am ?_
  refine Nx ?_
  refine FL_buildSlice H2 (xs := [_, _, _, _, _, _, _]) (out := twoNums.flatMap intCells) (Elems.one rfl rfl (Elems.one rfl rfl (Elems.one rfl rfl (Elems.one rfl rfl (Elems.one rfl rfl (Elems.one rfl rfl (Elems.one rfl rfl Elems.nil))))))) rfl rfl rfl (fun bk w5 H5 k4 => ?_)
  refine Mv ?_
  refine FL_callQ H5 (bring_ok (k := step) (m := 7) (by decide) (by decide)) (h := fun w8 H8 k7 => ?_)
  obtain ⟨q, hq⟩ : ∃ q : Nat, step % 7 = q := ⟨(step % 7).toNat, by omega⟩
  have hlt : q < twoNums.length := by show q < 7; omega
  obtain ⟨kt, hkt⟩ := get_some hlt
  have hk2 := two_in (List.mem_of_getElem? hkt)
  rw [hq]
  have hRb : Rd w8 (some ⟨bk, 0, none⟩) intCells 1 twoNums := Sep.blkRow H8 At0 rfl
  refine FL_val (Gives.idxR (l := twoNums) (enc := intCells) rfl rfl hRb hlt) rfl ?_
  refine FL_val (Gives.loadW (f := 0) rfl hRb hkt rfl) rfl ?_
  have H11 := H8.drop0
  refine Am ?_
  refine Nx ?_
  refine Mv ?_
  refine FL_callQ H11 (bring_ok (k := step) (m := 28) (by decide) (by decide)) (h := fun w15 H15 k14 => ?_)
  obtain ⟨q28, hq28⟩ : ∃ q : Nat, step % 28 = q := ⟨(step % 28).toNat, by omega⟩
  rw [hq28]
  refine FL_val (Gives.quoN (b := 7) rfl rfl (by omega) (by omega)) rfl ?_
  refine Am ?_
  refine Qn ?_
  refine FW_cut (fun z : Int => [(2, vr), (3, .pointer (some ⟨b3, 0, none⟩)), (6, .bool false), (7, I kt), (8, I z), (1, I step)]) (fun z w' => ((kt = 7 ∨ kt = 8 → kindOf z = 3) ∧ (kt = 13 ∨ kt = 14 → kindOf z = 1)) ∧ Sep w noB [blk b3 [vn, vm] 54] w') ?_ ?_
  · refine Sr ?_
    refine Mv ?_
    refine Vl ?_
    refine Qn ?_
    refine FW_condP rfl (fun hc21 => ?_) (fun hc21 => ?_)
    · have c1 : kt = 7 ∨ kt = 8 → kindOf 1 = 3 := fun _ => rfl
      have c2 : kt = 13 ∨ kt = 14 → kindOf 1 = 1 := fun h => by omega
      refine FW_region ?_
      refine Am ?_
      refine FL_nil ?_
      exact Qcut_normal 1 ⟨rfl, rfl, rfl, rfl, rfl, rfl, trivial⟩ ⟨⟨c1, c2⟩, H15⟩
    · have g9 := hc21
      refine Sr ?_
      refine Mv ?_
      refine Ve ?_
      refine Mv ?_
      refine FL_splitP (t := 35) rfl (fun hs29 => ?_) (fun hs29 => ?_)
      · have g13 : kt = 13 ∨ kt = 14 := .inl hs29
        refine Of ?_
        refine Of ?_
        refine Pt ?_
        refine Qn ?_
        refine FW_cond_true rfl ?_
        refine FW_region ?_
        have c1 : kt = 7 ∨ kt = 8 → kindOf 0 = 3 := fun h => by omega
        have c2 : kt = 13 ∨ kt = 14 → kindOf 0 = 1 := fun _ => rfl
        refine Am ?_
        refine FL_nil ?_
        exact Qcut_normal 0 ⟨rfl, rfl, rfl, rfl, rfl, rfl, trivial⟩ ⟨⟨c1, c2⟩, H15⟩
      · have g13 := hs29
        refine On ?_
        refine Mv ?_
        refine On ?_
        refine Ve ?_
        refine Pf ?_
        refine Qn ?_
        refine FW_condP rfl (fun hc38 => ?_) (fun hc38 => ?_)
        · have g13 : kt = 13 ∨ kt = 14 := by first | exact .inr hc38 | assumption
          refine FW_region ?_
          have c1 : kt = 7 ∨ kt = 8 → kindOf 0 = 3 := fun h => by omega
          have c2 : kt = 13 ∨ kt = 14 → kindOf 0 = 1 := fun _ => rfl
          refine Am ?_
          refine FL_nil ?_
          exact Qcut_normal 0 ⟨rfl, rfl, rfl, rfl, rfl, rfl, trivial⟩ ⟨⟨c1, c2⟩, H15⟩
        · have g14 := hc38
          refine FW_skip ?_
          exact Qcut_normal _ ⟨rfl, rfl, rfl, rfl, rfl, rfl, trivial⟩ ⟨⟨fun h => by omega, fun h => (h.elim g13 g14).elim⟩, H15⟩
  · rintro z τ w45 ⟨⟨hz1, hz2⟩, H45⟩
    simp only [upds, like, upd_ds, und_ds]
    refine Sr ?_
    refine FL_val (Gives.idxArr (i := 0) rfl rfl (by decide)) rfl ?_
    refine FL_loadN H45 (o := 0) (us := [vn]) (hu := rfl) (hk := rfl) (h := ?_)
    refine Mv ?_
    refine FL_callN H45 (drawn_ok (k := z) (hn.keep H45.kept)) (h := fun x w50 hx H50 k49 => ?_)
    obtain ⟨va, la⟩ := x
    obtain ⟨⟨n1, hga⟩, _, hlena⟩ := hx
    dsimp only at hga hlena H50 ⊢
    have hla : la.length ≤ 31 := by have : (2 : Nat) ^ (5 - 0) = 32 := rfl; omega
    obtain ⟨B1, c1, rfl, hc1, hB1⟩ := Sep.formD H50 At0
    refine Mv ?_
    refine Vx ?_
    refine Vx ?_
    refine Am ?_
    refine Am ?_
    refine Nx ?_
    refine FL_val (Gives.idxArr (i := 1) rfl rfl (by decide)) rfl ?_
    refine FL_loadN H50 (o := 1) (us := [vm]) (hu := rfl) (hk := rfl) (h := ?_)
    refine Mv ?_
    refine FL_callN H50 (drawn_ok (k := z) (hm.keep H50.kept)) (h := fun x w60 hx H60 k59 => ?_)
    obtain ⟨vb, lb⟩ := x
    obtain ⟨⟨n2, hgb⟩, _, hlenb⟩ := hx
    dsimp only at hgb hlenb H60 ⊢
    have hlb : lb.length ≤ 31 := by have : (2 : Nat) ^ (5 - 0) = 32 := rfl; omega
    obtain ⟨B2, c2, rfl, hc2, hB2⟩ := Sep.formD H60 At0
    obtain ⟨kk, hkk⟩ : ∃ kk, kk = kindOf z := ⟨_, rfl⟩
    rw [← hkk] at hga hgb hz1 hz2 ⊢
    obtain ⟨hm1, hm2, hm3⟩ := two_may hk2 hz1 hz2
    obtain ⟨tt, htt⟩ := hm3 n1 n2
    have hab : (la ++ lb).length ≤ 63 := by rw [List.length_append]; omega
    obtain ⟨hgz, hez⟩ := two_eval hga hgb hab hrs hm1 hm2 htt
    have hfa := eval_fits hga
    have hfb := eval_fits hgb
    have hfz := eval_fits hgz
    refine Mv ?_
    refine Vx ?_
    refine Vx ?_
    refine Am ?_
    refine Am ?_
    refine Nx ?_
    refine FL_buildSlice H60 (xs := []) (out := ([] : List StepM).flatMap stepCells) Elems.nil rfl rfl rfl (fun be w67 H67 k66 => ?_)
    refine Mv ?_
    have HH := oneD0 H67
    refine FL_appendO HH At0 (Sep_rdD HH At2) (by unfold maxLen; simp; omega) (by simp; omega) (cells_one (fun _ => rfl) _) (h := ?_)
    intro v5 w70 H70
    refine Mv ?_
    refine FL_appendO H70 At0 (Sep_rdD H70 At1) (by unfold maxLen; simp; omega) (by simp; omega) (cells_one (fun _ => rfl) _) (h := ?_)
    intro v6 w73 H73
    refine Mv ?_
    refine FL_val (Gives.build (out := stepCells ⟨kt, 0, []⟩) (Fills.one rfl rfl rfl (by simp) rfl Fills.nil)) rfl ?_
    refine FL_buildSlice H73 (xs := [.tmp 59]) (out := [(⟨kt, 0, []⟩ : StepM)].flatMap stepCells) (Elems.many rfl rfl Elems.nil) rfl rfl rfl (fun bs w77 H77 k76 => ?_)
    refine FL_appendD H77 (news := [(⟨kt, 0, []⟩ : StepM)]) At0 (by unfold maxLen; simp; omega) (by simp; omega) (cells_one (fun _ => rfl) _) (h := ?_)
    intro v7 w79 H79
    rw [List.nil_append] at H79
    obtain ⟨B7, c7, rfl, hc7, hB7⟩ := Sep.formD H79 At0
    have hlz : (la ++ lb ++ [(⟨kt, 0, []⟩ : StepM)]).length ≤ 64 := by rw [List.length_append]; simp only [List.length_cons, List.length_nil]; omega
    refine Am ?_
    refine Nx ?_
    refine Mv ?_
    refine FL_callN H79 (rowOf_ok (hr.keep H79.kept) hrf) (h := fun x2 w83 _ H83 k82 => ?_)
    obtain ⟨B8, c8, rfl, hc8, hB8⟩ := Sep.formD H83 At0
    refine Am ?_
    refine Nx ?_
    refine FL_callN H83 (columns_ok false) (h := fun x3 w86 _ H86 k85 => ?_)
    obtain ⟨B9, c9, rfl, hc9, hB9⟩ := Sep.formD H86 At0
    refine Mv ?_
    refine Mv ?_
    refine FL_callQ H86 (evalE_ok (rowIn_own H86 At0 hc9) (rowIn_own H86 At4 hc1) (rowIn_own H86 At1 hc8) hrs.fit hfa (hT.keep H86.kept).utf) (h := fun w90 H90 k89 => ?_)
    obtain ⟨cx, ex, hevx, hcx⟩ := eval_cases false hga (by omega) hrs
    rw [hevx]
    dsimp only
    have H90 := H90.drop0
    refine Mv ?_
    refine Vx ?_
    refine Vx ?_
    refine FL_alloc H90 (h := ?_)
    intro b94 w95 H95 k94
    refine FL_storeAll H95 (h := ?_)
    intro w97 H97
    refine Am ?_
    refine Nx ?_
    refine FL_callN H97 (columns_ok false) (h := fun x3 w100 _ H100 k99 => ?_)
    obtain ⟨B10, c10, rfl, hc10, hB10⟩ := Sep.formD H100 At0
    refine Mv ?_
    refine Mv ?_
    refine FL_callQ H100 (evalE_ok (rowIn_own H100 At0 hc10) (rowIn_own H100 At4 hc2) (rowIn_own H100 At2 hc8) hrs.fit hfb (hT.keep H100.kept).utf) (h := fun w104 H104 k103 => ?_)
    obtain ⟨cy, ey, hevy, hcy⟩ := eval_cases false hgb (by omega) hrs
    rw [hevy]
    dsimp only
    have H104 := H104.drop0
    refine Mv ?_
    refine Vx ?_
    refine Vx ?_
    refine FL_alloc H104 (h := ?_)
    intro b108 w109 H109 k108
    refine FL_storeAll H109 (h := ?_)
    intro w111 H111
    refine Am ?_
    refine Nx ?_
    refine FL_callN H111 (columns_ok false) (h := fun x3 w114 _ H114 k113 => ?_)
    obtain ⟨B11, c11, rfl, hc11, hB11⟩ := Sep.formD H114 At0
    refine Mv ?_
    refine Mv ?_
    refine FL_callQ H114 (evalE_ok (rowIn_own H114 At0 hc11) (rowIn_own H114 At4 hc7) (rowIn_own H114 At3 hc8) hrs.fit hfz (hT.keep H114.kept).utf) (h := fun w118 H118 k117 => ?_)
    obtain ⟨cz, ez, hevz⟩ : ∃ c e, evalS (colsS false) (la ++ lb ++ [(⟨kt, 0, []⟩ : StepM)]) (rowS rn) = (c, e) := ⟨_, _, rfl⟩
    rw [hevz]
    rw [hez] at hevz
    dsimp only
    have H118 := H118.drop0
    refine Mv ?_
    refine Vx ?_
    refine Vx ?_
    refine FL_alloc H118 (h := ?_)
    intro b122 w123 H123 k122
    refine FL_storeAll H123 (h := ?_)
    intro w125 H125
    refine Am ?_
    refine Qn ?_
    refine FW_seq ?_
    refine FW_block ?_
    refine Sr ?_
    refine Mv ?_
    refine Vs ?_
    refine Vg ?_
    refine Am ?_
    refine Qn ?_
    refine FW_condP rfl (fun hc131 => ?_) (fun hc131 => ?_)
    · omega
    · refine Sr ?_
      refine Mv ?_
      refine Vn ?_
      refine Am ?_
      refine Qn ?_
      refine FW_condP rfl (fun hc136 => ?_) (fun hc136 => ?_)
      · obtain ⟨q1, q2, _⟩ := hcx.resolve_left (fun h => hc136 h.1)
        rw [q2] at hevz
        have hevz : (cell0, (50 : Int)) = (cz, ez) := hevz
        injection hevz with q3 q4
        subst q1 q3 q4
        refine Sr ?_
        refine Mv ?_
        refine Ve ?_
        refine Mv ?_
        refine FL_splitP (t := 99) rfl (fun hs141 => ?_) (fun hs141 => ?_)
        · refine On ?_
          refine Mv ?_
          refine On ?_
          refine Ve ?_
          refine Pt ?_
          refine Mv ?_
          refine FL_splitP (t := 103) rfl (fun hs146 => ?_) (fun hs146 => ?_)
          · refine On ?_
            refine FL_callQ H125 (works_ok (hT.keep H125.kept)) (h := fun w148 H148 k147 => ?_)
            refine Pt ?_
            refine Am ?_
            refine Qn ?_
            refine Rb (Qfn_ret (hR := ?_))
            exact ⟨rfl, H148.kept⟩
          · exact (hs146 trivial).elim
        · exact (hs141 trivial).elim
      · obtain ⟨rfl, hgx, hokx, hfx⟩ := hcx.resolve_right (fun h => by omega)
        rw [hgx, Option.bind_some] at hevz
        refine Sr ?_
        refine Mv ?_
        refine Vn ?_
        refine Am ?_
        refine Qn ?_
        refine FW_condP rfl (fun hc158 => ?_) (fun hc158 => ?_)
        · obtain ⟨q1, q2, _⟩ := hcy.resolve_left (fun h => hc158 h.1)
          rw [q2] at hevz
          have hevz : (cell0, (50 : Int)) = (cz, ez) := hevz
          injection hevz with q3 q4
          subst q1 q3 q4
          refine Sr ?_
          refine Mv ?_
          refine Ve ?_
          refine Mv ?_
          refine FL_splitP (t := 111) rfl (fun hs163 => ?_) (fun hs163 => ?_)
          · refine On ?_
            refine Mv ?_
            refine On ?_
            refine Ve ?_
            refine Pt ?_
            refine Mv ?_
            refine FL_splitP (t := 115) rfl (fun hs168 => ?_) (fun hs168 => ?_)
            · refine On ?_
              refine FL_callQ H125 (works_ok (hT.keep H125.kept)) (h := fun w170 H170 k169 => ?_)
              refine Pt ?_
              refine Am ?_
              refine Qn ?_
              refine Rb (Qfn_ret (hR := ?_))
              exact ⟨rfl, H170.kept⟩
            · exact (hs168 trivial).elim
          · exact (hs163 trivial).elim
        · obtain ⟨rfl, hgy, hoky, hfy⟩ := hcy.resolve_right (fun h => by omega)
          rw [hgy, Option.bind_some, comb_made hk2 hokx hoky (fun h => ⟨hz2 h, hz2 h⟩)] at hevz
          refine FW_skip (Qblk_normal (Qseq_normal ?_))
          refine Sr ?_
          refine Mv ?_
          refine FL_loadAll H125 (h := ?_)
          refine FL_loadAll H125 (h := ?_)
          refine FL_callQ H125 (combined_ok hk2 hfx hfy) (h := fun w181 H181 k180 => ?_)
          obtain ⟨wc, wb, hwc⟩ : ∃ c b, combM kt cx cy = (c, b) := ⟨_, _, rfl⟩
          rw [hwc] at hevz ⊢
          dsimp only at hevz ⊢
          refine Mv ?_
          refine Vx ?_
          refine Vx ?_
          refine FL_alloc H181 (h := ?_)
          intro b185 w186 H186 k185
          refine FL_storeAll H186 (h := ?_)
          intro w188 H188
          refine Am ?_
          refine Qn ?_
          refine FW_seq ?_
          refine Sr ?_
          refine Mv ?_
          refine FL_val (Gives.not rfl) rfl ?_
          refine Qn ?_
          refine FW_cond rfl (fun hc192 => ?_) (fun hc192 => ?_)
          · have hwb : wb = false := by simpa using hc192
            subst hwb
            have hevz : (cell0, (50 : Int)) = (cz, ez) := hevz
            injection hevz with q3 q4
            subst q3 q4
            refine Sr ?_
            refine Mv ?_
            refine Ve ?_
            refine Mv ?_
            refine FL_splitP (t := 129) rfl (fun hs197 => ?_) (fun hs197 => ?_)
            · refine On ?_
              refine FL_loadAll H188 (h := ?_)
              refine On ?_
              refine FL_val (Gives.build (out := cellCells cell0) Fills.nil) rfl ?_
              refine On ?_
              refine FL_val (Gives.eqlG (enc := cellCells) _ _ rfl rfl) rfl ?_
              refine Pt ?_
              refine Mv ?_
              refine FL_splitP (t := 134) rfl (fun hs203 => ?_) (fun hs203 => ?_)
              · refine On ?_
                refine FL_callQ H188 (works_ok (hT.keep H188.kept)) (h := fun w205 H205 k204 => ?_)
                refine Pt ?_
                refine Am ?_
                refine Qn ?_
                refine Rs (Qfn_ret (hR := ?_))
                exact ⟨rfl, H205.kept⟩
              · exact (hs203 trivial).elim
            · exact (hs197 trivial).elim
          · have hwb : wb = true := by simpa using hc192
            subst hwb
            have hevz : (wc, (0 : Int)) = (cz, ez) := hevz
            injection hevz with q3 q4
            subst q3 q4
            refine Sk ?_
            refine Sr ?_
            refine Mv ?_
            refine Ve ?_
            refine Mv ?_
            refine FL_splitP (t := 139) rfl (fun hs215 => ?_) (fun hs215 => ?_)
            · refine On ?_
              refine FL_loadAll H188 (h := ?_)
              refine On ?_
              refine FL_loadAll H188 (h := ?_)
              refine On ?_
              refine FL_val (Gives.eqlG (enc := cellCells) _ _ rfl rfl) rfl ?_
              refine Pt ?_
              refine Mv ?_
              refine FL_splitP (t := 144) rfl (fun hs221 => ?_) (fun hs221 => ?_)
              · refine On ?_
                refine FL_callQ H188 (works_ok (hT.keep H188.kept)) (h := fun w223 H223 k222 => ?_)
                refine Pt ?_
                refine Am ?_
                refine Qn ?_
                refine FW_ret (Qfn_ret (hR := ?_))
                exact ⟨rfl, H223.kept⟩
              · exact (hs221 trivial).elim
            · exact (hs215 trivial).elim
end
end Go.Proofs.YtmkaahkbhdlniaaGreatDoor
