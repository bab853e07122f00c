/-
 The table of kinds, and whether a cell is of a type, walked.
-/
import Derived.Test.YtolaedhdjcnijaaGreatDoorKt13
set_option linter.unusedVariables false
set_option linter.unusedSimpArgs false
namespace Go.Proofs.YtolaedhdjcnijaaGreatDoor
open Go Go.Mw Go.Lib
set_option maxRecDepth 4000
section
variable {w : World}
def plainV (p q : Nat) : Value := .func (.func 207) #[] #[.pointer (some ⟨p, 0, none⟩), .pointer (some ⟨q, 0, none⟩)]
theorem five {α : Type} {l : List α} (h : l.length = 5) : ∃ a b c d e, l = [a, b, c, d, e] := by
 match l, h with
 | [a, b, c, d, e], _ => exact ⟨a, b, c, d, e, rfl⟩
theorem kind_fill {ρ : Operand → Value} {x1 x2 x3 x4 x5 : Operand} {r1 r2 r3 r4 r5 : List Value} (l1 : r1.length = 5) (l2 : r2.length = 5) (l3 : r3.length = 5) (l4 : r4.length = 5) (l5 : r5.length = 5)
    (h1 : ρ x1 = .agg r1.toArray) (h2 : ρ x2 = .agg r2.toArray) (h3 : ρ x3 = .agg r3.toArray) (h4 : ρ x4 = .agg r4.toArray) (h5 : ρ x5 = .agg r5.toArray) :
    Fills (fun i : Nat => some (i * 5, 5)) ρ [(1, x1), (2, x2), (3, x3), (4, x4), (5, x5)] (List.replicate 30 .nilFunc) (List.replicate 5 .nilFunc ++ r1 ++ r2 ++ r3 ++ r4 ++ r5) := by
  obtain ⟨a1, b1, c1, d1, e1, rfl⟩ := five l1
  obtain ⟨a2, b2, c2, d2, e2, rfl⟩ := five l2
  obtain ⟨a3, b3, c3, d3, e3, rfl⟩ := five l3
  obtain ⟨a4, b4, c4, d4, e4, rfl⟩ := five l4
  obtain ⟨a5, b5, c5, d5, e5, rfl⟩ := five l5
  refine Fills.many rfl h1 (Nat.le_of_ble_eq_true rfl) rfl ?_
  refine Fills.many rfl h2 (Nat.le_of_ble_eq_true rfl) rfl ?_
  refine Fills.many rfl h3 (Nat.le_of_ble_eq_true rfl) rfl ?_
  refine Fills.many rfl h4 (Nat.le_of_ble_eq_true rfl) rfl ?_
  refine Fills.many rfl h5 (Nat.le_of_ble_eq_true rfl) rfl ?_
  rfl
def kindRows (p1 q1 p2 q2 p3 q3 b2 : Nat) : List Value := List.replicate 5 .nilFunc ++ (plainV p1 q1 :: kF1) ++ (plainV p2 q2 :: kF2) ++ (plainV p3 q3 :: kF2) ++ (Value.func (.func 217) #[] #[.pointer (some ⟨b2, 0, none⟩)] :: kF4) ++ (funcV 208 :: kF5)
theorem pred_plain {k lo hi : Int} {p q : Nat} (h1 : w.heap[p]? = some (.cells #[I lo] 2 (0, 0))) (h2 : w.heap[q]? = some (.cells #[I hi] 2 (0, 0))) (hp : ∀ c, isP k c = decide (c.s = [] ∧ lo ≤ c.n ∧ c.n ≤ hi)) : PredIn w (plainV p q) (fun c => agg (cellCells c)) (isP k) :=
 ⟨207, [], [_, _], rfl, inferInstance, fun c w'' hk => by rw [hp]; exact plain1_ok c (hk.get h1 id) (hk.get h2 id)⟩
theorem pred_text {b : Nat} {E : TypeId} (hb : w.heap[b]? = some (.cells #[funcV 208] E (0, 0))) (hT : TabsU w) : PredIn w (.func (.func 217) #[] #[.pointer (some ⟨b, 0, none⟩)]) (fun c => agg (cellCells c)) (isP 4) :=
 ⟨217, [], [_], rfl, inferInstance, fun c w'' hk => textIs_ok c (hk.get hb id) (hT.keep hk)⟩
theorem pred_size : PredIn w (funcV 208) (fun c => agg (cellCells c)) (isP 5) :=
 ⟨208, [], [], rfl, inferInstance, fun c w'' _ => size_ok c⟩
theorem kindF_len (k : Int) : (kindF k).length = 4 := by unfold kindF; (repeat' split) <;> rfl
theorem kindF_one (k : Int) : (kindF k).all Value.oneCell' = true := by unfold kindF; (repeat' split) <;> rfl
theorem of_ok (t : TypeM) (h1 : 1 ≤ t.kind) (h5 : t.kind ≤ 5) (hT : TabsU w) : Rets Tryz.prog 151 [agg (typeCells t)] w fun v w' => (∃ isF, v = agg (isF :: kindF t.kind) ∧ PredIn w' isF (fun c => agg (cellCells c)) (isP t.kind)) ∧ Kept noB w w' := by
 have H := Sep.start0 w
 refine retsC1 Tryz.func151 rfl rfl rfl rfl ?_
 refine Sr (FL_box H (cs := typeCells t) rfl (h := fun b0 w2 H2 k0 => ?_))
 refine FL_alloc H2 (h := fun b1 w4 H4 k3 => ?_)
 refine Nx (Am ?_)
 refine Nx (FL_alloc H4 (h := fun b2 w7 H7 k6 => ?_))
 refine FL_store H7 (h := fun w9 H9 => ?_)
 refine Qn (FW_seq (FW_drawS rfl H9 (h := fun hok10 w12 H12 => ?_)))
 refine Gm hok10 0 ?_
 refine Gm hok10 3 ?_
 refine Gm hok10 6 ?_
 refine Gp hok10 9 rfl rfl (fun _ => (Gives.makeFunc rfl rfl)) (Gp hok10 10 rfl rfl (fun _ => (Gives.build (out := (Value.func (.func 217) #[] #[.pointer (some ⟨b2, 0, none⟩)]) :: kF4) (Fills.one rfl rfl rfl (by simp) rfl (Fills.one rfl rfl rfl (by simp) rfl (Fills.one rfl rfl rfl (by simp) rfl (Fills.one rfl rfl rfl (by simp) rfl (Fills.one rfl rfl rfl (by simp) rfl Fills.nil))))))) ?_)
 refine FGload hok10 11 H12 (h := ?_)
 refine Gp hok10 12 rfl rfl (fun _ => (Gives.build (out := (funcV 208) :: kF5) (Fills.one rfl rfl rfl (by simp) rfl (Fills.one rfl rfl rfl (by simp) rfl (Fills.one rfl rfl rfl (by simp) rfl (Fills.one rfl rfl rfl (by simp) rfl (Fills.one rfl rfl rfl (by simp) rfl Fills.nil))))))) (FG_two hok10 (e1 := 1) (e2 := 14) (by kernel_rfl) ?_ ?_)
 ·refine step_callV hok10 1 [(12, true), (11, false), (10, true), (9, true), (6, true), (3, true)] (y := .tmp 6) (f := 206) (fs := []) (cs := []) (vals := [I 0, I 1]) rfl (plain_ok 0 1) (h := fun v' w18 hv => ?_)
  obtain ⟨p1, q1, rfl, hkk, F', hq, hsub⟩ := hv
  have H18 := (H12.new hkk hq fun b hb => (hsub b hb).resolve_left id).star0
  refine ⟨Stab_pure (Stab_load H18 (h := Stab_pure (Stab_pure (Stab_pure (Stab_pure (Stab_nil)))))), ?_⟩
  refine Gp hok10 2 rfl rfl (fun _ => (Gives.build (out := (plainV p1 q1) :: kF1) (Fills.one rfl rfl rfl (by simp) rfl (Fills.one rfl rfl rfl (by simp) rfl (Fills.one rfl rfl rfl (by simp) rfl (Fills.one rfl rfl rfl (by simp) rfl (Fills.one rfl rfl rfl (by simp) rfl Fills.nil))))))) (FG_two hok10 (e1 := 4) (e2 := 14) (by kernel_rfl) ?_ ?_)
  ·refine step_callV hok10 4 [(2, true), (12, true), (11, false), (10, true), (9, true), (6, true)] (y := .tmp 9) (f := 206) (fs := []) (cs := []) (vals := [I (-2147483648), I 2147483647]) rfl (plain_ok (-2147483648) 2147483647) (h := fun v' w21 hv => ?_)
   obtain ⟨p2, q2, rfl, hkk, F', hq, hsub⟩ := hv
   have H21 := (H18.new hkk hq fun b hb => (hsub b hb).resolve_left id).star0
   refine ⟨Stab_pure (Stab_pure (Stab_load H21 (h := Stab_pure (Stab_pure (Stab_pure (Stab_nil)))))), ?_⟩
   refine Gp hok10 5 rfl rfl (fun _ => (Gives.build (out := (plainV p2 q2) :: kF2) (Fills.one rfl rfl rfl (by simp) rfl (Fills.one rfl rfl rfl (by simp) rfl (Fills.one rfl rfl rfl (by simp) rfl (Fills.one rfl rfl rfl (by simp) rfl (Fills.one rfl rfl rfl (by simp) rfl Fills.nil))))))) (FG_two hok10 (e1 := 7) (e2 := 14) (by kernel_rfl) ?_ ?_)
   ·refine step_callV hok10 7 [(5, true), (2, true), (12, true), (11, false), (10, true), (9, true)] (y := .tmp 12) (f := 206) (fs := []) (cs := []) (vals := [I (-9223372036854775808), I 9223372036854775807]) rfl (plain_ok (-9223372036854775808) 9223372036854775807) (h := fun v' w24 hv => ?_)
    obtain ⟨p3, q3, rfl, hkk, F', hq, hsub⟩ := hv
    have H24 := (H21.new hkk hq fun b hb => (hsub b hb).resolve_left id).star0
    refine ⟨Stab_pure (Stab_pure (Stab_pure (Stab_load H24 (h := Stab_pure (Stab_pure (Stab_nil)))))), ?_⟩
    refine Gp hok10 8 rfl rfl (fun _ => (Gives.build (out := (plainV p3 q3) :: kF2) (Fills.one rfl rfl rfl (by simp) rfl (Fills.one rfl rfl rfl (by simp) rfl (Fills.one rfl rfl rfl (by simp) rfl (Fills.one rfl rfl rfl (by simp) rfl (Fills.one rfl rfl rfl (by simp) rfl Fills.nil))))))) (Gp hok10 13 rfl rfl (fun _ => (Gives.buildA (out := kindRows p1 q1 p2 q2 p3 q3 b2) rfl (kind_fill rfl rfl rfl rfl rfl rfl rfl rfl rfl rfl))) ?_)
    refine FGalloc hok10 14 [(13, true), (8, true), (5, true), (2, true), (12, true), (11, false), (10, true), (9, true)] H24 (h := fun b5 w28 H28 => ⟨Stab_pure (Stab_pure (Stab_pure (Stab_pure (Stab_pure (Stab_load H28 (h := Stab_pure (Stab_pure (Stab_nil)))))))), ?_⟩)
    refine FGstoreAll hok10 15 [] H28 (h := fun w30 H30 => ⟨Stab_nil, ?_⟩)
    refine FG_end hok10 (by kernel_rfl) ?_
    refine Qseq_normal (Sr ?_)
    have htn : ((t.kind.toNat : Nat) : Int) = t.kind := Int.toNat_of_nonneg (by omega)
    obtain ⟨isV, hval, hone, hrow⟩ : ∃ isV : Value, ((t.kind = 1 ∧ isV = plainV p1 q1) ∨ (t.kind = 2 ∧ isV = plainV p2 q2) ∨ (t.kind = 3 ∧ isV = plainV p3 q3) ∨ (t.kind = 4 ∧ isV = Value.func (.func 217) #[] #[.pointer (some ⟨b2, 0, none⟩)]) ∨ (t.kind = 5 ∧ isV = funcV 208)) ∧ isV.oneCell' = true ∧ ((kindRows p1 q1 p2 q2 p3 q3 b2).drop (0 + t.kind.toNat * 5)).take 5 = isV :: kindF t.kind := by
     rcases (by omega : t.kind = 1 ∨ t.kind = 2 ∨ t.kind = 3 ∨ t.kind = 4 ∨ t.kind = 5) with e | e | e | e | e <;> rw [e]
     ·exact ⟨_, .inl ⟨rfl, rfl⟩, rfl, rfl⟩
     ·exact ⟨_, .inr (.inl ⟨rfl, rfl⟩), rfl, rfl⟩
     ·exact ⟨_, .inr (.inr (.inl ⟨rfl, rfl⟩)), rfl, rfl⟩
     ·exact ⟨_, .inr (.inr (.inr (.inl ⟨rfl, rfl⟩))), rfl, rfl⟩
     exact ⟨_, .inr (.inr (.inr (.inr ⟨rfl, rfl⟩))), rfl, rfl⟩
    refine Vf ?_
    refine Ld H30 ?_
    refine Vv (Gives.idxArr (i := t.kind.toNat) rfl (by rw [htn]; rfl) (by omega)) ?_
    refine FL_loadN (us := isV :: kindF t.kind) (o := 0 + t.kind.toNat * 5) (b := b5) H30 (hx := by rw [← Addr.add_lit]; rfl) (hat := by first | exact At0 | exact At1 | exact At2 | exact At3 | exact At4 | exact At5 | exact At6 | exact At7 | exact At8 | exact At9) (hu := hrow) (hk := by rw [List.length_cons, kindF_len]) (h := ?_)
    refine FL_storeAll H30 (us := isV :: kindF t.kind) (hk := by rw [List.length_cons, kindF_len]) (hv := by rw [List.all_cons, hone, kindF_one]; rfl) (h := fun w36 H36 => ?_)
    refine Qn (FW_ret (QfnC_ret (h := ?_)))
    refine ⟨_, resC1 H36 (hk := by rw [List.length_cons, kindF_len]), ⟨isV, rfl, ?_⟩, H36.kept⟩
    rcases hval with ⟨e, rfl⟩ | ⟨e, rfl⟩ | ⟨e, rfl⟩ | ⟨e, rfl⟩ | ⟨e, rfl⟩ <;> rw [e]
    ·exact pred_plain (by first | exact H36.obj At0 | exact H36.obj At2 | exact H36.obj At4 | exact H36.obj At1 | exact H36.obj At3 | exact H36.obj At5 | exact H36.obj At6 | exact H36.obj At7) (by first | exact H36.obj At0 | exact H36.obj At2 | exact H36.obj At4 | exact H36.obj At1 | exact H36.obj At3 | exact H36.obj At5 | exact H36.obj At6 | exact H36.obj At7) (fun c => rfl)
    ·exact pred_plain (by first | exact H36.obj At0 | exact H36.obj At2 | exact H36.obj At4 | exact H36.obj At1 | exact H36.obj At3 | exact H36.obj At5 | exact H36.obj At6 | exact H36.obj At7) (by first | exact H36.obj At0 | exact H36.obj At2 | exact H36.obj At4 | exact H36.obj At1 | exact H36.obj At3 | exact H36.obj At5 | exact H36.obj At6 | exact H36.obj At7) (fun c => rfl)
    ·exact pred_plain (by first | exact H36.obj At0 | exact H36.obj At2 | exact H36.obj At4 | exact H36.obj At1 | exact H36.obj At3 | exact H36.obj At5 | exact H36.obj At6 | exact H36.obj At7) (by first | exact H36.obj At0 | exact H36.obj At2 | exact H36.obj At4 | exact H36.obj At1 | exact H36.obj At3 | exact H36.obj At5 | exact H36.obj At6 | exact H36.obj At7) (fun c => rfl)
    ·exact pred_text (by first | exact H36.obj At7 | exact H36.obj At6 | exact H36.obj At5 | exact H36.obj At4) (hT.keep H36.kept)
    exact pred_size
   refine step_alloc hok10 14 [(5, true), (2, true), (12, true), (11, false), (10, true), (9, true), (6, true)] H21 (h := fun b5 w39 H39 => ⟨Stab_pure (Stab_pure (Stab_pure (Stab_load H39 (h := Stab_pure (Stab_pure (Stab_pure (Stab_nil))))))), ?_⟩)
   refine FGcallV hok10 7 [(5, true), (2, true), (12, true), (11, false), (10, true), (9, true)] (y := .tmp 12) (f := 206) (fs := []) (cs := []) (vals := [I (-9223372036854775808), I 9223372036854775807]) rfl (plain_ok (-9223372036854775808) 9223372036854775807) (h := fun v' w41 hv => ?_)
   obtain ⟨p3, q3, rfl, hkk, F', hq, hsub⟩ := hv
   have H41 := (H39.new hkk hq fun b hb => (hsub b hb).resolve_left id).star0
   refine ⟨Stab_pure (Stab_pure (Stab_pure (Stab_load H41 (h := Stab_pure (Stab_pure (Stab_nil)))))), ?_⟩
   refine Gp hok10 8 rfl rfl (fun _ => (Gives.build (out := (plainV p3 q3) :: kF2) (Fills.one rfl rfl rfl (by simp) rfl (Fills.one rfl rfl rfl (by simp) rfl (Fills.one rfl rfl rfl (by simp) rfl (Fills.one rfl rfl rfl (by simp) rfl (Fills.one rfl rfl rfl (by simp) rfl Fills.nil))))))) (Gp hok10 13 rfl rfl (fun _ => (Gives.buildA (out := kindRows p1 q1 p2 q2 p3 q3 b2) rfl (kind_fill rfl rfl rfl rfl rfl rfl rfl rfl rfl rfl))) ?_)
   refine FGstoreAll hok10 15 [] H41 (h := fun w45 H45 => ⟨Stab_nil, ?_⟩)
   refine FG_end hok10 (by kernel_rfl) ?_
   refine Qseq_normal (Sr ?_)
   have htn : ((t.kind.toNat : Nat) : Int) = t.kind := Int.toNat_of_nonneg (by omega)
   obtain ⟨isV, hval, hone, hrow⟩ : ∃ isV : Value, ((t.kind = 1 ∧ isV = plainV p1 q1) ∨ (t.kind = 2 ∧ isV = plainV p2 q2) ∨ (t.kind = 3 ∧ isV = plainV p3 q3) ∨ (t.kind = 4 ∧ isV = Value.func (.func 217) #[] #[.pointer (some ⟨b2, 0, none⟩)]) ∨ (t.kind = 5 ∧ isV = funcV 208)) ∧ isV.oneCell' = true ∧ ((kindRows p1 q1 p2 q2 p3 q3 b2).drop (0 + t.kind.toNat * 5)).take 5 = isV :: kindF t.kind := by
    rcases (by omega : t.kind = 1 ∨ t.kind = 2 ∨ t.kind = 3 ∨ t.kind = 4 ∨ t.kind = 5) with e | e | e | e | e <;> rw [e]
    ·exact ⟨_, .inl ⟨rfl, rfl⟩, rfl, rfl⟩
    ·exact ⟨_, .inr (.inl ⟨rfl, rfl⟩), rfl, rfl⟩
    ·exact ⟨_, .inr (.inr (.inl ⟨rfl, rfl⟩)), rfl, rfl⟩
    ·exact ⟨_, .inr (.inr (.inr (.inl ⟨rfl, rfl⟩))), rfl, rfl⟩
    exact ⟨_, .inr (.inr (.inr (.inr ⟨rfl, rfl⟩))), rfl, rfl⟩
   refine Vf ?_
   refine Ld H45 ?_
   refine Vv (Gives.idxArr (i := t.kind.toNat) rfl (by rw [htn]; rfl) (by omega)) ?_
   refine FL_loadN (us := isV :: kindF t.kind) (o := 0 + t.kind.toNat * 5) (b := b5) H45 (hx := by rw [← Addr.add_lit]; rfl) (hat := by first | exact At0 | exact At1 | exact At2 | exact At3 | exact At4 | exact At5 | exact At6 | exact At7 | exact At8 | exact At9) (hu := hrow) (hk := by rw [List.length_cons, kindF_len]) (h := ?_)
   refine FL_storeAll H45 (us := isV :: kindF t.kind) (hk := by rw [List.length_cons, kindF_len]) (hv := by rw [List.all_cons, hone, kindF_one]; rfl) (h := fun w51 H51 => ?_)
   refine Qn (FW_ret (QfnC_ret (h := ?_)))
   refine ⟨_, resC1 H51 (hk := by rw [List.length_cons, kindF_len]), ⟨isV, rfl, ?_⟩, H51.kept⟩
   rcases hval with ⟨e, rfl⟩ | ⟨e, rfl⟩ | ⟨e, rfl⟩ | ⟨e, rfl⟩ | ⟨e, rfl⟩ <;> rw [e]
   ·exact pred_plain (by first | exact H51.obj At0 | exact H51.obj At2 | exact H51.obj At4 | exact H51.obj At1 | exact H51.obj At3 | exact H51.obj At5 | exact H51.obj At6 | exact H51.obj At7) (by first | exact H51.obj At0 | exact H51.obj At2 | exact H51.obj At4 | exact H51.obj At1 | exact H51.obj At3 | exact H51.obj At5 | exact H51.obj At6 | exact H51.obj At7) (fun c => rfl)
   ·exact pred_plain (by first | exact H51.obj At0 | exact H51.obj At2 | exact H51.obj At4 | exact H51.obj At1 | exact H51.obj At3 | exact H51.obj At5 | exact H51.obj At6 | exact H51.obj At7) (by first | exact H51.obj At0 | exact H51.obj At2 | exact H51.obj At4 | exact H51.obj At1 | exact H51.obj At3 | exact H51.obj At5 | exact H51.obj At6 | exact H51.obj At7) (fun c => rfl)
   ·exact pred_plain (by first | exact H51.obj At0 | exact H51.obj At2 | exact H51.obj At4 | exact H51.obj At1 | exact H51.obj At3 | exact H51.obj At5 | exact H51.obj At6 | exact H51.obj At7) (by first | exact H51.obj At0 | exact H51.obj At2 | exact H51.obj At4 | exact H51.obj At1 | exact H51.obj At3 | exact H51.obj At5 | exact H51.obj At6 | exact H51.obj At7) (fun c => rfl)
   ·exact pred_text (by first | exact H51.obj At7 | exact H51.obj At6 | exact H51.obj At5 | exact H51.obj At4) (hT.keep H51.kept)
   exact pred_size
  refine step_alloc hok10 14 [(2, true), (12, true), (11, false), (10, true), (9, true), (6, true), (3, true)] H18 (h := fun b5 w54 H54 => ⟨Stab_pure (Stab_pure (Stab_load H54 (h := Stab_pure (Stab_pure (Stab_pure (Stab_pure (Stab_nil))))))), ?_⟩)
  refine FGcallV hok10 4 [(2, true), (12, true), (11, false), (10, true), (9, true), (6, true)] (y := .tmp 9) (f := 206) (fs := []) (cs := []) (vals := [I (-2147483648), I 2147483647]) rfl (plain_ok (-2147483648) 2147483647) (h := fun v' w56 hv => ?_)
  obtain ⟨p2, q2, rfl, hkk, F', hq, hsub⟩ := hv
  have H56 := (H54.new hkk hq fun b hb => (hsub b hb).resolve_left id).star0
  refine ⟨Stab_pure (Stab_pure (Stab_load H56 (h := Stab_pure (Stab_pure (Stab_pure (Stab_nil)))))), ?_⟩
  refine Gp hok10 5 rfl rfl (fun _ => (Gives.build (out := (plainV p2 q2) :: kF2) (Fills.one rfl rfl rfl (by simp) rfl (Fills.one rfl rfl rfl (by simp) rfl (Fills.one rfl rfl rfl (by simp) rfl (Fills.one rfl rfl rfl (by simp) rfl (Fills.one rfl rfl rfl (by simp) rfl Fills.nil))))))) (FGcallV hok10 7 [(5, true), (2, true), (12, true), (11, false), (10, true), (9, true)] (y := .tmp 12) (f := 206) (fs := []) (cs := []) (vals := [I (-9223372036854775808), I 9223372036854775807]) rfl (plain_ok (-9223372036854775808) 9223372036854775807) (h := fun v' w59 hv => ?_))
  obtain ⟨p3, q3, rfl, hkk, F', hq, hsub⟩ := hv
  have H59 := (H56.new hkk hq fun b hb => (hsub b hb).resolve_left id).star0
  refine ⟨Stab_pure (Stab_pure (Stab_pure (Stab_load H59 (h := Stab_pure (Stab_pure (Stab_nil)))))), ?_⟩
  refine Gp hok10 8 rfl rfl (fun _ => (Gives.build (out := (plainV p3 q3) :: kF2) (Fills.one rfl rfl rfl (by simp) rfl (Fills.one rfl rfl rfl (by simp) rfl (Fills.one rfl rfl rfl (by simp) rfl (Fills.one rfl rfl rfl (by simp) rfl (Fills.one rfl rfl rfl (by simp) rfl Fills.nil))))))) (Gp hok10 13 rfl rfl (fun _ => (Gives.buildA (out := kindRows p1 q1 p2 q2 p3 q3 b2) rfl (kind_fill rfl rfl rfl rfl rfl rfl rfl rfl rfl rfl))) ?_)
  refine FGstoreAll hok10 15 [] H59 (h := fun w63 H63 => ⟨Stab_nil, ?_⟩)
  refine FG_end hok10 (by kernel_rfl) ?_
  refine Qseq_normal (Sr ?_)
  have htn : ((t.kind.toNat : Nat) : Int) = t.kind := Int.toNat_of_nonneg (by omega)
  obtain ⟨isV, hval, hone, hrow⟩ : ∃ isV : Value, ((t.kind = 1 ∧ isV = plainV p1 q1) ∨ (t.kind = 2 ∧ isV = plainV p2 q2) ∨ (t.kind = 3 ∧ isV = plainV p3 q3) ∨ (t.kind = 4 ∧ isV = Value.func (.func 217) #[] #[.pointer (some ⟨b2, 0, none⟩)]) ∨ (t.kind = 5 ∧ isV = funcV 208)) ∧ isV.oneCell' = true ∧ ((kindRows p1 q1 p2 q2 p3 q3 b2).drop (0 + t.kind.toNat * 5)).take 5 = isV :: kindF t.kind := by
   rcases (by omega : t.kind = 1 ∨ t.kind = 2 ∨ t.kind = 3 ∨ t.kind = 4 ∨ t.kind = 5) with e | e | e | e | e <;> rw [e]
   ·exact ⟨_, .inl ⟨rfl, rfl⟩, rfl, rfl⟩
   ·exact ⟨_, .inr (.inl ⟨rfl, rfl⟩), rfl, rfl⟩
   ·exact ⟨_, .inr (.inr (.inl ⟨rfl, rfl⟩)), rfl, rfl⟩
   ·exact ⟨_, .inr (.inr (.inr (.inl ⟨rfl, rfl⟩))), rfl, rfl⟩
   exact ⟨_, .inr (.inr (.inr (.inr ⟨rfl, rfl⟩))), rfl, rfl⟩
  refine Vf ?_
  refine Ld H63 ?_
  refine Vv (Gives.idxArr (i := t.kind.toNat) rfl (by rw [htn]; rfl) (by omega)) ?_
  refine FL_loadN (us := isV :: kindF t.kind) (o := 0 + t.kind.toNat * 5) (b := b5) H63 (hx := by rw [← Addr.add_lit]; rfl) (hat := by first | exact At0 | exact At1 | exact At2 | exact At3 | exact At4 | exact At5 | exact At6 | exact At7 | exact At8 | exact At9) (hu := hrow) (hk := by rw [List.length_cons, kindF_len]) (h := ?_)
  refine FL_storeAll H63 (us := isV :: kindF t.kind) (hk := by rw [List.length_cons, kindF_len]) (hv := by rw [List.all_cons, hone, kindF_one]; rfl) (h := fun w69 H69 => ?_)
  refine Qn (FW_ret (QfnC_ret (h := ?_)))
  refine ⟨_, resC1 H69 (hk := by rw [List.length_cons, kindF_len]), ⟨isV, rfl, ?_⟩, H69.kept⟩
  rcases hval with ⟨e, rfl⟩ | ⟨e, rfl⟩ | ⟨e, rfl⟩ | ⟨e, rfl⟩ | ⟨e, rfl⟩ <;> rw [e]
  ·exact pred_plain (by first | exact H69.obj At0 | exact H69.obj At2 | exact H69.obj At4 | exact H69.obj At1 | exact H69.obj At3 | exact H69.obj At5 | exact H69.obj At6 | exact H69.obj At7) (by first | exact H69.obj At0 | exact H69.obj At2 | exact H69.obj At4 | exact H69.obj At1 | exact H69.obj At3 | exact H69.obj At5 | exact H69.obj At6 | exact H69.obj At7) (fun c => rfl)
  ·exact pred_plain (by first | exact H69.obj At0 | exact H69.obj At2 | exact H69.obj At4 | exact H69.obj At1 | exact H69.obj At3 | exact H69.obj At5 | exact H69.obj At6 | exact H69.obj At7) (by first | exact H69.obj At0 | exact H69.obj At2 | exact H69.obj At4 | exact H69.obj At1 | exact H69.obj At3 | exact H69.obj At5 | exact H69.obj At6 | exact H69.obj At7) (fun c => rfl)
  ·exact pred_plain (by first | exact H69.obj At0 | exact H69.obj At2 | exact H69.obj At4 | exact H69.obj At1 | exact H69.obj At3 | exact H69.obj At5 | exact H69.obj At6 | exact H69.obj At7) (by first | exact H69.obj At0 | exact H69.obj At2 | exact H69.obj At4 | exact H69.obj At1 | exact H69.obj At3 | exact H69.obj At5 | exact H69.obj At6 | exact H69.obj At7) (fun c => rfl)
  ·exact pred_text (by first | exact H69.obj At7 | exact H69.obj At6 | exact H69.obj At5 | exact H69.obj At4) (hT.keep H69.kept)
  exact pred_size
 refine step_alloc hok10 14 [(12, true), (11, false), (10, true), (9, true), (6, true), (3, true), (0, true)] H12 (h := fun b5 w72 H72 => ⟨Stab_pure (Stab_load H72 (h := Stab_pure (Stab_pure (Stab_pure (Stab_pure (Stab_pure (Stab_nil))))))), ?_⟩)
 refine FGcallV hok10 1 [(12, true), (11, false), (10, true), (9, true), (6, true), (3, true)] (y := .tmp 6) (f := 206) (fs := []) (cs := []) (vals := [I 0, I 1]) rfl (plain_ok 0 1) (h := fun v' w74 hv => ?_)
 obtain ⟨p1, q1, rfl, hkk, F', hq, hsub⟩ := hv
 have H74 := (H72.new hkk hq fun b hb => (hsub b hb).resolve_left id).star0
 refine ⟨Stab_pure (Stab_load H74 (h := Stab_pure (Stab_pure (Stab_pure (Stab_pure (Stab_nil)))))), ?_⟩
 refine Gp hok10 2 rfl rfl (fun _ => (Gives.build (out := (plainV p1 q1) :: kF1) (Fills.one rfl rfl rfl (by simp) rfl (Fills.one rfl rfl rfl (by simp) rfl (Fills.one rfl rfl rfl (by simp) rfl (Fills.one rfl rfl rfl (by simp) rfl (Fills.one rfl rfl rfl (by simp) rfl Fills.nil))))))) (FGcallV hok10 4 [(2, true), (12, true), (11, false), (10, true), (9, true), (6, true)] (y := .tmp 9) (f := 206) (fs := []) (cs := []) (vals := [I (-2147483648), I 2147483647]) rfl (plain_ok (-2147483648) 2147483647) (h := fun v' w77 hv => ?_))
 obtain ⟨p2, q2, rfl, hkk, F', hq, hsub⟩ := hv
 have H77 := (H74.new hkk hq fun b hb => (hsub b hb).resolve_left id).star0
 refine ⟨Stab_pure (Stab_pure (Stab_load H77 (h := Stab_pure (Stab_pure (Stab_pure (Stab_nil)))))), ?_⟩
 refine Gp hok10 5 rfl rfl (fun _ => (Gives.build (out := (plainV p2 q2) :: kF2) (Fills.one rfl rfl rfl (by simp) rfl (Fills.one rfl rfl rfl (by simp) rfl (Fills.one rfl rfl rfl (by simp) rfl (Fills.one rfl rfl rfl (by simp) rfl (Fills.one rfl rfl rfl (by simp) rfl Fills.nil))))))) (FGcallV hok10 7 [(5, true), (2, true), (12, true), (11, false), (10, true), (9, true)] (y := .tmp 12) (f := 206) (fs := []) (cs := []) (vals := [I (-9223372036854775808), I 9223372036854775807]) rfl (plain_ok (-9223372036854775808) 9223372036854775807) (h := fun v' w80 hv => ?_))
 obtain ⟨p3, q3, rfl, hkk, F', hq, hsub⟩ := hv
 have H80 := (H77.new hkk hq fun b hb => (hsub b hb).resolve_left id).star0
 refine ⟨Stab_pure (Stab_pure (Stab_pure (Stab_load H80 (h := Stab_pure (Stab_pure (Stab_nil)))))), ?_⟩
 refine Gp hok10 8 rfl rfl (fun _ => (Gives.build (out := (plainV p3 q3) :: kF2) (Fills.one rfl rfl rfl (by simp) rfl (Fills.one rfl rfl rfl (by simp) rfl (Fills.one rfl rfl rfl (by simp) rfl (Fills.one rfl rfl rfl (by simp) rfl (Fills.one rfl rfl rfl (by simp) rfl Fills.nil))))))) (Gp hok10 13 rfl rfl (fun _ => (Gives.buildA (out := kindRows p1 q1 p2 q2 p3 q3 b2) rfl (kind_fill rfl rfl rfl rfl rfl rfl rfl rfl rfl rfl))) ?_)
 refine FGstoreAll hok10 15 [] H80 (h := fun w84 H84 => ⟨Stab_nil, ?_⟩)
 refine FG_end hok10 (by kernel_rfl) ?_
 refine Qseq_normal (Sr ?_)
 have htn : ((t.kind.toNat : Nat) : Int) = t.kind := Int.toNat_of_nonneg (by omega)
 obtain ⟨isV, hval, hone, hrow⟩ : ∃ isV : Value, ((t.kind = 1 ∧ isV = plainV p1 q1) ∨ (t.kind = 2 ∧ isV = plainV p2 q2) ∨ (t.kind = 3 ∧ isV = plainV p3 q3) ∨ (t.kind = 4 ∧ isV = Value.func (.func 217) #[] #[.pointer (some ⟨b2, 0, none⟩)]) ∨ (t.kind = 5 ∧ isV = funcV 208)) ∧ isV.oneCell' = true ∧ ((kindRows p1 q1 p2 q2 p3 q3 b2).drop (0 + t.kind.toNat * 5)).take 5 = isV :: kindF t.kind := by
  rcases (by omega : t.kind = 1 ∨ t.kind = 2 ∨ t.kind = 3 ∨ t.kind = 4 ∨ t.kind = 5) with e | e | e | e | e <;> rw [e]
  ·exact ⟨_, .inl ⟨rfl, rfl⟩, rfl, rfl⟩
  ·exact ⟨_, .inr (.inl ⟨rfl, rfl⟩), rfl, rfl⟩
  ·exact ⟨_, .inr (.inr (.inl ⟨rfl, rfl⟩)), rfl, rfl⟩
  ·exact ⟨_, .inr (.inr (.inr (.inl ⟨rfl, rfl⟩))), rfl, rfl⟩
  exact ⟨_, .inr (.inr (.inr (.inr ⟨rfl, rfl⟩))), rfl, rfl⟩
 refine Vf ?_
 refine Ld H84 ?_
 refine Vv (Gives.idxArr (i := t.kind.toNat) rfl (by rw [htn]; rfl) (by omega)) ?_
 refine FL_loadN (us := isV :: kindF t.kind) (o := 0 + t.kind.toNat * 5) (b := b5) H84 (hx := by rw [← Addr.add_lit]; rfl) (hat := by first | exact At0 | exact At1 | exact At2 | exact At3 | exact At4 | exact At5 | exact At6 | exact At7 | exact At8 | exact At9) (hu := hrow) (hk := by rw [List.length_cons, kindF_len]) (h := ?_)
 refine FL_storeAll H84 (us := isV :: kindF t.kind) (hk := by rw [List.length_cons, kindF_len]) (hv := by rw [List.all_cons, hone, kindF_one]; rfl) (h := fun w90 H90 => ?_)
 refine Qn (FW_ret (QfnC_ret (h := ?_)))
 refine ⟨_, resC1 H90 (hk := by rw [List.length_cons, kindF_len]), ⟨isV, rfl, ?_⟩, H90.kept⟩
 rcases hval with ⟨e, rfl⟩ | ⟨e, rfl⟩ | ⟨e, rfl⟩ | ⟨e, rfl⟩ | ⟨e, rfl⟩ <;> rw [e]
 ·exact pred_plain (by first | exact H90.obj At0 | exact H90.obj At2 | exact H90.obj At4 | exact H90.obj At1 | exact H90.obj At3 | exact H90.obj At5 | exact H90.obj At6 | exact H90.obj At7) (by first | exact H90.obj At0 | exact H90.obj At2 | exact H90.obj At4 | exact H90.obj At1 | exact H90.obj At3 | exact H90.obj At5 | exact H90.obj At6 | exact H90.obj At7) (fun c => rfl)
 ·exact pred_plain (by first | exact H90.obj At0 | exact H90.obj At2 | exact H90.obj At4 | exact H90.obj At1 | exact H90.obj At3 | exact H90.obj At5 | exact H90.obj At6 | exact H90.obj At7) (by first | exact H90.obj At0 | exact H90.obj At2 | exact H90.obj At4 | exact H90.obj At1 | exact H90.obj At3 | exact H90.obj At5 | exact H90.obj At6 | exact H90.obj At7) (fun c => rfl)
 ·exact pred_plain (by first | exact H90.obj At0 | exact H90.obj At2 | exact H90.obj At4 | exact H90.obj At1 | exact H90.obj At3 | exact H90.obj At5 | exact H90.obj At6 | exact H90.obj At7) (by first | exact H90.obj At0 | exact H90.obj At2 | exact H90.obj At4 | exact H90.obj At1 | exact H90.obj At3 | exact H90.obj At5 | exact H90.obj At6 | exact H90.obj At7) (fun c => rfl)
 ·exact pred_text (by first | exact H90.obj At7 | exact H90.obj At6 | exact H90.obj At5 | exact H90.obj At4) (hT.keep H90.kept)
 exact pred_size
end
attribute [local irreducible] mayT isP kindF
section
variable {w : World}
theorem mayT_iff {t : TypeM} : mayT t = true ↔ 1 ≤ t.kind ∧ t.kind ≤ 5 := by unfold mayT; exact decide_eq_true_iff
theorem cellCheck_ok (t : TypeM) (c : CellM) (hf : fits c.n) (hT : TabsU w) : Rets Tryz.prog 102 [agg (typeCells t), agg (cellCells c)] w fun v w' => v = I (checkC t c) ∧ Kept noB w w' := by
 have H := Sep.start0 w
 obtain ⟨res, hres⟩ : ∃ res, res = checkC t c := ⟨_, rfl⟩
 rw [← hres]
 unfold checkC at hres
 refine rets2 Tryz.func102 rfl rfl rfl rfl ?_
 refine Sr (FL_box H (cs := typeCells t) rfl (h := fun b0 w2 H2 k0 => ?_))
 refine FL_box H2 (cs := cellCells c) rfl (h := fun b1 w4 H4 k1 => ?_)
 refine Am ?_
 refine Qn (FW_seq (FW_block (Sr (FL_loadAll H4 (h := ?_)))))
 refine FL_callQ H4 (cellMay_ok t) (h := fun w8 H8 k7 => ?_)
 refine Vv (Gives.not rfl) (Am ?_)
 refine Qn (Cd rfl (fun hc11 => ?_) (fun hc11 => ?_))
 ·have hm : mayT t = false := by have h := hc11; revert h; cases mayT t <;> simp
  rw [if_pos hm] at hres
  refine Sr (Am ?_)
  refine Qn (Rb (Qfn_ret (hR := ?_)))
  exact ⟨by rw [hres]; rfl, H8.kept⟩
 have hm : mayT t = true := by have h := hc11; revert h; cases mayT t <;> simp
 rw [if_neg (by rw [hm]; simp)] at hres
 obtain ⟨h1, h5⟩ := mayT_iff.1 hm
 refine FW_seq (Sr (Vf ?_))
 refine Ld H8 ?_
 refine Mv ?_
 refine FL_split (t := 12) rfl (fun hs19 => ?_) (fun hs19 => ?_)
 ·have hnull : c.null = true := hs19
  rw [if_pos hnull] at hres
  refine On (Vf ?_)
  refine On (Ld H8 ?_)
  refine On (Vv (Gives.not rfl) (On ?_))
  refine Mv ?_
  refine FL_split (t := 16) rfl (fun hs25 => ?_) (fun hs25 => ?_)
  ·have htn : t.null = false := by have h := hs25; revert h; cases t.null <;> simp
   rw [if_neg (by rw [htn]; simp)] at hres
   refine Of (Of (Of (On (Pt ?_))))
   refine Pt ?_
   refine Am ?_
   refine Qn (FW_cond_true rfl ?_)
   refine Sk (FW_cond_true rfl ?_)
   refine Sr (Am ?_)
   refine Qn (Rb (Qfn_ret (hR := ?_)))
   exact ⟨by rw [hres]; rfl, H8.kept⟩
  have htn : t.null = true := by have h := hs25; revert h; cases t.null <;> simp
  refine On (FL_loadAll H8 (h := ?_))
  refine On (Vv (Gives.build (out := cellCells cellNull) (Fills.one rfl rfl rfl (by simp) rfl Fills.nil)) (On ?_))
  refine Vv (Gives.neqG (enc := cellCells) _ _ rfl rfl) (On ?_)
  refine Pf ?_
  refine Pt ?_
  refine Am ?_
  refine Qn (Cp rfl (fun hc39 => ?_) (fun hc39 => ?_))
  ·rw [if_neg (fun h => hc39 h.2)] at hres
   refine Sk (FW_cond_true (congrArg Value.bool (decide_eq_true hc39)) ?_)
   refine Sr (Am ?_)
   refine Qn (Rb (Qfn_ret (hR := ?_)))
   exact ⟨by rw [hres]; rfl, H8.kept⟩
  rw [if_pos ⟨htn, Classical.not_not.1 hc39⟩] at hres
  refine FW_drawS rfl H8 (h := fun hok44 w46 H46 => ?_)
  refine Gp hok44 0 rfl rfl (fun _ => (Gives.field0 rfl)) (FGload hok44 1 H46 (h := ?_))
  refine Gp hok44 2 rfl rfl (fun _ => (Gives.not rfl)) (Gm hok44 3 ?_)
  refine FG_split (t := 25) rfl (fun hs50 => ?_) (fun hs50 => ?_)
  ·exact absurd hs50 (by rw [hnull]; simp)
  refine FGoff hok44 4 rfl rfl (by kernel_rfl) ?_
  refine FGoff hok44 7 rfl rfl (by kernel_rfl) ?_
  refine FGoff hok44 5 rfl rfl (by kernel_rfl) ?_
  refine FGoff hok44 6 rfl rfl (by kernel_rfl) ?_
  refine FGoff hok44 8 rfl rfl (by kernel_rfl) ?_
  refine FGoff hok44 9 rfl rfl (by kernel_rfl) ?_
  refine Gp hok44 10 rfl rfl (fun _ => Gives.pickF rfl rfl) (Gp hok44 11 rfl rfl (fun _ => Gives.assign rfl) ?_)
  refine FG_end hok44 (by kernel_rfl) ?_
  refine Qseq_normal (FW_cond_false rfl ?_)
  refine FW_skip (Qblk_normal (Qseq_normal (Sr (Am ?_))))
  refine Qn (FW_ret (Qfn_ret (hR := ?_)))
  exact ⟨by rw [hres]; rfl, H46.kept⟩
 have hnull : ¬ c.null = true := by have h := hs19; simpa using h
 rw [if_neg hnull, ← isP_eq hf] at hres
 refine Of (Of (Of (Of (Ou (Ou (Ou (Of (Pf ?_))))))))
 refine Am ?_
 refine Qn (FW_cond_false rfl ?_)
 refine FW_drawS rfl H8 (h := fun hok59 w61 H61 => ?_)
 refine Gp hok59 0 rfl rfl (fun _ => (Gives.field0 rfl)) (FGload hok59 1 H61 (h := ?_))
 refine Gp hok59 2 rfl rfl (fun _ => (Gives.not rfl)) (Gm hok59 3 ?_)
 refine FG_split (t := 25) rfl (fun hs65 => ?_) (fun hs65 => ?_)
 ·refine FGloadAll hok59 4 H61 (h := ?_)
  refine FGloadAll hok59 7 H61 (h := ?_)
  refine FGcall hok59 5 [(7, false)] rfl (by kernel_rfl) (of_ok t h1 h5 (hT.keep H61.kept)) rfl (by kernel_rfl) (by kernel_rfl) (fun v' w69 hv => ?_)
  obtain ⟨⟨isF, rfl, hp⟩, hkk⟩ := hv
  obtain ⟨f, fs, cs, rfl, hen, hcall⟩ := hp
  have H69 := H61.keep hkk
  refine ⟨(Stab_cons rfl (by kernel_rfl) (Gives.loadN rfl (H69.obj At0) (us := cellCells c) rfl rfl) rfl (Stab_nil)), ?_⟩
  refine Gp hok59 6 rfl rfl (fun _ => (Gives.fieldOf1 rfl rfl)) (FGcallV hok59 8 [] (y := .tmp 28) (f := f) (fs := fs) (cs := cs) (vals := [agg (cellCells c)]) rfl (hcall c _ (Kept.refl _ _)) (h := fun v' w72 hv => ?_))
  obtain ⟨rfl, hkk2⟩ := hv
  have H72 := H69.keep hkk2
  refine ⟨Stab_nil, ?_⟩
  refine Gp hok59 9 rfl rfl (fun _ => (Gives.not rfl)) (Gp hok59 10 rfl rfl (fun _ => Gives.pickT rfl rfl) ?_)
  refine Gp hok59 11 rfl rfl (fun _ => Gives.assign rfl) (FG_end hok59 (by kernel_rfl) ?_)
  refine Qseq_normal (Cd rfl (fun hc76 => ?_) (fun hc76 => ?_))
  ·rw [if_neg (by have h := hc76; revert h; cases isP t.kind c <;> simp)] at hres
   refine Sr (Am ?_)
   refine Qn (Rb (Qfn_ret (hR := ?_)))
   exact ⟨by rw [hres]; rfl, H72.kept⟩
  rw [if_pos (by have h := hc76; revert h; cases isP t.kind c <;> simp)] at hres
  refine FW_skip (Qblk_normal (Qseq_normal (Sr (Am ?_))))
  refine Qn (FW_ret (Qfn_ret (hR := ?_)))
  exact ⟨by rw [hres]; rfl, H72.kept⟩
 exact absurd (show c.null = true by have h := hs65; revert h; cases c.null <;> simp) hnull
end
end Go.Proofs.YtolaedhdjcnijaaGreatDoor
namespace Go.Mw
open Go.RowKit
section gives
variable {P : Program} {ρ : Operand → Value} {ty : TypeId} {w : World} {x y : Operand} {T U : TypeId} {k : IntKind} {a b : Int}
theorem Gives.andNot (hx : ρ x = .int k a) (hy : ρ y = .int k b) : Gives P ρ (.binOp .andNot T x y U) ty w (.int k (bits .andNot k a b)) w := .bin hx hy (fun _ _ => rfl) (by rw [binOp_andNot]; rfl)
end gives
end Go.Mw
namespace Go.Proofs.YtolaedhdjcnijaaGreatDoor
open Go Go.Mw Go.Lib
set_option maxRecDepth 4000
theorem nat_andNot1 {y : Nat} (hy : y < 18446744073709551616) : y &&& 18446744073709551614 = 0 ↔ y ≤ 1 := by
 constructor
 ·intro h
  have h1 := Nat.and_div_two (a := y) (b := 18446744073709551614)
  rw [h, show 18446744073709551614 / 2 = 2 ^ 63 - 1 by decide, Nat.and_two_pow_sub_one_eq_mod] at h1
  have h2 : y / 2 % 2 ^ 63 = y / 2 := Nat.mod_eq_of_lt (by omega)
  omega
 intro h
 rcases (by omega : y = 0 ∨ y = 1) with rfl | rfl <;> decide
theorem andNot1 {n : Int} (hf : fits n) : bits .andNot .i64 n 1 = 0 ↔ 0 ≤ n ∧ n ≤ 1 := by
 obtain ⟨h0, h1⟩ := hf
 show IntKind.i64.wrap ((BitVec.ofInt 64 n &&& ~~~BitVec.ofInt 64 1).toNat : Int) = 0 ↔ _
 have e1 : (BitVec.ofInt 64 1).toNat = 1 := by decide
 have e2 : (BitVec.ofInt 64 n).toNat = (n % 18446744073709551616).toNat := BitVec.toNat_ofInt n
 have hlt : (n % 18446744073709551616).toNat < 18446744073709551616 := by omega
 rw [BitVec.toNat_and, BitVec.toNat_not, e1, e2, show 2 ^ 64 - 1 - 1 = 18446744073709551614 by decide, IntKind.wrap_i64]
 have hle : (n % 18446744073709551616).toNat &&& 18446744073709551614 ≤ (n % 18446744073709551616).toNat := Nat.and_le_left
 have key := nat_andNot1 hlt
 constructor
 ·intro h
  have : (n % 18446744073709551616).toNat &&& 18446744073709551614 = 0 := by omega
  have := key.1 this
  omega
 intro h
 rw [key.2 (by omega)]
 decide
theorem check_text {s : List UInt8} : checkC ⟨4, false⟩ ⟨false, 0, s⟩ = 0 ↔ s.length ≤ 1024 ∧ validD s = true := by
 have e : checkC ⟨4, false⟩ ⟨false, 0, s⟩ = if decide ((0 : Int) = 0 ∧ s.length ≤ 1024 ∧ validD s = true) = true then 0 else 90 := rfl
 rw [e]
 by_cases h : s.length ≤ 1024 ∧ validD s = true
 ·rw [if_pos (decide_eq_true ⟨rfl, h⟩)]; exact ⟨fun _ => h, fun _ => rfl⟩
 rw [if_neg (by rw [decide_eq_true_eq]; exact fun e => h e.2)]
 exact ⟨fun e => absurd e (by decide), fun e => absurd e h⟩
theorem check_bytes {s : List UInt8} : checkC ⟨5, false⟩ ⟨false, 0, s⟩ = 0 ↔ s.length ≤ 1024 := by
 have e : checkC ⟨5, false⟩ ⟨false, 0, s⟩ = if decide ((0 : Int) = 0 ∧ s.length ≤ 1024) = true then 0 else 90 := rfl
 rw [e]
 by_cases h : s.length ≤ 1024
 ·rw [if_pos (decide_eq_true ⟨rfl, h⟩)]; exact ⟨fun _ => h, fun _ => rfl⟩
 rw [if_neg (by rw [decide_eq_true_eq]; exact fun e => h e.2)]
 exact ⟨fun e => absurd e (by decide), fun e => absurd e h⟩
theorem fits0 : fits 0 := ⟨by decide, by decide⟩
theorem nullW_ne {k : Int} : nullW k ≠ [] ↔ k = 1 ∨ (3 ≤ k ∧ k ≤ 5) := by
 unfold nullW
 split
 ·simp [*]
 split
 ·simp [*]
 split
 ·simp [*]
 split
 ·simp [*]
 simp; omega
attribute [local irreducible] checkC nullW
section
variable {w : World}
theorem may_ok (x : StepM) (hf : fits x.n) (hT : TabsU w) : Rets Tryz.prog 65 [agg (stepCells x)] w fun v w' => v = .bool (mayS x) ∧ Kept noB w w' := by
 have H := Sep.start0 w
 obtain ⟨res, hres⟩ : ∃ res, res = mayS x := ⟨_, rfl⟩
 rw [← hres]
 unfold mayS at hres
 refine rets1 Tryz.func65 rfl rfl rfl rfl ?_
 refine Sr (FL_box H (cs := stepCells x) rfl (h := fun b0 w2 H2 k0 => ?_))
 refine Am ?_
 refine Qn (FW_seq (FW_drawS rfl H2 (h := fun hok4 w6 H6 => ?_)))
 refine Gp hok4 0 rfl rfl (fun _ => (Gives.field0 rfl)) (FGload hok4 1 H6 (h := ?_))
 refine Gp hok4 2 rfl rfl (fun _ => (Gives.eqlT rfl rfl)) (Gp hok4 3 rfl rfl (fun _ => (Gives.field0 rfl)) ?_)
 refine FGload hok4 4 H6 (h := ?_)
 refine Gp hok4 5 rfl rfl (fun _ => (Gives.eql rfl rfl)) (Gp hok4 6 rfl rfl (fun _ => Gives.assign rfl) ?_)
 refine Gp hok4 7 rfl rfl (fun _ => Gives.assign rfl) (FG_end hok4 (by kernel_rfl) ?_)
 refine Qseq_normal (FW_seq (Sr (Vf ?_)))
 refine Ld H6 ?_
 refine Qn (FW_block (Sr (Ve ?_)))
 refine Am ?_
 refine Qn (Cp rfl (fun hc19 => ?_) (fun hc19 => ?_))
 ·rw [if_pos hc19] at hres
  refine Sr (Mv ?_)
  refine Mv ?_
  refine FL_splitP (t := 16) rfl (fun hs23 => ?_) (fun hs23 => ?_)
  ·have hA := hs23
   refine On (Vf ?_)
   refine On (Ld H6 ?_)
   refine On (Vv (Gives.geq rfl rfl) (Pt ?_))
   refine Mv ?_
   refine FL_splitP (t := 21) rfl (fun hs30 => ?_) (fun hs30 => ?_)
   ·have hB := hs30
    refine On (Vf ?_)
    refine On (Ld H6 ?_)
    refine On (Vv (Gives.leq rfl rfl) (Pt ?_))
    refine Am ?_
    refine Qn (Rb (Qfn_ret (hR := ?_)))
    exact ⟨congrArg Value.bool (by rw [hres]; exact decide_eq_decide.2 ⟨fun h => ⟨hA, hB, h⟩, fun h => h.2.2⟩), H6.kept⟩
   have hB := hs30
   refine Of (Of (Of (Pf ?_)))
   refine Am ?_
   refine Qn (Rb (Qfn_ret (hR := ?_)))
   exact ⟨congrArg Value.bool (by rw [hres]; exact Eq.symm (decide_eq_false fun h => hB h.2.1)), H6.kept⟩
  have hA := hs23
  refine Of (Of (Of (Pf ?_)))
  refine Mv ?_
  refine Of (Of (Of (Pf ?_)))
  refine Am ?_
  refine Qn (Rb (Qfn_ret (hR := ?_)))
  exact ⟨congrArg Value.bool (by rw [hres]; exact Eq.symm (decide_eq_false fun h => hA h.1)), H6.kept⟩
 rw [if_neg hc19] at hres
 refine Sr (Ve ?_)
 refine Am ?_
 refine Qn (Cp rfl (fun hc51 => ?_) (fun hc51 => ?_))
 ·rw [if_pos hc51] at hres
  refine Sr (Mv ?_)
  refine Am ?_
  refine Qn (Rb (Qfn_ret (hR := ?_)))
  exact ⟨by rw [hres]; rfl, H6.kept⟩
 rw [if_neg hc51] at hres
 refine Sr (Ve ?_)
 refine Am ?_
 refine Qn (Cp rfl (fun hc59 => ?_) (fun hc59 => ?_))
 ·rw [if_pos hc59] at hres
  refine Sr (Mv ?_)
  refine Mv ?_
  refine FL_splitP (t := 32) rfl (fun hs63 => ?_) (fun hs63 => ?_)
  ·have hA := hs63
   refine On (Vf ?_)
   refine On (Ld H6 ?_)
   refine On (Vv (Gives.andNot rfl rfl) (On ?_))
   refine Ve ?_
   refine Pt ?_
   refine Am ?_
   refine Qn (Rb (Qfn_ret (hR := ?_)))
   exact ⟨congrArg Value.bool (by rw [hres]; exact decide_eq_decide.2 ⟨fun h => ⟨hA, (andNot1 hf).1 h⟩, fun h => (andNot1 hf).2 h.2⟩), H6.kept⟩
  have hA := hs63
  refine Of (Of (Of (Of (Pf ?_))))
  refine Am ?_
  refine Qn (Rb (Qfn_ret (hR := ?_)))
  exact ⟨congrArg Value.bool (by rw [hres]; exact Eq.symm (decide_eq_false fun h => hA h.1)), H6.kept⟩
 rw [if_neg hc59] at hres
 refine Sr (Ve ?_)
 refine Am ?_
 refine Qn (Cp rfl (fun hc79 => ?_) (fun hc79 => ?_))
 ·rw [if_pos hc79] at hres
  refine Sr (Mv ?_)
  refine Mv ?_
  refine FL_splitP (t := 41) rfl (fun hs83 => ?_) (fun hs83 => ?_)
  ·have hA := hs83
   refine On (Vv (Gives.build (out := typeCells ⟨4, false⟩) (Fills.one rfl rfl rfl (by simp) rfl Fills.nil)) (On ?_))
   refine Vf ?_
   refine On (Ld H6 ?_)
   refine On (Vv (Gives.build (out := cellCells ⟨false, 0, x.s⟩) (Fills.one rfl rfl rfl (by simp) rfl Fills.nil)) (On ?_))
   refine FL_callQ H6 (cellCheck_ok ⟨4, false⟩ ⟨false, 0, x.s⟩ fits0 (hT.keep H6.kept)) (h := fun w90 H90 k89 => ?_)
   refine On (Ve ?_)
   refine Pt ?_
   refine Am ?_
   refine Qn (Rb (Qfn_ret (hR := ?_)))
   exact ⟨congrArg Value.bool (by rw [hres]; exact decide_eq_decide.2 ⟨fun h => ⟨hA, check_text.1 h⟩, fun h => check_text.2 h.2⟩), H90.kept⟩
  have hA := hs83
  refine Of (Of (Of (Of (Of (Of (Pf ?_))))))
  refine Am ?_
  refine Qn (Rb (Qfn_ret (hR := ?_)))
  exact ⟨congrArg Value.bool (by rw [hres]; exact Eq.symm (decide_eq_false fun h => hA h.1)), H6.kept⟩
 rw [if_neg hc79] at hres
 refine Sr (Ve ?_)
 refine Am ?_
 refine Qn (Cp rfl (fun hc102 => ?_) (fun hc102 => ?_))
 ·rw [if_pos hc102] at hres
  refine Sr (Mv ?_)
  refine Mv ?_
  refine FL_splitP (t := 52) rfl (fun hs106 => ?_) (fun hs106 => ?_)
  ·have hA := hs106
   refine On (Vv (Gives.build (out := typeCells ⟨5, false⟩) (Fills.one rfl rfl rfl (by simp) rfl Fills.nil)) (On ?_))
   refine Vf ?_
   refine On (Ld H6 ?_)
   refine On (Vv (Gives.build (out := cellCells ⟨false, 0, x.s⟩) (Fills.one rfl rfl rfl (by simp) rfl Fills.nil)) (On ?_))
   refine FL_callQ H6 (cellCheck_ok ⟨5, false⟩ ⟨false, 0, x.s⟩ fits0 (hT.keep H6.kept)) (h := fun w113 H113 k112 => ?_)
   refine On (Ve ?_)
   refine Pt ?_
   refine Am ?_
   refine Qn (Rb (Qfn_ret (hR := ?_)))
   exact ⟨congrArg Value.bool (by rw [hres]; exact decide_eq_decide.2 ⟨fun h => ⟨hA, check_bytes.1 h⟩, fun h => check_bytes.2 h.2⟩), H113.kept⟩
  have hA := hs106
  refine Of (Of (Of (Of (Of (Of (Pf ?_))))))
  refine Am ?_
  refine Qn (Rb (Qfn_ret (hR := ?_)))
  exact ⟨congrArg Value.bool (by rw [hres]; exact Eq.symm (decide_eq_false fun h => hA h.1)), H6.kept⟩
 rw [if_neg hc102] at hres
 refine Sr (Ve ?_)
 refine Am ?_
 refine Qn (Cp rfl (fun hc125 => ?_) (fun hc125 => ?_))
 ·rw [if_pos hc125] at hres
  refine Sr (Mv ?_)
  refine Mv ?_
  refine FL_splitP (t := 63) rfl (fun hs129 => ?_) (fun hs129 => ?_)
  ·have hA := hs129
   refine On (Vf ?_)
   refine On (Ld H6 ?_)
   refine On (FL_callQ H6 (null_ok x.n) (h := fun w134 H134 k133 => ?_))
   refine On (Vv (Gives.neqT rfl rfl) (Pt ?_))
   refine Mv ?_
   refine FL_splitP (t := 69) rfl (fun hs138 => ?_) (fun hs138 => ?_)
   ·have hB := hs138
    refine On (Vf ?_)
    refine On (Ld H134 ?_)
    refine On (Vf ?_)
    refine On (Ld H134 ?_)
    refine On (Ve ?_)
    refine Pt ?_
    refine Am ?_
    refine Qn (Rb (Qfn_ret (hR := ?_)))
    exact ⟨congrArg Value.bool (by rw [hres]; exact decide_eq_decide.2 ⟨fun _ => ⟨hA, nullW_ne.1 hB⟩, fun _ => trivial⟩), H134.kept⟩
   have hB := hs138
   refine Of (Of (Of (Of (Of (Pf ?_)))))
   refine Am ?_
   refine Qn (Rb (Qfn_ret (hR := ?_)))
   exact ⟨congrArg Value.bool (by rw [hres]; exact Eq.symm (decide_eq_false fun h => hB (nullW_ne.2 h.2))), H134.kept⟩
  have hA := hs129
  refine Of (Of (Of (Of (Pf ?_))))
  refine Mv ?_
  refine Of (Of (Of (Of (Of (Pf ?_)))))
  refine Am ?_
  refine Qn (Rb (Qfn_ret (hR := ?_)))
  exact ⟨congrArg Value.bool (by rw [hres]; exact Eq.symm (decide_eq_false fun h => hA h.1)), H6.kept⟩
 rw [if_neg hc125] at hres
 refine FW_skip (Qblk_normal (Qseq_normal (Sr (Vf ?_))))
 refine Ld H6 ?_
 refine Vv (Gives.geq rfl rfl) (Mv ?_)
 refine FL_splitP (t := 79) rfl (fun hs163 => ?_) (fun hs163 => ?_)
 ·have hA := hs163
  refine On (Vf ?_)
  refine On (Ld H6 ?_)
  refine On (Vv (Gives.leq rfl rfl) (Pt ?_))
  refine Mv ?_
  refine FL_splitP (t := 84) rfl (fun hs170 => ?_) (fun hs170 => ?_)
  ·have hB := hs170
   refine On (Mv ?_)
   refine Pt ?_
   refine Mv ?_
   refine FL_splitP (t := 87) rfl (fun hs175 => ?_) (fun hs175 => ?_)
   ·have hC := hs175
    refine On (Mv ?_)
    refine Pt ?_
    refine Am ?_
    refine Qn (FW_ret (Qfn_ret (hR := ?_)))
    exact ⟨congrArg Value.bool (by rw [hres]; exact decide_eq_decide.2 ⟨fun h => ⟨hA, hB, h, hC⟩, fun h => h.2.2.1⟩), H6.kept⟩
   have hC := hs175
   refine Of (Pf ?_)
   refine Am ?_
   refine Qn (FW_ret (Qfn_ret (hR := ?_)))
   exact ⟨congrArg Value.bool (by rw [hres]; exact Eq.symm (decide_eq_false fun h => hC h.2.2.2)), H6.kept⟩
  have hB := hs170
  refine Of (Pf ?_)
  refine Mv ?_
  refine Of (Pf ?_)
  refine Am ?_
  refine Qn (FW_ret (Qfn_ret (hR := ?_)))
  exact ⟨congrArg Value.bool (by rw [hres]; exact Eq.symm (decide_eq_false fun h => hB h.2.1)), H6.kept⟩
 have hA := hs163
 refine Of (Of (Of (Pf ?_)))
 refine Mv ?_
 refine Of (Pf ?_)
 refine Mv ?_
 refine Of (Pf ?_)
 refine Am ?_
 refine Qn (FW_ret (Qfn_ret (hR := ?_)))
 exact ⟨congrArg Value.bool (by rw [hres]; exact Eq.symm (decide_eq_false fun h => hA h.1)), H6.kept⟩
end
end Go.Proofs.YtolaedhdjcnijaaGreatDoor
