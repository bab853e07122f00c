/-
 The place of a column, the type of what a step puts, walked.
-/
import Derived.Test.YtolaedhdjcnijaaGreatDoorKt12
import Derived.Test.YtolaedhdjcnijaaGreatDoorShelf
set_option linter.unusedVariables false
set_option linter.unusedSimpArgs false
namespace Go.Mw
open Go.RowKit
section gives
variable {P : Program} {ρ : Operand → Value} {ty : TypeId} {w : World}
theorem Gives.buildA {T e : TypeId} {n size bytes : Nat} [ha : IsArray P T n e] [hc : Cells P e size bytes] {z : Value} [hz : Zero P T z] {zs : List Value} {parts : List (Nat × Operand)} {out : List Value} (hzs : z.cells = zs.toArray) (h : Fills (fun i : Nat => some (i * size, size)) ρ parts zs out) :
    Gives P ρ (.build T parts.toArray) ty w (.agg out.toArray) w := fun _ _ _ _ => by
  obtain ⟨i, hi, hsb⟩ := Option.map_eq_some_iff.1 hc.size
  simp only [Prod.mk.injEq] at hsb
  have hf := fill_of h
  simp only [execOp, Instr.build, Sem.run_bind, hz.run, Result.andThen_ok, run_underlying ha.und, sizeOf, typeInfo, hi, hzs, Sem.run_pure, List.map_toArray, hsb.1]
  have hf' : Instr.fill (fun i => some (i * size, size)) zs.toArray (List.map (fun x => (x.fst, ρ x.snd)) parts) = some out.toArray := hf
  simp [hi, hsb.1, hf']
end gives
end Go.Mw
namespace Go.Proofs.YtolaedhdjcnijaaGreatDoor
open Go Go.Mw Go.Lib
set_option maxRecDepth 4000
section
variable {w : World}
theorem find1_ok {b : Nat} {E : TypeId} (c : ColM) (n : Int) (hb : w.heap[b]? = some (.cells #[I n] E (0, 0))) : Rets Tryz.prog 153 [agg (colCells c), .pointer (some ⟨b, 0, none⟩)] w fun v w' => v = .bool (decide (c.id = n)) ∧ Kept noB w w' := by
 have H := Sep.start0 w
 refine rets2 Tryz.func153 rfl rfl rfl rfl ?_
 refine Sr (FL_box H (cs := colCells c) rfl (h := fun b0 w2 H2 k0 => ?_))
 refine Am ?_
 refine Nx (Vf ?_)
 refine Ld H2 ?_
 refine FL_loadB (cs := [I n]) (H2.kept.get hb id) (h := ?_)
 refine Ve ?_
 refine Am ?_
 refine Qn (FW_ret (Qfn_ret (hR := ?_)))
 exact ⟨rfl, H2.kept⟩
theorem find_ok {cols : List ColM} {vc : Value} (n : Int) (hc : RowIn w vc colCells 7 cols) : Rets Tryz.prog 104 [vc, I n] w fun v w' => v = I (idxI (findC cols n)) ∧ Kept noB w w' := by
 have H := Sep.start0 w
 refine rets2 Tryz.func104 rfl rfl rfl rfl ?_
 refine Sr (FL_box H (h := fun b1 w2 H2 k1 => ?_))
 refine Am ?_
 refine Nx (Mv ?_)
 refine Vv (Gives.makeFunc rfl rfl) ?_
 have hb0 := H2.obj At0
 have hpr : PredIn _ (.func (.func 153) #[] #[.pointer (some ⟨b1, 0, none⟩)]) (fun c => agg (colCells c)) (fun c => decide (c.id = n)) := ⟨153, [], [.pointer (some ⟨b1, 0, none⟩)], rfl, inferInstance, fun c w'' hk => find1_ok c n (hk.get hb0 id)⟩
 refine FL_callQ H2 (columnsF_ok (hc.keep H2.kept) hpr) (h := fun w7 H7 k6 => ?_)
 refine Am ?_
 refine Qn (FW_ret (Qfn_ret (hR := ?_)))
 exact ⟨rfl, H7.kept⟩
attribute [local irreducible] mayT
theorem own_ok {cols : List ColM} {vc : Value} (x : StepM) (hc : RowIn w vc colCells 7 cols) (h1 : 1 ≤ x.kind) (h6 : x.kind ≤ 6) : Rets Tryz.prog 66 [vc, agg (stepCells x)] w fun v w' => v = .tuple #[agg (typeCells ((leafT cols x).getD type0)), .bool (leafT cols x).isSome] ∧ Kept noB w w' := by
  have hcc := hc
  obtain ⟨A, m, rfl, ⟨hm, hm'⟩, hA⟩ := hc
  have H := Sep.start0 w
  obtain ⟨res, hres⟩ : ∃ res, res = leafT cols x := ⟨_, rfl⟩
  rw [← hres]
  unfold leafT at hres
  refine retsC2 Tryz.func66 rfl rfl rfl rfl ?_
  refine Sr (FL_box H (cs := stepCells x) rfl (h := fun b0 w2 H2 k0 => ?_))
  refine FL_alloc H2 (h := fun b3 w4 H4 k3 => ?_)
  refine Am ?_
  refine Nx (Vv (Gives.buildA (out := [I 0, I 0, I 3, I 1, I 4, I 5]) rfl (Fills.one rfl rfl rfl (by simp) rfl (Fills.one rfl rfl rfl (by simp) rfl (Fills.one rfl rfl rfl (by simp) rfl (Fills.one rfl rfl rfl (by simp) rfl Fills.nil))))) (FL_alloc H4 (h := fun bk w8 H8 k7 => ?_)))
  refine FL_storeAll H8 (h := fun w10 H10 => ?_)
  refine Qn (FW_seq (Sr (Vf ?_)))
  refine Ld H10 ?_
  refine Qn (FW_block (Sr (Ve ?_)))
  refine Am ?_
  refine Qn (Cp rfl (fun hc15 => ?_) (fun hc15 => ?_))
  · rw [if_neg (by omega), if_neg (by omega), if_neg (by omega), if_neg (by omega), if_neg (by omega)] at hres
    refine Sr (Vf ?_)
    refine Ld H10 ?_
    refine Vv (Gives.build (out := typeCells ⟨x.n, true⟩) (Fills.one rfl rfl rfl (by simp) rfl (Fills.one rfl rfl rfl (by simp) rfl Fills.nil))) (FL_storeAll H10 (h := fun w21 H21 => ?_))
    refine Am ?_
    refine Qn (Rb (QfnC_ret (h := ?_)))
    exact ⟨_, resC2 H21, by rw [hres]; rfl, H21.kept⟩
  refine Sr (Ve ?_)
  refine Am ?_
  refine Qn (Cp rfl (fun hc27 => ?_) (fun hc27 => ?_))
  · rw [if_pos hc27] at hres
    refine Sr (Mv ?_)
    refine Vf ?_
    refine Ld H10 ?_
    refine FL_callQ H10 (find_ok x.n (hcc.keep H10.kept)) (h := fun w33 H33 k32 => ?_)
    refine Am ?_
    refine Qn (FW_seq (Sr (Mv ?_)))
    refine Vl ?_
    refine Mv ?_
    refine FL_splitP (t := 25) rfl (fun hs38 => ?_) (fun hs38 => ?_)
    · have hno : findC cols x.n = none := by
        cases hf : findC cols x.n with
        | none => rfl
        | some i =>
          rw [hf] at hs38
          exact absurd (show ((i : Nat) : Int) < 0 from hs38) (by omega)
      rw [hno] at hres
      refine Of (Of (Of (Of (Of (Of (Of (Pt ?_)))))))
      refine Qn (FW_cond_true rfl ?_)
      refine Sr (Vv (Gives.build (out := typeCells type0) Fills.nil) (FL_storeAll H33 (h := fun w43 H43 => ?_)))
      refine Am ?_
      refine Qn (Rs (Qblk_ret (Qseq_ret (QfnC_ret (h := ?_)))))
      exact ⟨_, resC2 H43, by rw [hres]; rfl, H43.kept⟩
    obtain ⟨i, hf⟩ : ∃ i, findC cols x.n = some i := by
      cases hf : findC cols x.n with
      | none => rw [hf] at hs38; exact absurd (show (-1 : Int) < 0 by decide) hs38
      | some i => exact ⟨i, rfl⟩
    have hlt := find_lt hf
    obtain ⟨c, hcg⟩ := get_some (l := cols) (i := i) hlt
    rw [hf] at hres
    dsimp only at hres
    rw [getD_of hcg] at hres
    refine On (Mv ?_)
    refine On (Mv ?_)
    refine On ?_
    rw [show (idxI (findC cols x.n)) = ((i : Nat) : Int) by rw [hf]; rfl]
    refine Vv (Gives.idxR rfl rfl hA hlt) (On ?_)
    refine Vv (Gives.fieldR rfl (by assumption) (by omega)) (On ?_)
    refine Vv (Gives.loadEN (us := typeCells c.type) rfl H33 hA hcg rfl rfl) (On ?_)
    refine FL_callQ H33 (cellMay_ok c.type) (h := fun w53 H53 k52 => ?_)
    refine On (Vv (Gives.not rfl) (Pf ?_))
    refine Qn (Cd rfl (fun hc56 => ?_) (fun hc56 => ?_))
    · rw [if_pos (by first | exact hc56 | (have h := hc56; revert h; cases mayT c.type <;> simp))] at hres
      refine Sr (Vv (Gives.build (out := typeCells type0) Fills.nil) (FL_storeAll H53 (h := fun w60 H60 => ?_)))
      refine Am ?_
      refine Qn (Rs (Qblk_ret (Qseq_ret (QfnC_ret (h := ?_)))))
      exact ⟨_, resC2 H60, by rw [hres]; rfl, H60.kept⟩
    rw [if_neg (by have h := hc56; revert h; cases mayT c.type <;> simp)] at hres
    refine Sk (Sr (Mv ?_))
    refine Mv ?_
    refine Vv (Gives.idxR rfl rfl hA hlt) (Vv (Gives.fieldR rfl (by assumption) (by omega)) ?_)
    refine Vv (Gives.loadEN (us := typeCells c.type) rfl H53 hA hcg rfl rfl) (FL_alloc H53 (h := fun b69 w70 H70 k69 => ?_))
    refine FL_storeAll H70 (h := fun w72 H72 => ?_)
    refine Qn (FW_seq (Sr (Vf ?_)))
    refine Ld H72 ?_
    refine Ve ?_
    refine Qn (Cp rfl (fun hc76 => ?_) (fun hc76 => ?_))
    · rw [if_pos hc76] at hres
      refine FW_region (Vf ?_)
      refine FL_store H72 (h := fun w80 H80 => ?_)
      refine Nx (FL_loadAll H80 (h := ?_))
      refine FL_storeAll H80 (h := fun w83 H83 => ?_)
      refine Am ?_
      refine Qn (Rb (QfnC_ret (h := ?_)))
      exact ⟨_, resC2 H83, by rw [hres]; rfl, H83.kept⟩
    rw [if_neg hc76] at hres
    refine Sk (Sr (FL_loadAll H72 (h := ?_)))
    refine FL_storeAll H72 (h := fun w89 H89 => ?_)
    refine Am ?_
    refine Qn (Rb (QfnC_ret (h := ?_)))
    exact ⟨_, resC2 H89, by rw [hres]; rfl, H89.kept⟩
  rw [if_neg hc27] at hres
  have htn : ((x.kind.toNat : Nat) : Int) = x.kind := Int.toNat_of_nonneg (by omega)
  obtain ⟨kk, hkk, hg⟩ : ∃ kk : Int, res = some ⟨kk, false⟩ ∧ [(0 : Int), 0, 3, 1, 4, 5][x.kind.toNat]? = some kk := by
    rcases (by omega : x.kind = 2 ∨ x.kind = 3 ∨ x.kind = 4 ∨ x.kind = 5) with e | e | e | e <;> rw [e] at hres ⊢ <;> exact ⟨_, hres, rfl⟩
  have hR : Rd _ (some ⟨bk, 0, none⟩) intCells 1 [(0 : Int), 0, 3, 1, 4, 5] := Sep.blkRow H10 At0 rfl
  refine FW_skip (Qblk_normal (Qseq_normal (Sr (Vf ?_))))
  refine Ld H10 ?_
  refine Vv (Gives.idxArr (i := x.kind.toNat) rfl (by rw [htn]; rfl) (by omega)) ?_
  refine Vv (Gives.loadW (f := 0) (i := x.kind.toNat) rfl hR hg rfl) (Vv (Gives.build (out := typeCells ⟨kk, false⟩) (Fills.one rfl rfl rfl (by simp) rfl Fills.nil)) ?_)
  refine FL_storeAll H10 (h := fun w99 H99 => ?_)
  refine Am ?_
  refine Qn (FW_ret (QfnC_ret (h := ?_)))
  exact ⟨_, resC2 H99, by rw [hkk]; rfl, H99.kept⟩
end
end Go.Proofs.YtolaedhdjcnijaaGreatDoor
namespace Go.Mw
open Go.RowKit
section
variable {P : Program} {r : Option Nat} {n : Nat} {ops : Array Oper} {Q : Post} {σ : St} {w w₀ : World} {S : Nat → Prop} {rs : List HP} {ty : TypeId} {pos : String} {after : Array Edge} {guard : Option (Nat × Bool)} {lv : List Bool} {pd : List (Nat × Bool)}
theorem effV {dst : Option Nat} {y : Operand} {f : FuncId} {fs cs : List Value} {xs : List Operand} {ats : Array TypeId} {vals : List Value} {R : Value → World → Prop} [he : Enters P f] {K : St → World → Prop} (hy : evF σ y = .func (.func f) fs.toArray cs.toArray) (hc : Rets P f (fs ++ vals ++ cs) w R) (hv : xs.map (evF σ) = vals)
    (h : ∀ v w', R v w' → K (updO σ dst v) w') : EffK P σ w { dst := dst, op := .call { callee := .value y, args := xs.toArray, argTypes := ats }, type := ty, pos := pos, after := after, guard := guard } K := by
  unfold EffK
  have e : (execOp (evF σ) { dst := dst, op := .call { callee := .value y, args := xs.toArray, argTypes := ats }, type := ty, pos := pos, after := after, guard := guard }).run P w = .ok (.enter f (fs ++ vals ++ cs).toArray) w := by
    simp [execOp, resolve, hy, Deferred.ofValue, invoke, hv]
    rw [← he.run (fs ++ (vals ++ cs)).toArray w]
  rw [e]
  refine Calls.mono hc fun en w'' hr => ?_
  cases en with
  | returned v => exact h v w'' hr
  | _ => exact hr.elim
theorem FGcallV (hok : okOps n ops = true) (e : Nat) (pd' : List (Nat × Bool)) {d : Nat} {y : Operand} {f : FuncId} {fs cs : List Value} {xs : List Operand} {ats : Array TypeId} {vals : List Value} {R : Value → World → Prop} [he : Enters P f]
    (hy : evF σ y = .func (.func f) fs.toArray cs.toArray) (hc : Rets P f (fs ++ vals ++ cs) w R)
    (ho : ops[e]? = some { dst := some d, op := .call { callee := .value y, args := xs.toArray, argTypes := ats }, type := ty, pos := pos, after := after, guard := guard } := by exact rfl)
    (hw : Region.wanted { dst := some d, op := .call { callee := .value y, args := xs.toArray, argTypes := ats }, type := ty, pos := pos, after := after, guard := guard } (yieldF ops σ) = true := by kernel_rfl) (hv : xs.map (evF σ) = vals := by exact rfl) (hck : effectOk ops lv (pd.map (·.1)) e = true := by kernel_rfl)
    (hpd : pd.filter (fun p => !((above ops e).contains p.1)) = pd' := by kernel_rfl) (h : ∀ v w', R v w' → Stab P ops (upd σ d v) w' pd' ∧ FG P r n ops Q (lv.set e true) pd' (upd σ d v) w') : FG P r n ops Q lv pd σ w :=
  FG_effect hok ho hck hw pd' hpd (effV hy hc hv h)
theorem step_callV (hok : okOps n ops = true) (e : Nat) (pd' : List (Nat × Bool)) {d : Nat} {y : Operand} {f : FuncId} {fs cs : List Value} {xs : List Operand} {ats : Array TypeId} {vals : List Value} {R : Value → World → Prop} [he : Enters P f]
    (hy : evF σ y = .func (.func f) fs.toArray cs.toArray) (hc : Rets P f (fs ++ vals ++ cs) w R)
    (ho : ops[e]? = some { dst := some d, op := .call { callee := .value y, args := xs.toArray, argTypes := ats }, type := ty, pos := pos, after := after, guard := guard } := by exact rfl)
    (hw : Region.wanted { dst := some d, op := .call { callee := .value y, args := xs.toArray, argTypes := ats }, type := ty, pos := pos, after := after, guard := guard } (yieldF ops σ) = true := by kernel_rfl) (hv : xs.map (evF σ) = vals := by exact rfl) (hck : effectIn ops lv (pd.map (·.1)) e = true := by kernel_rfl)
    (hpd : pd.filter (fun p => !((above ops e).contains p.1)) = pd' := by kernel_rfl) (h : ∀ v w', R v w' → Stab P ops (upd σ d v) w' pd' ∧ FG P r n ops Q (lv.set e true) pd' (upd σ d v) w') : EffStep P r n ops Q lv pd σ w e :=
  eff_step hok ho hck hw pd' hpd (effV hy hc hv h)
end
end Go.Mw
namespace Go.Proofs.YtolaedhdjcnijaaGreatDoor
open Go Go.Mw Go.Lib
set_option maxRecDepth 4000
def Some2 {α : Type} (k : Int) (l : List α) (a b : α) : Prop := (l = [a] ∧ a = b ∧ (k = 10 ∨ k = 15 ∨ k = 16 ∨ k = 18)) ∨ (l = [a, b] ∧ k ≠ 10 ∧ k ≠ 15 ∧ k ≠ 16 ∧ k ≠ 18)
theorem Some2.any {α : Type} {k : Int} {l : List α} {a b : α} (h : Some2 k l a b) (p : α → Bool) : l.any p = (p a || p b) := by
 rcases h with ⟨rfl, rfl, _⟩ | ⟨rfl, _⟩
 ·simp
 simp
theorem Some2.get {α : Type} {k : Int} {l : List α} {a b : α} (h : Some2 k l a b) : l[0]? = some a ∧ l[l.length - 1]? = some b ∧ 0 < l.length := by
 rcases h with ⟨rfl, rfl, _⟩ | ⟨rfl, _⟩
 ·exact ⟨rfl, rfl, by simp⟩
 exact ⟨rfl, rfl, by simp⟩
def within (want : List Int) (t : TypeM) : Bool := want.any fun y => decide (t.kind = y)
section
variable {w : World}
theorem typed2_ok (t : TypeM) : Rets Tryz.prog 109 [agg (typeCells t)] w fun v w' => v = .bool t.null ∧ Kept noB w w' := by
 have H := Sep.start0 w
 refine rets1 Tryz.func109 rfl rfl rfl rfl ?_
 refine Sr (FL_box H (cs := typeCells t) rfl (h := fun b0 w2 H2 k0 => ?_))
 refine Am ?_
 refine Nx (Vf ?_)
 refine Ld H2 ?_
 refine Am ?_
 refine Qn (FW_ret (Qfn_ret (hR := ?_)))
 exact ⟨rfl, H2.kept⟩
theorem typed3_ok (t : TypeM) : Rets Tryz.prog 110 [agg (typeCells t)] w fun v w' => v = .bool (!t.null) ∧ Kept noB w w' := by
 have H := Sep.start0 w
 refine rets1 Tryz.func110 rfl rfl rfl rfl ?_
 refine Sr (FL_box H (cs := typeCells t) rfl (h := fun b0 w2 H2 k0 => ?_))
 refine Am ?_
 refine Nx (Vf ?_)
 refine Ld H2 ?_
 refine Vv (Gives.not rfl) (Am ?_)
 refine Qn (FW_ret (Qfn_ret (hR := ?_)))
 exact ⟨rfl, H2.kept⟩
theorem typed11_ok {b : Nat} {E : TypeId} {want : List Int} {vw : Value} (t : TypeM) (hb : w.heap[b]? = some (.cells #[vw] E (0, 0))) (hw : RowIn w vw intCells 1 want) : Rets Tryz.prog 107 [agg (typeCells t), .pointer (some ⟨b, 0, none⟩)] w fun v w' => v = .bool (!within want t) ∧ Kept noB w w' := by
 have H := Sep.start0 w
 refine rets2 Tryz.func107 rfl rfl rfl rfl ?_
 refine Sr (FL_box H (cs := typeCells t) rfl (h := fun b0 w2 H2 k0 => ?_))
 refine Am ?_
 refine Nx (FL_loadB (cs := [vw]) (H2.kept.get hb id) (h := ?_))
 refine Vf ?_
 refine Ld H2 ?_
 refine FL_callQ H2 (intsHas_ok t.kind (hw.keep H2.kept)) (h := fun w8 H8 k7 => ?_)
 refine Vv (Gives.not rfl) (Am ?_)
 refine Qn (FW_ret (Qfn_ret (hR := ?_)))
 exact ⟨rfl, H8.kept⟩
theorem typed1_ok {b : Nat} {E : TypeId} {want : List Int} {l : List TypeM} {vw vl : Value} (hb : w.heap[b]? = some (.cells #[vl] E (0, 0))) (hl : RowIn w vl typeCells 2 l) (hw : RowIn w vw intCells 1 want) : Rets Tryz.prog 105 [vw, .pointer (some ⟨b, 0, none⟩)] w fun v w' => v = .bool (!(l.any fun t => !within want t)) ∧ Kept noB w w' := by
 have H := Sep.start0 w
 have hwc : vw.cells = #[vw] := by obtain ⟨A, c, rfl, _⟩ := hw; rfl
 refine rets2 Tryz.func105 rfl rfl rfl rfl ?_
 refine Sr (FL_box H (cs := [vw]) rfl hwc (h := fun b0 w2 H2 k0 => ?_))
 refine Am ?_
 refine Nx (FL_loadB (cs := [vl]) (H2.kept.get hb id) (h := ?_))
 refine Vv (Gives.makeFunc rfl rfl) ?_
 have hb0 := H2.obj At0
 have hpr : PredIn _ (.func (.func 107) #[] #[.pointer (some ⟨b0, 0, none⟩)]) (fun t => agg (typeCells t)) (fun t => !within want t) := ⟨107, [], [.pointer (some ⟨b0, 0, none⟩)], rfl, inferInstance, fun t w'' hk => typed11_ok t (hk.get hb0 id) ((hw.keep H2.kept).keep hk)⟩
 refine FL_callQ H2 (typesAny_ok (hl.keep H2.kept) hpr) (h := fun w7 H7 k6 => ?_)
 refine Vv (Gives.not rfl) (Am ?_)
 refine Qn (FW_ret (Qfn_ret (hR := ?_)))
 exact ⟨rfl, H7.kept⟩
end
theorem Some2.all {k : Int} {l : List TypeM} {a b : TypeM} (h : Some2 k l a b) (want : List Int) : (!(l.any fun t => !within want t)) = (within want a && within want b) := by
 rw [h.any]
 cases within want a <;> cases within want b <;> rfl
theorem typed_out {res : Option TypeM} {t : TypeM} {ok : Bool} (h1 : ok = res.isSome) (h2 : ∀ y, res = some y → t = y) : ∃ t', Value.tuple #[agg (typeCells t), .bool ok] = .tuple #[agg (typeCells t'), .bool res.isSome] ∧ ∀ x, res = some x → t' = x :=
 ⟨t, by rw [h1], h2⟩
theorem typed_if {P : Prop} [Decidable P] {t u : TypeM} {ok : Bool} (h1 : ok = decide P) (h2 : t = u) : ∃ t', Value.tuple #[agg (typeCells t), .bool ok] = .tuple #[agg (typeCells t'), .bool (if P then some u else none).isSome] ∧ ∀ x, (if P then some u else none) = some x → t' = x := by
 refine typed_out ?_ fun y hy => ?_
 ·rw [h1]; by_cases hp : P
  ·rw [if_pos hp, decide_eq_true hp]; rfl
  rw [if_neg hp, decide_eq_false hp]; rfl
 by_cases hp : P
 ·rw [if_pos hp] at hy; injection hy with hy; rw [h2, hy]
 rw [if_neg hp] at hy; cases hy
theorem within_one (k : Int) (t : TypeM) : within [k] t = decide (t.kind = k) := by simp [within]
theorem within_two (j k : Int) (t : TypeM) : within [j, k] t = decide (t.kind = j ∨ t.kind = k) := by simp [within]
theorem and_dec (P Q : Prop) [Decidable P] [Decidable Q] : (decide P && decide Q) = decide (P ∧ Q) := by
 by_cases h1 : P <;> by_cases h2 : Q <;> simp [h1, h2]
section
variable {w : World}
theorem typed_ok {k : Int} {l : List TypeM} {a b : TypeM} {vl : Value} (hl : RowIn w vl typeCells 2 l) (hs : Some2 k l a b) (h7 : 7 ≤ k) (h18 : k ≤ 18) : Rets Tryz.prog 67 [I k, vl] w fun v w' => (∃ t, v = .tuple #[agg (typeCells t), .bool (madeT k a b).isSome] ∧ ∀ x, madeT k a b = some x → t = x) ∧ Kept noB w w' := by
 have hll := hl
 obtain ⟨A, m, rfl, ⟨hm, hm'⟩, hA⟩ := hl
 have H := Sep.start0 w
 obtain ⟨hga, _, hl0⟩ := hs.get
 obtain ⟨res, hres⟩ : ∃ res, res = madeT k a b := ⟨_, rfl⟩
 rw [← hres]
 unfold madeT at hres
 have hany := hs.any fun t => t.null
 have hevery : (!(l.any fun t => !t.null)) = (a.null && b.null) := by
  rw [hs.any]; cases a.null <;> cases b.null <;> rfl
 refine retsC2 Tryz.func67 rfl rfl rfl rfl ?_
 refine Sr (FL_box H (cs := [.slice A l.length m]) rfl (h := fun b0 w2 H2 k0 => ?_))
 refine FL_alloc H2 (h := fun b1 w4 H4 k3 => ?_)
 refine Am ?_
 refine Nx (Vv (Gives.makeFunc rfl rfl) (Am ?_))
 refine Nx (Ld H4 ?_)
 refine FL_callQ H4 (typesAny_ok (p := fun t => t.null) (hll.keep H4.kept) ⟨109, [], [], rfl, inferInstance, fun t w'' _ => typed2_ok t⟩) (h := fun w10 H10 k9 => ?_)
 rw [hany]
 refine Am ?_
 refine Nx (Ld H10 ?_)
 refine FL_callQ H10 (typesAny_ok (p := fun t => !t.null) (hll.keep H10.kept) ⟨110, [], [], rfl, inferInstance, fun t w'' _ => typed3_ok t⟩) (h := fun w14 H14 k13 => ?_)
 refine Vv (Gives.not rfl) ?_
 rw [hevery]
 refine Am ?_
 refine Qn (FW_seq (Sr (Mv ?_)))
 refine Qn (FW_block (FW_cut (fun _ : Unit => [(0, I k), (3, .pointer (some ⟨b0, 0, none⟩)), (4, .pointer (some ⟨b1, 0, none⟩)), (6, .func (.func 105) #[] #[.pointer (some ⟨b0, 0, none⟩)]), (7, .bool (a.null || b.null)), (8, .bool (a.null && b.null)), (15, I k), (16, .bool (decide (k = 7 ∨ k = 8 ∨ k = 9 ∨ k = 10)))]) (fun _ w' => Sep w noB [blk b1 [.int .i64 0, .bool false] 45, blk b0 [.slice A l.length m] 101] w') ?_ ?_))
 ·refine Sr (Ve ?_)
  refine Am ?_
  refine Qn (Cp rfl (fun hc21 => ?_) (fun hc21 => ?_))
  ·refine FW_skip ?_
   exact Qcut_normal () ⟨rfl, rfl, rfl, rfl, rfl, rfl, rfl, congrArg Value.bool (decide_eq_decide.2 (by omega)), trivial⟩ H14
  refine Sr (Ve ?_)
  refine Am ?_
  refine Qn (Cp rfl (fun hc27 => ?_) (fun hc27 => ?_))
  ·refine FW_skip ?_
   exact Qcut_normal () ⟨rfl, rfl, rfl, rfl, rfl, rfl, rfl, congrArg Value.bool (decide_eq_decide.2 (by omega)), trivial⟩ H14
  refine Sr (Ve ?_)
  refine Am ?_
  refine Qn (Cp rfl (fun hc33 => ?_) (fun hc33 => ?_))
  ·refine FW_skip ?_
   exact Qcut_normal () ⟨rfl, rfl, rfl, rfl, rfl, rfl, rfl, congrArg Value.bool (decide_eq_decide.2 (by omega)), trivial⟩ H14
  refine FW_region (Ve ?_)
  refine Am ?_
  refine FL_nil ?_
  exact Qcut_normal () ⟨rfl, rfl, rfl, rfl, rfl, rfl, rfl, congrArg Value.bool (decide_eq_decide.2 (by omega)), trivial⟩ H14
 intro _ τ w41 H41
 simp only [upds, like, upd_ds, und_ds]
 refine Cp rfl (fun hc42 => ?_) (fun hc42 => ?_)
 ·rw [if_pos hc42] at hres
  refine Sr (Mv ?_)
  refine Vv (Gives.build (out := typeCells ⟨3, a.null || b.null⟩) (Fills.one rfl rfl rfl (by simp) rfl (Fills.one rfl rfl rfl (by simp) rfl Fills.nil))) (Mv ?_)
  refine FL_buildSlice H41 (xs := [_]) (out := ([3] : List Int).flatMap intCells) ((Elems.one rfl rfl Elems.nil)) rfl rfl rfl (fun bw w48 H48 k47 => ?_)
  have hb0 := H48.obj At2
  have hw0 : RowIn _ (.slice (some ⟨bw, 0, none⟩) 1 1) intCells 1 [3] := ⟨some ⟨bw, 0, none⟩, 1, rfl, ⟨by simp, by omega⟩, Sep.blkRow H48 At0 rfl⟩
  refine FL_callV (vals := [_]) rfl (typed1_ok hb0 (hll.keep H48.kept) hw0) rfl rfl (fun v' w50 hv => ?_)
  obtain ⟨rfl, hkk⟩ := hv
  have H50 := H48.keep hkk
  rw [hs.all]
  refine FL_storeAll H50 (h := fun w52 H52 => ?_)
  refine Am ?_
  refine Qn (Rb (QfnC_ret (h := ?_)))
  exact ⟨_, resC2 H52, by rw [hres]; exact typed_if (by rw [within_one, within_one, and_dec]) rfl, H52.kept⟩
 rw [if_neg hc42] at hres
 refine FW_cut (fun _ : Unit => [(0, I k), (3, .pointer (some ⟨b0, 0, none⟩)), (4, .pointer (some ⟨b1, 0, none⟩)), (6, .func (.func 105) #[] #[.pointer (some ⟨b0, 0, none⟩)]), (7, .bool (a.null || b.null)), (8, .bool (a.null && b.null)), (15, I k), (26, .bool (decide (k = 11 ∨ k = 12)))]) (fun _ w' => Sep w noB [blk b1 [.int .i64 0, .bool false] 45, blk b0 [.slice A l.length m] 101] w') ?_ ?_
 ·refine Sr (Ve ?_)
  refine Am ?_
  refine Qn (Cp rfl (fun hc59 => ?_) (fun hc59 => ?_))
  ·refine FW_skip ?_
   exact Qcut_normal () ⟨rfl, rfl, rfl, rfl, rfl, rfl, rfl, congrArg Value.bool (decide_eq_decide.2 (by omega)), trivial⟩ H41
  refine FW_region (Ve ?_)
  refine Am ?_
  refine FL_nil ?_
  exact Qcut_normal () ⟨rfl, rfl, rfl, rfl, rfl, rfl, rfl, congrArg Value.bool (decide_eq_decide.2 (by omega)), trivial⟩ H41
 intro _ τ w67 H67
 simp only [upds, like, upd_ds]
 refine Cp rfl (fun hc68 => ?_) (fun hc68 => ?_)
 ·rw [if_pos hc68] at hres
  refine Sr (Mv ?_)
  refine Vv (Gives.build (out := typeCells ⟨1, a.null || b.null⟩) (Fills.one rfl rfl rfl (by simp) rfl (Fills.one rfl rfl rfl (by simp) rfl Fills.nil))) (Mv ?_)
  refine Ld H67 ?_
  refine Vv (Gives.idxR (i := 0) rfl rfl hA hl0) (Vv (Gives.fieldR rfl (by assumption) (by omega)) ?_)
  refine Vv (Gives.loadE (i := 0) (f := 0) rfl H67 hA hga rfl) (FL_buildSlice H67 (xs := [_]) (out := ([a.kind] : List Int).flatMap intCells) ((Elems.one rfl rfl Elems.nil)) rfl rfl rfl (fun bw w78 H78 k77 => ?_))
  have hb0 := H78.obj At2
  have hw0 : RowIn _ (.slice (some ⟨bw, 0, none⟩) 1 1) intCells 1 [a.kind] := ⟨some ⟨bw, 0, none⟩, 1, rfl, ⟨by simp, by omega⟩, Sep.blkRow H78 At0 rfl⟩
  refine FL_callV (vals := [_]) rfl (typed1_ok hb0 (hll.keep H78.kept) hw0) rfl rfl (fun v' w80 hv => ?_)
  obtain ⟨rfl, hkk⟩ := hv
  have H80 := H78.keep hkk
  rw [hs.all]
  refine FL_storeAll H80 (h := fun w82 H82 => ?_)
  refine Am ?_
  refine Qn (Rb (QfnC_ret (h := ?_)))
  exact ⟨_, resC2 H82, by rw [hres]; exact typed_if (by rw [within_one, within_one, and_dec]; exact decide_eq_decide.2 ⟨fun h => h.2.symm, fun h => ⟨rfl, h.symm⟩⟩) rfl, H82.kept⟩
 rw [if_neg hc68] at hres
 refine FW_cut (fun _ : Unit => [(0, I k), (3, .pointer (some ⟨b0, 0, none⟩)), (4, .pointer (some ⟨b1, 0, none⟩)), (6, .func (.func 105) #[] #[.pointer (some ⟨b0, 0, none⟩)]), (7, .bool (a.null || b.null)), (8, .bool (a.null && b.null)), (15, I k), (38, .bool (decide (k = 13 ∨ k = 14 ∨ k = 15)))]) (fun _ w' => Sep w noB [blk b1 [.int .i64 0, .bool false] 45, blk b0 [.slice A l.length m] 101] w') ?_ ?_
 ·refine Sr (Ve ?_)
  refine Am ?_
  refine Qn (Cp rfl (fun hc89 => ?_) (fun hc89 => ?_))
  ·refine FW_skip ?_
   exact Qcut_normal () ⟨rfl, rfl, rfl, rfl, rfl, rfl, rfl, congrArg Value.bool (decide_eq_decide.2 (by omega)), trivial⟩ H67
  refine Sr (Ve ?_)
  refine Am ?_
  refine Qn (Cp rfl (fun hc95 => ?_) (fun hc95 => ?_))
  ·refine FW_skip ?_
   exact Qcut_normal () ⟨rfl, rfl, rfl, rfl, rfl, rfl, rfl, congrArg Value.bool (decide_eq_decide.2 (by omega)), trivial⟩ H67
  refine FW_region (Ve ?_)
  refine Am ?_
  refine FL_nil ?_
  exact Qcut_normal () ⟨rfl, rfl, rfl, rfl, rfl, rfl, rfl, congrArg Value.bool (decide_eq_decide.2 (by omega)), trivial⟩ H67
 intro _ τ w103 H103
 simp only [upds, like, upd_ds]
 refine Cp rfl (fun hc104 => ?_) (fun hc104 => ?_)
 ·rw [if_pos hc104] at hres
  refine Sr (Mv ?_)
  refine Vv (Gives.build (out := typeCells ⟨1, a.null || b.null⟩) (Fills.one rfl rfl rfl (by simp) rfl (Fills.one rfl rfl rfl (by simp) rfl Fills.nil))) (Mv ?_)
  refine FL_buildSlice H103 (xs := [_]) (out := ([1] : List Int).flatMap intCells) ((Elems.one rfl rfl Elems.nil)) rfl rfl rfl (fun bw w110 H110 k109 => ?_)
  have hb0 := H110.obj At2
  have hw0 : RowIn _ (.slice (some ⟨bw, 0, none⟩) 1 1) intCells 1 [1] := ⟨some ⟨bw, 0, none⟩, 1, rfl, ⟨by simp, by omega⟩, Sep.blkRow H110 At0 rfl⟩
  refine FL_callV (vals := [_]) rfl (typed1_ok hb0 (hll.keep H110.kept) hw0) rfl rfl (fun v' w112 hv => ?_)
  obtain ⟨rfl, hkk⟩ := hv
  have H112 := H110.keep hkk
  rw [hs.all]
  refine FL_storeAll H112 (h := fun w114 H114 => ?_)
  refine Am ?_
  refine Qn (Rb (QfnC_ret (h := ?_)))
  exact ⟨_, resC2 H114, by rw [hres]; exact typed_if (by rw [within_one, within_one, and_dec]) rfl, H114.kept⟩
 rw [if_neg hc104] at hres
 refine Sr (Ve ?_)
 refine Am ?_
 refine Qn (Cp rfl (fun hc120 => ?_) (fun hc120 => ?_))
 ·rw [if_pos hc120] at hres
  refine Sr (Vv (Gives.build (out := typeCells ⟨1, false⟩) (Fills.one rfl rfl rfl (by simp) rfl Fills.nil)) (FL_storeAll H103 (h := fun w124 H124 => ?_)))
  refine Am ?_
  refine Qn (Rb (QfnC_ret (h := ?_)))
  exact ⟨_, resC2 H124, by rw [hres]; exact typed_out rfl (fun y hy => by injection hy), H124.kept⟩
 rw [if_neg hc120] at hres
 refine Sr (Ve ?_)
 refine Am ?_
 refine Qn (Cp rfl (fun hc130 => ?_) (fun hc130 => ?_))
 ·rw [if_pos hc130] at hres
  refine FW_seq (FW_drawS rfl H103 (h := fun hok132 w134 H134 => ?_))
  refine FGload hok132 0 H134 (h := ?_)
  refine Gp hok132 1 rfl rfl (fun _ => (Gives.idxR rfl rfl (by assumption) (by omega))) (Gp hok132 2 rfl rfl (fun _ => (Gives.fieldR rfl (by assumption) (by omega))) ?_)
  refine Gl hok132 3 rfl rfl (Gives.loadE rfl H134 (by assumption) (by assumption) rfl) (Gm hok132 4 ?_)
  refine Gp hok132 5 rfl rfl (fun _ => (Gives.build (out := typeCells ⟨a.kind, a.null && b.null⟩) (Fills.one rfl rfl rfl (by simp) rfl (Fills.one rfl rfl rfl (by simp) rfl Fills.nil)))) (Gm hok132 6 ?_)
  refine FGload hok132 7 H134 (h := ?_)
  refine Gp hok132 8 rfl rfl (fun _ => (Gives.idxR rfl rfl (by assumption) (by omega))) (Gp hok132 9 rfl rfl (fun _ => (Gives.fieldR rfl (by assumption) (by omega))) ?_)
  refine Gl hok132 10 rfl rfl (Gives.loadE rfl H134 (by assumption) (by assumption) rfl) (FGbuildSlice hok132 11 [(6, true), (5, true), (4, true), (3, false), (2, true), (1, true), (0, false)] H134 (xs := [.tmp 62]) (out := [a.kind].flatMap intCells) (Elems.one rfl rfl Elems.nil) (h := fun bw w145 H145 => ⟨Stab_pure (Stab_pure (Stab_pure ((Stab_cons rfl (by kernel_rfl) (Gives.loadE (i := 0) (f := 0) rfl H145 hA hga rfl) rfl (Stab_pure (Stab_pure (Stab_load H145 (h := Stab_nil)))))))), ?_⟩))
  have hb0 := H145.obj At2
  have hw0 : RowIn _ (.slice (some ⟨bw, 0, none⟩) 1 1) intCells 1 [a.kind] := ⟨some ⟨bw, 0, none⟩, 1, rfl, ⟨by simp, by omega⟩, Sep.blkRow H145 At0 rfl⟩
  refine FGcallV hok132 12 [(5, true), (4, true), (3, false), (2, true), (1, true), (0, false)] (y := .tmp 58) (f := 105) (fs := []) (cs := [.pointer (some ⟨b0, 0, none⟩)]) (vals := [.slice (some ⟨bw, 0, none⟩) 1 1]) rfl (typed1_ok hb0 (hll.keep H145.kept) hw0) (h := fun v' w147 hv => ?_)
  obtain ⟨rfl, hkk⟩ := hv
  have H147 := H145.keep hkk
  rw [hs.all]
  refine ⟨Stab_pure (Stab_pure ((Stab_cons rfl (by kernel_rfl) (Gives.loadE (i := 0) (f := 0) rfl H147 hA hga rfl) rfl (Stab_pure (Stab_pure (Stab_load H147 (h := Stab_nil))))))), ?_⟩
  refine FGstoreAll hok132 13 [] H147 (h := fun w149 H149 => ⟨Stab_nil, ?_⟩)
  refine Gp hok132 14 rfl rfl (fun _ => Gives.assign rfl) (FG_end hok132 (by kernel_rfl) ?_)
  refine Qseq_normal (Rb (QfnC_ret (h := ?_)))
  exact ⟨_, resC2 H149, by rw [hres]; exact typed_if (by rw [within_one, within_one, and_dec]; exact decide_eq_decide.2 ⟨fun h => h.2.symm, fun h => ⟨rfl, h.symm⟩⟩) rfl, H149.kept⟩
 rw [if_neg hc130] at hres
 refine FW_skip (Qblk_normal (Qseq_normal (Sr (Mv ?_))))
 refine Vv (Gives.build (out := typeCells ⟨3, a.null || b.null⟩) (Fills.one rfl rfl rfl (by simp) rfl (Fills.one rfl rfl rfl (by simp) rfl Fills.nil))) (Mv ?_)
 refine FL_buildSlice H103 (xs := [_, _]) (out := ([4, 5] : List Int).flatMap intCells) ((Elems.one rfl rfl (Elems.one rfl rfl Elems.nil))) rfl rfl rfl (fun bw w157 H157 k156 => ?_)
 have hb0 := H157.obj At2
 have hw0 : RowIn _ (.slice (some ⟨bw, 0, none⟩) 2 2) intCells 1 [4, 5] := ⟨some ⟨bw, 0, none⟩, 2, rfl, ⟨by simp, by omega⟩, Sep.blkRow H157 At0 rfl⟩
 refine FL_callV (vals := [_]) rfl (typed1_ok hb0 (hll.keep H157.kept) hw0) rfl rfl (fun v' w159 hv => ?_)
 obtain ⟨rfl, hkk⟩ := hv
 have H159 := H157.keep hkk
 rw [hs.all]
 refine FL_storeAll H159 (h := fun w161 H161 => ?_)
 refine Am ?_
 refine Qn (FW_ret (QfnC_ret (h := ?_)))
 have hab : a = b := by
  rcases hs with ⟨_, h, _⟩ | ⟨_, h⟩
  ·exact h
  omega
 exact ⟨_, resC2 H161, by rw [hres]; exact typed_if (by rw [within_two, within_two, and_dec]; exact decide_eq_decide.2 (by rw [← hab]; simp)) rfl, H161.kept⟩
end
theorem rets_below {P : Program} {f : FuncId} {args : List Value} {w : World} {v : Value} (h : Calls P f args.toArray w fun e w' => e = .returned v ∧ RowKit.Below w.heap.size w w') : Rets P f args w fun v' w' => v' = v ∧ Kept noB w w' :=
 Calls.mono h fun e w' he => by
  obtain ⟨rfl, hb⟩ := he
  exact ⟨rfl, Kept.of_below hb⟩
theorem rets_same {P : Program} {f : FuncId} {args : List Value} {w : World} {v : Value} (h : Calls P f args.toArray w fun e w' => e = .returned v ∧ w' = w) : Rets P f args w fun v' w' => v' = v ∧ w = w' :=
 Calls.mono h fun e w' he => by
  obtain ⟨rfl, hb⟩ := he
  exact ⟨rfl, hb.symm⟩
def TabsU (w : World) : Prop := Lib.Utf8Tabs 4 5 w
theorem TabsU.keep {w w' : World} (h : TabsU w) (hk : Kept noB w w') : TabsU w' := Utf8Tabs_below h hk.below
def isP (k : Int) (c : CellM) : Bool :=
 if k = 1 then decide (c.s = [] ∧ 0 ≤ c.n ∧ c.n ≤ 1)
 else if k = 2 then decide (c.s = [] ∧ -2147483648 ≤ c.n ∧ c.n ≤ 2147483647)
 else if k = 3 then decide (c.s = [] ∧ -9223372036854775808 ≤ c.n ∧ c.n ≤ 9223372036854775807)
 else if k = 4 then decide (c.n = 0 ∧ c.s.length ≤ 1024) && validD c.s
 else decide (c.n = 0 ∧ c.s.length ≤ 1024)
theorem isP_eq {k : Int} {c : CellM} (hf : fits c.n) : isP k c = isC k c := by
 unfold isP isC
 split
 ·rfl
 split
 ·rfl
 split
 ·exact decide_eq_decide.2 ⟨fun h => h.1, fun h => ⟨h, hf.1, hf.2⟩⟩
 split
 ·by_cases h1 : c.n = 0 ∧ c.s.length ≤ 1024
  ·rw [decide_eq_true h1, Bool.true_and]
   cases hv : validD c.s <;> simp [h1]
  rw [decide_eq_false h1, Bool.false_and, eq_comm, decide_eq_false_iff_not]
  exact fun h => h1 ⟨h.1, h.2.1⟩
 rfl
def funcV (f : FuncId) : Value := .func (.func f) #[] #[]
def kF1 : List Value := [funcV 209, funcV 210, funcV 211, funcV 212]
def kF2 : List Value := [funcV 213, funcV 214, funcV 215, funcV 216]
def kF4 : List Value := [funcV 218, funcV 219, funcV 220, funcV 221]
def kF5 : List Value := [funcV 222, funcV 223, funcV 220, funcV 221]
def kindF (k : Int) : List Value := if k = 1 then kF1 else if k = 2 ∨ k = 3 then kF2 else if k = 4 then kF4 else kF5
section
variable {w : World}
theorem utfValid_ok (l : List UInt8) (hl : l.length ≤ 9223372036854775807) (hT : TabsU w) : Rets Tryz.prog 180 [str l] w fun v w' => v = .bool (validD l) ∧ Kept noB w w' := by
 have H := Sep.start0 w
 refine rets1 Tryz.func180 rfl rfl rfl rfl ?_
 refine Sr (Am ?_)
 refine Nx (Mv ?_)
 refine FL_callQ H (rets_below (Tryz.utf8_ValidString ⟨l.toArray⟩ _ (by rw [Mw.size_mk]; exact hl) hT)) (h := fun w4 H4 k3 => ?_)
 refine Am ?_
 refine Qn (FW_ret (Qfn_ret (hR := ?_)))
 exact ⟨rfl, H4.kept⟩
theorem size_ok (c : CellM) : Rets Tryz.prog 208 [agg (cellCells c)] w fun v w' => v = .bool (decide (c.n = 0 ∧ c.s.length ≤ 1024)) ∧ Kept noB w w' := by
 have H := Sep.start0 w
 refine rets1 Tryz.func208 rfl rfl rfl rfl ?_
 refine Sr (FL_box H (cs := cellCells c) rfl (h := fun b0 w2 H2 k0 => ?_))
 refine Am ?_
 refine Nx (Vf ?_)
 refine Ld H2 ?_
 refine Ve ?_
 refine Mv ?_
 refine FL_splitP (t := 6) rfl (fun hs8 => ?_) (fun hs8 => ?_)
 ·refine On (Vf ?_)
  refine On (Ld H2 ?_)
  refine On (Vt ?_)
  refine On (Vv (Gives.leq rfl rfl) (Pt ?_))
  refine Am ?_
  refine Qn (FW_ret (Qfn_ret (hR := ?_)))
  exact ⟨congrArg Value.bool (decide_eq_decide.2 (by omega)), H2.kept⟩
 refine Of (Of (Of (Of (Pf ?_))))
 refine Am ?_
 refine Qn (FW_ret (Qfn_ret (hR := ?_)))
 exact ⟨congrArg Value.bool (by rw [eq_comm, decide_eq_false_iff_not]; omega), H2.kept⟩
theorem plain1_ok {b1 b2 : Nat} {E1 E2 : TypeId} {lo hi : Int} (c : CellM) (h1 : w.heap[b1]? = some (.cells #[I lo] E1 (0, 0))) (h2 : w.heap[b2]? = some (.cells #[I hi] E2 (0, 0))) : Rets Tryz.prog 207 [agg (cellCells c), .pointer (some ⟨b1, 0, none⟩), .pointer (some ⟨b2, 0, none⟩)] w fun v w' => v = .bool (decide (c.s = [] ∧ lo ≤ c.n ∧ c.n ≤ hi)) ∧ Kept noB w w' := by
 have H := Sep.start0 w
 refine rets3 Tryz.func207 rfl rfl rfl rfl ?_
 refine Sr (FL_box H (cs := cellCells c) rfl (h := fun b0 w2 H2 k0 => ?_))
 refine Am ?_
 refine Nx (Vf ?_)
 refine Ld H2 ?_
 refine Vv (Gives.eqlT rfl rfl) (Mv ?_)
 refine FL_splitP (t := 8) rfl (fun hs8 => ?_) (fun hs8 => ?_)
 ·have hs := hs8
  refine On (Vf ?_)
  refine On (Ld H2 ?_)
  refine On (FL_loadB (cs := [I lo]) (H2.kept.get h1 id) (h := ?_))
  refine On (Vv (Gives.geq rfl rfl) (Pt ?_))
  refine Mv ?_
  refine FL_splitP (t := 14) rfl (fun hs16 => ?_) (fun hs16 => ?_)
  ·have hn := hs16
   refine On (Vf ?_)
   refine On (Ld H2 ?_)
   refine On (FL_loadB (cs := [I hi]) (H2.kept.get h2 id) (h := ?_))
   refine On (Vv (Gives.leq rfl rfl) (Pt ?_))
   refine Am ?_
   refine Qn (FW_ret (Qfn_ret (hR := ?_)))
   exact ⟨congrArg Value.bool (decide_eq_decide.2 ⟨fun h => ⟨hs, hn, h⟩, fun h => h.2.2⟩), H2.kept⟩
  have hn := hs16
  refine Of (Of (Of (Of (Pf ?_))))
  refine Am ?_
  refine Qn (FW_ret (Qfn_ret (hR := ?_)))
  exact ⟨congrArg Value.bool (Eq.symm (decide_eq_false fun h => hn h.2.1)), H2.kept⟩
 have hs := hs8
 refine Of (Of (Of (Of (Pf ?_))))
 refine Mv ?_
 refine Of (Of (Of (Of (Pf ?_))))
 refine Am ?_
 refine Qn (FW_ret (Qfn_ret (hR := ?_)))
 exact ⟨congrArg Value.bool (Eq.symm (decide_eq_false fun h => hs h.1)), H2.kept⟩
theorem plain_ok (lo hi : Int) : Rets Tryz.prog 206 [I lo, I hi] w fun v w' => ∃ p q : Nat, v = .func (.func 207) #[] #[.pointer (some ⟨p, 0, none⟩), .pointer (some ⟨q, 0, none⟩)] ∧ Turn noB (star (blk p [I lo] 2) (blk q [I hi] 2)) w w' := by
 have H := Sep.start0 w
 refine rets2 Tryz.func206 rfl rfl rfl rfl ?_
 refine Sr (FL_box H (cs := [I lo]) rfl (h := fun b0 w2 H2 k0 => ?_))
 refine FL_box H2 (cs := [I hi]) rfl (h := fun b1 w4 H4 k1 => ?_)
 refine Am ?_
 refine Nx (Vv (Gives.makeFunc rfl rfl) (Am ?_))
 refine Qn (FW_ret (Qfn_ret (hR := ?_)))
 exact ⟨b0, b1, rfl, (H4.front1.join0).turn⟩
theorem textIs_ok {b : Nat} {E : TypeId} (c : CellM) (hb : w.heap[b]? = some (.cells #[funcV 208] E (0, 0))) (hT : TabsU w) : Rets Tryz.prog 217 [agg (cellCells c), .pointer (some ⟨b, 0, none⟩)] w fun v w' => v = .bool (decide (c.n = 0 ∧ c.s.length ≤ 1024) && validD c.s) ∧ Kept noB w w' := by
 have H := Sep.start0 w
 refine rets2 Tryz.func217 rfl rfl rfl rfl ?_
 refine Sr (FL_box H (cs := cellCells c) rfl (h := fun b0 w2 H2 k0 => ?_))
 refine Am ?_
 refine Nx (FL_loadB (cs := [funcV 208]) (H2.kept.get hb id) (h := ?_))
 refine FL_loadAll H2 (h := ?_)
 refine FL_callV (f := 208) (fs := []) (cs := []) (vals := [agg (cellCells c)]) rfl (size_ok c) rfl rfl (fun v' w7 hv => ?_)
 obtain ⟨rfl, hkk⟩ := hv
 have H7 := H2.keep hkk
 refine Mv ?_
 refine FL_splitP (t := 7) rfl (fun hs9 => ?_) (fun hs9 => ?_)
 ·have hs := hs9
  refine On (Vf ?_)
  refine On (Ld H7 ?_)
  refine On (FL_callQ H7 (utfValid_ok c.s (by omega) (hT.keep H7.kept)) (h := fun w14 H14 k13 => ?_))
  refine Pt ?_
  refine Am ?_
  refine Qn (FW_ret (Qfn_ret (hR := ?_)))
  exact ⟨congrArg Value.bool (by rw [decide_eq_true hs, Bool.true_and]), H14.kept⟩
 have hs := hs9
 refine Of (Of (Of (Pf ?_)))
 refine Am ?_
 refine Qn (FW_ret (Qfn_ret (hR := ?_)))
 exact ⟨congrArg Value.bool (by rw [decide_eq_false hs, Bool.false_and]), H7.kept⟩
end
end Go.Proofs.YtolaedhdjcnijaaGreatDoor
