/-
 The place of a column, the type of what a step puts, walked.
-/
import Derived.Test.YtolaedhdjcnijaaGreatDoorKk6
import Derived.Test.YtolaedhdjcnijaaGreatDoorShelf
import Derived.Test.YtolaedhdjcnijaaGreatDoorKk5
import Derived.Lib.RowBridge
set_option linter.unusedVariables false
set_option linter.unusedSimpArgs false
namespace Go.Mw
open Go.RowKit
section gives
variable {P : Program} {ρ : Operand → Value} {ty : TypeId} {w : World}
theorem Gives.DN {T e : TypeId} {n size bytes : Nat} [ha : lI P T n e] [hc : Cells P e size bytes] {z : Value} [hz : Zero P T z] {zs : List Value} {parts : List (Nat × Operand)} {out : List Value} (Co : z.cells = zs.toArray) (h : Fills (fun i : Nat => some (i * size, size)) ρ parts zs out) :
    Gives P ρ (.build T parts.toArray) ty w (.agg out.toArray) w := fun _ _ _ _ => by
  obtain ⟨i, hi, qB⟩ := Option.map_eq_some_iff.1 hc.size
  simp only [Prod.mk.injEq] at qB
  have hf := Cg h
  simp only [execOp, Instr.build, Sem.run_bind, hz.run, Result.andThen_ok, run_underlying ha.und, sizeOf, typeInfo, hi, Co, Sem.run_pure, List.map_toArray, qB.1]
  have Wq : Instr.fill (fun i => some (i * size, size)) zs.toArray (List.map (fun x => (x.fst, ρ x.snd)) parts) = some out.toArray := hf
  simp [hi, qB.1, Wq]
end gives
end Go.Mw
namespace Go.Proofs.YtolaedhdjcnijaaGreatDoor
open Go Go.Mw Go.Lib
set_option maxRecDepth 4000
section
variable {w : World}
theorem TS {b : Nat} {E : TypeId} (c : gG) (n : Int) (hb : w.heap[b]? = some (.cells #[I n] E (0, 0))) : bF Tryz.prog 153 [agg (bE c), .pointer (some ⟨b, 0, none⟩)] w fun v w' => v = .bool (decide (c.id = n)) ∧ Kept noB w w' := by
 have H := Sep.bB w
 refine eU Tryz.func153 rfl rfl rfl rfl ?_
 refine Sr (dz H (cs := bE c) rfl (h := fun b0 w2 H2 k0 => ?_))
 refine Am ?_
 refine Nx (Vf ?_)
 refine Ld H2 ?_
 refine rR (cs := [I n]) (H2.kept.get hb id) (h := ?_)
 refine Ve ?_
 refine Am ?_
 refine Qn (aM (ak (hR := ?_)))
 exact ⟨rfl, H2.kept⟩
theorem find_ok {cols : List gG} {vc : Value} (n : Int) (hc : dn w vc bE 7 cols) : bF Tryz.prog 104 [vc, I n] w fun v w' => v = I (Jo (nS cols n)) ∧ Kept noB w w' := by
 have H := Sep.bB w
 refine eU Tryz.func104 rfl rfl rfl rfl ?_
 refine Sr (dz H (h := fun b1 w2 H2 k1 => ?_))
 refine Am ?_
 refine Nx (Mv ?_)
 refine Vv (Gives.makeFunc rfl rfl) ?_
 have Mc := H2.obj At0
 have hpr : oQ _ (.func (.func 153) #[] #[.pointer (some ⟨b1, 0, none⟩)]) (fun c => agg (bE c)) (fun c => decide (c.id = n)) := ⟨153, [], [.pointer (some ⟨b1, 0, none⟩)], rfl, inferInstance, fun c w'' hk => TS c n (hk.get Mc id)⟩
 refine aN H2 (K6 (hc.keep H2.kept) hpr) (h := fun w7 H7 k6 => ?_)
 refine Am ?_
 refine Qn (aM (ak (hR := ?_)))
 exact ⟨rfl, H7.kept⟩
attribute [local irreducible] nL
theorem XO {cols : List gG} {vc : Value} (x : bL) (hc : dn w vc bE 7 cols) (h1 : 1 ≤ x.kind) (h6 : x.kind ≤ 6) : bF Tryz.prog 66 [vc, agg (aI x)] w fun v w' => v = .tuple #[agg (aJ ((oZ cols x).getD fu)), .bool (oZ cols x).isSome] ∧ Kept noB w w' := by
  have Uq := hc
  obtain ⟨A, m, rfl, ⟨hm, xK⟩, hA⟩ := hc
  have H := Sep.bB w
  obtain ⟨res, ay⟩ : ∃ res, res = oZ cols x := ⟨_, rfl⟩
  rw [← ay]
  unfold oZ at ay
  refine Ai Tryz.func66 rfl rfl rfl rfl ?_
  refine Sr (dz H (cs := aI x) rfl (h := fun b0 w2 H2 k0 => ?_))
  refine bD H2 (h := fun b3 w4 H4 k3 => ?_)
  refine Am ?_
  refine Nx (Vv (Gives.DN (out := [I 0, I 0, I 3, I 1, I 4, I 5]) rfl (Fills.one rfl rfl rfl (by simp) rfl (Fills.one rfl rfl rfl (by simp) rfl (Fills.one rfl rfl rfl (by simp) rfl (Fills.one rfl rfl rfl (by simp) rfl Fills.nil))))) (bD H4 (h := fun bk w8 H8 k7 => ?_)))
  refine aD H8 (h := fun wa Ha => ?_)
  refine Qn (au (Sr (Vf ?_)))
  refine Ld Ha ?_
  refine Qn (aF (Sr (Ve ?_)))
  refine Am ?_
  refine Qn (Cp rfl (fun Ia => ?_) (fun Ia => ?_))
  · rw [if_neg (by omega), if_neg (by omega), if_neg (by omega), if_neg (by omega), if_neg (by omega)] at ay
    refine Sr (Vf ?_)
    refine Ld Ha ?_
    refine Vv (Gives.build (out := aJ ⟨x.n, true⟩) (Fills.one rfl rfl rfl (by simp) rfl (Fills.one rfl rfl rfl (by simp) rfl Fills.nil))) (aD Ha (h := fun wb Hb => ?_))
    refine Am ?_
    refine Qn (Rb (aW (h := ?_)))
    exact ⟨_, dQ Hb, by rw [ay]; rfl, Hb.kept⟩
  refine Sr (Ve ?_)
  refine Am ?_
  refine Qn (Cp rfl (fun Ib => ?_) (fun Ib => ?_))
  · rw [if_pos Ib] at ay
    refine Sr (Mv ?_)
    refine Vf ?_
    refine Ld Ha ?_
    refine aN Ha (find_ok x.n (Uq.keep Ha.kept)) (h := fun wc Hc ka => ?_)
    refine Am ?_
    refine Qn (au (Sr (Mv ?_)))
    refine Vl ?_
    refine Mv ?_
    refine aG (t := 25) rfl (fun Sa => ?_) (fun Sa => ?_)
    · have iY : nS cols x.n = none := by
        cases hf : nS cols x.n with
        | none => rfl
        | some i =>
          rw [hf] at Sa
          exact absurd (show ((i : Nat) : Int) < 0 from Sa) (by omega)
      rw [iY] at ay
      refine Of (Of (Of (Of (Of (Of (Of (Pt ?_)))))))
      refine Qn (aQ rfl ?_)
      refine Sr (Vv (Gives.build (out := aJ fu) Fills.nil) (aD Hc (h := fun wd Hd => ?_)))
      refine Am ?_
      refine Qn (Rs (aH (aL (aW (h := ?_)))))
      exact ⟨_, dQ Hd, by rw [ay]; rfl, Hd.kept⟩
    obtain ⟨i, hf⟩ : ∃ i, nS cols x.n = some i := by
      cases hf : nS cols x.n with
      | none => rw [hf] at Sa; exact absurd (show (-1 : Int) < 0 by decide) Sa
      | some i => exact ⟨i, rfl⟩
    have bU := OV hf
    obtain ⟨c, hcg⟩ := get_some (l := cols) (i := i) bU
    rw [hf] at ay
    dsimp only at ay
    rw [l6 hcg] at ay
    refine On (Mv ?_)
    refine On (Mv ?_)
    refine On ?_
    rw [show (Jo (nS cols x.n)) = ((i : Nat) : Int) by rw [hf]; rfl]
    refine Vv (Gives.eT rfl rfl hA bU) (On ?_)
    refine Vv (Gives.fH rfl (by assumption) (by omega)) (On ?_)
    refine Vv (Gives.Dw (us := aJ c.type) rfl Hc hA hcg rfl rfl) (On ?_)
    refine aN Hc (tX c.type) (h := fun we He kb => ?_)
    refine On (Vv (Gives.not rfl) (Pf ?_))
    refine Qn (Cd rfl (fun Ic => ?_) (fun Ic => ?_))
    · rw [if_pos (by first | exact Ic | (have h := Ic; revert h; cases nL c.type <;> simp))] at ay
      refine Sr (Vv (Gives.build (out := aJ fu) Fills.nil) (aD He (h := fun wf Hf => ?_)))
      refine Am ?_
      refine Qn (Rs (aH (aL (aW (h := ?_)))))
      exact ⟨_, dQ Hf, by rw [ay]; rfl, Hf.kept⟩
    rw [if_neg (by have h := Ic; revert h; cases nL c.type <;> simp)] at ay
    refine Sk (Sr (Mv ?_))
    refine Mv ?_
    refine Vv (Gives.eT rfl rfl hA bU) (Vv (Gives.fH rfl (by assumption) (by omega)) ?_)
    refine Vv (Gives.Dw (us := aJ c.type) rfl He hA hcg rfl rfl) (bD He (h := fun b69 wg Hg kc => ?_))
    refine aD Hg (h := fun wh Hh => ?_)
    refine Qn (au (Sr (Vf ?_)))
    refine Ld Hh ?_
    refine Ve ?_
    refine Qn (Cp rfl (fun Id => ?_) (fun Id => ?_))
    · rw [if_pos Id] at ay
      refine aB (Vf ?_)
      refine bW Hh (h := fun wi Hi => ?_)
      refine Nx (aZ Hi (h := ?_))
      refine aD Hi (h := fun wj Hj => ?_)
      refine Am ?_
      refine Qn (Rb (aW (h := ?_)))
      exact ⟨_, dQ Hj, by rw [ay]; rfl, Hj.kept⟩
    rw [if_neg Id] at ay
    refine Sk (Sr (aZ Hh (h := ?_)))
    refine aD Hh (h := fun wk Hk => ?_)
    refine Am ?_
    refine Qn (Rb (aW (h := ?_)))
    exact ⟨_, dQ Hk, by rw [ay]; rfl, Hk.kept⟩
  rw [if_neg Ib] at ay
  have JH : ((x.kind.toNat : Nat) : Int) = x.kind := Int.toNat_of_nonneg (by omega)
  obtain ⟨kk, dK, hg⟩ : ∃ kk : Int, res = some ⟨kk, false⟩ ∧ [(0 : Int), 0, 3, 1, 4, 5][x.kind.toNat]? = some kk := by
    rcases (by omega : x.kind = 2 ∨ x.kind = 3 ∨ x.kind = 4 ∨ x.kind = 5) with e | e | e | e <;> rw [e] at ay ⊢ <;> exact ⟨_, ay, rfl⟩
  have hR : Rd _ (some ⟨bk, 0, none⟩) intCells 1 [(0 : Int), 0, 3, 1, 4, 5] := Sep.gJ Ha At0 rfl
  refine aY (aA (aj (Sr (Vf ?_))))
  refine Ld Ha ?_
  refine Vv (Gives.yu (i := x.kind.toNat) rfl (by rw [JH]; rfl) (by omega)) ?_
  refine Vv (Gives.o8 (f := 0) (i := x.kind.toNat) rfl hR hg rfl) (Vv (Gives.build (out := aJ ⟨kk, false⟩) (Fills.one rfl rfl rfl (by simp) rfl Fills.nil)) ?_)
  refine aD Ha (h := fun wl Hl => ?_)
  refine Am ?_
  refine Qn (aM (aW (h := ?_)))
  exact ⟨_, dQ Hl, by rw [dK]; rfl, Hl.kept⟩
end
end Go.Proofs.YtolaedhdjcnijaaGreatDoor
namespace Go.Mw
open Go.RowKit
section
variable {P : Program} {r : Option Nat} {n : Nat} {ops : Array Oper} {Q : Post} {σ : St} {w w₀ : World} {S : Nat → Prop} {rs : List HP} {ty : TypeId} {pos : String} {after : Array Edge} {guard : Option (Nat × Bool)} {lv : List Bool} {pd : List (Nat × Bool)}
theorem ZH {dst : Option Nat} {y : Operand} {f : FuncId} {fs cs : List Value} {xs : List Operand} {ats : Array TypeId} {vals : List Value} {R : Value → World → Prop} [he : Enters P f] {K : St → World → Prop} (hy : evF σ y = .func (.func f) fs.toArray cs.toArray) (hc : bF P f (fs ++ vals ++ cs) w R) (hv : xs.map (evF σ) = vals)
    (h : ∀ v w', R v w' → K (nu σ dst v) w') : CB P σ w { dst := dst, op := .call { callee := .value y, args := xs.toArray, argTypes := ats }, type := ty, pos := pos, after := after, guard := guard } K := by
  unfold CB
  have e : (execOp (evF σ) { dst := dst, op := .call { callee := .value y, args := xs.toArray, argTypes := ats }, type := ty, pos := pos, after := after, guard := guard }).run P w = .ok (.enter f (fs ++ vals ++ cs).toArray) w := by
    simp [execOp, resolve, hy, Deferred.ofValue, invoke, hv]
    rw [← he.run (fs ++ (vals ++ cs)).toArray w]
  rw [e]
  refine Calls.mono hc fun en w'' hr => ?_
  cases en with
  | returned v => exact h v w'' hr
  | _ => exact hr.elim
theorem pJ (fK : fC n ops = true) (e : Nat) (pd' : List (Nat × Bool)) {d : Nat} {y : Operand} {f : FuncId} {fs cs : List Value} {xs : List Operand} {ats : Array TypeId} {vals : List Value} {R : Value → World → Prop} [he : Enters P f]
    (hy : evF σ y = .func (.func f) fs.toArray cs.toArray) (hc : bF P f (fs ++ vals ++ cs) w R)
    (ho : ops[e]? = some { dst := some d, op := .call { callee := .value y, args := xs.toArray, argTypes := ats }, type := ty, pos := pos, after := after, guard := guard } := by exact rfl)
    (hw : Region.wanted { dst := some d, op := .call { callee := .value y, args := xs.toArray, argTypes := ats }, type := ty, pos := pos, after := after, guard := guard } (dR ops σ) = true := by kernel_rfl) (hv : xs.map (evF σ) = vals := by exact rfl) (jl : iq ops lv (pd.map (·.1)) e = true := by kernel_rfl)
    (qA : pd.filter (fun p => !((above ops e).contains p.1)) = pd' := by kernel_rfl) (h : ∀ v w', R v w' → jX P ops (upd σ d v) w' pd' ∧ FG P r n ops Q (lv.set e true) pd' (upd σ d v) w') : FG P r n ops Q lv pd σ w :=
  vT fK ho jl hw pd' qA (ZH hy hc hv h)
theorem yM (fK : fC n ops = true) (e : Nat) (pd' : List (Nat × Bool)) {d : Nat} {y : Operand} {f : FuncId} {fs cs : List Value} {xs : List Operand} {ats : Array TypeId} {vals : List Value} {R : Value → World → Prop} [he : Enters P f]
    (hy : evF σ y = .func (.func f) fs.toArray cs.toArray) (hc : bF P f (fs ++ vals ++ cs) w R)
    (ho : ops[e]? = some { dst := some d, op := .call { callee := .value y, args := xs.toArray, argTypes := ats }, type := ty, pos := pos, after := after, guard := guard } := by exact rfl)
    (hw : Region.wanted { dst := some d, op := .call { callee := .value y, args := xs.toArray, argTypes := ats }, type := ty, pos := pos, after := after, guard := guard } (dR ops σ) = true := by kernel_rfl) (hv : xs.map (evF σ) = vals := by exact rfl) (jl : nM ops lv (pd.map (·.1)) e = true := by kernel_rfl)
    (qA : pd.filter (fun p => !((above ops e).contains p.1)) = pd' := by kernel_rfl) (h : ∀ v w', R v w' → jX P ops (upd σ d v) w' pd' ∧ FG P r n ops Q (lv.set e true) pd' (upd σ d v) w') : nZ P r n ops Q lv pd σ w e :=
  Dx fK ho jl hw pd' qA (ZH hy hc hv h)
end
end Go.Mw
namespace Go.Proofs.YtolaedhdjcnijaaGreatDoor
open Go Go.Mw Go.Lib
set_option maxRecDepth 4000
def Bw {α : Type} (k : Int) (l : List α) (a b : α) : Prop := (l = [a] ∧ a = b ∧ (k = 10 ∨ k = 15 ∨ k = 16 ∨ k = 18)) ∨ (l = [a, b] ∧ k ≠ 10 ∧ k ≠ 15 ∧ k ≠ 16 ∧ k ≠ 18)
theorem Bw.any {α : Type} {k : Int} {l : List α} {a b : α} (h : Bw k l a b) (p : α → Bool) : l.any p = (p a || p b) := by
 rcases h with ⟨rfl, rfl, _⟩ | ⟨rfl, _⟩
 ·simp
 simp
theorem Bw.get {α : Type} {k : Int} {l : List α} {a b : α} (h : Bw k l a b) : l[0]? = some a ∧ l[l.length - 1]? = some b ∧ 0 < l.length := by
 rcases h with ⟨rfl, rfl, _⟩ | ⟨rfl, _⟩
 ·exact ⟨rfl, rfl, by simp⟩
 exact ⟨rfl, rfl, by simp⟩
def within (want : List Int) (t : dH) : Bool := want.any fun y => decide (t.kind = y)
section
variable {w : World}
theorem QC (t : dH) : bF Tryz.prog 109 [agg (aJ t)] w fun v w' => v = .bool t.null ∧ Kept noB w w' := by
 have H := Sep.bB w
 refine dP Tryz.func109 rfl rfl rfl rfl ?_
 refine Sr (dz H (cs := aJ t) rfl (h := fun b0 w2 H2 k0 => ?_))
 refine Am ?_
 refine Nx (Vf ?_)
 refine Ld H2 ?_
 refine Am ?_
 refine Qn (aM (ak (hR := ?_)))
 exact ⟨rfl, H2.kept⟩
theorem QD (t : dH) : bF Tryz.prog 110 [agg (aJ t)] w fun v w' => v = .bool (!t.null) ∧ Kept noB w w' := by
 have H := Sep.bB w
 refine dP Tryz.func110 rfl rfl rfl rfl ?_
 refine Sr (dz H (cs := aJ t) rfl (h := fun b0 w2 H2 k0 => ?_))
 refine Am ?_
 refine Nx (Vf ?_)
 refine Ld H2 ?_
 refine Vv (Gives.not rfl) (Am ?_)
 refine Qn (aM (ak (hR := ?_)))
 exact ⟨rfl, H2.kept⟩
theorem NA {b : Nat} {E : TypeId} {want : List Int} {vw : Value} (t : dH) (hb : w.heap[b]? = some (.cells #[vw] E (0, 0))) (hw : dn w vw intCells 1 want) : bF Tryz.prog 107 [agg (aJ t), .pointer (some ⟨b, 0, none⟩)] w fun v w' => v = .bool (!within want t) ∧ Kept noB w w' := by
 have H := Sep.bB w
 refine eU Tryz.func107 rfl rfl rfl rfl ?_
 refine Sr (dz H (cs := aJ t) rfl (h := fun b0 w2 H2 k0 => ?_))
 refine Am ?_
 refine Nx (rR (cs := [vw]) (H2.kept.get hb id) (h := ?_))
 refine Vf ?_
 refine Ld H2 ?_
 refine aN H2 (Nz t.kind (hw.keep H2.kept)) (h := fun w8 H8 k7 => ?_)
 refine Vv (Gives.not rfl) (Am ?_)
 refine Qn (aM (ak (hR := ?_)))
 exact ⟨rfl, H8.kept⟩
theorem sj {b : Nat} {E : TypeId} {want : List Int} {l : List dH} {vw vl : Value} (hb : w.heap[b]? = some (.cells #[vl] E (0, 0))) (hl : dn w vl aJ 2 l) (hw : dn w vw intCells 1 want) : bF Tryz.prog 105 [vw, .pointer (some ⟨b, 0, none⟩)] w fun v w' => v = .bool (!(l.any fun t => !within want t)) ∧ Kept noB w w' := by
 have H := Sep.bB w
 have hwc : vw.cells = #[vw] := by obtain ⟨A, c, rfl, _⟩ := hw; rfl
 refine eU Tryz.func105 rfl rfl rfl rfl ?_
 refine Sr (dz H (cs := [vw]) rfl hwc (h := fun b0 w2 H2 k0 => ?_))
 refine Am ?_
 refine Nx (rR (cs := [vl]) (H2.kept.get hb id) (h := ?_))
 refine Vv (Gives.makeFunc rfl rfl) ?_
 have Mc := H2.obj At0
 have hpr : oQ _ (.func (.func 107) #[] #[.pointer (some ⟨b0, 0, none⟩)]) (fun t => agg (aJ t)) (fun t => !within want t) := ⟨107, [], [.pointer (some ⟨b0, 0, none⟩)], rfl, inferInstance, fun t w'' hk => NA t (hk.get Mc id) ((hw.keep H2.kept).keep hk)⟩
 refine aN H2 (vG (hl.keep H2.kept) hpr) (h := fun w7 H7 k6 => ?_)
 refine Vv (Gives.not rfl) (Am ?_)
 refine Qn (aM (ak (hR := ?_)))
 exact ⟨rfl, H7.kept⟩
end
theorem Bw.all {k : Int} {l : List dH} {a b : dH} (h : Bw k l a b) (want : List Int) : (!(l.any fun t => !within want t)) = (within want a && within want b) := by
 rw [h.any]
 cases within want a <;> cases within want b <;> rfl
theorem Gf {res : Option dH} {t : dH} {ok : Bool} (h1 : ok = res.isSome) (h2 : ∀ y, res = some y → t = y) : ∃ t', Value.tuple #[agg (aJ t), .bool ok] = .tuple #[agg (aJ t'), .bool res.isSome] ∧ ∀ x, res = some x → t' = x :=
 ⟨t, by rw [h1], h2⟩
theorem vH {P : Prop} [Decidable P] {t u : dH} {ok : Bool} (h1 : ok = decide P) (h2 : t = u) : ∃ t', Value.tuple #[agg (aJ t), .bool ok] = .tuple #[agg (aJ t'), .bool (if P then some u else none).isSome] ∧ ∀ x, (if P then some u else none) = some x → t' = x := by
 refine Gf ?_ fun y hy => ?_
 ·rw [h1]; by_cases hp : P
  ·rw [if_pos hp, decide_eq_true hp]; rfl
  rw [if_neg hp, decide_eq_false hp]; rfl
 by_cases hp : P
 ·rw [if_pos hp] at hy; injection hy with hy; rw [h2, hy]
 rw [if_neg hp] at hy; cases hy
theorem lT (k : Int) (t : dH) : within [k] t = decide (t.kind = k) := by simp [within]
theorem DR (j k : Int) (t : dH) : within [j, k] t = decide (t.kind = j ∨ t.kind = k) := by simp [within]
theorem zJ (P Q : Prop) [Decidable P] [Decidable Q] : (decide P && decide Q) = decide (P ∧ Q) := by
 by_cases h1 : P <;> by_cases h2 : Q <;> simp [h1, h2]
section
variable {w : World}
theorem TT {k : Int} {l : List dH} {a b : dH} {vl : Value} (hl : dn w vl aJ 2 l) (hs : Bw k l a b) (h7 : 7 ≤ k) (h18 : k ≤ 18) : bF Tryz.prog 67 [I k, vl] w fun v w' => (∃ t, v = .tuple #[agg (aJ t), .bool (qM k a b).isSome] ∧ ∀ x, qM k a b = some x → t = x) ∧ Kept noB w w' := by
 have Uz := hl
 obtain ⟨A, m, rfl, ⟨hm, xK⟩, hA⟩ := hl
 have H := Sep.bB w
 obtain ⟨hga, _, Yk⟩ := hs.get
 obtain ⟨res, ay⟩ : ∃ res, res = qM k a b := ⟨_, rfl⟩
 rw [← ay]
 unfold qM at ay
 have ab3 := hs.any fun t => t.null
 have Yx : (!(l.any fun t => !t.null)) = (a.null && b.null) := by
  rw [hs.any]; cases a.null <;> cases b.null <;> rfl
 refine Ai Tryz.func67 rfl rfl rfl rfl ?_
 refine Sr (dz H (cs := [.slice A l.length m]) rfl (h := fun b0 w2 H2 k0 => ?_))
 refine bD H2 (h := fun b1 w4 H4 k3 => ?_)
 refine Am ?_
 refine Nx (Vv (Gives.makeFunc rfl rfl) (Am ?_))
 refine Nx (Ld H4 ?_)
 refine aN H4 (vG (p := fun t => t.null) (Uz.keep H4.kept) ⟨109, [], [], rfl, inferInstance, fun t w'' _ => QC t⟩) (h := fun wa Ha k9 => ?_)
 rw [ab3]
 refine Am ?_
 refine Nx (Ld Ha ?_)
 refine aN Ha (vG (p := fun t => !t.null) (Uz.keep Ha.kept) ⟨110, [], [], rfl, inferInstance, fun t w'' _ => QD t⟩) (h := fun wb Hb ka => ?_)
 refine Vv (Gives.not rfl) ?_
 rw [Yx]
 refine Am ?_
 refine Qn (au (Sr (Mv ?_)))
 refine Qn (aF (fO (fun _ : Unit => [(0, I k), (3, .pointer (some ⟨b0, 0, none⟩)), (4, .pointer (some ⟨b1, 0, none⟩)), (6, .func (.func 105) #[] #[.pointer (some ⟨b0, 0, none⟩)]), (7, .bool (a.null || b.null)), (8, .bool (a.null && b.null)), (15, I k), (16, .bool (decide (k = 7 ∨ k = 8 ∨ k = 9 ∨ k = 10)))]) (fun _ w' => Sep w noB [blk b1 [.int .i64 0, .bool false] 45, blk b0 [.slice A l.length m] 101] w') ?_ ?_))
 ·refine Sr (Ve ?_)
  refine Am ?_
  refine Qn (Cp rfl (fun Ia => ?_) (fun Ia => ?_))
  ·refine aY ?_
   exact aS () ⟨rfl, rfl, rfl, rfl, rfl, rfl, rfl, congrArg Value.bool (decide_eq_decide.2 (by omega)), trivial⟩ Hb
  refine Sr (Ve ?_)
  refine Am ?_
  refine Qn (Cp rfl (fun Ib => ?_) (fun Ib => ?_))
  ·refine aY ?_
   exact aS () ⟨rfl, rfl, rfl, rfl, rfl, rfl, rfl, congrArg Value.bool (decide_eq_decide.2 (by omega)), trivial⟩ Hb
  refine Sr (Ve ?_)
  refine Am ?_
  refine Qn (Cp rfl (fun Ic => ?_) (fun Ic => ?_))
  ·refine aY ?_
   exact aS () ⟨rfl, rfl, rfl, rfl, rfl, rfl, rfl, congrArg Value.bool (decide_eq_decide.2 (by omega)), trivial⟩ Hb
  refine aB (Ve ?_)
  refine Am ?_
  refine aP ?_
  exact aS () ⟨rfl, rfl, rfl, rfl, rfl, rfl, rfl, congrArg Value.bool (decide_eq_decide.2 (by omega)), trivial⟩ Hb
 intro _ τ wc Hc
 simp only [cZ, like, bC, bZ]
 refine Cp rfl (fun Id => ?_) (fun Id => ?_)
 ·rw [if_pos Id] at ay
  refine Sr (Mv ?_)
  refine Vv (Gives.build (out := aJ ⟨3, a.null || b.null⟩) (Fills.one rfl rfl rfl (by simp) rfl (Fills.one rfl rfl rfl (by simp) rfl Fills.nil))) (Mv ?_)
  refine aX Hc (xs := [_]) (out := ([3] : List Int).flatMap intCells) ((aU.one rfl rfl aU.nil)) rfl rfl rfl (fun bw wd Hd kb => ?_)
  have Mc := Hd.obj At2
  have Rf : dn _ (.slice (some ⟨bw, 0, none⟩) 1 1) intCells 1 [3] := ⟨some ⟨bw, 0, none⟩, 1, rfl, ⟨by simp, by omega⟩, Sep.gJ Hd At0 rfl⟩
  refine jr (vals := [_]) rfl (sj Mc (Uz.keep Hd.kept) Rf) rfl rfl (fun v' we hv => ?_)
  obtain ⟨rfl, dK⟩ := hv
  have He := Hd.keep dK
  rw [hs.all]
  refine aD He (h := fun wf Hf => ?_)
  refine Am ?_
  refine Qn (Rb (aW (h := ?_)))
  exact ⟨_, dQ Hf, by rw [ay]; exact vH (by rw [lT, lT, zJ]) rfl, Hf.kept⟩
 rw [if_neg Id] at ay
 refine fO (fun _ : Unit => [(0, I k), (3, .pointer (some ⟨b0, 0, none⟩)), (4, .pointer (some ⟨b1, 0, none⟩)), (6, .func (.func 105) #[] #[.pointer (some ⟨b0, 0, none⟩)]), (7, .bool (a.null || b.null)), (8, .bool (a.null && b.null)), (15, I k), (26, .bool (decide (k = 11 ∨ k = 12)))]) (fun _ w' => Sep w noB [blk b1 [.int .i64 0, .bool false] 45, blk b0 [.slice A l.length m] 101] w') ?_ ?_
 ·refine Sr (Ve ?_)
  refine Am ?_
  refine Qn (Cp rfl (fun Ie => ?_) (fun Ie => ?_))
  ·refine aY ?_
   exact aS () ⟨rfl, rfl, rfl, rfl, rfl, rfl, rfl, congrArg Value.bool (decide_eq_decide.2 (by omega)), trivial⟩ Hc
  refine aB (Ve ?_)
  refine Am ?_
  refine aP ?_
  exact aS () ⟨rfl, rfl, rfl, rfl, rfl, rfl, rfl, congrArg Value.bool (decide_eq_decide.2 (by omega)), trivial⟩ Hc
 intro _ τ wg Hg
 simp only [cZ, like, bC]
 refine Cp rfl (fun If => ?_) (fun If => ?_)
 ·rw [if_pos If] at ay
  refine Sr (Mv ?_)
  refine Vv (Gives.build (out := aJ ⟨1, a.null || b.null⟩) (Fills.one rfl rfl rfl (by simp) rfl (Fills.one rfl rfl rfl (by simp) rfl Fills.nil))) (Mv ?_)
  refine Ld Hg ?_
  refine Vv (Gives.eT (i := 0) rfl rfl hA Yk) (Vv (Gives.fH rfl (by assumption) (by omega)) ?_)
  refine Vv (Gives.iJ (i := 0) (f := 0) rfl Hg hA hga rfl) (aX Hg (xs := [_]) (out := ([a.kind] : List Int).flatMap intCells) ((aU.one rfl rfl aU.nil)) rfl rfl rfl (fun bw wh Hh kc => ?_))
  have Mc := Hh.obj At2
  have Rf : dn _ (.slice (some ⟨bw, 0, none⟩) 1 1) intCells 1 [a.kind] := ⟨some ⟨bw, 0, none⟩, 1, rfl, ⟨by simp, by omega⟩, Sep.gJ Hh At0 rfl⟩
  refine jr (vals := [_]) rfl (sj Mc (Uz.keep Hh.kept) Rf) rfl rfl (fun v' wi hv => ?_)
  obtain ⟨rfl, dK⟩ := hv
  have Hi := Hh.keep dK
  rw [hs.all]
  refine aD Hi (h := fun wj Hj => ?_)
  refine Am ?_
  refine Qn (Rb (aW (h := ?_)))
  exact ⟨_, dQ Hj, by rw [ay]; exact vH (by rw [lT, lT, zJ]; exact decide_eq_decide.2 ⟨fun h => h.2.symm, fun h => ⟨rfl, h.symm⟩⟩) rfl, Hj.kept⟩
 rw [if_neg If] at ay
 refine fO (fun _ : Unit => [(0, I k), (3, .pointer (some ⟨b0, 0, none⟩)), (4, .pointer (some ⟨b1, 0, none⟩)), (6, .func (.func 105) #[] #[.pointer (some ⟨b0, 0, none⟩)]), (7, .bool (a.null || b.null)), (8, .bool (a.null && b.null)), (15, I k), (38, .bool (decide (k = 13 ∨ k = 14 ∨ k = 15)))]) (fun _ w' => Sep w noB [blk b1 [.int .i64 0, .bool false] 45, blk b0 [.slice A l.length m] 101] w') ?_ ?_
 ·refine Sr (Ve ?_)
  refine Am ?_
  refine Qn (Cp rfl (fun Ig => ?_) (fun Ig => ?_))
  ·refine aY ?_
   exact aS () ⟨rfl, rfl, rfl, rfl, rfl, rfl, rfl, congrArg Value.bool (decide_eq_decide.2 (by omega)), trivial⟩ Hg
  refine Sr (Ve ?_)
  refine Am ?_
  refine Qn (Cp rfl (fun Ih => ?_) (fun Ih => ?_))
  ·refine aY ?_
   exact aS () ⟨rfl, rfl, rfl, rfl, rfl, rfl, rfl, congrArg Value.bool (decide_eq_decide.2 (by omega)), trivial⟩ Hg
  refine aB (Ve ?_)
  refine Am ?_
  refine aP ?_
  exact aS () ⟨rfl, rfl, rfl, rfl, rfl, rfl, rfl, congrArg Value.bool (decide_eq_decide.2 (by omega)), trivial⟩ Hg
 intro _ τ wk Hk
 simp only [cZ, like, bC]
 refine Cp rfl (fun Ii => ?_) (fun Ii => ?_)
 ·rw [if_pos Ii] at ay
  refine Sr (Mv ?_)
  refine Vv (Gives.build (out := aJ ⟨1, a.null || b.null⟩) (Fills.one rfl rfl rfl (by simp) rfl (Fills.one rfl rfl rfl (by simp) rfl Fills.nil))) (Mv ?_)
  refine aX Hk (xs := [_]) (out := ([1] : List Int).flatMap intCells) ((aU.one rfl rfl aU.nil)) rfl rfl rfl (fun bw wl Hl kd => ?_)
  have Mc := Hl.obj At2
  have Rf : dn _ (.slice (some ⟨bw, 0, none⟩) 1 1) intCells 1 [1] := ⟨some ⟨bw, 0, none⟩, 1, rfl, ⟨by simp, by omega⟩, Sep.gJ Hl At0 rfl⟩
  refine jr (vals := [_]) rfl (sj Mc (Uz.keep Hl.kept) Rf) rfl rfl (fun v' wm hv => ?_)
  obtain ⟨rfl, dK⟩ := hv
  have Hm := Hl.keep dK
  rw [hs.all]
  refine aD Hm (h := fun wn Hn => ?_)
  refine Am ?_
  refine Qn (Rb (aW (h := ?_)))
  exact ⟨_, dQ Hn, by rw [ay]; exact vH (by rw [lT, lT, zJ]) rfl, Hn.kept⟩
 rw [if_neg Ii] at ay
 refine Sr (Ve ?_)
 refine Am ?_
 refine Qn (Cp rfl (fun Ij => ?_) (fun Ij => ?_))
 ·rw [if_pos Ij] at ay
  refine Sr (Vv (Gives.build (out := aJ ⟨1, false⟩) (Fills.one rfl rfl rfl (by simp) rfl Fills.nil)) (aD Hk (h := fun wo Ho => ?_)))
  refine Am ?_
  refine Qn (Rb (aW (h := ?_)))
  exact ⟨_, dQ Ho, by rw [ay]; exact Gf rfl (fun y hy => by injection hy), Ho.kept⟩
 rw [if_neg Ij] at ay
 refine Sr (Ve ?_)
 refine Am ?_
 refine Qn (Cp rfl (fun Ik => ?_) (fun Ik => ?_))
 ·rw [if_pos Ik] at ay
  refine au (bG rfl Hk (h := fun Sa wp Hp => ?_))
  refine cK Sa 0 Hp (h := ?_)
  refine Gp Sa 1 rfl rfl (fun _ => (Gives.eT rfl rfl (by assumption) (by omega))) (Gp Sa 2 rfl rfl (fun _ => (Gives.fH rfl (by assumption) (by omega))) ?_)
  refine Gl Sa 3 rfl rfl (Gives.iJ rfl Hp (by assumption) (by assumption) rfl) (Gm Sa 4 ?_)
  refine Gp Sa 5 rfl rfl (fun _ => (Gives.build (out := aJ ⟨a.kind, a.null && b.null⟩) (Fills.one rfl rfl rfl (by simp) rfl (Fills.one rfl rfl rfl (by simp) rfl Fills.nil)))) (Gm Sa 6 ?_)
  refine cK Sa 7 Hp (h := ?_)
  refine Gp Sa 8 rfl rfl (fun _ => (Gives.eT rfl rfl (by assumption) (by omega))) (Gp Sa 9 rfl rfl (fun _ => (Gives.fH rfl (by assumption) (by omega))) ?_)
  refine Gl Sa 10 rfl rfl (Gives.iJ rfl Hp (by assumption) (by assumption) rfl) (eD Sa 11 [(6, true), (5, true), (4, true), (3, false), (2, true), (1, true), (0, false)] Hp (xs := [.tmp 62]) (out := [a.kind].flatMap intCells) (aU.one rfl rfl aU.nil) (h := fun bw wq Hq => ⟨av (av (av ((eZ rfl (by kernel_rfl) (Gives.iJ (i := 0) (f := 0) rfl Hq hA hga rfl) rfl (av (av (bQ Hq (h := aK)))))))), ?_⟩))
  have Mc := Hq.obj At2
  have Rf : dn _ (.slice (some ⟨bw, 0, none⟩) 1 1) intCells 1 [a.kind] := ⟨some ⟨bw, 0, none⟩, 1, rfl, ⟨by simp, by omega⟩, Sep.gJ Hq At0 rfl⟩
  refine pJ Sa 12 [(5, true), (4, true), (3, false), (2, true), (1, true), (0, false)] (y := .tmp 58) (f := 105) (fs := []) (cs := [.pointer (some ⟨b0, 0, none⟩)]) (vals := [.slice (some ⟨bw, 0, none⟩) 1 1]) rfl (sj Mc (Uz.keep Hq.kept) Rf) (h := fun v' wr hv => ?_)
  obtain ⟨rfl, dK⟩ := hv
  have Hr := Hq.keep dK
  rw [hs.all]
  refine ⟨av (av ((eZ rfl (by kernel_rfl) (Gives.iJ (i := 0) (f := 0) rfl Hr hA hga rfl) rfl (av (av (bQ Hr (h := aK))))))), ?_⟩
  refine dF Sa 13 [] Hr (h := fun ws Hs => ⟨aK, ?_⟩)
  refine Gp Sa 14 rfl rfl (fun _ => Gives.assign rfl) (bR Sa (by kernel_rfl) ?_)
  refine aj (Rb (aW (h := ?_)))
  exact ⟨_, dQ Hs, by rw [ay]; exact vH (by rw [lT, lT, zJ]; exact decide_eq_decide.2 ⟨fun h => h.2.symm, fun h => ⟨rfl, h.symm⟩⟩) rfl, Hs.kept⟩
 rw [if_neg Ik] at ay
 refine aY (aA (aj (Sr (Mv ?_))))
 refine Vv (Gives.build (out := aJ ⟨3, a.null || b.null⟩) (Fills.one rfl rfl rfl (by simp) rfl (Fills.one rfl rfl rfl (by simp) rfl Fills.nil))) (Mv ?_)
 refine aX Hk (xs := [_, _]) (out := ([4, 5] : List Int).flatMap intCells) ((aU.one rfl rfl (aU.one rfl rfl aU.nil))) rfl rfl rfl (fun bw wt Ht ke => ?_)
 have Mc := Ht.obj At2
 have Rf : dn _ (.slice (some ⟨bw, 0, none⟩) 2 2) intCells 1 [4, 5] := ⟨some ⟨bw, 0, none⟩, 2, rfl, ⟨by simp, by omega⟩, Sep.gJ Ht At0 rfl⟩
 refine jr (vals := [_]) rfl (sj Mc (Uz.keep Ht.kept) Rf) rfl rfl (fun v' wu hv => ?_)
 obtain ⟨rfl, dK⟩ := hv
 have Hu := Ht.keep dK
 rw [hs.all]
 refine aD Hu (h := fun wv Hv => ?_)
 refine Am ?_
 refine Qn (aM (aW (h := ?_)))
 have Ef : a = b := by
  rcases hs with ⟨_, h, _⟩ | ⟨_, h⟩
  ·exact h
  omega
 exact ⟨_, dQ Hv, by rw [ay]; exact vH (by rw [DR, DR, zJ]; exact decide_eq_decide.2 (by rw [← Ef]; simp)) rfl, Hv.kept⟩
end
theorem lU {P : Program} {f : FuncId} {args : List Value} {w : World} {v : Value} (h : Calls P f args.toArray w fun e w' => e = .returned v ∧ RowKit.Below w.heap.size w w') : bF P f args w fun v' w' => v' = v ∧ Kept noB w w' :=
 Calls.mono h fun e w' he => by
  obtain ⟨rfl, hb⟩ := he
  exact ⟨rfl, Kept.of_below hb⟩
theorem l7 {P : Program} {f : FuncId} {args : List Value} {w : World} {v : Value} (h : Calls P f args.toArray w fun e w' => e = .returned v ∧ w' = w) : bF P f args w fun v' w' => v' = v ∧ w = w' :=
 Calls.mono h fun e w' he => by
  obtain ⟨rfl, hb⟩ := he
  exact ⟨rfl, hb.symm⟩
def mo (w : World) : Prop := Lib.Utf8Tabs 4 5 w
theorem mo.keep {w w' : World} (h : mo w) (hk : Kept noB w w') : mo w' := Utf8Tabs_below h hk.below
def isP (k : Int) (c : iB) : Bool :=
 if k = 1 then decide (c.s = [] ∧ 0 ≤ c.n ∧ c.n ≤ 1)
 else if k = 2 then decide (c.s = [] ∧ -2147483648 ≤ c.n ∧ c.n ≤ 2147483647)
 else if k = 3 then decide (c.s = [] ∧ -9223372036854775808 ≤ c.n ∧ c.n ≤ 9223372036854775807)
 else if k = 4 then decide (c.n = 0 ∧ c.s.length ≤ 1024) && validD c.s
 else decide (c.n = 0 ∧ c.s.length ≤ 1024)
theorem XP {k : Int} {c : iB} (hf : fits c.n) : isP k c = isC k c := by
 unfold isP isC
 split
 ·rfl
 split
 ·rfl
 split
 ·exact decide_eq_decide.2 ⟨fun h => h.1, fun h => ⟨h, hf.1, hf.2⟩⟩
 split
 ·by_cases h1 : c.n = 0 ∧ c.s.length ≤ 1024
  ·rw [decide_eq_true h1, Bool.true_and]
   cases hv : validD c.s <;> simp [h1]
  rw [decide_eq_false h1, Bool.false_and, eq_comm, decide_eq_false_iff_not]
  exact fun h => h1 ⟨h.1, h.2.1⟩
 rfl
def jV (f : FuncId) : Value := .func (.func f) #[] #[]
def kF1 : List Value := [jV 209, jV 210, jV 211, jV 212]
def kF2 : List Value := [jV 213, jV 214, jV 215, jV 216]
def kF4 : List Value := [jV 218, jV 219, jV 220, jV 221]
def kF5 : List Value := [jV 222, jV 223, jV 220, jV 221]
def mZ (k : Int) : List Value := if k = 1 then kF1 else if k = 2 ∨ k = 3 then kF2 else if k = 4 then kF4 else kF5
section
variable {w : World}
theorem BA (l : List UInt8) (hl : l.length ≤ 9223372036854775807) (hT : mo w) : bF Tryz.prog 180 [str l] w fun v w' => v = .bool (validD l) ∧ Kept noB w w' := by
 have H := Sep.bB w
 refine dP Tryz.func180 rfl rfl rfl rfl ?_
 refine Sr (Am ?_)
 refine Nx (Mv ?_)
 refine aN H (lU (Tryz.utf8_ValidString ⟨l.toArray⟩ _ (by rw [Mw.size_mk]; exact hl) hT)) (h := fun w4 H4 k3 => ?_)
 refine Am ?_
 refine Qn (aM (ak (hR := ?_)))
 exact ⟨rfl, H4.kept⟩
theorem OX (c : iB) : bF Tryz.prog 208 [agg (bK c)] w fun v w' => v = .bool (decide (c.n = 0 ∧ c.s.length ≤ 1024)) ∧ Kept noB w w' := by
 have H := Sep.bB w
 refine dP Tryz.func208 rfl rfl rfl rfl ?_
 refine Sr (dz H (cs := bK c) rfl (h := fun b0 w2 H2 k0 => ?_))
 refine Am ?_
 refine Nx (Vf ?_)
 refine Ld H2 ?_
 refine Ve ?_
 refine Mv ?_
 refine aG (t := 6) rfl (fun WG => ?_) (fun WG => ?_)
 ·refine On (Vf ?_)
  refine On (Ld H2 ?_)
  refine On (Vt ?_)
  refine On (Vv (Gives.leq rfl rfl) (Pt ?_))
  refine Am ?_
  refine Qn (aM (ak (hR := ?_)))
  exact ⟨congrArg Value.bool (decide_eq_decide.2 (by omega)), H2.kept⟩
 refine Of (Of (Of (Of (Pf ?_))))
 refine Am ?_
 refine Qn (aM (ak (hR := ?_)))
 exact ⟨congrArg Value.bool (by rw [eq_comm, decide_eq_false_iff_not]; omega), H2.kept⟩
theorem QE {b1 b2 : Nat} {E1 E2 : TypeId} {lo hi : Int} (c : iB) (h1 : w.heap[b1]? = some (.cells #[I lo] E1 (0, 0))) (h2 : w.heap[b2]? = some (.cells #[I hi] E2 (0, 0))) : bF Tryz.prog 207 [agg (bK c), .pointer (some ⟨b1, 0, none⟩), .pointer (some ⟨b2, 0, none⟩)] w fun v w' => v = .bool (decide (c.s = [] ∧ lo ≤ c.n ∧ c.n ≤ hi)) ∧ Kept noB w w' := by
 have H := Sep.bB w
 refine EU Tryz.func207 rfl rfl rfl rfl ?_
 refine Sr (dz H (cs := bK c) rfl (h := fun b0 w2 H2 k0 => ?_))
 refine Am ?_
 refine Nx (Vf ?_)
 refine Ld H2 ?_
 refine Vv (Gives.iD rfl rfl) (Mv ?_)
 refine aG (t := 8) rfl (fun WG => ?_) (fun WG => ?_)
 ·have hs := WG
  refine On (Vf ?_)
  refine On (Ld H2 ?_)
  refine On (rR (cs := [I lo]) (H2.kept.get h1 id) (h := ?_))
  refine On (Vv (Gives.geq rfl rfl) (Pt ?_))
  refine Mv ?_
  refine aG (t := 14) rfl (fun Sa => ?_) (fun Sa => ?_)
  ·have hn := Sa
   refine On (Vf ?_)
   refine On (Ld H2 ?_)
   refine On (rR (cs := [I hi]) (H2.kept.get h2 id) (h := ?_))
   refine On (Vv (Gives.leq rfl rfl) (Pt ?_))
   refine Am ?_
   refine Qn (aM (ak (hR := ?_)))
   exact ⟨congrArg Value.bool (decide_eq_decide.2 ⟨fun h => ⟨hs, hn, h⟩, fun h => h.2.2⟩), H2.kept⟩
  have hn := Sa
  refine Of (Of (Of (Of (Pf ?_))))
  refine Am ?_
  refine Qn (aM (ak (hR := ?_)))
  exact ⟨congrArg Value.bool (Eq.symm (decide_eq_false fun h => hn h.2.1)), H2.kept⟩
 have hs := WG
 refine Of (Of (Of (Of (Pf ?_))))
 refine Mv ?_
 refine Of (Of (Of (Of (Pf ?_))))
 refine Am ?_
 refine Qn (aM (ak (hR := ?_)))
 exact ⟨congrArg Value.bool (Eq.symm (decide_eq_false fun h => hs h.1)), H2.kept⟩
theorem nN (lo hi : Int) : bF Tryz.prog 206 [I lo, I hi] w fun v w' => ∃ p q : Nat, v = .func (.func 207) #[] #[.pointer (some ⟨p, 0, none⟩), .pointer (some ⟨q, 0, none⟩)] ∧ Turn noB (star (blk p [I lo] 2) (blk q [I hi] 2)) w w' := by
 have H := Sep.bB w
 refine eU Tryz.func206 rfl rfl rfl rfl ?_
 refine Sr (dz H (cs := [I lo]) rfl (h := fun b0 w2 H2 k0 => ?_))
 refine dz H2 (cs := [I hi]) rfl (h := fun b1 w4 H4 k1 => ?_)
 refine Am ?_
 refine Nx (Vv (Gives.makeFunc rfl rfl) (Am ?_))
 refine Qn (aM (ak (hR := ?_)))
 exact ⟨b0, b1, rfl, (H4.dS.uJ).turn⟩
theorem QF {b : Nat} {E : TypeId} (c : iB) (hb : w.heap[b]? = some (.cells #[jV 208] E (0, 0))) (hT : mo w) : bF Tryz.prog 217 [agg (bK c), .pointer (some ⟨b, 0, none⟩)] w fun v w' => v = .bool (decide (c.n = 0 ∧ c.s.length ≤ 1024) && validD c.s) ∧ Kept noB w w' := by
 have H := Sep.bB w
 refine eU Tryz.func217 rfl rfl rfl rfl ?_
 refine Sr (dz H (cs := bK c) rfl (h := fun b0 w2 H2 k0 => ?_))
 refine Am ?_
 refine Nx (rR (cs := [jV 208]) (H2.kept.get hb id) (h := ?_))
 refine aZ H2 (h := ?_)
 refine jr (f := 208) (fs := []) (cs := []) (vals := [agg (bK c)]) rfl (OX c) rfl rfl (fun v' w7 hv => ?_)
 obtain ⟨rfl, dK⟩ := hv
 have H7 := H2.keep dK
 refine Mv ?_
 refine aG (t := 7) rfl (fun EN => ?_) (fun EN => ?_)
 ·have hs := EN
  refine On (Vf ?_)
  refine On (Ld H7 ?_)
  refine On (aN H7 (BA c.s (by omega) (hT.keep H7.kept)) (h := fun wa Ha ka => ?_))
  refine Pt ?_
  refine Am ?_
  refine Qn (aM (ak (hR := ?_)))
  exact ⟨congrArg Value.bool (by rw [decide_eq_true hs, Bool.true_and]), Ha.kept⟩
 have hs := EN
 refine Of (Of (Of (Pf ?_)))
 refine Am ?_
 refine Qn (aM (ak (hR := ?_)))
 exact ⟨congrArg Value.bool (by rw [decide_eq_false hs, Bool.false_and]), H7.kept⟩
end
section
variable {w : World}
def iF (p q : Nat) : Value := .func (.func 207) #[] #[.pointer (some ⟨p, 0, none⟩), .pointer (some ⟨q, 0, none⟩)]
theorem five {α : Type} {l : List α} (h : l.length = 5) : ∃ a b c d e, l = [a, b, c, d, e] := by
 match l, h with
 | [a, b, c, d, e], _ => exact ⟨a, b, c, d, e, rfl⟩
theorem xD {ρ : Operand → Value} {x1 x2 x3 x4 x5 : Operand} {r1 r2 r3 r4 r5 : List Value} (l1 : r1.length = 5) (l2 : r2.length = 5) (l3 : r3.length = 5) (l4 : r4.length = 5) (l5 : r5.length = 5)
    (h1 : ρ x1 = .agg r1.toArray) (h2 : ρ x2 = .agg r2.toArray) (h3 : ρ x3 = .agg r3.toArray) (h4 : ρ x4 = .agg r4.toArray) (h5 : ρ x5 = .agg r5.toArray) :
    Fills (fun i : Nat => some (i * 5, 5)) ρ [(1, x1), (2, x2), (3, x3), (4, x4), (5, x5)] (List.replicate 30 .nilFunc) (List.replicate 5 .nilFunc ++ r1 ++ r2 ++ r3 ++ r4 ++ r5) := by
  obtain ⟨a1, b1, c1, d1, e1, rfl⟩ := five l1
  obtain ⟨a2, b2, c2, d2, e2, rfl⟩ := five l2
  obtain ⟨a3, b3, c3, d3, e3, rfl⟩ := five l3
  obtain ⟨a4, b4, c4, d4, e4, rfl⟩ := five l4
  obtain ⟨a5, b5, c5, d5, e5, rfl⟩ := five l5
  refine Fills.many rfl h1 (Nat.le_of_ble_eq_true rfl) rfl ?_
  refine Fills.many rfl h2 (Nat.le_of_ble_eq_true rfl) rfl ?_
  refine Fills.many rfl h3 (Nat.le_of_ble_eq_true rfl) rfl ?_
  refine Fills.many rfl h4 (Nat.le_of_ble_eq_true rfl) rfl ?_
  refine Fills.many rfl h5 (Nat.le_of_ble_eq_true rfl) rfl ?_
  rfl
def oI (p1 q1 p2 q2 p3 q3 b2 : Nat) : List Value := List.replicate 5 .nilFunc ++ (iF p1 q1 :: kF1) ++ (iF p2 q2 :: kF2) ++ (iF p3 q3 :: kF2) ++ (Value.func (.func 217) #[] #[.pointer (some ⟨b2, 0, none⟩)] :: kF4) ++ (jV 208 :: kF5)
theorem iG {k lo hi : Int} {p q : Nat} (h1 : w.heap[p]? = some (.cells #[I lo] 2 (0, 0))) (h2 : w.heap[q]? = some (.cells #[I hi] 2 (0, 0))) (hp : ∀ c, isP k c = decide (c.s = [] ∧ lo ≤ c.n ∧ c.n ≤ hi)) : oQ w (iF p q) (fun c => agg (bK c)) (isP k) :=
 ⟨207, [], [_, _], rfl, inferInstance, fun c w'' hk => by rw [hp]; exact QE c (hk.get h1 id) (hk.get h2 id)⟩
theorem xE {b : Nat} {E : TypeId} (hb : w.heap[b]? = some (.cells #[jV 208] E (0, 0))) (hT : mo w) : oQ w (.func (.func 217) #[] #[.pointer (some ⟨b, 0, none⟩)]) (fun c => agg (bK c)) (isP 4) :=
 ⟨217, [], [_], rfl, inferInstance, fun c w'' hk => QF c (hk.get hb id) (hT.keep hk)⟩
theorem xG : oQ w (jV 208) (fun c => agg (bK c)) (isP 5) :=
 ⟨208, [], [], rfl, inferInstance, fun c w'' _ => OX c⟩
theorem jq (k : Int) : (mZ k).length = 4 := by unfold mZ; (repeat' split) <;> rfl
theorem xH (k : Int) : (mZ k).all Value.oneCell' = true := by unfold mZ; (repeat' split) <;> rfl
theorem TU (t : dH) (h1 : 1 ≤ t.kind) (h5 : t.kind ≤ 5) (hT : mo w) : bF Tryz.prog 151 [agg (aJ t)] w fun v w' => (∃ isF, v = agg (isF :: mZ t.kind) ∧ oQ w' isF (fun c => agg (bK c)) (isP t.kind)) ∧ Kept noB w w' := by
 have H := Sep.bB w
 refine qo Tryz.func151 rfl rfl rfl rfl ?_
 refine Sr (dz H (cs := aJ t) rfl (h := fun b0 w2 H2 k0 => ?_))
 refine bD H2 (h := fun b1 w4 H4 k3 => ?_)
 refine Nx (Am ?_)
 refine Nx (bD H4 (h := fun b2 w7 H7 k6 => ?_))
 refine bW H7 (h := fun w9 H9 => ?_)
 refine Qn (au (bG rfl H9 (h := fun Sa wa Ha => ?_)))
 refine Gm Sa 0 ?_
 refine Gm Sa 3 ?_
 refine Gm Sa 6 ?_
 refine Gp Sa 9 rfl rfl (fun _ => (Gives.makeFunc rfl rfl)) (Gp Sa 10 rfl rfl (fun _ => (Gives.build (out := (Value.func (.func 217) #[] #[.pointer (some ⟨b2, 0, none⟩)]) :: kF4) (Fills.one rfl rfl rfl (by simp) rfl (Fills.one rfl rfl rfl (by simp) rfl (Fills.one rfl rfl rfl (by simp) rfl (Fills.one rfl rfl rfl (by simp) rfl (Fills.one rfl rfl rfl (by simp) rfl Fills.nil))))))) ?_)
 refine cK Sa 11 Ha (h := ?_)
 refine Gp Sa 12 rfl rfl (fun _ => (Gives.build (out := (jV 208) :: kF5) (Fills.one rfl rfl rfl (by simp) rfl (Fills.one rfl rfl rfl (by simp) rfl (Fills.one rfl rfl rfl (by simp) rfl (Fills.one rfl rfl rfl (by simp) rfl (Fills.one rfl rfl rfl (by simp) rfl Fills.nil))))))) (vD Sa (e1 := 1) (e2 := 14) (by kernel_rfl) ?_ ?_)
 ·refine yM Sa 1 [(12, true), (11, false), (10, true), (9, true), (6, true), (3, true)] (y := .tmp 6) (f := 206) (fs := []) (cs := []) (vals := [I 0, I 1]) rfl (nN 0 1) (h := fun v' wb hv => ?_)
  obtain ⟨p1, q1, rfl, dK, F', hq, gV⟩ := hv
  have Hb := (Ha.new dK hq fun b hb => (gV b hb).resolve_left id).ny
  refine ⟨av (bQ Hb (h := av (av (av (av (aK)))))), ?_⟩
  refine Gp Sa 2 rfl rfl (fun _ => (Gives.build (out := (iF p1 q1) :: kF1) (Fills.one rfl rfl rfl (by simp) rfl (Fills.one rfl rfl rfl (by simp) rfl (Fills.one rfl rfl rfl (by simp) rfl (Fills.one rfl rfl rfl (by simp) rfl (Fills.one rfl rfl rfl (by simp) rfl Fills.nil))))))) (vD Sa (e1 := 4) (e2 := 14) (by kernel_rfl) ?_ ?_)
  ·refine yM Sa 4 [(2, true), (12, true), (11, false), (10, true), (9, true), (6, true)] (y := .tmp 9) (f := 206) (fs := []) (cs := []) (vals := [I (-2147483648), I 2147483647]) rfl (nN (-2147483648) 2147483647) (h := fun v' wc hv => ?_)
   obtain ⟨p2, q2, rfl, dK, F', hq, gV⟩ := hv
   have Hc := (Hb.new dK hq fun b hb => (gV b hb).resolve_left id).ny
   refine ⟨av (av (bQ Hc (h := av (av (av (aK)))))), ?_⟩
   refine Gp Sa 5 rfl rfl (fun _ => (Gives.build (out := (iF p2 q2) :: kF2) (Fills.one rfl rfl rfl (by simp) rfl (Fills.one rfl rfl rfl (by simp) rfl (Fills.one rfl rfl rfl (by simp) rfl (Fills.one rfl rfl rfl (by simp) rfl (Fills.one rfl rfl rfl (by simp) rfl Fills.nil))))))) (vD Sa (e1 := 7) (e2 := 14) (by kernel_rfl) ?_ ?_)
   ·refine yM Sa 7 [(5, true), (2, true), (12, true), (11, false), (10, true), (9, true)] (y := .tmp 12) (f := 206) (fs := []) (cs := []) (vals := [I (-9223372036854775808), I 9223372036854775807]) rfl (nN (-9223372036854775808) 9223372036854775807) (h := fun v' wd hv => ?_)
    obtain ⟨p3, q3, rfl, dK, F', hq, gV⟩ := hv
    have Hd := (Hc.new dK hq fun b hb => (gV b hb).resolve_left id).ny
    refine ⟨av (av (av (bQ Hd (h := av (av (aK)))))), ?_⟩
    refine Gp Sa 8 rfl rfl (fun _ => (Gives.build (out := (iF p3 q3) :: kF2) (Fills.one rfl rfl rfl (by simp) rfl (Fills.one rfl rfl rfl (by simp) rfl (Fills.one rfl rfl rfl (by simp) rfl (Fills.one rfl rfl rfl (by simp) rfl (Fills.one rfl rfl rfl (by simp) rfl Fills.nil))))))) (Gp Sa 13 rfl rfl (fun _ => (Gives.DN (out := oI p1 q1 p2 q2 p3 q3 b2) rfl (xD rfl rfl rfl rfl rfl rfl rfl rfl rfl rfl))) ?_)
    refine Jm Sa 14 [(13, true), (8, true), (5, true), (2, true), (12, true), (11, false), (10, true), (9, true)] Hd (h := fun b5 we He => ⟨av (av (av (av (av (bQ He (h := av (av (aK)))))))), ?_⟩)
    refine dF Sa 15 [] He (h := fun wf Hf => ⟨aK, ?_⟩)
    refine bR Sa (by kernel_rfl) ?_
    refine aj (Sr ?_)
    have JH : ((t.kind.toNat : Nat) : Int) = t.kind := Int.toNat_of_nonneg (by omega)
    obtain ⟨isV, yQ, nY, JQ⟩ : ∃ isV : Value, ((t.kind = 1 ∧ isV = iF p1 q1) ∨ (t.kind = 2 ∧ isV = iF p2 q2) ∨ (t.kind = 3 ∧ isV = iF p3 q3) ∨ (t.kind = 4 ∧ isV = Value.func (.func 217) #[] #[.pointer (some ⟨b2, 0, none⟩)]) ∨ (t.kind = 5 ∧ isV = jV 208)) ∧ isV.oneCell' = true ∧ ((oI p1 q1 p2 q2 p3 q3 b2).drop (0 + t.kind.toNat * 5)).take 5 = isV :: mZ t.kind := by
     rcases (by omega : t.kind = 1 ∨ t.kind = 2 ∨ t.kind = 3 ∨ t.kind = 4 ∨ t.kind = 5) with e | e | e | e | e <;> rw [e]
     ·exact ⟨_, .inl ⟨rfl, rfl⟩, rfl, rfl⟩
     ·exact ⟨_, .inr (.inl ⟨rfl, rfl⟩), rfl, rfl⟩
     ·exact ⟨_, .inr (.inr (.inl ⟨rfl, rfl⟩)), rfl, rfl⟩
     ·exact ⟨_, .inr (.inr (.inr (.inl ⟨rfl, rfl⟩))), rfl, rfl⟩
     exact ⟨_, .inr (.inr (.inr (.inr ⟨rfl, rfl⟩))), rfl, rfl⟩
    refine Vf ?_
    refine Ld Hf ?_
    refine Vv (Gives.yu (i := t.kind.toNat) rfl (by rw [JH]; rfl) (by omega)) ?_
    refine p8 (us := isV :: mZ t.kind) (o := 0 + t.kind.toNat * 5) (b := b5) Hf (hx := by rw [← Addr.add_lit]; rfl) (hat := by first | exact At0 | exact At1 | exact At2 | exact At3 | exact At4 | exact At5 | exact At6 | exact At7 | exact At8 | exact At9) (hu := JQ) (hk := by rw [List.length_cons, jq]) (h := ?_)
    refine aD Hf (us := isV :: mZ t.kind) (hk := by rw [List.length_cons, jq]) (hv := by rw [List.all_cons, nY, xH]; rfl) (h := fun wg Hg => ?_)
    refine Qn (aM (aW (h := ?_)))
    refine ⟨_, gB Hg (hk := by rw [List.length_cons, jq]), ⟨isV, rfl, ?_⟩, Hg.kept⟩
    rcases yQ with ⟨e, rfl⟩ | ⟨e, rfl⟩ | ⟨e, rfl⟩ | ⟨e, rfl⟩ | ⟨e, rfl⟩ <;> rw [e]
    ·exact iG (by first | exact Hg.obj At0 | exact Hg.obj At2 | exact Hg.obj At4 | exact Hg.obj At1 | exact Hg.obj At3 | exact Hg.obj At5 | exact Hg.obj At6 | exact Hg.obj At7) (by first | exact Hg.obj At0 | exact Hg.obj At2 | exact Hg.obj At4 | exact Hg.obj At1 | exact Hg.obj At3 | exact Hg.obj At5 | exact Hg.obj At6 | exact Hg.obj At7) (fun c => rfl)
    ·exact iG (by first | exact Hg.obj At0 | exact Hg.obj At2 | exact Hg.obj At4 | exact Hg.obj At1 | exact Hg.obj At3 | exact Hg.obj At5 | exact Hg.obj At6 | exact Hg.obj At7) (by first | exact Hg.obj At0 | exact Hg.obj At2 | exact Hg.obj At4 | exact Hg.obj At1 | exact Hg.obj At3 | exact Hg.obj At5 | exact Hg.obj At6 | exact Hg.obj At7) (fun c => rfl)
    ·exact iG (by first | exact Hg.obj At0 | exact Hg.obj At2 | exact Hg.obj At4 | exact Hg.obj At1 | exact Hg.obj At3 | exact Hg.obj At5 | exact Hg.obj At6 | exact Hg.obj At7) (by first | exact Hg.obj At0 | exact Hg.obj At2 | exact Hg.obj At4 | exact Hg.obj At1 | exact Hg.obj At3 | exact Hg.obj At5 | exact Hg.obj At6 | exact Hg.obj At7) (fun c => rfl)
    ·exact xE (by first | exact Hg.obj At7 | exact Hg.obj At6 | exact Hg.obj At5 | exact Hg.obj At4) (hT.keep Hg.kept)
    exact xG
   refine nW Sa 14 [(5, true), (2, true), (12, true), (11, false), (10, true), (9, true), (6, true)] Hc (h := fun b5 wh Hh => ⟨av (av (av (bQ Hh (h := av (av (av (aK))))))), ?_⟩)
   refine pJ Sa 7 [(5, true), (2, true), (12, true), (11, false), (10, true), (9, true)] (y := .tmp 12) (f := 206) (fs := []) (cs := []) (vals := [I (-9223372036854775808), I 9223372036854775807]) rfl (nN (-9223372036854775808) 9223372036854775807) (h := fun v' wi hv => ?_)
   obtain ⟨p3, q3, rfl, dK, F', hq, gV⟩ := hv
   have Hi := (Hh.new dK hq fun b hb => (gV b hb).resolve_left id).ny
   refine ⟨av (av (av (bQ Hi (h := av (av (aK)))))), ?_⟩
   refine Gp Sa 8 rfl rfl (fun _ => (Gives.build (out := (iF p3 q3) :: kF2) (Fills.one rfl rfl rfl (by simp) rfl (Fills.one rfl rfl rfl (by simp) rfl (Fills.one rfl rfl rfl (by simp) rfl (Fills.one rfl rfl rfl (by simp) rfl (Fills.one rfl rfl rfl (by simp) rfl Fills.nil))))))) (Gp Sa 13 rfl rfl (fun _ => (Gives.DN (out := oI p1 q1 p2 q2 p3 q3 b2) rfl (xD rfl rfl rfl rfl rfl rfl rfl rfl rfl rfl))) ?_)
   refine dF Sa 15 [] Hi (h := fun wj Hj => ⟨aK, ?_⟩)
   refine bR Sa (by kernel_rfl) ?_
   refine aj (Sr ?_)
   have JH : ((t.kind.toNat : Nat) : Int) = t.kind := Int.toNat_of_nonneg (by omega)
   obtain ⟨isV, yQ, nY, JQ⟩ : ∃ isV : Value, ((t.kind = 1 ∧ isV = iF p1 q1) ∨ (t.kind = 2 ∧ isV = iF p2 q2) ∨ (t.kind = 3 ∧ isV = iF p3 q3) ∨ (t.kind = 4 ∧ isV = Value.func (.func 217) #[] #[.pointer (some ⟨b2, 0, none⟩)]) ∨ (t.kind = 5 ∧ isV = jV 208)) ∧ isV.oneCell' = true ∧ ((oI p1 q1 p2 q2 p3 q3 b2).drop (0 + t.kind.toNat * 5)).take 5 = isV :: mZ t.kind := by
    rcases (by omega : t.kind = 1 ∨ t.kind = 2 ∨ t.kind = 3 ∨ t.kind = 4 ∨ t.kind = 5) with e | e | e | e | e <;> rw [e]
    ·exact ⟨_, .inl ⟨rfl, rfl⟩, rfl, rfl⟩
    ·exact ⟨_, .inr (.inl ⟨rfl, rfl⟩), rfl, rfl⟩
    ·exact ⟨_, .inr (.inr (.inl ⟨rfl, rfl⟩)), rfl, rfl⟩
    ·exact ⟨_, .inr (.inr (.inr (.inl ⟨rfl, rfl⟩))), rfl, rfl⟩
    exact ⟨_, .inr (.inr (.inr (.inr ⟨rfl, rfl⟩))), rfl, rfl⟩
   refine Vf ?_
   refine Ld Hj ?_
   refine Vv (Gives.yu (i := t.kind.toNat) rfl (by rw [JH]; rfl) (by omega)) ?_
   refine p8 (us := isV :: mZ t.kind) (o := 0 + t.kind.toNat * 5) (b := b5) Hj (hx := by rw [← Addr.add_lit]; rfl) (hat := by first | exact At0 | exact At1 | exact At2 | exact At3 | exact At4 | exact At5 | exact At6 | exact At7 | exact At8 | exact At9) (hu := JQ) (hk := by rw [List.length_cons, jq]) (h := ?_)
   refine aD Hj (us := isV :: mZ t.kind) (hk := by rw [List.length_cons, jq]) (hv := by rw [List.all_cons, nY, xH]; rfl) (h := fun wk Hk => ?_)
   refine Qn (aM (aW (h := ?_)))
   refine ⟨_, gB Hk (hk := by rw [List.length_cons, jq]), ⟨isV, rfl, ?_⟩, Hk.kept⟩
   rcases yQ with ⟨e, rfl⟩ | ⟨e, rfl⟩ | ⟨e, rfl⟩ | ⟨e, rfl⟩ | ⟨e, rfl⟩ <;> rw [e]
   ·exact iG (by first | exact Hk.obj At0 | exact Hk.obj At2 | exact Hk.obj At4 | exact Hk.obj At1 | exact Hk.obj At3 | exact Hk.obj At5 | exact Hk.obj At6 | exact Hk.obj At7) (by first | exact Hk.obj At0 | exact Hk.obj At2 | exact Hk.obj At4 | exact Hk.obj At1 | exact Hk.obj At3 | exact Hk.obj At5 | exact Hk.obj At6 | exact Hk.obj At7) (fun c => rfl)
   ·exact iG (by first | exact Hk.obj At0 | exact Hk.obj At2 | exact Hk.obj At4 | exact Hk.obj At1 | exact Hk.obj At3 | exact Hk.obj At5 | exact Hk.obj At6 | exact Hk.obj At7) (by first | exact Hk.obj At0 | exact Hk.obj At2 | exact Hk.obj At4 | exact Hk.obj At1 | exact Hk.obj At3 | exact Hk.obj At5 | exact Hk.obj At6 | exact Hk.obj At7) (fun c => rfl)
   ·exact iG (by first | exact Hk.obj At0 | exact Hk.obj At2 | exact Hk.obj At4 | exact Hk.obj At1 | exact Hk.obj At3 | exact Hk.obj At5 | exact Hk.obj At6 | exact Hk.obj At7) (by first | exact Hk.obj At0 | exact Hk.obj At2 | exact Hk.obj At4 | exact Hk.obj At1 | exact Hk.obj At3 | exact Hk.obj At5 | exact Hk.obj At6 | exact Hk.obj At7) (fun c => rfl)
   ·exact xE (by first | exact Hk.obj At7 | exact Hk.obj At6 | exact Hk.obj At5 | exact Hk.obj At4) (hT.keep Hk.kept)
   exact xG
  refine nW Sa 14 [(2, true), (12, true), (11, false), (10, true), (9, true), (6, true), (3, true)] Hb (h := fun b5 wl Hl => ⟨av (av (bQ Hl (h := av (av (av (av (aK))))))), ?_⟩)
  refine pJ Sa 4 [(2, true), (12, true), (11, false), (10, true), (9, true), (6, true)] (y := .tmp 9) (f := 206) (fs := []) (cs := []) (vals := [I (-2147483648), I 2147483647]) rfl (nN (-2147483648) 2147483647) (h := fun v' wm hv => ?_)
  obtain ⟨p2, q2, rfl, dK, F', hq, gV⟩ := hv
  have Hm := (Hl.new dK hq fun b hb => (gV b hb).resolve_left id).ny
  refine ⟨av (av (bQ Hm (h := av (av (av (aK)))))), ?_⟩
  refine Gp Sa 5 rfl rfl (fun _ => (Gives.build (out := (iF p2 q2) :: kF2) (Fills.one rfl rfl rfl (by simp) rfl (Fills.one rfl rfl rfl (by simp) rfl (Fills.one rfl rfl rfl (by simp) rfl (Fills.one rfl rfl rfl (by simp) rfl (Fills.one rfl rfl rfl (by simp) rfl Fills.nil))))))) (pJ Sa 7 [(5, true), (2, true), (12, true), (11, false), (10, true), (9, true)] (y := .tmp 12) (f := 206) (fs := []) (cs := []) (vals := [I (-9223372036854775808), I 9223372036854775807]) rfl (nN (-9223372036854775808) 9223372036854775807) (h := fun v' wn hv => ?_))
  obtain ⟨p3, q3, rfl, dK, F', hq, gV⟩ := hv
  have Hn := (Hm.new dK hq fun b hb => (gV b hb).resolve_left id).ny
  refine ⟨av (av (av (bQ Hn (h := av (av (aK)))))), ?_⟩
  refine Gp Sa 8 rfl rfl (fun _ => (Gives.build (out := (iF p3 q3) :: kF2) (Fills.one rfl rfl rfl (by simp) rfl (Fills.one rfl rfl rfl (by simp) rfl (Fills.one rfl rfl rfl (by simp) rfl (Fills.one rfl rfl rfl (by simp) rfl (Fills.one rfl rfl rfl (by simp) rfl Fills.nil))))))) (Gp Sa 13 rfl rfl (fun _ => (Gives.DN (out := oI p1 q1 p2 q2 p3 q3 b2) rfl (xD rfl rfl rfl rfl rfl rfl rfl rfl rfl rfl))) ?_)
  refine dF Sa 15 [] Hn (h := fun wo Ho => ⟨aK, ?_⟩)
  refine bR Sa (by kernel_rfl) ?_
  refine aj (Sr ?_)
  have JH : ((t.kind.toNat : Nat) : Int) = t.kind := Int.toNat_of_nonneg (by omega)
  obtain ⟨isV, yQ, nY, JQ⟩ : ∃ isV : Value, ((t.kind = 1 ∧ isV = iF p1 q1) ∨ (t.kind = 2 ∧ isV = iF p2 q2) ∨ (t.kind = 3 ∧ isV = iF p3 q3) ∨ (t.kind = 4 ∧ isV = Value.func (.func 217) #[] #[.pointer (some ⟨b2, 0, none⟩)]) ∨ (t.kind = 5 ∧ isV = jV 208)) ∧ isV.oneCell' = true ∧ ((oI p1 q1 p2 q2 p3 q3 b2).drop (0 + t.kind.toNat * 5)).take 5 = isV :: mZ t.kind := by
   rcases (by omega : t.kind = 1 ∨ t.kind = 2 ∨ t.kind = 3 ∨ t.kind = 4 ∨ t.kind = 5) with e | e | e | e | e <;> rw [e]
   ·exact ⟨_, .inl ⟨rfl, rfl⟩, rfl, rfl⟩
   ·exact ⟨_, .inr (.inl ⟨rfl, rfl⟩), rfl, rfl⟩
   ·exact ⟨_, .inr (.inr (.inl ⟨rfl, rfl⟩)), rfl, rfl⟩
   ·exact ⟨_, .inr (.inr (.inr (.inl ⟨rfl, rfl⟩))), rfl, rfl⟩
   exact ⟨_, .inr (.inr (.inr (.inr ⟨rfl, rfl⟩))), rfl, rfl⟩
  refine Vf ?_
  refine Ld Ho ?_
  refine Vv (Gives.yu (i := t.kind.toNat) rfl (by rw [JH]; rfl) (by omega)) ?_
  refine p8 (us := isV :: mZ t.kind) (o := 0 + t.kind.toNat * 5) (b := b5) Ho (hx := by rw [← Addr.add_lit]; rfl) (hat := by first | exact At0 | exact At1 | exact At2 | exact At3 | exact At4 | exact At5 | exact At6 | exact At7 | exact At8 | exact At9) (hu := JQ) (hk := by rw [List.length_cons, jq]) (h := ?_)
  refine aD Ho (us := isV :: mZ t.kind) (hk := by rw [List.length_cons, jq]) (hv := by rw [List.all_cons, nY, xH]; rfl) (h := fun wp Hp => ?_)
  refine Qn (aM (aW (h := ?_)))
  refine ⟨_, gB Hp (hk := by rw [List.length_cons, jq]), ⟨isV, rfl, ?_⟩, Hp.kept⟩
  rcases yQ with ⟨e, rfl⟩ | ⟨e, rfl⟩ | ⟨e, rfl⟩ | ⟨e, rfl⟩ | ⟨e, rfl⟩ <;> rw [e]
  ·exact iG (by first | exact Hp.obj At0 | exact Hp.obj At2 | exact Hp.obj At4 | exact Hp.obj At1 | exact Hp.obj At3 | exact Hp.obj At5 | exact Hp.obj At6 | exact Hp.obj At7) (by first | exact Hp.obj At0 | exact Hp.obj At2 | exact Hp.obj At4 | exact Hp.obj At1 | exact Hp.obj At3 | exact Hp.obj At5 | exact Hp.obj At6 | exact Hp.obj At7) (fun c => rfl)
  ·exact iG (by first | exact Hp.obj At0 | exact Hp.obj At2 | exact Hp.obj At4 | exact Hp.obj At1 | exact Hp.obj At3 | exact Hp.obj At5 | exact Hp.obj At6 | exact Hp.obj At7) (by first | exact Hp.obj At0 | exact Hp.obj At2 | exact Hp.obj At4 | exact Hp.obj At1 | exact Hp.obj At3 | exact Hp.obj At5 | exact Hp.obj At6 | exact Hp.obj At7) (fun c => rfl)
  ·exact iG (by first | exact Hp.obj At0 | exact Hp.obj At2 | exact Hp.obj At4 | exact Hp.obj At1 | exact Hp.obj At3 | exact Hp.obj At5 | exact Hp.obj At6 | exact Hp.obj At7) (by first | exact Hp.obj At0 | exact Hp.obj At2 | exact Hp.obj At4 | exact Hp.obj At1 | exact Hp.obj At3 | exact Hp.obj At5 | exact Hp.obj At6 | exact Hp.obj At7) (fun c => rfl)
  ·exact xE (by first | exact Hp.obj At7 | exact Hp.obj At6 | exact Hp.obj At5 | exact Hp.obj At4) (hT.keep Hp.kept)
  exact xG
 refine nW Sa 14 [(12, true), (11, false), (10, true), (9, true), (6, true), (3, true), (0, true)] Ha (h := fun b5 wq Hq => ⟨av (bQ Hq (h := av (av (av (av (av (aK))))))), ?_⟩)
 refine pJ Sa 1 [(12, true), (11, false), (10, true), (9, true), (6, true), (3, true)] (y := .tmp 6) (f := 206) (fs := []) (cs := []) (vals := [I 0, I 1]) rfl (nN 0 1) (h := fun v' wr hv => ?_)
 obtain ⟨p1, q1, rfl, dK, F', hq, gV⟩ := hv
 have Hr := (Hq.new dK hq fun b hb => (gV b hb).resolve_left id).ny
 refine ⟨av (bQ Hr (h := av (av (av (av (aK)))))), ?_⟩
 refine Gp Sa 2 rfl rfl (fun _ => (Gives.build (out := (iF p1 q1) :: kF1) (Fills.one rfl rfl rfl (by simp) rfl (Fills.one rfl rfl rfl (by simp) rfl (Fills.one rfl rfl rfl (by simp) rfl (Fills.one rfl rfl rfl (by simp) rfl (Fills.one rfl rfl rfl (by simp) rfl Fills.nil))))))) (pJ Sa 4 [(2, true), (12, true), (11, false), (10, true), (9, true), (6, true)] (y := .tmp 9) (f := 206) (fs := []) (cs := []) (vals := [I (-2147483648), I 2147483647]) rfl (nN (-2147483648) 2147483647) (h := fun v' ws hv => ?_))
 obtain ⟨p2, q2, rfl, dK, F', hq, gV⟩ := hv
 have Hs := (Hr.new dK hq fun b hb => (gV b hb).resolve_left id).ny
 refine ⟨av (av (bQ Hs (h := av (av (av (aK)))))), ?_⟩
 refine Gp Sa 5 rfl rfl (fun _ => (Gives.build (out := (iF p2 q2) :: kF2) (Fills.one rfl rfl rfl (by simp) rfl (Fills.one rfl rfl rfl (by simp) rfl (Fills.one rfl rfl rfl (by simp) rfl (Fills.one rfl rfl rfl (by simp) rfl (Fills.one rfl rfl rfl (by simp) rfl Fills.nil))))))) (pJ Sa 7 [(5, true), (2, true), (12, true), (11, false), (10, true), (9, true)] (y := .tmp 12) (f := 206) (fs := []) (cs := []) (vals := [I (-9223372036854775808), I 9223372036854775807]) rfl (nN (-9223372036854775808) 9223372036854775807) (h := fun v' wt hv => ?_))
 obtain ⟨p3, q3, rfl, dK, F', hq, gV⟩ := hv
 have Ht := (Hs.new dK hq fun b hb => (gV b hb).resolve_left id).ny
 refine ⟨av (av (av (bQ Ht (h := av (av (aK)))))), ?_⟩
 refine Gp Sa 8 rfl rfl (fun _ => (Gives.build (out := (iF p3 q3) :: kF2) (Fills.one rfl rfl rfl (by simp) rfl (Fills.one rfl rfl rfl (by simp) rfl (Fills.one rfl rfl rfl (by simp) rfl (Fills.one rfl rfl rfl (by simp) rfl (Fills.one rfl rfl rfl (by simp) rfl Fills.nil))))))) (Gp Sa 13 rfl rfl (fun _ => (Gives.DN (out := oI p1 q1 p2 q2 p3 q3 b2) rfl (xD rfl rfl rfl rfl rfl rfl rfl rfl rfl rfl))) ?_)
 refine dF Sa 15 [] Ht (h := fun wu Hu => ⟨aK, ?_⟩)
 refine bR Sa (by kernel_rfl) ?_
 refine aj (Sr ?_)
 have JH : ((t.kind.toNat : Nat) : Int) = t.kind := Int.toNat_of_nonneg (by omega)
 obtain ⟨isV, yQ, nY, JQ⟩ : ∃ isV : Value, ((t.kind = 1 ∧ isV = iF p1 q1) ∨ (t.kind = 2 ∧ isV = iF p2 q2) ∨ (t.kind = 3 ∧ isV = iF p3 q3) ∨ (t.kind = 4 ∧ isV = Value.func (.func 217) #[] #[.pointer (some ⟨b2, 0, none⟩)]) ∨ (t.kind = 5 ∧ isV = jV 208)) ∧ isV.oneCell' = true ∧ ((oI p1 q1 p2 q2 p3 q3 b2).drop (0 + t.kind.toNat * 5)).take 5 = isV :: mZ t.kind := by
  rcases (by omega : t.kind = 1 ∨ t.kind = 2 ∨ t.kind = 3 ∨ t.kind = 4 ∨ t.kind = 5) with e | e | e | e | e <;> rw [e]
  ·exact ⟨_, .inl ⟨rfl, rfl⟩, rfl, rfl⟩
  ·exact ⟨_, .inr (.inl ⟨rfl, rfl⟩), rfl, rfl⟩
  ·exact ⟨_, .inr (.inr (.inl ⟨rfl, rfl⟩)), rfl, rfl⟩
  ·exact ⟨_, .inr (.inr (.inr (.inl ⟨rfl, rfl⟩))), rfl, rfl⟩
  exact ⟨_, .inr (.inr (.inr (.inr ⟨rfl, rfl⟩))), rfl, rfl⟩
 refine Vf ?_
 refine Ld Hu ?_
 refine Vv (Gives.yu (i := t.kind.toNat) rfl (by rw [JH]; rfl) (by omega)) ?_
 refine p8 (us := isV :: mZ t.kind) (o := 0 + t.kind.toNat * 5) (b := b5) Hu (hx := by rw [← Addr.add_lit]; rfl) (hat := by first | exact At0 | exact At1 | exact At2 | exact At3 | exact At4 | exact At5 | exact At6 | exact At7 | exact At8 | exact At9) (hu := JQ) (hk := by rw [List.length_cons, jq]) (h := ?_)
 refine aD Hu (us := isV :: mZ t.kind) (hk := by rw [List.length_cons, jq]) (hv := by rw [List.all_cons, nY, xH]; rfl) (h := fun wv Hv => ?_)
 refine Qn (aM (aW (h := ?_)))
 refine ⟨_, gB Hv (hk := by rw [List.length_cons, jq]), ⟨isV, rfl, ?_⟩, Hv.kept⟩
 rcases yQ with ⟨e, rfl⟩ | ⟨e, rfl⟩ | ⟨e, rfl⟩ | ⟨e, rfl⟩ | ⟨e, rfl⟩ <;> rw [e]
 ·exact iG (by first | exact Hv.obj At0 | exact Hv.obj At2 | exact Hv.obj At4 | exact Hv.obj At1 | exact Hv.obj At3 | exact Hv.obj At5 | exact Hv.obj At6 | exact Hv.obj At7) (by first | exact Hv.obj At0 | exact Hv.obj At2 | exact Hv.obj At4 | exact Hv.obj At1 | exact Hv.obj At3 | exact Hv.obj At5 | exact Hv.obj At6 | exact Hv.obj At7) (fun c => rfl)
 ·exact iG (by first | exact Hv.obj At0 | exact Hv.obj At2 | exact Hv.obj At4 | exact Hv.obj At1 | exact Hv.obj At3 | exact Hv.obj At5 | exact Hv.obj At6 | exact Hv.obj At7) (by first | exact Hv.obj At0 | exact Hv.obj At2 | exact Hv.obj At4 | exact Hv.obj At1 | exact Hv.obj At3 | exact Hv.obj At5 | exact Hv.obj At6 | exact Hv.obj At7) (fun c => rfl)
 ·exact iG (by first | exact Hv.obj At0 | exact Hv.obj At2 | exact Hv.obj At4 | exact Hv.obj At1 | exact Hv.obj At3 | exact Hv.obj At5 | exact Hv.obj At6 | exact Hv.obj At7) (by first | exact Hv.obj At0 | exact Hv.obj At2 | exact Hv.obj At4 | exact Hv.obj At1 | exact Hv.obj At3 | exact Hv.obj At5 | exact Hv.obj At6 | exact Hv.obj At7) (fun c => rfl)
 ·exact xE (by first | exact Hv.obj At7 | exact Hv.obj At6 | exact Hv.obj At5 | exact Hv.obj At4) (hT.keep Hv.kept)
 exact xG
end
attribute [local irreducible] nL isP mZ
section
variable {w : World}
theorem TV {t : dH} : nL t = true ↔ 1 ≤ t.kind ∧ t.kind ≤ 5 := by unfold nL; exact decide_eq_true_iff
theorem tY (t : dH) (c : iB) (hf : fits c.n) (hT : mo w) : bF Tryz.prog 102 [agg (aJ t), agg (bK c)] w fun v w' => v = I (jE t c) ∧ Kept noB w w' := by
 have H := Sep.bB w
 obtain ⟨res, ay⟩ : ∃ res, res = jE t c := ⟨_, rfl⟩
 rw [← ay]
 unfold jE at ay
 refine eU Tryz.func102 rfl rfl rfl rfl ?_
 refine Sr (dz H (cs := aJ t) rfl (h := fun b0 w2 H2 k0 => ?_))
 refine dz H2 (cs := bK c) rfl (h := fun b1 w4 H4 k1 => ?_)
 refine Am ?_
 refine Qn (au (aF (Sr (aZ H4 (h := ?_)))))
 refine aN H4 (tX t) (h := fun w8 H8 k7 => ?_)
 refine Vv (Gives.not rfl) (Am ?_)
 refine Qn (Cd rfl (fun Ia => ?_) (fun Ia => ?_))
 ·have hm : nL t = false := by have h := Ia; revert h; cases nL t <;> simp
  rw [if_pos hm] at ay
  refine Sr (Am ?_)
  refine Qn (Rb (ak (hR := ?_)))
  exact ⟨by rw [ay]; rfl, H8.kept⟩
 have hm : nL t = true := by have h := Ia; revert h; cases nL t <;> simp
 rw [if_neg (by rw [hm]; simp)] at ay
 obtain ⟨h1, h5⟩ := TV.1 hm
 refine au (Sr (Vf ?_))
 refine Ld H8 ?_
 refine Mv ?_
 refine dh (t := 12) rfl (fun Sa => ?_) (fun Sa => ?_)
 ·have Mg : c.null = true := Sa
  rw [if_pos Mg] at ay
  refine On (Vf ?_)
  refine On (Ld H8 ?_)
  refine On (Vv (Gives.not rfl) (On ?_))
  refine Mv ?_
  refine dh (t := 16) rfl (fun Sb => ?_) (fun Sb => ?_)
  ·have JH : t.null = false := by have h := Sb; revert h; cases t.null <;> simp
   rw [if_neg (by rw [JH]; simp)] at ay
   refine Of (Of (Of (On (Pt ?_))))
   refine Pt ?_
   refine Am ?_
   refine Qn (aQ rfl ?_)
   refine Sk (aQ rfl ?_)
   refine Sr (Am ?_)
   refine Qn (Rb (ak (hR := ?_)))
   exact ⟨by rw [ay]; rfl, H8.kept⟩
  have JH : t.null = true := by have h := Sb; revert h; cases t.null <;> simp
  refine On (aZ H8 (h := ?_))
  refine On (Vv (Gives.build (out := bK KH) (Fills.one rfl rfl rfl (by simp) rfl Fills.nil)) (On ?_))
  refine Vv (Gives.VB (enc := bK) _ _ rfl rfl) (On ?_)
  refine Pf ?_
  refine Pt ?_
  refine Am ?_
  refine Qn (Cp rfl (fun Ib => ?_) (fun Ib => ?_))
  ·rw [if_neg (fun h => Ib h.2)] at ay
   refine Sk (aQ (congrArg Value.bool (decide_eq_true Ib)) ?_)
   refine Sr (Am ?_)
   refine Qn (Rb (ak (hR := ?_)))
   exact ⟨by rw [ay]; rfl, H8.kept⟩
  rw [if_pos ⟨JH, Classical.not_not.1 Ib⟩] at ay
  refine bG rfl H8 (h := fun Sc wa Ha => ?_)
  refine Gp Sc 0 rfl rfl (fun _ => (Gives.dx rfl)) (cK Sc 1 Ha (h := ?_))
  refine Gp Sc 2 rfl rfl (fun _ => (Gives.not rfl)) (Gm Sc 3 ?_)
  refine jP (t := 25) rfl (fun Sd => ?_) (fun Sd => ?_)
  ·exact absurd Sd (by rw [Mg]; simp)
  refine dL Sc 4 rfl rfl (by kernel_rfl) ?_
  refine dL Sc 7 rfl rfl (by kernel_rfl) ?_
  refine dL Sc 5 rfl rfl (by kernel_rfl) ?_
  refine dL Sc 6 rfl rfl (by kernel_rfl) ?_
  refine dL Sc 8 rfl rfl (by kernel_rfl) ?_
  refine dL Sc 9 rfl rfl (by kernel_rfl) ?_
  refine Gp Sc 10 rfl rfl (fun _ => Gives.nP rfl rfl) (Gp Sc 11 rfl rfl (fun _ => Gives.assign rfl) ?_)
  refine bR Sc (by kernel_rfl) ?_
  refine aj (bg rfl ?_)
  refine aY (aA (aj (Sr (Am ?_))))
  refine Qn (aM (ak (hR := ?_)))
  exact ⟨by rw [ay]; rfl, Ha.kept⟩
 have Mg : ¬ c.null = true := by have h := Sa; simpa using h
 rw [if_neg Mg, ← XP hf] at ay
 refine Of (Of (Of (Of (Ou (Ou (Ou (Of (Pf ?_))))))))
 refine Am ?_
 refine Qn (bg rfl ?_)
 refine bG rfl H8 (h := fun Se wb Hb => ?_)
 refine Gp Se 0 rfl rfl (fun _ => (Gives.dx rfl)) (cK Se 1 Hb (h := ?_))
 refine Gp Se 2 rfl rfl (fun _ => (Gives.not rfl)) (Gm Se 3 ?_)
 refine jP (t := 25) rfl (fun Sf => ?_) (fun Sf => ?_)
 ·refine dD Se 4 Hb (h := ?_)
  refine dD Se 7 Hb (h := ?_)
  refine sN Se 5 [(7, false)] rfl (by kernel_rfl) (TU t h1 h5 (hT.keep Hb.kept)) rfl (by kernel_rfl) (by kernel_rfl) (fun v' wc hv => ?_)
  obtain ⟨⟨isF, rfl, hp⟩, dK⟩ := hv
  obtain ⟨f, fs, cs, rfl, Em, Mf⟩ := hp
  have Hc := Hb.keep dK
  refine ⟨(eZ rfl (by kernel_rfl) (Gives.nQ rfl (Hc.obj At0) (us := bK c) rfl rfl) rfl (aK)), ?_⟩
  refine Gp Se 6 rfl rfl (fun _ => (Gives.Dh rfl rfl)) (pJ Se 8 [] (y := .tmp 28) (f := f) (fs := fs) (cs := cs) (vals := [agg (bK c)]) rfl (Mf c _ (Kept.refl _ _)) (h := fun v' wd hv => ?_))
  obtain ⟨rfl, Yy⟩ := hv
  have Hd := Hc.keep Yy
  refine ⟨aK, ?_⟩
  refine Gp Se 9 rfl rfl (fun _ => (Gives.not rfl)) (Gp Se 10 rfl rfl (fun _ => Gives.nC rfl rfl) ?_)
  refine Gp Se 11 rfl rfl (fun _ => Gives.assign rfl) (bR Se (by kernel_rfl) ?_)
  refine aj (Cd rfl (fun Ic => ?_) (fun Ic => ?_))
  ·rw [if_neg (by have h := Ic; revert h; cases isP t.kind c <;> simp)] at ay
   refine Sr (Am ?_)
   refine Qn (Rb (ak (hR := ?_)))
   exact ⟨by rw [ay]; rfl, Hd.kept⟩
  rw [if_pos (by have h := Ic; revert h; cases isP t.kind c <;> simp)] at ay
  refine aY (aA (aj (Sr (Am ?_))))
  refine Qn (aM (ak (hR := ?_)))
  exact ⟨by rw [ay]; rfl, Hd.kept⟩
 exact absurd (show c.null = true by have h := Sf; revert h; cases c.null <;> simp) Mg
end
end Go.Proofs.YtolaedhdjcnijaaGreatDoor
namespace Go.Mw
open Go.RowKit
section gives
variable {P : Program} {ρ : Operand → Value} {ty : TypeId} {w : World} {x y : Operand} {T U : TypeId} {k : IntKind} {a b : Int}
theorem Gives.andNot (hx : ρ x = .int k a) (hy : ρ y = .int k b) : Gives P ρ (.binOp .andNot T x y U) ty w (.int k (bits .andNot k a b)) w := .bin hx hy (fun _ _ => rfl) (by rw [binOp_andNot]; rfl)
end gives
end Go.Mw
namespace Go.Proofs.YtolaedhdjcnijaaGreatDoor
open Go Go.Mw Go.Lib
set_option maxRecDepth 4000
theorem K8 {y : Nat} (hy : y < 18446744073709551616) : y &&& 18446744073709551614 = 0 ↔ y ≤ 1 := by
 constructor
 ·intro h
  have h1 := Nat.and_div_two (a := y) (b := 18446744073709551614)
  rw [h, show 18446744073709551614 / 2 = 2 ^ 63 - 1 by decide, Nat.and_two_pow_sub_one_eq_mod] at h1
  have h2 : y / 2 % 2 ^ 63 = y / 2 := Nat.mod_eq_of_lt (by omega)
  omega
 intro h
 rcases (by omega : y = 0 ∨ y = 1) with rfl | rfl <;> decide
theorem OY {n : Int} (hf : fits n) : bits .andNot .i64 n 1 = 0 ↔ 0 ≤ n ∧ n ≤ 1 := by
 obtain ⟨h0, h1⟩ := hf
 show IntKind.i64.wrap ((BitVec.ofInt 64 n &&& ~~~BitVec.ofInt 64 1).toNat : Int) = 0 ↔ _
 have e1 : (BitVec.ofInt 64 1).toNat = 1 := by decide
 have e2 : (BitVec.ofInt 64 n).toNat = (n % 18446744073709551616).toNat := BitVec.toNat_ofInt n
 have bU : (n % 18446744073709551616).toNat < 18446744073709551616 := by omega
 rw [BitVec.toNat_and, BitVec.toNat_not, e1, e2, show 2 ^ 64 - 1 - 1 = 18446744073709551614 by decide, IntKind.wrap_i64]
 have rG : (n % 18446744073709551616).toNat &&& 18446744073709551614 ≤ (n % 18446744073709551616).toNat := Nat.and_le_left
 have key := K8 bU
 constructor
 ·intro h
  have : (n % 18446744073709551616).toNat &&& 18446744073709551614 = 0 := by omega
  have := key.1 this
  omega
 intro h
 rw [key.2 (by omega)]
 decide
theorem DT {s : List UInt8} : jE ⟨4, false⟩ ⟨false, 0, s⟩ = 0 ↔ s.length ≤ 1024 ∧ validD s = true := by
 have e : jE ⟨4, false⟩ ⟨false, 0, s⟩ = if decide ((0 : Int) = 0 ∧ s.length ≤ 1024 ∧ validD s = true) = true then 0 else 90 := rfl
 rw [e]
 by_cases h : s.length ≤ 1024 ∧ validD s = true
 ·rw [if_pos (decide_eq_true ⟨rfl, h⟩)]; exact ⟨fun _ => h, fun _ => rfl⟩
 rw [if_neg (by rw [decide_eq_true_eq]; exact fun e => h e.2)]
 exact ⟨fun e => absurd e (by decide), fun e => absurd e h⟩
theorem BD {s : List UInt8} : jE ⟨5, false⟩ ⟨false, 0, s⟩ = 0 ↔ s.length ≤ 1024 := by
 have e : jE ⟨5, false⟩ ⟨false, 0, s⟩ = if decide ((0 : Int) = 0 ∧ s.length ≤ 1024) = true then 0 else 90 := rfl
 rw [e]
 by_cases h : s.length ≤ 1024
 ·rw [if_pos (decide_eq_true ⟨rfl, h⟩)]; exact ⟨fun _ => h, fun _ => rfl⟩
 rw [if_neg (by rw [decide_eq_true_eq]; exact fun e => h e.2)]
 exact ⟨fun e => absurd e (by decide), fun e => absurd e h⟩
theorem WX : fits 0 := ⟨by decide, by decide⟩
theorem K9 {k : Int} : lQ k ≠ [] ↔ k = 1 ∨ (3 ≤ k ∧ k ≤ 5) := by
 unfold lQ
 split
 ·simp [*]
 split
 ·simp [*]
 split
 ·simp [*]
 split
 ·simp [*]
 simp; omega
attribute [local irreducible] jE lQ
section
variable {w : World}
theorem NC (x : bL) (hf : fits x.n) (hT : mo w) : bF Tryz.prog 65 [agg (aI x)] w fun v w' => v = .bool (dI x) ∧ Kept noB w w' := by
 have H := Sep.bB w
 obtain ⟨res, ay⟩ : ∃ res, res = dI x := ⟨_, rfl⟩
 rw [← ay]
 unfold dI at ay
 refine dP Tryz.func65 rfl rfl rfl rfl ?_
 refine Sr (dz H (cs := aI x) rfl (h := fun b0 w2 H2 k0 => ?_))
 refine Am ?_
 refine Qn (au (bG rfl H2 (h := fun sG w6 H6 => ?_)))
 refine Gp sG 0 rfl rfl (fun _ => (Gives.dx rfl)) (cK sG 1 H6 (h := ?_))
 refine Gp sG 2 rfl rfl (fun _ => (Gives.iD rfl rfl)) (Gp sG 3 rfl rfl (fun _ => (Gives.dx rfl)) ?_)
 refine cK sG 4 H6 (h := ?_)
 refine Gp sG 5 rfl rfl (fun _ => (Gives.eql rfl rfl)) (Gp sG 6 rfl rfl (fun _ => Gives.assign rfl) ?_)
 refine Gp sG 7 rfl rfl (fun _ => Gives.assign rfl) (bR sG (by kernel_rfl) ?_)
 refine aj (au (Sr (Vf ?_)))
 refine Ld H6 ?_
 refine Qn (aF (Sr (Ve ?_)))
 refine Am ?_
 refine Qn (Cp rfl (fun Ia => ?_) (fun Ia => ?_))
 ·rw [if_pos Ia] at ay
  refine Sr (Mv ?_)
  refine Mv ?_
  refine aG (t := 16) rfl (fun Sa => ?_) (fun Sa => ?_)
  ·have hA := Sa
   refine On (Vf ?_)
   refine On (Ld H6 ?_)
   refine On (Vv (Gives.geq rfl rfl) (Pt ?_))
   refine Mv ?_
   refine aG (t := 21) rfl (fun Sb => ?_) (fun Sb => ?_)
   ·have hB := Sb
    refine On (Vf ?_)
    refine On (Ld H6 ?_)
    refine On (Vv (Gives.leq rfl rfl) (Pt ?_))
    refine Am ?_
    refine Qn (Rb (ak (hR := ?_)))
    exact ⟨congrArg Value.bool (by rw [ay]; exact decide_eq_decide.2 ⟨fun h => ⟨hA, hB, h⟩, fun h => h.2.2⟩), H6.kept⟩
   have hB := Sb
   refine Of (Of (Of (Pf ?_)))
   refine Am ?_
   refine Qn (Rb (ak (hR := ?_)))
   exact ⟨congrArg Value.bool (by rw [ay]; exact Eq.symm (decide_eq_false fun h => hB h.2.1)), H6.kept⟩
  have hA := Sa
  refine Of (Of (Of (Pf ?_)))
  refine Mv ?_
  refine Of (Of (Of (Pf ?_)))
  refine Am ?_
  refine Qn (Rb (ak (hR := ?_)))
  exact ⟨congrArg Value.bool (by rw [ay]; exact Eq.symm (decide_eq_false fun h => hA h.1)), H6.kept⟩
 rw [if_neg Ia] at ay
 refine Sr (Ve ?_)
 refine Am ?_
 refine Qn (Cp rfl (fun Ib => ?_) (fun Ib => ?_))
 ·rw [if_pos Ib] at ay
  refine Sr (Mv ?_)
  refine Am ?_
  refine Qn (Rb (ak (hR := ?_)))
  exact ⟨by rw [ay]; rfl, H6.kept⟩
 rw [if_neg Ib] at ay
 refine Sr (Ve ?_)
 refine Am ?_
 refine Qn (Cp rfl (fun Ic => ?_) (fun Ic => ?_))
 ·rw [if_pos Ic] at ay
  refine Sr (Mv ?_)
  refine Mv ?_
  refine aG (t := 32) rfl (fun Sc => ?_) (fun Sc => ?_)
  ·have hA := Sc
   refine On (Vf ?_)
   refine On (Ld H6 ?_)
   refine On (Vv (Gives.andNot rfl rfl) (On ?_))
   refine Ve ?_
   refine Pt ?_
   refine Am ?_
   refine Qn (Rb (ak (hR := ?_)))
   exact ⟨congrArg Value.bool (by rw [ay]; exact decide_eq_decide.2 ⟨fun h => ⟨hA, (OY hf).1 h⟩, fun h => (OY hf).2 h.2⟩), H6.kept⟩
  have hA := Sc
  refine Of (Of (Of (Of (Pf ?_))))
  refine Am ?_
  refine Qn (Rb (ak (hR := ?_)))
  exact ⟨congrArg Value.bool (by rw [ay]; exact Eq.symm (decide_eq_false fun h => hA h.1)), H6.kept⟩
 rw [if_neg Ic] at ay
 refine Sr (Ve ?_)
 refine Am ?_
 refine Qn (Cp rfl (fun Id => ?_) (fun Id => ?_))
 ·rw [if_pos Id] at ay
  refine Sr (Mv ?_)
  refine Mv ?_
  refine aG (t := 41) rfl (fun Sd => ?_) (fun Sd => ?_)
  ·have hA := Sd
   refine On (Vv (Gives.build (out := aJ ⟨4, false⟩) (Fills.one rfl rfl rfl (by simp) rfl Fills.nil)) (On ?_))
   refine Vf ?_
   refine On (Ld H6 ?_)
   refine On (Vv (Gives.build (out := bK ⟨false, 0, x.s⟩) (Fills.one rfl rfl rfl (by simp) rfl Fills.nil)) (On ?_))
   refine aN H6 (tY ⟨4, false⟩ ⟨false, 0, x.s⟩ WX (hT.keep H6.kept)) (h := fun wa Ha ka => ?_)
   refine On (Ve ?_)
   refine Pt ?_
   refine Am ?_
   refine Qn (Rb (ak (hR := ?_)))
   exact ⟨congrArg Value.bool (by rw [ay]; exact decide_eq_decide.2 ⟨fun h => ⟨hA, DT.1 h⟩, fun h => DT.2 h.2⟩), Ha.kept⟩
  have hA := Sd
  refine Of (Of (Of (Of (Of (Of (Pf ?_))))))
  refine Am ?_
  refine Qn (Rb (ak (hR := ?_)))
  exact ⟨congrArg Value.bool (by rw [ay]; exact Eq.symm (decide_eq_false fun h => hA h.1)), H6.kept⟩
 rw [if_neg Id] at ay
 refine Sr (Ve ?_)
 refine Am ?_
 refine Qn (Cp rfl (fun Ie => ?_) (fun Ie => ?_))
 ·rw [if_pos Ie] at ay
  refine Sr (Mv ?_)
  refine Mv ?_
  refine aG (t := 52) rfl (fun Se => ?_) (fun Se => ?_)
  ·have hA := Se
   refine On (Vv (Gives.build (out := aJ ⟨5, false⟩) (Fills.one rfl rfl rfl (by simp) rfl Fills.nil)) (On ?_))
   refine Vf ?_
   refine On (Ld H6 ?_)
   refine On (Vv (Gives.build (out := bK ⟨false, 0, x.s⟩) (Fills.one rfl rfl rfl (by simp) rfl Fills.nil)) (On ?_))
   refine aN H6 (tY ⟨5, false⟩ ⟨false, 0, x.s⟩ WX (hT.keep H6.kept)) (h := fun wb Hb kb => ?_)
   refine On (Ve ?_)
   refine Pt ?_
   refine Am ?_
   refine Qn (Rb (ak (hR := ?_)))
   exact ⟨congrArg Value.bool (by rw [ay]; exact decide_eq_decide.2 ⟨fun h => ⟨hA, BD.1 h⟩, fun h => BD.2 h.2⟩), Hb.kept⟩
  have hA := Se
  refine Of (Of (Of (Of (Of (Of (Pf ?_))))))
  refine Am ?_
  refine Qn (Rb (ak (hR := ?_)))
  exact ⟨congrArg Value.bool (by rw [ay]; exact Eq.symm (decide_eq_false fun h => hA h.1)), H6.kept⟩
 rw [if_neg Ie] at ay
 refine Sr (Ve ?_)
 refine Am ?_
 refine Qn (Cp rfl (fun If => ?_) (fun If => ?_))
 ·rw [if_pos If] at ay
  refine Sr (Mv ?_)
  refine Mv ?_
  refine aG (t := 63) rfl (fun Sf => ?_) (fun Sf => ?_)
  ·have hA := Sf
   refine On (Vf ?_)
   refine On (Ld H6 ?_)
   refine On (aN H6 (Jq x.n) (h := fun wc Hc kc => ?_))
   refine On (Vv (Gives.EA rfl rfl) (Pt ?_))
   refine Mv ?_
   refine aG (t := 69) rfl (fun Sg => ?_) (fun Sg => ?_)
   ·have hB := Sg
    refine On (Vf ?_)
    refine On (Ld Hc ?_)
    refine On (Vf ?_)
    refine On (Ld Hc ?_)
    refine On (Ve ?_)
    refine Pt ?_
    refine Am ?_
    refine Qn (Rb (ak (hR := ?_)))
    exact ⟨congrArg Value.bool (by rw [ay]; exact decide_eq_decide.2 ⟨fun _ => ⟨hA, K9.1 hB⟩, fun _ => trivial⟩), Hc.kept⟩
   have hB := Sg
   refine Of (Of (Of (Of (Of (Pf ?_)))))
   refine Am ?_
   refine Qn (Rb (ak (hR := ?_)))
   exact ⟨congrArg Value.bool (by rw [ay]; exact Eq.symm (decide_eq_false fun h => hB (K9.2 h.2))), Hc.kept⟩
  have hA := Sf
  refine Of (Of (Of (Of (Pf ?_))))
  refine Mv ?_
  refine Of (Of (Of (Of (Of (Pf ?_)))))
  refine Am ?_
  refine Qn (Rb (ak (hR := ?_)))
  exact ⟨congrArg Value.bool (by rw [ay]; exact Eq.symm (decide_eq_false fun h => hA h.1)), H6.kept⟩
 rw [if_neg If] at ay
 refine aY (aA (aj (Sr (Vf ?_))))
 refine Ld H6 ?_
 refine Vv (Gives.geq rfl rfl) (Mv ?_)
 refine aG (t := 79) rfl (fun Sh => ?_) (fun Sh => ?_)
 ·have hA := Sh
  refine On (Vf ?_)
  refine On (Ld H6 ?_)
  refine On (Vv (Gives.leq rfl rfl) (Pt ?_))
  refine Mv ?_
  refine aG (t := 84) rfl (fun Si => ?_) (fun Si => ?_)
  ·have hB := Si
   refine On (Mv ?_)
   refine Pt ?_
   refine Mv ?_
   refine aG (t := 87) rfl (fun Sj => ?_) (fun Sj => ?_)
   ·have hC := Sj
    refine On (Mv ?_)
    refine Pt ?_
    refine Am ?_
    refine Qn (aM (ak (hR := ?_)))
    exact ⟨congrArg Value.bool (by rw [ay]; exact decide_eq_decide.2 ⟨fun h => ⟨hA, hB, h, hC⟩, fun h => h.2.2.1⟩), H6.kept⟩
   have hC := Sj
   refine Of (Pf ?_)
   refine Am ?_
   refine Qn (aM (ak (hR := ?_)))
   exact ⟨congrArg Value.bool (by rw [ay]; exact Eq.symm (decide_eq_false fun h => hC h.2.2.2)), H6.kept⟩
  have hB := Si
  refine Of (Pf ?_)
  refine Mv ?_
  refine Of (Pf ?_)
  refine Am ?_
  refine Qn (aM (ak (hR := ?_)))
  exact ⟨congrArg Value.bool (by rw [ay]; exact Eq.symm (decide_eq_false fun h => hB h.2.1)), H6.kept⟩
 have hA := Sh
 refine Of (Of (Of (Pf ?_)))
 refine Mv ?_
 refine Of (Pf ?_)
 refine Mv ?_
 refine Of (Pf ?_)
 refine Am ?_
 refine Qn (aM (ak (hR := ?_)))
 exact ⟨congrArg Value.bool (by rw [ay]; exact Eq.symm (decide_eq_false fun h => hA h.1)), H6.kept⟩
end
def OZ (K : Nat) (A : Option Addr) (n c k : Nat) : Value := if k ≤ n then .slice (if c = n - k then A else A.map (·.add ((n - k) * K))) k (c - (n - k)) else .slice none 0 0
def leftV (A : Option Addr) (n c k : Nat) : Value := if k ≤ n then .slice A (n - k) (n - k) else .slice A n c
theorem QG (k : Int) : gD k ≤ 2 := by unfold gD; (repeat' split) <;> omega
theorem QH {x : bL} (h : dI x = true) : 1 ≤ x.kind ∧ x.kind ≤ 18 := by
 unfold dI at h
 repeat' split at h
 all_goals first | omega | (have := of_decide_eq_true h; omega)
theorem zK {k : Int} : gD k = 0 ↔ k < 7 := by
 unfold gD
 split
 ·simp [*]
 split <;> simp <;> omega
theorem TW {α : Type} {k : Int} {st : List α} {d : α} (h7 : 7 ≤ k) (hk : gD k ≤ st.length) : Bw k (st.drop (st.length - gD k)) (st.getD (st.length - gD k) d) (st.getD (st.length - 1) d) := by
 unfold gD at hk ⊢
 rw [if_neg (by omega)] at hk ⊢
 by_cases h1 : k = 10 ∨ k = 15 ∨ k = 16 ∨ k = 18
 ·rw [if_pos h1] at hk ⊢
  left
  refine ⟨?_, rfl, h1⟩
  have bU : st.length - 1 < st.length := by omega
  rw [List.drop_eq_getElem_cons bU, List.drop_of_length_le (by omega), List.getD_eq_getElem?_getD, List.getElem?_eq_getElem bU]
  rfl
 rw [if_neg h1] at hk ⊢
 right
 refine ⟨?_, by omega⟩
 have bU : st.length - 2 < st.length := by omega
 have UG : st.length - 2 + 1 < st.length := by omega
 have e : st.length - 1 = st.length - 2 + 1 := by omega
 rw [e, List.drop_eq_getElem_cons bU, List.drop_eq_getElem_cons UG, List.drop_of_length_le (by omega), List.getD_eq_getElem?_getD, List.getElem?_eq_getElem bU, List.getD_eq_getElem?_getD, List.getElem?_eq_getElem UG]
 rfl
def EH (cols : List gG) (st : List dH) (x : bL) : Option dH :=
 if gD x.kind = 0 then oZ cols x else qM x.kind (st.getD (st.length - gD x.kind) fu) (st.getD (st.length - 1) fu)
theorem ND {cols : List gG} {st : List dH} {x : bL} (h1 : dI x = true) (h2 : gD x.kind ≤ st.length) : stepT cols st x = (EH cols st x).map fun t => st.take (st.length - gD x.kind) ++ [t] := by
 unfold stepT EH
 dsimp only
 rw [if_neg (by rw [h1]; simp; omega)]
theorem Gg {cols : List gG} {st : List dH} {x : bL} (h : dI x = false ∨ st.length < gD x.kind) : stepT cols st x = none := by
 unfold stepT
 dsimp only
 rw [if_pos h]
theorem Sep.TY {α : Type} {enc : α → List Value} {k e n c : Nat} {l : List α} {A : Option Addr} {w w₀ : World} {S : Nat → Prop} {rs : List HP} {put : HP → List HP} (H : Sep w₀ S rs w) (hat : At rs (cO e k enc (.slice A n c) l) put) : c ≤ 9223372036854775807 := by
 obtain ⟨F, hp, _, _⟩ := H.focus hat
 rcases hp.1.2 with ⟨hv, h0⟩ | ⟨g, cap, cur, hv, _, hh, rG, hmax, _⟩
 ·injection hv with _ _ h; omega
 injection hv with _ _ h; unfold maxLen at hmax; omega
theorem T9 {α : Type} {enc : α → List Value} {k : Nat} [hk : jU enc k] {w : World} {A : Option Addr} {l : List α} {c j : Nat} (h : Rd w A enc k l) (hc : l.length ≤ c) (Xc : c ≤ 9223372036854775807) (hj : j ≤ l.length) : dn w (.slice (if c = l.length - j then A else A.map (·.add ((l.length - j) * k))) j (c - (l.length - j))) enc k (l.drop (l.length - j)) := by
 refine ⟨if c = l.length - j then A else A.map (·.add ((l.length - j) * k)), c - (l.length - j), ?_, ⟨?_, ?_⟩, h.KY (l.length - j) hc⟩
 ·rw [List.length_drop, show l.length - (l.length - j) = j by omega]
 ·rw [List.length_drop]; omega
 omega
section
variable {w : World}
theorem NG {b E n c k : Nat} {A : Option Addr} {F : Nat → Prop} {f : FuncId} (hp : (blk b [.slice A n c] E).ok F w) (hk : k ≤ 1000000)
    (Oh : k ≤ n → bF Tryz.prog f [.pointer (some ⟨b, 0, none⟩), I k] w fun v w' => v = .tuple #[.slice (if c = n - k then A else A.map (·.add ((n - k) * 2))) k (c - (n - k)), .bool true] ∧ Turn F (blk b [.slice A (n - k) (n - k)] E) w w')
    (iY : n < k → bF Tryz.prog f [.pointer (some ⟨b, 0, none⟩), I k] w fun v w' => v = .tuple #[.slice none 0 0, .bool false] ∧ Turn F (blk b [.slice A n c] E) w w') :
    bF Tryz.prog f [.pointer (some ⟨b, 0, none⟩), I k] w fun v w' => v = .tuple #[OZ 2 A n c k, .bool (decide (k ≤ n))] ∧ Turn F (blk b [leftV A n c k] E) w w' := by
  by_cases h : k ≤ n
  · rw [OZ, leftV, if_pos h, if_pos h, decide_eq_true h]; exact Oh h
  rw [OZ, leftV, if_neg h, if_neg h, decide_eq_false h]; exact iY (by omega)
attribute [local irreducible] dI nL oZ qM
theorem La {cols : List gG} {l : List bL} {vc vl : Value} (hc : dn w vc bE 7 cols) (hl : dn w vl aI 3 l) (hx : ∀ x ∈ l, fits x.n) (hT : mo w) : bF Tryz.prog 24 [vc, vl] w fun v w' => v = .tuple #[agg (aJ (iT cols l).1), I (iT cols l).2] ∧ Kept noB w w' := by
  have Uq := hc
  obtain ⟨A, m, rfl, ⟨hm, xK⟩, hA⟩ := hc
  obtain ⟨C, n, rfl, ⟨hn, JL⟩, hC⟩ := hl
  have H := Sep.bB w
  obtain ⟨res, ay⟩ : ∃ res, res = iT cols l := ⟨_, rfl⟩
  rw [← ay]
  unfold iT at ay
  refine Ai Tryz.func24 rfl rfl rfl rfl ?_
  refine Sr (bD H (h := fun b4 w2 H2 k1 => ?_))
  refine Am ?_
  refine Qn (au (Sr (Mv ?_)))
  refine Vs ?_
  refine Vg ?_
  refine Qn (Cp rfl (fun oW => ?_) (fun oW => ?_))
  · rw [if_pos (by omega)] at ay
    refine Sr (Vv (Gives.build (out := aJ fu) Fills.nil) (aD H2 (h := fun wa Ha => ?_)))
    refine Am ?_
    refine Qn (Rs (aW (h := ?_)))
    exact ⟨_, dQ Ha, by rw [ay]; rfl, Ha.kept⟩
  rw [if_neg (by omega)] at ay
  refine Sk (Sr (bD H2 (h := fun b6 wb Hb ka => ?_)))
  refine Qn (au (Sr (Mv ?_)))
  refine Vs ?_
  refine Mv ?_
  refine Qn (aF ?_)
  have Hc := Sep.iX Hb 45 2 aJ
  refine bA (fun x : Nat × List dH × Value => [(0, .slice A cols.length m), (4, .pointer (some ⟨b4, 0, none⟩)), (6, .pointer (some ⟨b6, 0, none⟩)), (16, .slice C l.length n), (17, I l.length), (18, I x.1)]) (fun x w' => (x.1 ≤ l.length ∧ x.2.1.length ≤ x.1 ∧ runT cols x.2.1 (l.drop x.1) = runT cols [] l) ∧ Sep w noB [cO 45 2 aJ x.2.2 x.2.1, blk b6 [x.2.2] 103, blk b4 (aJ fu) 45] w') (fun x _ => l.length - x.1) (0, [], .slice none 0 0) ⟨rfl, rfl, rfl, rfl, rfl, rfl, trivial⟩ ⟨⟨Nat.zero_le _, Nat.le_refl _, rfl⟩, Hc⟩ (fun x τ wc hI => ?_)
  obtain ⟨i, st, v0⟩ := x
  obtain ⟨⟨hi, UU, dJ⟩, Hc⟩ := hI
  dsimp only at hi UU dJ Hc
  obtain ⟨B, cb, rfl, EP, hB⟩ := Sep.fJ Hc At0
  try simp only [cZ, like, bC, bZ]
  refine Sr (Vl ?_)
  refine Qn (au (Cp rfl (fun Ia => ?_) (fun Ia => ?_)))
  · have bU : i < l.length := by omega
    obtain ⟨x, mq⟩ := get_some bU
    have Xq : l.drop i = x :: l.drop (i + 1) := by
      rw [List.drop_eq_getElem_cons bU]; rw [List.getElem?_eq_getElem bU] at mq; injection mq with mq; rw [mq]
    rw [Xq, runT] at dJ
    have JU := hx x (List.mem_of_getElem? mq)
    have hk2 := QG x.kind
    refine Sk (au (aF (Sr (Vv (Gives.eT rfl rfl (by assumption) (by omega)) (Vv (Gives.iM rfl Hc (by assumption) (by assumption)) ?_)))))
    refine bD Hc (h := fun b8 wd Hd kb => ?_)
    refine aD Hd (h := fun we He => ?_)
    refine Nx (Vf ?_)
    refine Ld He ?_
    refine aN He (V3 x.kind) (h := fun wf Hf kc => ?_)
    obtain ⟨F0, gu, nk, bJ⟩ := Hf.focus At2
    refine bH (NG gu (by omega) (fun h => Jp gu h EP (by omega)) (fun h => DL gu h (by omega))) rfl rfl (fun v' wg hv => ?_)
    obtain ⟨rfl, dK, F1, hq, hs⟩ := hv
    have Hg := bJ _ F1 _ dK hq hs
    refine Mv ?_
    refine Vx ?_
    refine Vx ?_
    refine Am ?_
    refine Am ?_
    refine Qn (au (Sr (Mv ?_)))
    refine Vv (Gives.notP rfl) (Mv ?_)
    refine aG (t := 31) rfl (fun Sa => ?_) (fun Sa => ?_)
    · rw [Gg (.inr (by omega))] at dJ
      rw [← dJ] at ay
      have bY : res = (fu, 220) := ay
      refine Of (Of (Of (Pt ?_)))
      refine Qn (aQ rfl ?_)
      refine Sr (Vv (Gives.build (out := aJ fu) Fills.nil) (aD Hg (h := fun wh Hh => ?_)))
      refine Am ?_
      refine Qn (Rs (aH (aL (aR (aH (aL (aW (h := ?_))))))))
      exact ⟨_, dQ Hh, by rw [bY]; rfl, Hh.kept⟩
    have Xk : gD x.kind ≤ st.length := by omega
    rw [OZ, if_pos Xk]
    rw [leftV, if_pos Xk] at Hg
    refine On (aZ Hg (h := ?_))
    refine On (aN Hg (NC x JU (hT.keep Hg.kept)) (h := fun wi Hi kd => ?_))
    refine On (Vv (Gives.not rfl) (Pf ?_))
    refine Qn (Cd rfl (fun Ib => ?_) (fun Ib => ?_))
    · rw [Gg (.inl (by have h := Ib; revert h; cases dI x <;> simp))] at dJ
      rw [← dJ] at ay
      have bY : res = (fu, 220) := ay
      refine Sr (Vv (Gives.build (out := aJ fu) Fills.nil) (aD Hi (h := fun wj Hj => ?_)))
      refine Am ?_
      refine Qn (Rs (aH (aL (aR (aH (aL (aW (h := ?_))))))))
      exact ⟨_, dQ Hj, by rw [bY]; rfl, Hj.kept⟩
    have yU : dI x = true := by have h := Ib; revert h; cases dI x <;> simp
    obtain ⟨WI, ab4⟩ := QH yU
    rw [ND yU Xk] at dJ
    refine Sk (Sr (bD Hi (h := fun b11 wk Hk ke => ?_)))
    refine Qn (fO (fun tp : dH => [(0, .slice A cols.length m), (4, .pointer (some ⟨b4, 0, none⟩)), (6, .pointer (some ⟨b6, 0, none⟩)), (8, .pointer (some ⟨b8, 0, none⟩)), (10, .bool (EH cols st x).isSome), (11, .pointer (some ⟨b11, 0, none⟩)), (16, .slice C l.length n), (17, I l.length), (18, I i)]) (fun tp w' => (∀ y, EH cols st x = some y → tp = y) ∧ Sep w noB [blk b11 (aJ tp) 45, blk b8 (aI x) 60, cO 45 2 aJ (.slice B st.length cb) st, blk b6 [.slice B (st.length - gD x.kind) (st.length - gD x.kind)] 103, blk b4 (aJ fu) 45] w') ?_ ?_)
    · refine Sr (Mv ?_)
      refine Vs ?_
      refine Ve ?_
      refine Qn (Cp rfl (fun Ic => ?_) (fun Ic => ?_))
      · have BK : gD x.kind = 0 := by omega
        have Pg : EH cols st x = oZ cols x := if_pos BK
        have YW : x.kind ≤ 6 := by have := zK.1 BK; omega
        refine aB (Mv ?_)
        refine aZ Hk (h := ?_)
        refine aN Hk (XO x (Uq.keep Hk.kept) WI YW) (h := fun wl Hl kf => ?_)
        refine Mv ?_
        refine Vx ?_
        refine Vx ?_
        refine aD Hl (h := fun wm Hm => ?_)
        refine Am ?_
        refine aP ?_
        exact aS ((oZ cols x).getD fu) ⟨rfl, rfl, rfl, rfl, by rw [Pg]; rfl, rfl, rfl, rfl, rfl, trivial⟩ ⟨fun y hy => by rw [Pg] at hy; rw [hy]; rfl, Hm⟩
      have BK : ¬ gD x.kind = 0 := by omega
      have Pg : EH cols st x = qM x.kind (st.getD (st.length - gD x.kind) fu) (st.getD (st.length - 1) fu) := if_neg BK
      have hk7 : 7 ≤ x.kind := by
        refine Classical.byContradiction fun h => BK (zK.2 (by omega))
      refine aB (Vf ?_)
      refine Ld Hk ?_
      refine Mv ?_
      refine bH (TT (T9 (fT Hk At2) EP (Sep.TY Hk At2) Xk) (TW (d := fu) hk7 Xk) hk7 ab4) rfl rfl (fun v' wn hv => ?_)
      obtain ⟨⟨tp, rfl, htp⟩, dK⟩ := hv
      have Hn := Hk.keep dK
      refine Mv ?_
      refine Vx ?_
      refine Vx ?_
      refine aD Hn (h := fun wo Ho => ?_)
      refine Am ?_
      refine aP ?_
      exact aS tp ⟨rfl, rfl, rfl, rfl, by rw [Pg]; rfl, rfl, rfl, rfl, rfl, trivial⟩ ⟨fun y hy => by rw [Pg] at hy; exact htp y hy, Ho⟩
    rintro tp τ wp ⟨htp, Hp⟩
    simp only [cZ, like, bC]
    refine au (Sr (Mv ?_))
    refine Vv (Gives.not rfl) (Qn ?_)
    refine Cd rfl (fun Id => ?_) (fun Id => ?_)
    · have iY : EH cols st x = none := by
        cases h : EH cols st x with
        | none => rfl
        | some y => rw [h] at Id; cases Id
      rw [iY] at dJ
      rw [← dJ] at ay
      have bY : res = (fu, 220) := ay
      refine Sr (Vv (Gives.build (out := aJ fu) Fills.nil) (aD Hp (h := fun wq Hq => ?_)))
      refine Am ?_
      refine Qn (Rs (aH (aL (aR (aH (aL (aW (h := ?_))))))))
      exact ⟨_, dQ Hq, by rw [bY]; rfl, Hq.kept⟩
    obtain ⟨y, hy⟩ : ∃ y, EH cols st x = some y := by
      cases h : EH cols st x with
      | none => rw [h] at Id; cases Id
      | some y => exact ⟨y, rfl⟩
    have hty := htp y hy
    subst hty
    rw [hy] at dJ
    refine Sk (aB (aZ Hp (h := ?_)))
    refine aX Hp (xs := [.tmp 56]) (out := [tp].flatMap aJ) (aU.many rfl rfl aU.nil) rfl rfl rfl (fun bs wr Hr kg => ?_)
    obtain ⟨F0, gu, nk, bJ⟩ := Hr.focus At4
    have zV : (st.take (st.length - gD x.kind)).length = st.length - gD x.kind := by rw [List.length_take]; omega
    have hRc := (fT Hr At3).cut (st.length - gD x.kind)
    have JN : dn _ (.slice (some ⟨bs, 0, none⟩) 1 1) aJ 2 [tp] := ⟨some ⟨bs, 0, none⟩, 1, rfl, ⟨by simp, by omega⟩, Sep.gJ Hr At0 rfl⟩
    refine bH (K7 (l := st.take (st.length - gD x.kind)) (by rw [zV]; exact gu) hRc JN (by simp) (by simp; omega)) rfl rfl (fun v' ws hv => ?_)
    obtain ⟨v2, rfl, _, dK, F1, hq, hs⟩ := hv
    have Hs := ((bJ _ F1 _ dK hq hs).qX).ny
    refine aP (aA (aj (aB (Vv (Gives.bM rfl rfl rfl (by omega)) ?_))))
    refine Mv ?_
    refine aP ?_
    exact aC (i + 1, st.take (st.length - gD x.kind) ++ [tp], v2) ⟨rfl, rfl, rfl, rfl, rfl, rfl, trivial⟩ ⟨⟨by dsimp only; omega, by dsimp only; rw [List.length_append, zV]; simp; omega, dJ⟩, (Hs.sH.dS.iK).firsts (l := [_, _, _])⟩ (by dsimp only; omega)
  have jW : i = l.length := by omega
  rw [jW, List.drop_length, runT] at dJ
  rw [← dJ] at ay
  refine bq (aT (aO (aV (aj (au (Sr (Vf ?_)))))))
  refine Ld Hc ?_
  refine Vs ?_
  refine Vn ?_
  refine Qn (Cp rfl (fun Ie => ?_) (fun Ie => ?_))
  · have bY : res = (fu, 220) := by
      rw [ay]
      match st, Ie with
      | [], _ => rfl
      | [t], h => exact absurd rfl h
      | t :: u :: r, _ => rfl
    refine Sr (Vv (Gives.build (out := aJ fu) Fills.nil) (aD Hc (h := fun wt Ht => ?_)))
    refine Am ?_
    refine Qn (Rs (aW (h := ?_)))
    exact ⟨_, dQ Ht, by rw [bY]; rfl, Ht.kept⟩
  obtain ⟨t, ht⟩ : ∃ t, st = [t] := List.length_eq_one_iff.1 (by omega)
  have X8 : st[0]? = some t := by rw [ht]; rfl
  have bY : res = (t, 0) := by rw [ay, ht]
  refine Sk (Sr (Vf ?_))
  refine Ld Hc ?_
  refine Vv (Gives.eT (i := 0) rfl rfl hB (by omega)) (Vv (Gives.Dz (i := 0) rfl hB X8) ?_)
  refine aD Hc (h := fun wu Hu => ?_)
  refine Am ?_
  refine Qn (aM (aW (h := ?_)))
  exact ⟨_, dQ Hu, by rw [bY]; rfl, Hu.kept⟩
end
section
variable {w : World}
end
section
variable {w : World}
end
section
variable {w : World}
end
end Go.Proofs.YtolaedhdjcnijaaGreatDoor
namespace Go.Proofs.YtolaedhdjcnijaaGreatDoor
open Go Go.Lib Go.Mw
set_option maxRecDepth 4000
def V4 (r : List iB) : Prop := ∀ c ∈ r, fits c.n
def Typed (ts : List dH) (st : List iB) : Prop := ts.length = st.length ∧ ∀ (i : Nat) t c, ts[i]? = some t → st[i]? = some c → okC t c ∧ fits c.n
theorem Typed.push {ts : List dH} {st : List iB} (h : Typed ts st) {m : Nat} {t : dH} {c : iB} (hm : m ≤ st.length) (hc : okC t c ∧ fits c.n) : Typed (ts.take m ++ [t]) (st.take m ++ [c]) := by
 obtain ⟨h1, h2⟩ := h
 have e1 : (ts.take m).length = m := by rw [List.length_take]; omega
 have e2 : (st.take m).length = m := by rw [List.length_take]; omega
 refine ⟨by simp [h1], fun i t' c' ht hc' => ?_⟩
 rcases Nat.lt_or_ge i m with hi | hi
 ·rw [List.getElem?_append_left (by omega), List.getElem?_take, if_pos hi] at ht hc'
  exact h2 i t' c' ht hc'
 rw [List.getElem?_append_right (by omega), e1] at ht
 rw [List.getElem?_append_right (by omega), e2] at hc'
 cases hd : i - m with
 | zero =>
  rw [hd] at ht hc'
  simp at ht hc'
  rw [← ht, ← hc']; exact hc
 | succ j => rw [hd] at ht; simp at ht
theorem Typed.nil : Typed [] [] := ⟨rfl, fun i t c h => by simp at h⟩
end Go.Proofs.YtolaedhdjcnijaaGreatDoor
namespace Go.Proofs.YtolaedhdjcnijaaGreatDoor
open Go Go.Mw Go.Lib
set_option maxRecDepth 4000
attribute [local irreducible] jE
section
variable {w : World}
end
attribute [local irreducible] iT
section
variable {w : World}
end
end Go.Proofs.YtolaedhdjcnijaaGreatDoor
namespace Go.Proofs.YtolaedhdjcnijaaGreatDoor
open Go Go.Mw Go.Lib
set_option maxRecDepth 4000
attribute [local irreducible] iT dI nS
section
variable {w : World}
end
/-! A row that is sorted, then rid of what comes twice. -/
theorem yc {zs : List Int} (h : zs.Pairwise (· ≤ ·)) : (Lib.compact zs).Pairwise (· < ·) ∧ ∀ k, k ∈ Lib.compact zs ↔ k ∈ zs := by
 have rG : ∀ i j, i ≤ j → j < zs.length → zs.toArray[i]! ≤ zs.toArray[j]! := fun i j hij hj => by
  have e : ∀ k, k < zs.length → zs.toArray[k]! = zs.getD k 0 := fun k hk => by
   rw [List.getD_eq_getElem?_getD, List.getElem?_eq_getElem hk, getElem!_pos zs.toArray k (by simpa using hk)]; simp
  rw [e i (by omega), e j hj]
  rcases Nat.lt_or_ge i j with h1 | h1
  ·have := List.pairwise_iff_getElem.1 h i j (by omega) hj h1
   rw [List.getD_eq_getElem?_getD, List.getElem?_eq_getElem (show i < zs.length by omega), List.getD_eq_getElem?_getD, List.getElem?_eq_getElem hj]
   exact this
  have : i = j := by omega
  subst this; exact Int.le_refl _
 have qC : ∀ k, k ∈ zs ↔ ∃ j, j < zs.length ∧ zs.toArray[j]! = k := fun k => by
  constructor
  ·intro hk
   obtain ⟨j, hj, e⟩ := List.getElem_of_mem hk
   exact ⟨j, hj, by rw [getElem!_pos zs.toArray j (by simpa using hj)]; simpa using e⟩
  rintro ⟨j, hj, e⟩
  rw [getElem!_pos zs.toArray j (by simpa using hj)] at e
  rw [← e]; simp
 unfold Lib.compact Lib.compactUpTo
 constructor
 ·rw [List.pairwise_map]
  have hp : ((List.range zs.length).filter (Lib.keeps zs.toArray)).Pairwise (· < ·) := List.pairwise_lt_range.filter _
  refine hp.imp_of_mem fun {i j} hi hj hij => ?_
  rw [List.mem_filter, List.mem_range] at hi hj
  have hk := hj.2
  unfold Lib.keeps at hk
  have h0 : j ≠ 0 := by omega
  have h1 := rG i (j - 1) (by omega) (by omega)
  have h2 := rG (j - 1) j (by omega) hj.1
  have h3 : zs.toArray[j]! ≠ zs.toArray[j - 1]! := by simpa [h0] using hk
  omega
 intro k
 rw [qC]
 simp only [List.mem_map, List.mem_filter, List.mem_range]
 constructor
 ·rintro ⟨j, ⟨hj, _⟩, e⟩; exact ⟨j, hj, e⟩
 rintro ⟨j, hj, e⟩
 induction j using Nat.strongRecOn with
 | _ j ih =>
  by_cases hk : Lib.keeps zs.toArray j = true
  ·exact ⟨j, ⟨hj, hk⟩, e⟩
  have h0 : j ≠ 0 := fun e0 => by subst e0; exact hk (by simp [Lib.keeps])
  have h3 : zs.toArray[j]! = zs.toArray[j - 1]! := by
   unfold Lib.keeps at hk
   simpa [h0] using hk
  exact ih (j - 1) (by omega) (by omega) (by rw [← h3]; exact e)
theorem BF (l : List bL) : Lib.compact (((l.filter fun x => decide (x.kind = 1)).map fun x => x.n).mergeSort fun x y => decide (x ≤ y)) = o7 l := by
 have hs : (((l.filter fun x => decide (x.kind = 1)).map fun x => x.n).mergeSort fun x y => decide (x ≤ y)).Pairwise (· ≤ ·) := by
  have := List.pairwise_mergeSort (le := fun x y : Int => decide (x ≤ y)) (fun a b c h1 h2 => by simp at *; omega) (fun a b => by simp; omega) ((l.filter fun x => decide (x.kind = 1)).map fun x => x.n)
  exact this.imp fun h => by simpa using h
 obtain ⟨h1, h2⟩ := yc hs
 refine yL h1 (Bu l) fun k => ?_
 rw [h2, List.mem_mergeSort, r9]
 simp only [List.mem_map, List.mem_filter, decide_eq_true_eq, and_assoc]
theorem Lb {e c m : Nat} {A : Option Addr} {l : List Int} {F : Nat → Prop} {w : World} {g : Nat} {d : Array Int} {k : Nat} {os : Array Obj} (hp : (cO e 1 intCells (.slice A l.length c) l).ok F w) (hA : A = some ⟨g, 0, none⟩) (hd : d.size = l.length) (hm : m ≤ l.length) :
    Turn F (cO e 1 intCells (.slice A m c) (d.toList.take m)) w (Sort.grow (Sort.putRow (Value.int .i64) (Sort.ahead w k) g 0 d) os) := by
  obtain ⟨⟨h1, h2⟩, h3⟩ := hp
  rcases h2 with ⟨hv, _⟩ | ⟨g', cap, cur, hv, hg, hh, rG, hmax, hsz, Ca⟩
  · injection hv with e1; rw [hA] at e1; cases e1
  injection hv with e1 e2 e3
  rw [hA] at e1
  injection e1 with e1
  injection e1 with e1
  subst e1
  subst e3
  have bU := lX hh
  have fM : ∀ b, b ≠ g → (Sort.putRow (Value.int .i64) (Sort.ahead w k) g 0 d).heap[b]? = w.heap[b]? := fun b hb => by
    show ((w.heap.modify g (Sort.onCells _)))[b]? = _
    rw [Array.getElem?_modify, if_neg (fun e => hb e.symm)]
  have hat : (Sort.putRow (Value.int .i64) (Sort.ahead w k) g 0 d).heap[g]? = some (.cells (Sort.putCells (Value.int .i64) 0 d cur) e (0, 0)) := by
    show ((w.heap.modify g (Sort.onCells _)))[g]? = _
    rw [Array.getElem?_modify, if_pos rfl, hh]; rfl
  have aav : (Sort.putRow (Value.int .i64) (Sort.ahead w k) g 0 d).heap.size = w.heap.size := Sort.size_putRow _ _ _ _ _
  have Xt : ∀ b, b < w.heap.size → (Sort.grow (Sort.putRow (Value.int .i64) (Sort.ahead w k) g 0 d) os).heap[b]? = (Sort.putRow (Value.int .i64) (Sort.ahead w k) g 0 d).heap[b]? := fun b hb => by
    show (_ ++ os)[b]? = _
    rw [Array.getElem?_append_left (by rw [aav]; exact hb)]
  refine ⟨⟨rfl, rfl, rfl, by rw [Sort.size_grow, aav]; omega, fun b hb hF => ?_⟩, F, ⟨⟨?_, .inr ⟨g, c, Sort.putCells (Value.int .i64) 0 d cur, by rw [hA, List.length_take]; congr 1; simp [hd]; omega, Nat.zero_le _, ?_, ?_, hmax, ?_, ?_⟩⟩, fun b => ?_⟩, fun b hb => .inl hb⟩
  · rw [Xt b hb, fM b fun e => hF ((h3 b).2 (by rw [e, hA]; rfl))]
  · rw [jT (k := 1) (fun _ => rfl)]
  · rw [Xt g bU, hat]
  · rw [List.length_take]; simp [hd]; omega
  · rw [Sort.putCells, Array.size_mapIdx]; exact hsz
  · have EO : l.length ≤ cur.size := by rw [hsz]; omega
    rw [Nat.mul_one, List.length_take, Array.length_toList, hd, Nat.min_eq_left hm]
    refine List.ext_getElem? fun j => ?_
    rw [List.getElem?_take]
    have O7 : ∀ zs : List Int, zs.flatMap intCells = zs.map (Value.int .i64) := fun zs => by
      induction zs with
      | nil => rfl
      | cons z zs ih => rw [List.flatMap_cons, ih]; rfl
    rw [O7, List.getElem?_map, List.getElem?_take]
    by_cases hj : j < m
    · rw [if_pos hj, if_pos hj]
      have Ph : j < cur.size := by omega
      have hj3 : j < d.size := by omega
      rw [Array.getElem?_toList, Sort.putCells, Array.getElem?_mapIdx, Array.getElem?_eq_getElem Ph, Array.getElem?_toList, Array.getElem?_eq_getElem hj3]
      simp only [Option.map_some]
      rw [if_pos ⟨Nat.zero_le _, by omega⟩, Nat.sub_zero, getElem!_pos d j hj3]
    rw [if_neg hj, if_neg hj]; rfl
  rw [h3 b, hA]; rfl
theorem Gh {e c : Nat} {A : Option Addr} {l : List Int} {F : Nat → Prop} {w : World} (hp : (cO e 1 intCells (.slice A l.length c) l).ok F w) (fM : l ≠ []) : ∃ g, A = some ⟨g, 0, none⟩ ∧ Sort.Holds (Value.int .i64) w g 0 l.toArray ∧ g < w.heap.size ∧ l.length ≤ c := by
 obtain ⟨l9, h3⟩ := hp
 have hown' := l9
 obtain ⟨h1, h2⟩ := l9
 rcases h2 with ⟨hv, h0⟩ | ⟨g, cap, cur, hv, hg, hh, rG, hmax, hsz, Ca⟩
 ·exact absurd (List.eq_nil_of_length_eq_zero h0) fM
 injection hv with e1 e2 e3
 refine ⟨g, e1, fun j hj => ?_, lX hh, by omega⟩
 have hj' : j < l.length := by simpa using hj
 have hr : iI w A l.length 1 (l.flatMap intCells) := y5 hown'
 obtain ⟨ad, hA, LV⟩ := hr.at_ (by omega)
 rw [e1] at hA
 injection hA with hA
 subst hA
 have hx := flat_get (enc := intCells) (k := 1) (fun _ => rfl) (List.getElem?_eq_getElem hj') (show 0 < 1 by decide)
 have := LV _ _ (hx.trans rfl)
 rw [Addr.add_lit] at this
 refine ⟨by rw [show 0 + j = 0 + (j * 1 + 0) by omega, this, getElem!_pos l.toArray j hj]; simp [I], ?_⟩
 simp [World.frozen?, hh]
section
variable {w : World}
theorem O1 {e c : Nat} {A : Option Addr} {l : List Int} {F : Nat → Prop} (hp : (cO e 1 intCells (.slice A l.length c) l).ok F w) (hl : l.length ≤ 1000000) :
    bF Tryz.prog 73 [.slice A l.length c] w fun v w' => v = .tuple #[] ∧ Turn F (cO e 1 intCells (.slice A l.length c) (l.mergeSort fun x y => decide (x ≤ y))) w w' := by
  by_cases fM : l = []
  · subst fM
    refine Calls.mono (Tryz.slices_Sort_int_none A c w) fun en w' he => ?_
    obtain ⟨rfl, rfl⟩ := he
    exact ⟨rfl, by rw [List.mergeSort_nil]; exact Turn.refl hp⟩
  obtain ⟨g, hA, hH, hg, _⟩ := Gh hp fM
  have hlen : (l.mergeSort fun x y => decide (x ≤ y)).length = l.length := List.length_mergeSort l
  have hA' := hA
  subst hA'
  refine Calls.mono (Tryz.slices_Sort_int g 0 c l w hH hg (by omega)) fun en w' he => ?_
  obtain ⟨rfl, n, os, rfl⟩ := he
  refine ⟨rfl, ?_⟩
  have := Lb (k := n) (os := os) (d := (l.mergeSort fun x y => decide (x ≤ y)).toArray) hp rfl (by simp) (Nat.le_refl _)
  rwa [List.take_of_length_le (by simp [hlen])] at this
theorem DU {e c : Nat} {A : Option Addr} {l : List Int} {F : Nat → Prop} (hp : (cO e 1 intCells (.slice A l.length c) l).ok F w) (hl : l.length ≤ 1000000) :
    bF Tryz.prog 74 [.slice A l.length c] w fun v w' => v = .slice A (Lib.compact l).length c ∧ Turn F (cO e 1 intCells (.slice A (Lib.compact l).length c) (Lib.compact l)) w w' := by
  by_cases fM : l = []
  · subst fM
    refine Calls.mono (Tryz.slices_Compact_int_empty A c w) fun en w' he => ?_
    obtain ⟨rfl, rfl⟩ := he
    exact ⟨rfl, Turn.refl hp⟩
  obtain ⟨g, hA, hH, hg, hc⟩ := Gh hp fM
  have hlen := Lib.compact_length_le l
  have hA' := hA
  subst hA'
  refine Calls.mono (Tryz.slices_Compact_int g 0 c l w hH (by omega) hc) fun en w' he => ?_
  obtain ⟨rfl, n, rfl⟩ := he
  refine ⟨rfl, ?_⟩
  have := Lb (k := n) (os := #[]) (d := (Lib.compact l ++ List.replicate (l.length - (Lib.compact l).length) 0).toArray) hp rfl (by simp; omega) hlen
  rw [Sort.grow_empty] at this
  simpa using this
end
end Go.Proofs.YtolaedhdjcnijaaGreatDoor
