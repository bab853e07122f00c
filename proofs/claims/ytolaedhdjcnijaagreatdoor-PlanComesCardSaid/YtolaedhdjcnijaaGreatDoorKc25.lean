/-
 What comes of a plan, column by column. No program stands here.
-/
import Derived.Test.YtolaedhdjcnijaaGreatDoorKc23
import Derived.Test.YtolaedhdjcnijaaGreatDoorKc9
import Derived.Test.YtolaedhdjcnijaaGreatDoorKc6
import Derived.Test.YtolaedhdjcnijaaGreatDoorKc24
import Derived.ProofKit
import Derived.Carry
import Derived.ChangeSame
import Derived.Deep.Slices
import Derived.Deep.Fields
import Derived.Test.YtolaedhdjcnijaaGreatDoorKc14
import Derived.Test.YtolaedhdjcnijaaGreatDoorRows
import Derived.PinnedBridge
import Derived.Lib.LaidU8
import Derived.Stop.LaidErr
import Derived.Deep.DeepHandedRow
import Derived.Lay
import Derived.MakeChecks
import Derived.Test.YtolaedhdjcnijaaGreatDoorKc12
import Derived.ChangeMaps5
import Derived.Test.YtolaedhdjcnijaaGreatDoorKc20
import Derived.OpenShut
import Derived.JoinedOf
set_option linter.unusedVariables false
set_option linter.unusedSimpArgs false
namespace Go.Proofs.YtolaedhdjcnijaaGreatDoor
open Go Go.Lib Go.Mw
set_option maxRecDepth 4000
def kOf (g : Int) (i : Nat) : Nat := if 0 ≤ g ∧ g < i then i - 1 else i
def wantP (cols : List ColM) (g : Int) (j : Nat) (l : List OutM) (i : Nat) : ColM :=
 if (i : Int) = g then colP ((i + 1 : Nat) : Int) countW wholeT
 else colP ((i + 1 : Nat) : Int) (l.getD (kOf g i - j) out0).name (if g < 0 ∨ (i : Int) < g then (typeS cols (l.getD (kOf g i - j) out0).steps).1 else wholeT)
theorem want_tail {cols : List ColM} {g : Int} {j i : Nat} {o : OutM} {l : List OutM} (h : j + 1 ≤ kOf g i) : wantP cols g (j + 1) l i = wantP cols g j (o :: l) i := by
 unfold wantP
 rw [show kOf g i - j = (kOf g i - (j + 1)) + 1 by omega, List.getD_cons_succ]
theorem comes_at {cols : List ColM} {g : Int} : ∀ {l : List OutM} {j m : Nat}, m < (comesP cols g j l).length → (comesP cols g j l)[m]? = some (wantP cols g j l (j + (if 0 ≤ g ∧ g < j then 1 else 0) + m))
 | [], j, m, h => by
  rw [comesP] at h ⊢
  by_cases e : g = j
  ·rw [if_pos e] at h ⊢
   have hm : m = 0 := by simp at h; omega
   subst hm
   rw [if_neg (by omega)]
   unfold wantP
   rw [if_pos (by omega)]
   show some (colP (g + 1) countW wholeT) = some (colP ((j + 0 + 0 + 1 : Nat) : Int) countW wholeT)
   rw [show ((j + 0 + 0 + 1 : Nat) : Int) = g + 1 by omega]
  rw [if_neg e] at h; simp at h
 | o :: l, j, m, h => by
  have ih := fun m => comes_at (cols := cols) (g := g) (l := l) (j := j + 1) (m := m)
  rw [comesP] at h ⊢
  by_cases hg : 0 ≤ g ∧ g ≤ j
  ·rw [if_pos hg] at h ⊢
   by_cases he : (j : Int) = g
   ·rw [if_pos he] at h ⊢
    rw [if_neg (by omega)]
    match m with
    | 0 =>
     unfold wantP
     rw [if_pos (by omega)]; rfl
    | 1 =>
     have hk : kOf g (j + 0 + 1) = j := by unfold kOf; rw [if_pos (by omega)]; omega
     unfold wantP
     rw [if_neg (by omega), hk, Nat.sub_self, if_neg (by omega)]
     show some (colP (j + 2) o.name wholeT) = some (colP ((j + 0 + 1 + 1 : Nat) : Int) o.name wholeT)
     rw [show ((j + 0 + 1 + 1 : Nat) : Int) = (j : Int) + 2 by omega]
    | m + 2 =>
     have hl : m < (comesP cols g (j + 1) l).length := by simp only [List.length_append, List.length_cons, List.length_nil] at h; omega
     have h1 := ih m hl
     rw [if_pos (by omega)] at h1
     have hk : j + 1 ≤ kOf g (j + 1 + 1 + m) := by unfold kOf; rw [if_pos (by omega)]; omega
     rw [want_tail (o := o) hk] at h1
     show (comesP cols g (j + 1) l)[m]? = _
     rw [h1, show j + 0 + (m + 2) = j + 1 + 1 + m by omega]
   rw [if_neg he] at h ⊢
   rw [if_pos (by omega)]
   match m with
   | 0 =>
    have hk : kOf g (j + 1 + 0) = j := by unfold kOf; rw [if_pos (by omega)]; omega
    unfold wantP
    rw [if_neg (by omega), hk, Nat.sub_self, if_neg (by omega)]
    show some (colP (j + 2) o.name wholeT) = some (colP ((j + 1 + 0 + 1 : Nat) : Int) o.name wholeT)
    rw [show ((j + 1 + 0 + 1 : Nat) : Int) = (j : Int) + 2 by omega]
   | m + 1 =>
    have hl : m < (comesP cols g (j + 1) l).length := by simp only [List.length_append, List.length_cons, List.length_nil] at h; omega
    have h1 := ih m hl
    rw [if_pos (by omega)] at h1
    have hk : j + 1 ≤ kOf g (j + 1 + 1 + m) := by unfold kOf; rw [if_pos (by omega)]; omega
    rw [want_tail (o := o) hk] at h1
    show (comesP cols g (j + 1) l)[m]? = _
    rw [h1, show j + 1 + (m + 1) = j + 1 + 1 + m by omega]
  rw [if_neg hg] at h ⊢
  rw [if_neg (by omega)]
  match m with
  | 0 =>
   have hk : kOf g (j + 0 + 0) = j := by unfold kOf; rw [if_neg (by omega)]; omega
   unfold wantP
   rw [if_neg (by omega), hk, Nat.sub_self, if_pos (by omega)]
   show some (colP (j + 1) o.name (typeS cols o.steps).1) = some (colP ((j + 0 + 0 + 1 : Nat) : Int) o.name (typeS cols o.steps).1)
   rw [show ((j + 0 + 0 + 1 : Nat) : Int) = (j : Int) + 1 by omega]
  | m + 1 =>
   have hl : m < (comesP cols g (j + 1) l).length := by simp only [List.length_append, List.length_cons, List.length_nil] at h; omega
   have h1 := ih m hl
   rw [if_neg (by omega)] at h1
   have hk : j + 1 ≤ kOf g (j + 1 + 0 + m) := by unfold kOf; split <;> omega
   rw [want_tail (o := o) hk] at h1
   show (comesP cols g (j + 1) l)[m]? = _
   rw [h1, show j + 0 + (m + 1) = j + 1 + 0 + m by omega]
end Go.Proofs.YtolaedhdjcnijaaGreatDoor
namespace Go.Mw
open Go.RowKit
section
variable {P : Program} {r : Option Nat} {n : Nat} {ops : Array Oper} {Q : Post} {rest : List Oper} {σ : St} {w w₀ : World} {S : Nat → Prop} {rs : List HP} {put : HP → List HP} {ty : TypeId} {pos : String} {after : Array Edge} {lv : List Bool} {pd : List (Nat × Bool)} {guard : Option (Nat × Bool)}
theorem step_callN (hok : okOps n ops = true) (e : Nat) (pd' : List (Nat × Bool)) {d : Nat} {f : FuncId} {xs : List Operand} {ats : Array TypeId} {vals : List Value} {α : Type} {val : α → Value} {φ : α → Prop} {q : α → HP} [he : Enters P f] (H : Sep w₀ S rs w)
    (hc : Rets P f vals w fun v w' => ∃ x, v = val x ∧ φ x ∧ Turn noB (q x) w w')
    (ho : ops[e]? = some { dst := some d, op := .call { callee := .value (.func f), args := xs.toArray, argTypes := ats }, type := ty, pos := pos, after := after, guard := guard } := by exact rfl)
    (hw : Region.wanted { dst := some d, op := .call { callee := .value (.func f), args := xs.toArray, argTypes := ats }, type := ty, pos := pos, after := after, guard := guard } (yieldF ops σ) = true := by kernel_rfl) (hv : xs.map (evF σ) = vals := by exact rfl) (hck : effectIn ops lv (pd.map (·.1)) e = true := by kernel_rfl)
    (hpd : pd.filter (fun p => !((above ops e).contains p.1)) = pd' := by kernel_rfl) (h : ∀ x w', φ x → Sep w₀ S (q x :: rs) w' → Kept noB w w' → Stab P ops (upd σ d (val x)) w' pd' ∧ FG P r n ops Q (lv.set e true) pd' (upd σ d (val x)) w') : EffStep P r n ops Q lv pd σ w e := by
  refine step_call hok e pd' ho hw hc hv hck hpd fun v' w' ⟨x, h1, hφ, hk, F', hq, hs⟩ => ?_
  subst h1
  exact h x w' hφ (H.new hk hq fun b hb => (hs b hb).resolve_left id) hk
end
end Go.Mw
namespace Go.Proofs.YtolaedhdjcnijaaGreatDoor
open Go Go.Mw Go.Lib
set_option maxRecDepth 4000
theorem kOf_next (g : Int) (i : Nat) : kOf g (i + 1) = if (i : Int) = g then kOf g i else kOf g i + 1 := by
 unfold kOf
 split <;> split <;> split <;> omega
def nameW (g : Int) (l : List OutM) (i : Nat) : List UInt8 := if (i : Int) = g then countW else (l.getD (kOf g i) out0).name
def typeW (cols : List ColM) (g : Int) (l : List OutM) (i : Nat) : TypeM := if (i : Int) = g then wholeT else if g < 0 ∨ (i : Int) < g then (typeS cols (l.getD (kOf g i) out0).steps).1 else wholeT
theorem want_parts (cols : List ColM) (g : Int) (l : List OutM) (i : Nat) : wantP cols g 0 l i = colP ((i + 1 : Nat) : Int) (nameW g l i) (typeW cols g l i) := by
 unfold wantP nameW typeW
 rw [Nat.sub_zero]
 split <;> rfl
theorem kOf_lt {g : Int} {i n : Nat} (hg : g ≤ n) (hi : i < n + if 0 ≤ g then 1 else 0) (h : ¬ (i : Int) = g) : kOf g i < n := by
 unfold kOf
 split at hi <;> split <;> omega
section
variable {w : World}
theorem planComes_ok {l : List (Int × Int)} {vl : Value} {wh group : Int} (hl : RowIn w vl pairCells 2 l) (hg : fits group) (hT : TabsX w) : Rets Tryz.prog 6 [I wh, vl, I group] w fun v w' => v = .bool true ∧ Kept noB w w' := by
 have H := Sep.start0 w
 obtain ⟨p, hp⟩ : ∃ p, p = madeP wh l group := ⟨_, rfl⟩
 obtain ⟨cs, hcs⟩ : ∃ cs, cs = comesP (colsP false) p.group 0 p.cols := ⟨_, rfl⟩
 have hc := made_comes wh l group
 have hgr := group_range group (pairsP l).length
 have hpg : groupP group (pairsP l).length = (madeP wh l group).group := rfl
 have hlen := madeP_len wh l group
 have hfit := made_fit wh l group
 have hp16 := (pairs_len l).2
 rw [hpg] at hc hgr
 rw [← hp] at hc hgr hlen hfit
 have hty : ∀ o ∈ p.cols, (typeS (colsP false) o.steps).2 = 0 := fun o ho => (good_parts (made_good (by rw [← hp]; exact ho))).2.2.1.1
 have hmany := comes_len (cols := colsP false) (g := p.group) (l := p.cols) (i := 0)
 rw [← hcs] at hc hmany
 rw [← hlen] at hgr
 refine rets3 Tryz.func6 rfl rfl rfl rfl ?_
 refine Sr (Am ?_)
 refine Nx (Mv ?_)
 refine Mv ?_
 refine Mv ?_
 refine FL_callN H (madePlan_ok (wh := wh) (hl.keep H.kept) hg (hT.keep H.kept)) (h := fun x wk _ Hk kk => ?_)
 rw [← hp] at Hk
 have hpin := Sep.sees Hk At0
 obtain ⟨vw, vq, rfl, hw, r, ⟨B, m, rfl, ⟨hm, hm'⟩, hB⟩, hraw⟩ := id hpin
 obtain ⟨A0, a0, rfl, _⟩ := id hw
 have hrl := hraw.len
 have hT0 := hT.keep kk
 have hmany2 : cs.length = r.length + if 0 ≤ p.group then 1 else 0 := by
  rw [hmany, hrl]
  split <;> split <;> omega
 have hcsl : cs.length ≤ 17 := by rw [hmany2]; split <;> omega
 clear hmany hT hl
 refine FL_alloc (Sep.start0 wk) (h := fun b7 w7 H7 k6 => ?_)
 refine FL_storeAll H7 (h := fun w9 H9 => ?_)
 refine Qn (FW_seq (FW_drawS rfl H9 (h := fun hok10 w12 H12 => ?_)))
 refine FGloadAll hok10 1 H12 (h := ?_)
 refine FGcallN hok10 0 [(1, false)] H12 (columnsP_ok false) (h := fun vc w15 _ H15 k14 => ⟨(Stab_cons rfl (by kernel_rfl) (Gives.loadN rfl (H15.obj At1) (us := [.slice A0 p.wh.length a0, .slice B r.length m, I p.group]) rfl rfl) rfl (Stab_nil)), ?_⟩)
 refine FGcallN hok10 2 [] H15 (checkE_ok (cols := colsP false) (p := p) (Sep_in H15 At0) (hpin.keep H15.kept) hfit.1 hfit.2 (by omega) (hT0.keep H15.kept)) (h := fun vo w17 _ H17 k16 => ?_)
 rw [hc] at H17 ⊢
 dsimp only at H17 ⊢
 obtain ⟨Ao, co, rfl, hco, _⟩ := Sep.formD H17 At0
 refine ⟨Stab_nil, ?_⟩
 refine Gm hok10 3 ?_
 refine Gp hok10 4 rfl rfl (fun _ => (Gives.extract rfl rfl)) (Gp hok10 5 rfl rfl (fun _ => (Gives.extract rfl rfl)) ?_)
 refine Gp hok10 6 rfl rfl (fun _ => Gives.assign rfl) (Gp hok10 7 rfl rfl (fun _ => Gives.assign rfl) ?_)
 refine FG_end hok10 (by kernel_rfl) ?_
 refine Qseq_normal (Sr (Vf ?_))
 refine Ld H17 ?_
 refine Vs ?_
 refine Am ?_
 refine Qn (FW_cut (fun _ : Unit => [(7, selfP b7), (8, .slice Ao cs.length co), (9, I 0), (10, I cs.length)]) (fun _ w' => Sep wk noB [rowD 49 7 colCells (.slice Ao cs.length co) cs, blk b7 [.slice A0 p.wh.length a0, .slice B r.length m, I p.group] 25] w') ?_ ?_)
 ·refine Sr (Vf ?_)
  refine Ld H17 ?_
  refine Vv (Gives.geq rfl rfl) (Qn ?_)
  refine Cp rfl (fun hc30 => ?_) (fun hc30 => ?_)
  ·have hge : 0 ≤ p.group := hc30
   refine FW_region (Mv ?_)
   refine Vv (Gives.addI (c := ((cs.length : Nat) : Int)) rfl rfl (by rw [hmany2, if_pos hge]; omega) (by omega)) ?_
   refine Am ?_
   refine FL_nil ?_
   exact Qcut_normal () ⟨rfl, rfl, rfl, rfl, trivial⟩ H17.front1.drop0
  have hge : ¬ 0 ≤ p.group := hc30
  refine FW_skip ?_
  exact Qcut_normal () ⟨rfl, rfl, rfl, by rw [hmany2, if_neg hge]; rfl, trivial⟩ H17.front1.drop0
 intro _ τ w39 H39
 simp only [upds, like, upd_ds, und_ds]
 refine FW_seq (Sr (Mv ?_))
 refine Vn ?_
 refine Mv ?_
 refine FL_splitP (t := 36) rfl (fun hs43 => ?_) (fun hs43 => ?_)
 ·exact (hs43 trivial).elim
 refine On (Mv ?_)
 refine On (Vs ?_)
 refine On (Mv ?_)
 refine On (Vn ?_)
 refine Pf ?_
 refine Qn (Cp rfl (fun hc50 => ?_) (fun hc50 => ?_))
 ·exact (hc50 trivial).elim
 refine Sk (Sr (Am ?_))
 refine Qn (FW_seq (Sr (Am ?_)))
 refine Qn (FW_block (FW_loop' (fun i : Nat => [(7, selfP b7), (8, .slice Ao cs.length co), (10, I cs.length), (11, I (kOf p.group i : Nat)), (12, I i)]) (fun i w' => i ≤ cs.length ∧ Sep wk noB [rowD 49 7 colCells (.slice Ao cs.length co) cs, blk b7 [.slice A0 p.wh.length a0, .slice B r.length m, I p.group] 25] w') (fun i _ => cs.length - i) 0 ⟨rfl, rfl, rfl, by unfold kOf; rw [if_neg (by omega)]; rfl, rfl, trivial⟩ ⟨Nat.zero_le _, H39⟩ (fun i τ w55 hI => ?_)))
 obtain ⟨hi, H55⟩ := hI
 try simp only [upds, like, upd_ds]
 refine FW_seq (Sr (Mv ?_))
 refine Mv ?_
 refine Vl ?_
 refine Qn (Cp rfl (fun hc59 => ?_) (fun hc59 => ?_))
 ·have hlt : i < cs.length := by omega
  have hat : cs[i]? = some (colP ((i + 1 : Nat) : Int) (nameW p.group p.cols i) (typeW (colsP false) p.group p.cols i)) := by
   have h1 := comes_at (cols := colsP false) (g := p.group) (l := p.cols) (j := 0) (m := i) (by rw [← hcs]; exact hlt)
   rw [← hcs, if_neg (by omega)] at h1
   rw [h1, want_parts]
   show some (colP ((0 + 0 + i + 1 : Nat) : Int) _ _) = _
   simp only [Nat.zero_add]
  have hnx := kOf_next p.group i
  refine Sk (FW_seq (FW_block (Sr (Mv ?_))))
  refine Vv (Gives.addI (c := ((i + 1 : Nat) : Int)) rfl rfl (by omega) (by omega)) (Vv (Gives.build (out := typeCells wholeT) (Fills.one rfl rfl rfl (by simp) rfl Fills.nil)) ?_)
  refine Vv (Gives.build (out := colCells ⟨((i + 1 : Nat) : Int), countW, wholeT, cell0⟩) (Fills.one rfl rfl rfl (by simp) rfl (Fills.one rfl rfl rfl (by simp) rfl (Fills.many rfl rfl (Nat.le_of_ble_eq_true rfl) rfl Fills.nil)))) (FL_alloc H55 (h := fun b13 w66 H66 k65 => ?_))
  refine FL_storeAll H66 (h := fun w68 H68 => ?_)
  refine Qn (FW_cut (fun _ : Unit => [(7, selfP b7), (8, .slice Ao cs.length co), (10, I cs.length), (11, I (kOf p.group (i + 1) : Nat)), (12, I i), (13, selfP b13)]) (fun _ w' => Sep wk noB [blk b13 (colCells ⟨((i + 1 : Nat) : Int), nameW p.group p.cols i, typeW (colsP false) p.group p.cols i, cell0⟩) 49, rowD 49 7 colCells (.slice Ao cs.length co) cs, blk b7 [.slice A0 p.wh.length a0, .slice B r.length m, I p.group] 25] w') ?_ ?_)
  ·refine Sr (Mv ?_)
   refine Vf ?_
   refine Ld H68 ?_
   refine Vn ?_
   refine Mv ?_
   refine FL_splitP (t := 55) rfl (fun hs75 => ?_) (fun hs75 => ?_)
   ·have hig : ¬ (i : Int) = p.group := hs75
    have hkl : kOf p.group i < r.length := kOf_lt (by omega) (by rw [← hmany2]; exact hlt) hig
    rw [if_neg hig] at hnx
    obtain ⟨vx, hx, hsx⟩ := hraw.at (show kOf p.group i < p.cols.length by omega)
    obtain ⟨o, ho⟩ : ∃ o, o = p.cols[kOf p.group i]'(show kOf p.group i < p.cols.length by omega) := ⟨_, rfl⟩
    have hom : o ∈ p.cols := by rw [ho]; exact List.getElem_mem _
    have hog : p.cols.getD (kOf p.group i) out0 = o := getD_of (by rw [ho]; exact List.getElem?_eq_getElem _)
    rw [← ho] at hx hsx
    have hto := hty o hom
    have hof := hfit.2 o hom
    have hwn : nameW p.group p.cols i = o.name := by unfold nameW; rw [if_neg hig, hog]
    refine Of (Of (Of (Pt ?_)))
    refine Qn (FW_cond_true rfl ?_)
    refine FW_seq (FW_drawS rfl H68 (h := fun hok78 w80 H80 => ?_))
    refine Gp hok78 1 rfl rfl (fun _ => (Gives.field0 rfl)) (FGload hok78 2 H80 (h := ?_))
    refine Gm hok78 3 ?_
    refine Gp hok78 4 rfl rfl (fun _ => (Gives.idxR rfl rfl (by assumption) (by omega))) (Gp hok78 5 rfl rfl (fun _ => (Gives.fieldR rfl (by assumption) (by omega))) ?_)
    refine Gl hok78 6 rfl rfl (Gives.loadE rfl H80 (by assumption) (by assumption) rfl) (FG_two hok78 (e1 := 0) (e2 := 11) (by kernel_rfl) ?_ ?_)
    ·refine step_callN hok78 0 [(6, false), (5, true), (4, true), (3, true), (2, false), (1, true)] H80 (columnsP_ok false) (h := fun vc w87 _ H87 k86 => ⟨(Stab_cons rfl (by kernel_rfl) (Gives.loadE (i := kOf p.group i) (f := 1) (c := (o.name, vx)) rfl H87 hB hx rfl) rfl (Stab_pure (Stab_pure (Stab_pure (Stab_load H87 (h := Stab_pure (Stab_nil))))))), ?_⟩)
     refine FG_two hok78 (e1 := 7) (e2 := 11) (by kernel_rfl) ?_ ?_
     ·refine step_callQ hok78 7 [] H87 (typeE_ok (by first | exact Sep_in H87 At0 | exact Sep_in H87 At1) (hsx.keep H87.kept) hof (hT0.keep H87.kept).utf) (h := fun w89 H89 k88 => ?_)
      rw [hto]
      refine ⟨Stab_nil, ?_⟩
      refine Gm hok78 8 ?_
      refine Gp hok78 9 rfl rfl (fun _ => (Gives.extract rfl rfl)) (Gp hok78 10 rfl rfl (fun _ => (Gives.extract rfl rfl)) ?_)
      refine FGalloc hok78 11 [(10, true), (9, true), (8, true)] H89 (h := fun b14 w93 H93 => ⟨Stab_pure (Stab_pure (Stab_pure (Stab_nil))), ?_⟩)
      refine FGstoreAll hok78 12 [(10, true)] H93 (h := fun w95 H95 => ⟨Stab_pure (Stab_nil), ?_⟩)
      refine Gp hok78 13 rfl rfl (fun _ => Gives.assign rfl) (FG_end hok78 (by kernel_rfl) ?_)
      refine Qseq_normal (FW_seq (Sr (Mv ?_)))
      refine Vn ?_
      refine Qn (Cp rfl (fun hc99 => ?_) (fun hc99 => ?_))
      ·exact absurd rfl hc99
      refine Sk (Sr (Vf ?_))
      refine Ld H95 ?_
      refine Mv ?_
      refine Vv (Gives.idxR rfl rfl (by assumption) (by omega)) (Vv (Gives.fieldR rfl (by assumption) (by omega)) ?_)
      refine Vv (Gives.loadE rfl H95 (by assumption) (by assumption) rfl) (Vf ?_)
      refine FL_store H95 (h := fun w109 H109 => ?_)
      refine Qn (FW_cut (fun _ : Unit => [(7, selfP b7), (8, .slice Ao cs.length co), (10, I cs.length), (11, I (kOf p.group i : Nat)), (12, I i), (13, selfP b13)]) (fun _ w' => Sep wk noB [blk b13 (colCells ⟨((i + 1 : Nat) : Int), nameW p.group p.cols i, typeW (colsP false) p.group p.cols i, cell0⟩) 49, rowD 49 7 colCells (.slice Ao cs.length co) cs, blk b7 [.slice A0 p.wh.length a0, .slice B r.length m, I p.group] 25] w') ?_ ?_)
      ·refine Sr (Vf ?_)
       refine Ld H109 ?_
       refine Vl ?_
       refine Mv ?_
       refine FL_splitP (t := 83) rfl (fun hs115 => ?_) (fun hs115 => ?_)
       ·have hgi : p.group < 0 ∨ (i : Int) < p.group := .inl hs115
        refine Of (Of (Of (Of (Pt ?_))))
        refine Qn (FW_cond_true rfl ?_)
        refine FW_region (FL_loadAll H109 (h := ?_))
        refine Vf ?_
        refine FL_storeN H109 (us := typeCells (typeS (colsP false) o.steps).1) (cs' := colCells ⟨((i + 1 : Nat) : Int), o.name, (typeS (colsP false) o.steps).1, cell0⟩) rfl rfl rfl (fun u hu => List.all_eq_true.1 (show (typeCells (typeS (colsP false) o.steps).1).all Value.oneCell' = true from rfl) u hu) At2 (Nat.le_of_ble_eq_true rfl) rfl (h := fun w121 H121 => ?_)
        refine FL_nil ?_
        have hwt : typeW (colsP false) p.group p.cols i = (typeS (colsP false) o.steps).1 := by unfold typeW; rw [if_neg hig, if_pos hgi, hog]
        exact Qcut_normal () ⟨rfl, rfl, rfl, rfl, rfl, rfl, trivial⟩ (by rw [hwn, hwt]; exact H121.drop0.drop0)
       refine On (Mv ?_)
       refine On (Vf ?_)
       refine On (Ld H109 ?_)
       refine On (Vl ?_)
       refine Pf ?_
       refine Qn (Cp rfl (fun hc128 => ?_) (fun hc128 => ?_))
       ·have hgi : p.group < 0 ∨ (i : Int) < p.group := by omega
        refine FW_region (FL_loadAll H109 (h := ?_))
        refine Vf ?_
        refine FL_storeN H109 (us := typeCells (typeS (colsP false) o.steps).1) (cs' := colCells ⟨((i + 1 : Nat) : Int), o.name, (typeS (colsP false) o.steps).1, cell0⟩) rfl rfl rfl (fun u hu => List.all_eq_true.1 (show (typeCells (typeS (colsP false) o.steps).1).all Value.oneCell' = true from rfl) u hu) At2 (Nat.le_of_ble_eq_true rfl) rfl (h := fun w133 H133 => ?_)
        refine FL_nil ?_
        have hwt : typeW (colsP false) p.group p.cols i = (typeS (colsP false) o.steps).1 := by unfold typeW; rw [if_neg hig, if_pos hgi, hog]
        exact Qcut_normal () ⟨rfl, rfl, rfl, rfl, rfl, rfl, trivial⟩ (by rw [hwn, hwt]; exact H133.drop0.drop0)
       have hgi : ¬ (p.group < 0 ∨ (i : Int) < p.group) := by omega
       refine FW_skip ?_
       have hwt : typeW (colsP false) p.group p.cols i = wholeT := by unfold typeW; rw [if_neg hig, if_neg hgi]
       exact Qcut_normal () ⟨rfl, rfl, rfl, rfl, rfl, rfl, trivial⟩ (by rw [hwn, hwt]; exact H109.drop0.drop0)
      intro _ τ w138 H138
      simp only [upds, like, upd_ds]
      refine FW_region (Mv ?_)
      refine Vv (Gives.addI (c := ((kOf p.group (i + 1) : Nat) : Int)) rfl rfl (by rw [hnx]; omega) (by omega)) ?_
      refine Am ?_
      refine FL_nil ?_
      exact Qcut_normal () ⟨rfl, rfl, rfl, rfl, rfl, rfl, trivial⟩ H138
     refine step_alloc hok78 11 [(6, false), (5, true), (4, true), (3, true), (2, false), (1, true)] H87 (h := fun b14 w144 H144 => ⟨(Stab_cons rfl (by kernel_rfl) (Gives.loadE (i := kOf p.group i) (f := 1) (c := (o.name, vx)) rfl H144 hB hx rfl) rfl (Stab_pure (Stab_pure (Stab_pure (Stab_load H144 (h := Stab_pure (Stab_nil))))))), ?_⟩)
     refine FGcallQ hok78 7 [] H144 (typeE_ok (by first | exact Sep_in H144 At0 | exact Sep_in H144 At1) (hsx.keep H144.kept) hof (hT0.keep H144.kept).utf) (h := fun w146 H146 k145 => ?_)
     rw [hto]
     refine ⟨Stab_nil, ?_⟩
     refine Gm hok78 8 ?_
     refine Gp hok78 9 rfl rfl (fun _ => (Gives.extract rfl rfl)) (Gp hok78 10 rfl rfl (fun _ => (Gives.extract rfl rfl)) ?_)
     refine FGstoreAll hok78 12 [(10, true)] H146 (h := fun w150 H150 => ⟨Stab_pure (Stab_nil), ?_⟩)
     refine Gp hok78 13 rfl rfl (fun _ => Gives.assign rfl) (FG_end hok78 (by kernel_rfl) ?_)
     refine Qseq_normal (FW_seq (Sr (Mv ?_)))
     refine Vn ?_
     refine Qn (Cp rfl (fun hc154 => ?_) (fun hc154 => ?_))
     ·exact absurd rfl hc154
     refine Sk (Sr (Vf ?_))
     refine Ld H150 ?_
     refine Mv ?_
     refine Vv (Gives.idxR rfl rfl (by assumption) (by omega)) (Vv (Gives.fieldR rfl (by assumption) (by omega)) ?_)
     refine Vv (Gives.loadE rfl H150 (by assumption) (by assumption) rfl) (Vf ?_)
     refine FL_store H150 (h := fun w164 H164 => ?_)
     refine Qn (FW_cut (fun _ : Unit => [(7, selfP b7), (8, .slice Ao cs.length co), (10, I cs.length), (11, I (kOf p.group i : Nat)), (12, I i), (13, selfP b13)]) (fun _ w' => Sep wk noB [blk b13 (colCells ⟨((i + 1 : Nat) : Int), nameW p.group p.cols i, typeW (colsP false) p.group p.cols i, cell0⟩) 49, rowD 49 7 colCells (.slice Ao cs.length co) cs, blk b7 [.slice A0 p.wh.length a0, .slice B r.length m, I p.group] 25] w') ?_ ?_)
     ·refine Sr (Vf ?_)
      refine Ld H164 ?_
      refine Vl ?_
      refine Mv ?_
      refine FL_splitP (t := 83) rfl (fun hs170 => ?_) (fun hs170 => ?_)
      ·have hgi : p.group < 0 ∨ (i : Int) < p.group := .inl hs170
       refine Of (Of (Of (Of (Pt ?_))))
       refine Qn (FW_cond_true rfl ?_)
       refine FW_region (FL_loadAll H164 (h := ?_))
       refine Vf ?_
       refine FL_storeN H164 (us := typeCells (typeS (colsP false) o.steps).1) (cs' := colCells ⟨((i + 1 : Nat) : Int), o.name, (typeS (colsP false) o.steps).1, cell0⟩) rfl rfl rfl (fun u hu => List.all_eq_true.1 (show (typeCells (typeS (colsP false) o.steps).1).all Value.oneCell' = true from rfl) u hu) At2 (Nat.le_of_ble_eq_true rfl) rfl (h := fun w176 H176 => ?_)
       refine FL_nil ?_
       have hwt : typeW (colsP false) p.group p.cols i = (typeS (colsP false) o.steps).1 := by unfold typeW; rw [if_neg hig, if_pos hgi, hog]
       exact Qcut_normal () ⟨rfl, rfl, rfl, rfl, rfl, rfl, trivial⟩ (by rw [hwn, hwt]; exact H176.drop0.drop0)
      refine On (Mv ?_)
      refine On (Vf ?_)
      refine On (Ld H164 ?_)
      refine On (Vl ?_)
      refine Pf ?_
      refine Qn (Cp rfl (fun hc183 => ?_) (fun hc183 => ?_))
      ·have hgi : p.group < 0 ∨ (i : Int) < p.group := by omega
       refine FW_region (FL_loadAll H164 (h := ?_))
       refine Vf ?_
       refine FL_storeN H164 (us := typeCells (typeS (colsP false) o.steps).1) (cs' := colCells ⟨((i + 1 : Nat) : Int), o.name, (typeS (colsP false) o.steps).1, cell0⟩) rfl rfl rfl (fun u hu => List.all_eq_true.1 (show (typeCells (typeS (colsP false) o.steps).1).all Value.oneCell' = true from rfl) u hu) At2 (Nat.le_of_ble_eq_true rfl) rfl (h := fun w188 H188 => ?_)
       refine FL_nil ?_
       have hwt : typeW (colsP false) p.group p.cols i = (typeS (colsP false) o.steps).1 := by unfold typeW; rw [if_neg hig, if_pos hgi, hog]
       exact Qcut_normal () ⟨rfl, rfl, rfl, rfl, rfl, rfl, trivial⟩ (by rw [hwn, hwt]; exact H188.drop0.drop0)
      have hgi : ¬ (p.group < 0 ∨ (i : Int) < p.group) := by omega
      refine FW_skip ?_
      have hwt : typeW (colsP false) p.group p.cols i = wholeT := by unfold typeW; rw [if_neg hig, if_neg hgi]
      exact Qcut_normal () ⟨rfl, rfl, rfl, rfl, rfl, rfl, trivial⟩ (by rw [hwn, hwt]; exact H164.drop0.drop0)
     intro _ τ w193 H193
     simp only [upds, like, upd_ds]
     refine FW_region (Mv ?_)
     refine Vv (Gives.addI (c := ((kOf p.group (i + 1) : Nat) : Int)) rfl rfl (by rw [hnx]; omega) (by omega)) ?_
     refine Am ?_
     refine FL_nil ?_
     exact Qcut_normal () ⟨rfl, rfl, rfl, rfl, rfl, rfl, trivial⟩ H193
    refine step_alloc hok78 11 [(6, false), (5, true), (4, true), (3, true), (2, false), (1, true)] H80 (h := fun b14 w199 H199 => ⟨(Stab_cons rfl (by kernel_rfl) (Gives.loadE (i := kOf p.group i) (f := 1) (c := (o.name, vx)) rfl H199 hB hx rfl) rfl (Stab_pure (Stab_pure (Stab_pure (Stab_load H199 (h := Stab_pure (Stab_nil))))))), ?_⟩)
    refine FGcallN hok78 0 [(6, false), (5, true), (4, true), (3, true), (2, false), (1, true)] H199 (columnsP_ok false) (h := fun vc w201 _ H201 k200 => ⟨(Stab_cons rfl (by kernel_rfl) (Gives.loadE (i := kOf p.group i) (f := 1) (c := (o.name, vx)) rfl H201 hB hx rfl) rfl (Stab_pure (Stab_pure (Stab_pure (Stab_load H201 (h := Stab_pure (Stab_nil))))))), ?_⟩)
    refine FGcallQ hok78 7 [] H201 (typeE_ok (by first | exact Sep_in H201 At0 | exact Sep_in H201 At1) (hsx.keep H201.kept) hof (hT0.keep H201.kept).utf) (h := fun w203 H203 k202 => ?_)
    rw [hto]
    refine ⟨Stab_nil, ?_⟩
    refine Gm hok78 8 ?_
    refine Gp hok78 9 rfl rfl (fun _ => (Gives.extract rfl rfl)) (Gp hok78 10 rfl rfl (fun _ => (Gives.extract rfl rfl)) ?_)
    refine FGstoreAll hok78 12 [(10, true)] H203 (h := fun w207 H207 => ⟨Stab_pure (Stab_nil), ?_⟩)
    refine Gp hok78 13 rfl rfl (fun _ => Gives.assign rfl) (FG_end hok78 (by kernel_rfl) ?_)
    refine Qseq_normal (FW_seq (Sr (Mv ?_)))
    refine Vn ?_
    refine Qn (Cp rfl (fun hc211 => ?_) (fun hc211 => ?_))
    ·exact absurd rfl hc211
    refine Sk (Sr (Vf ?_))
    refine Ld H207 ?_
    refine Mv ?_
    refine Vv (Gives.idxR rfl rfl (by assumption) (by omega)) (Vv (Gives.fieldR rfl (by assumption) (by omega)) ?_)
    refine Vv (Gives.loadE rfl H207 (by assumption) (by assumption) rfl) (Vf ?_)
    refine FL_store H207 (h := fun w221 H221 => ?_)
    refine Qn (FW_cut (fun _ : Unit => [(7, selfP b7), (8, .slice Ao cs.length co), (10, I cs.length), (11, I (kOf p.group i : Nat)), (12, I i), (13, selfP b13)]) (fun _ w' => Sep wk noB [blk b13 (colCells ⟨((i + 1 : Nat) : Int), nameW p.group p.cols i, typeW (colsP false) p.group p.cols i, cell0⟩) 49, rowD 49 7 colCells (.slice Ao cs.length co) cs, blk b7 [.slice A0 p.wh.length a0, .slice B r.length m, I p.group] 25] w') ?_ ?_)
    ·refine Sr (Vf ?_)
     refine Ld H221 ?_
     refine Vl ?_
     refine Mv ?_
     refine FL_splitP (t := 83) rfl (fun hs227 => ?_) (fun hs227 => ?_)
     ·have hgi : p.group < 0 ∨ (i : Int) < p.group := .inl hs227
      refine Of (Of (Of (Of (Pt ?_))))
      refine Qn (FW_cond_true rfl ?_)
      refine FW_region (FL_loadAll H221 (h := ?_))
      refine Vf ?_
      refine FL_storeN H221 (us := typeCells (typeS (colsP false) o.steps).1) (cs' := colCells ⟨((i + 1 : Nat) : Int), o.name, (typeS (colsP false) o.steps).1, cell0⟩) rfl rfl rfl (fun u hu => List.all_eq_true.1 (show (typeCells (typeS (colsP false) o.steps).1).all Value.oneCell' = true from rfl) u hu) At2 (Nat.le_of_ble_eq_true rfl) rfl (h := fun w233 H233 => ?_)
      refine FL_nil ?_
      have hwt : typeW (colsP false) p.group p.cols i = (typeS (colsP false) o.steps).1 := by unfold typeW; rw [if_neg hig, if_pos hgi, hog]
      exact Qcut_normal () ⟨rfl, rfl, rfl, rfl, rfl, rfl, trivial⟩ (by rw [hwn, hwt]; exact H233.drop0.drop0)
     refine On (Mv ?_)
     refine On (Vf ?_)
     refine On (Ld H221 ?_)
     refine On (Vl ?_)
     refine Pf ?_
     refine Qn (Cp rfl (fun hc240 => ?_) (fun hc240 => ?_))
     ·have hgi : p.group < 0 ∨ (i : Int) < p.group := by omega
      refine FW_region (FL_loadAll H221 (h := ?_))
      refine Vf ?_
      refine FL_storeN H221 (us := typeCells (typeS (colsP false) o.steps).1) (cs' := colCells ⟨((i + 1 : Nat) : Int), o.name, (typeS (colsP false) o.steps).1, cell0⟩) rfl rfl rfl (fun u hu => List.all_eq_true.1 (show (typeCells (typeS (colsP false) o.steps).1).all Value.oneCell' = true from rfl) u hu) At2 (Nat.le_of_ble_eq_true rfl) rfl (h := fun w245 H245 => ?_)
      refine FL_nil ?_
      have hwt : typeW (colsP false) p.group p.cols i = (typeS (colsP false) o.steps).1 := by unfold typeW; rw [if_neg hig, if_pos hgi, hog]
      exact Qcut_normal () ⟨rfl, rfl, rfl, rfl, rfl, rfl, trivial⟩ (by rw [hwn, hwt]; exact H245.drop0.drop0)
     have hgi : ¬ (p.group < 0 ∨ (i : Int) < p.group) := by omega
     refine FW_skip ?_
     have hwt : typeW (colsP false) p.group p.cols i = wholeT := by unfold typeW; rw [if_neg hig, if_neg hgi]
     exact Qcut_normal () ⟨rfl, rfl, rfl, rfl, rfl, rfl, trivial⟩ (by rw [hwn, hwt]; exact H221.drop0.drop0)
    intro _ τ w250 H250
    simp only [upds, like, upd_ds]
    refine FW_region (Mv ?_)
    refine Vv (Gives.addI (c := ((kOf p.group (i + 1) : Nat) : Int)) rfl rfl (by rw [hnx]; omega) (by omega)) ?_
    refine Am ?_
    refine FL_nil ?_
    exact Qcut_normal () ⟨rfl, rfl, rfl, rfl, rfl, rfl, trivial⟩ H250
   have hig : (i : Int) = p.group := by omega
   refine On (Vf ?_)
   refine On (Ld H68 ?_)
   refine On (Vl ?_)
   refine Pf ?_
   refine Qn (Cp rfl (fun hc260 => ?_) (fun hc260 => ?_))
   ·omega
   refine FW_skip ?_
   have hwn : nameW p.group p.cols i = countW := by unfold nameW; rw [if_pos hig]
   have hwt : typeW (colsP false) p.group p.cols i = wholeT := by unfold typeW; rw [if_pos hig]
   rw [if_pos hig] at hnx
   exact Qcut_normal () ⟨rfl, rfl, rfl, by rw [hnx]; rfl, rfl, rfl, trivial⟩ (by rw [hwn, hwt]; exact H68)
  intro _ τ w264 H264
  simp only [upds, like, upd_ds]
  refine Sr (Vf ?_)
  refine Vv (Gives.loadN rfl (H264.obj At0) (us := typeCells (typeW (colsP false) p.group p.cols i)) rfl rfl) (FL_callQ H264 (zeroE_ok (typeW (colsP false) p.group p.cols i)) (h := fun w268 H268 k267 => ?_))
  refine Vf ?_
  refine FL_storeN H268 (us := cellCells (zeroC (typeW (colsP false) p.group p.cols i))) (cs' := colCells (colP ((i + 1 : Nat) : Int) (nameW p.group p.cols i) (typeW (colsP false) p.group p.cols i))) rfl rfl rfl (fun u hu => List.all_eq_true.1 (show (cellCells (zeroC (typeW (colsP false) p.group p.cols i))).all Value.oneCell' = true from rfl) u hu) At0 (Nat.le_of_ble_eq_true rfl) rfl (h := fun w271 H271 => ?_)
  refine Qn (FW_seq (FW_drawS rfl H271 (h := fun hok272 w274 H274 => ?_)))
  refine Gm hok272 0 ?_
  refine Gm hok272 1 ?_
  refine Gp hok272 2 rfl rfl (fun _ => (Gives.idxR (l := cs) (enc := colCells) rfl rfl (Sep_rdD H274 At1) hlt)) (Gl hok272 3 rfl rfl (Gives.loadW0 (i := i) rfl (Sep_rdD H274 At1) hat) ?_)
  refine FGloadAll hok272 4 H274 (h := ?_)
  refine Gp hok272 5 rfl rfl (fun _ => (Gives.neqG (enc := colCells) _ _ rfl rfl)) (FG_end hok272 (by kernel_rfl) ?_)
  refine Qseq_normal (Cp rfl (fun hc279 => ?_) (fun hc279 => ?_))
  ·exact absurd rfl hc279
  refine FW_skip (Qblk_normal (Qseq_normal (FW_region (Mv ?_))))
  refine Vv (Gives.addI rfl rfl rfl (by omega)) (Am ?_)
  refine FL_nil ?_
  exact Qround_normal (i + 1) ⟨rfl, rfl, rfl, rfl, rfl, trivial⟩ ⟨by omega, H274.drop0⟩ (by omega)
 refine FW_exit (Qseq_exit (Qround_exit (Qblk_exit (Qseq_normal (Sr (FL_callQ H55 (worksP_ok (hT0.keep H55.kept)) (h := fun w286 H286 k285 => ?_)))))))
 refine Am ?_
 refine Qn (FW_ret (Qfn_ret (hR := ?_)))
 exact ⟨rfl, kk.trans0 H286.kept⟩
end
end Go.Proofs.YtolaedhdjcnijaaGreatDoor
namespace Go.Mw
open Go.RowKit Go.ChangeShapes Go.WideShapes Go.Deep

section
variable {H : Type} {enc : TypeId × Value → H} {P : Program}
theorem trodAll_stays (hl : laidOutB P = true) {W W' : World} (hk : Kept noB W W') {sp : Nat → Bool} : ∀ {ts : List TypeId} {vs : List Value} {ds : List (DataW H)} {ps : List MemPlace}, (∀ t ∈ ts, P.readableRec t = true ∧ t < P.types.size) →
    DataW.TrodAll enc P W 0 (fun _ => true) true ts vs ds ps → (∀ x ∈ ps, x.block < W.heap.size) → (∀ x ∈ ps, sp x.block = true) → DataW.TrodAll enc P W' 0 sp true ts vs ds ps
  | [], [], [], _, _, h, _, _ => h
  | t :: ts, v :: vs, d :: ds, ps, ht, ⟨p, q, h1, h2, e⟩, hlt, hsp => by
    subst e
    exact ⟨p, q, WideElems.Trod_stays hl (ht t List.mem_cons_self).1 (ht t List.mem_cons_self).2 h1 (fun x hx => hk.below.same (hlt x (List.mem_append_left _ hx))) (fun x hx => hsp x (List.mem_append_left _ hx)),
      trodAll_stays hl hk (fun u hu => ht u (List.mem_cons_of_mem _ hu)) h2 (fun x hx => hlt x (List.mem_append_right _ hx)) (fun x hx => hsp x (List.mem_append_right _ hx)), rfl⟩
  | [], [], _ :: _, _, _, h, _, _ => h.elim
  | [], _ :: _, _, _, _, h, _, _ => by cases ‹List (DataW H)› <;> exact h.elim
  | _ :: _, [], _, _, _, h, _, _ => h.elim
  | _ :: _, _ :: _, [], _, _, h, _, _ => h.elim
theorem post_law {f : Func} {s : ChangeSpec} {apart fresh handsOn again : Bool} {W W' : World} {args : Array Value} {t : TypeId} {ds gs : List (DataW H)} {before : List MemPlace} (hl : laidOutB P = true)
    (hW : DataW.Whole enc P f.params.toList s.vars apart W args.toList ds gs before) (hvars : s.vars = []) (hr : f.resultTypes = #[t]) (hb : P.underlying t = some .bool) (hp0 : (f.params.toList.all fun t => P.readableRec t && decide (t < P.types.size)) = true)
    (hs : s.fn H (ds ++ gs) = { results := [.lit (.bool true)], args := ds }) (hk : Kept noB W W') (hok : Value.okWide P W' .any 0 t (.bool true)) : s.post enc P f apart fresh handsOn again W args (.bool true) W' := by
  have hp : ∀ t ∈ f.params.toList, P.readableRec t = true ∧ t < P.types.size := fun t ht => by
    have := List.all_eq_true.1 hp0 t ht
    simpa using this
  have hW' := hW
  obtain ⟨pa, pv, hA, hV, rfl, hz, hn⟩ := hW
  have hnil : gs = [] ∧ pv = [] := by
    rw [hvars] at hV
    exact trodVars_none hV
  obtain ⟨rfl, rfl⟩ := hnil
  have hlt : ∀ p ∈ pa, p.block < W.heap.size := fun p hp => hW'.lt p (List.mem_append_left _ hp)
  have hres : ∀ (b : Nat) (sp : Nat → Bool) (hd : Bool), DataW.TrodAll enc P W' b sp hd f.resultTypes.toList ((Value.bool true).resultList f.resultTypes.size) (s.fn H (ds ++ [])).results [] := by
    intro b sp hd
    rw [hs, hr]
    exact trodAll_mk1 (shut_bool hb true)
  have hargs : ∀ sp : Nat → Bool, (∀ p ∈ pa, sp p.block = true) → DataW.TrodAll enc P W' 0 sp true f.params.toList args.toList (s.fn H (ds ++ [])).args pa := by
    intro sp hsp
    rw [hs]
    exact trodAll_stays hl hk hp hA hlt hsp
  have hvs : ∀ sp : Nat → Bool, DataW.TrodVars enc P W' sp s.vars (s.fn H (ds ++ [])).vars [] := by
    intro sp
    rw [hvars, hs]
    exact rfl
  refine ⟨ds, [], pa ++ [], [], pa, [], hW', hres _ _ _, hargs _ (fun p hp => by simpa using hlt p hp), hvs _, World.keptBut_mono (fun p hp => ⟨hp, ?_⟩) (hk.below.frame (· ∈ pa ++ [])), fun _ => ?_⟩
  · simpa using hp
  refine ⟨fun j t' r hj hv => ?_, _, _, ([] ++ pa) ++ [], ⟨[] ++ pa, [], trodAll_append (hargs _ (fun _ _ => rfl)) (hres _ _ _), hvs _, rfl, ?_, ?_⟩, ?_⟩
  · exact ok_one hr rfl hok j t' r hj hv
  · intro b off hp
    have hin : MemPlace.cell b off ∈ pa := by simpa using hp
    rw [hk.below.frozen (hlt _ hin)]
    exact hz b off (by simpa using hin)
  · intro ha
    have := hn ha
    simpa using this
  intro p hp _
  simpa using hp
theorem exists_list {α : Type} {Q : Nat → α → Prop} : ∀ n : Nat, (∀ i, i < n → ∃ x, Q i x) → ∃ l : List α, l.length = n ∧ ∀ i x, l[i]? = some x → Q i x
 | 0, _ => ⟨[], rfl, fun i x h => by simp at h⟩
 | n + 1, h => by
  obtain ⟨l, h1, h2⟩ := exists_list n fun i hi => h i (by omega)
  obtain ⟨x, hx⟩ := h n (by omega)
  refine ⟨l ++ [x], by simp [h1], fun i y hy => ?_⟩
  rw [List.getElem?_append] at hy
  split at hy
  ·exact h2 i y hy
  rename_i hge
  have hi : i = n := by
   rcases Nat.lt_or_ge (i - l.length) 1 with h3 | h3
   ·omega
   rw [List.getElem?_eq_none (by simpa using h3)] at hy; cases hy
  subst hi
  rw [h1, Nat.sub_self] at hy
  injection hy with hy
  rw [← hy]; exact hx
theorem flatMap_get {α : Type} {f : α → List Value} {s : Nat} (hf : ∀ x, (f x).length = s) : ∀ (l : List α) (k : Nat) (v : Value), (l.flatMap f)[k]? = some v → ∃ i j x, l[i]? = some x ∧ (f x)[j]? = some v ∧ k = i * s + j
 | [], k, v, h => by simp at h
 | x :: l, k, v, h => by
  rw [List.flatMap_cons, List.getElem?_append] at h
  split at h
  ·exact ⟨0, k, x, rfl, h, by omega⟩
  rename_i hge
  obtain ⟨i, j, y, h1, h2, h3⟩ := flatMap_get hf l _ v h
  rw [hf] at h3 hge
  exact ⟨i + 1, j, y, by simpa using h1, h2, by rw [Nat.add_mul]; omega⟩
theorem flatMap_len {α : Type} {f : α → List Value} {s : Nat} (hf : ∀ x, (f x).length = s) : ∀ l : List α, (l.flatMap f).length = l.length * s
 | [] => by simp
 | x :: l => by rw [List.flatMap_cons, List.length_append, hf, flatMap_len hf l, List.length_cons, Nat.add_mul]; omega
theorem open_rows {α : Type} {f : α → List Value} {good : α → Prop} {s : Nat} {t e : TypeId} {W : World} {r : Reach} {base : Nat} {v : Value} {d : DataW H} {ps : List MemPlace} (ht : P.underlying t = some (.slice e)) (hC : P.cellsOf e = s) (hf : ∀ x, (f x).length = s)
    (hel : ∀ n cs y, cs.length = s → DataW.trod enc P W 0 (fun _ => true) true n e cs = some y → ∃ x, cs = f x ∧ good x) (hv : Value.okWide P W r base t v) (h : DataW.Trod enc P W 0 (fun _ => true) true t v d ps) :
    ∃ A c, ∃ l : List α, v = .slice A l.length c ∧ l.length ≤ c ∧ c ≤ maxLen ∧ RowAt W A l.length s (l.flatMap f) ∧ ∀ x ∈ l, good x := by
  obtain ⟨a0, len0, cap0, rfl⟩ := okWide_slice ht hv
  obtain ⟨fuel, hfu⟩ := h
  rcases open_slice ht hfu with ⟨h0, _⟩ | ⟨a, len, cap, m, n, D, Pl, hcs, _, hl, hm, hmm, _, hi⟩
  · have h0 : [Value.slice a0 len0 cap0] = [.slice none 0 0] := h0
    injection h0 with h0 _
    exact ⟨none, 0, [], h0, Nat.le_refl _, Nat.zero_le _, RowAt.nil _ _ _, fun _ h => by cases h⟩
  have hcs : [Value.slice a0 len0 cap0] = [.slice (some a) len cap] := hcs
  injection hcs with hcs _
  have hm2 : m = cap := by simpa using hmm
  subst hm2
  obtain ⟨l, h1, h2⟩ := exists_list (α := α) (Q := fun i x => good x ∧ ∀ j u, (f x)[j]? = some u → W.cell? (a.add (i * s + j)) = some u) len (fun i hi' => by
    obtain ⟨cs', hc, ht'⟩ := hi i (by omega)
    rw [hC] at hc
    obtain ⟨_, hcl, hat⟩ := World.cells?_some hc
    obtain ⟨x, hx, hg⟩ := hel _ _ _ hcl ht'
    refine ⟨x, hg, fun j u hu => ?_⟩
    have hj : j < s := by rw [← hf x]; exact (List.getElem?_eq_some_iff.1 hu).1
    have hcell := hat j hj
    rw [← Go.Deep.add_add, hcell, hx]
    exact hu)
  subst h1
  refine ⟨some a, m, l, hcs, hl, hm, ⟨flatMap_len hf l, fun _ => ⟨a, rfl, fun k u hk => ?_⟩⟩, fun x hx => ?_⟩
  · obtain ⟨i, j, x, hi', hj, rfl⟩ := flatMap_get hf l k u hk
    exact (h2 i x hi').2 j u hj
  obtain ⟨i, hi'⟩ := List.mem_iff_getElem?.1 hx
  exact (h2 i x hi').1
end
end Go.Mw
namespace Go.Proofs.YtolaedhdjcnijaaGreatDoor
open Go Go.Mw Go.Lib Go.RowKit
set_option maxRecDepth 100000
theorem ownIs : ownKnob Tryz.prog.godebug = none := by kernel_rfl
theorem laidIs : laidOutB Tryz.prog = true := by kernel_rfl
def laidL : List (String × DataW Unit) := [("math/bits.deBruijn32tab", Rows.laid_math_bits_deBruijn32tab), ("math/bits.deBruijn64tab", Rows.laid_math_bits_deBruijn64tab), ("internal/strconv.uint64pow10", Rows.laid_internal_strconv_uint64pow10), ("unicode/utf8.acceptRanges", Rows.laid_unicode_utf8_acceptRanges), ("strconv.ErrRange", Rows.laid_strconv_ErrRange), ("strconv.ErrSyntax", Rows.laid_strconv_ErrSyntax), ("unicode/utf8.first", Rows.laid_unicode_utf8_first)]
theorem u8extra : U8Extra Tryz.prog Tryz.lays260_ren := ⟨by kernel_rfl, by kernel_rfl, by kernel_rfl, by kernel_rfl, by kernel_rfl, by kernel_rfl, by kernel_rfl⟩
theorem first_eq : Rows.laid_unicode_utf8_first = firstData := Pinned.utf8First_eq
theorem accept_eq : (Rows.laid_unicode_utf8_acceptRanges : DataW Unit) = acceptData := by kernel_rfl
theorem pow_eq : (Rows.laid_internal_strconv_uint64pow10 : DataW Unit) = tabData .u64 pow10Tab := by kernel_rfl
theorem star_eq : "*" ++ "errors.errorString" = "*errors.errorString" := by decide
theorem errRow (u : TypeId) (h : Tryz.prog.typeName? 3 u = some "*errors.errorString") : u = 275 :=
 typeName_ptr_named (nm := "errors.errorString") (by rw [star_eq]; kernel_rfl) (by kernel_rfl) (by decide) u (by rw [star_eq]; exact h)
theorem cellsErr : Tryz.prog.cellsOf 277 = 1 := by kernel_rfl
theorem cellsStr : Tryz.prog.cellsOf 9 = 1 := by kernel_rfl
theorem tabsX_of {W : World} (h0 : laidMetH Tryz.prog laidL W) (hsh : W.ShapedOpen Tryz.prog) : TabsX W := by
 rw [MakeChecks.laidMetH_plain _ _ _ (by kernel_rfl)] at h0
 have h := h0
 refine ⟨?_, ?_, ?_, ?_, ?_⟩
 ·exact utf8Tabs_of_reads Tryz.lays260 u8extra (first_eq ▸ Lib.laidMet.reads h (by unfold laidL; simp)) (accept_eq ▸ Lib.laidMet.reads h (by unfold laidL; simp))
 ·obtain ⟨g, t, cs, fuel, p, hg, hty, hvar, hd⟩ := Lib.laidMet.reads (n := "internal/strconv.uint64pow10") h (by unfold laidL; exact .tail _ (.tail _ (.head _)))
  have hg' : Tryz.prog.globalNamed "internal/strconv.uint64pow10" = some 1 := by kernel_rfl
  obtain rfl := Option.some.inj (hg'.symm.trans hg)
  have hty' : (Tryz.prog.globals[1]?).map (·.type) = some 253 := by kernel_rfl
  obtain rfl := Option.some.inj (hty'.symm.trans hty)
  rw [pow_eq] at hd
  have hcs := cells_of_tab Tryz.underlying253 Tryz.underlying156 (by kernel_rfl) (by kernel_rfl) hd
  unfold Lib.TabIs
  rw [hvar, ← hcs]
 ·obtain ⟨a, s, hv, _⟩ := laid_sentinel (g := 2) (ti := 127) (tp := 275) (te := 277) (ts := 9) h.tail.tail.tail.tail.tail (by kernel_rfl) (by kernel_rfl) Tryz.underlying127 errRow Tryz.underlying275 Tryz.underlying277 rfl rfl Tryz.underlying9 cellsErr cellsStr
  exact ⟨_, _, hv⟩
 ·obtain ⟨a, s, hv, _⟩ := laid_sentinel (g := 3) (ti := 127) (tp := 275) (te := 277) (ts := 9) h.tail.tail.tail.tail (by kernel_rfl) (by kernel_rfl) Tryz.underlying127 errRow Tryz.underlying275 Tryz.underlying277 rfl rfl Tryz.underlying9 cellsErr cellsStr
  exact ⟨_, _, hv⟩
 exact Tryz.laysM219.s1_3 W hsh
end Go.Proofs.YtolaedhdjcnijaaGreatDoor
namespace Go.Proofs.YtolaedhdjcnijaaGreatDoor
open Go Go.Mw Go.ChangeShapes Go.WideShapes Go.RowKit
set_option maxRecDepth 4000
section
variable {H : Type} {enc : TypeId × Value → H} {W : World} {r : Reach} {base : Nat} {v : Value} {d : DataW H} {ps : List MemPlace}
theorem fits_of {n : Int} {k : IntKind} (hk : k = .i64) (h : (Lit.int k n).wf = true) : fits n := by
 subst hk
 simp [Lit.wf, IntKind.min, IntKind.max, IntKind.bits, IntKind.signed] at h
 unfold fits
 omega
theorem rowIn_of {α : Type} {f : α → List Value} {k c : Nat} {A : Option Addr} {l : List α} (hc : l.length ≤ c) (hm : c ≤ maxLen) (h : RowAt W A l.length k (l.flatMap f)) : RowIn W (.slice A l.length c) f k l :=
 ⟨A, c, rfl, ⟨hc, by unfold maxLen at hm; omega⟩, h⟩
end
end Go.Proofs.YtolaedhdjcnijaaGreatDoor
namespace Go.Mw
open Go.RowKit Go.ChangeShapes Go.WideShapes Go.Deep

section
variable {H : Type} {enc : TypeId × Value → H} {P : Program}
end
end Go.Mw
namespace Go.Proofs.YtolaedhdjcnijaaGreatDoor
open Go Go.Mw Go.ChangeShapes Go.WideShapes Go.RowKit
set_option maxRecDepth 4000
section
variable {H : Type} {enc : TypeId × Value → H} {W : World} {r : Reach} {base : Nat} {v : Value} {d : DataW H} {ps : List MemPlace}
theorem open_intX (hv : Value.okWide Tryz.prog W r base 3 v) (h : DataW.Trod enc Tryz.prog W 0 (fun _ => true) true 3 v d ps) : ∃ k, v = I k ∧ fits k := by
 obtain ⟨k0, rfl⟩ := okWide_int Tryz.underlying3 hv
 obtain ⟨fuel, hfu⟩ := h
 obtain ⟨k, hk, _, hw⟩ := DataW.trod_int Tryz.underlying3 hfu
 have hk : [Value.int .i64 k0] = [Value.int .i64 k] := hk
 injection hk with hk _
 injection hk with _ hk
 subst hk
 exact ⟨_, rfl, fits_of rfl hw⟩
end
section
variable {H : Type} {enc : TypeId × Value → H} {W : World} {r : Reach} {base : Nat} {v : Value} {d : DataW H} {ps : List MemPlace}
theorem pair_read {n : Nat} {cs : List Value} {y : DataW H × List MemPlace} (hl : cs.length = 2) (hc : DataW.trod enc Tryz.prog W 0 (fun _ => true) true n 95 cs = some y) : ∃ x : Int × Int, cs = pairCells x := by
 have hc1 : Tryz.prog.cellsOf 3 = 1 := by kernel_rfl
 match cs, hl with
 | [a, b], _ =>
  obtain ⟨xs, m, _, _, _, hxl, hx⟩ := DataW.trod_array Tryz.underlying95 hc
  have h0 := hx 0 (by decide)
  have h1 := hx 1 (by decide)
  rw [hc1] at h0 h1
  have g0 : xs[0]? = some (xs[0]'(by omega)) := List.getElem?_eq_getElem _
  have g1 : xs[1]? = some (xs[1]'(by omega)) := List.getElem?_eq_getElem _
  obtain ⟨i, hi, _, _⟩ := DataW.trod_int (cs := [a]) Tryz.underlying3 (h0.trans g0)
  obtain ⟨j, hj, _, _⟩ := DataW.trod_int (cs := [b]) Tryz.underlying3 (h1.trans g1)
  injection hi with hi _
  injection hj with hj _
  subst hi hj
  exact ⟨(i, j), rfl⟩
theorem open_pairs (hv : Value.okWide Tryz.prog W r base 35 v) (h : DataW.Trod enc Tryz.prog W 0 (fun _ => true) true 35 v d ps) : ∃ l : List (Int × Int), RowIn W v pairCells 2 l := by
 obtain ⟨A, c, l, rfl, h1, h2, h3, h4⟩ := open_rows (f := pairCells) (good := fun _ : Int × Int => True) (s := 2) Tryz.underlying35 (by kernel_rfl) (fun _ => rfl) (fun n cs y hl hc => (pair_read hl hc).imp fun _ h => ⟨h, trivial⟩) hv h
 exact ⟨l, rowIn_of h1 h2 h3⟩
end
end Go.Proofs.YtolaedhdjcnijaaGreatDoor
namespace Go.Proofs.YtolaedhdjcnijaaGreatDoor
open Go
def facts1 (P : Program) (f : FuncId) (fn : Func) (s : ChangeSpec) (c : OpenClaim) : Bool :=
 c.wf (OpenSpec.ofChange s) && laidOutB P && mapsRowed P &&
 fn.params.all (P.readableRec ·) && namedTie P c.named s.vars &&
 (c.stops == []) && (P.stops == []) && (c.knobs == []) && (P.stopKnobs == []) &&
 (c.inPlace == P.inPlace f) && (c.unfollowed == P.unfollowed f) && (c.recurses == P.recurses f) && (c.named == P.varsNamed f)
def facts2 (P : Program) (fn : Func) (s : ChangeSpec) (c : OpenClaim) : Bool :=
 (c.maps == (fn.params.toList ++ s.plain.varTypes P).any (P.mapsRec ·)) && (c.ifaces == (fn.params.toList ++ s.plain.varTypes P).any (P.ifacesRec ·)) && (c.mapsOut == P.mapsAmong fn.resultTypes.toList) &&
 (c.loops == (fn.params.toList ++ s.plain.varTypes P).any (P.loopsFrom ·)) && (c.wideKeys == (fn.params.toList ++ s.plain.varTypes P ++ fn.resultTypes.toList).any (P.wideKeysFrom ·)) &&
 s.vars.all (P.varReadable ·) && fn.resultTypes.all (fun t => P.readableRec t && decide (t < P.types.size)) && (c.ifacesOut == fn.resultTypes.toList.any (P.ifacesRec ·)) && (c.loopsOut == fn.resultTypes.toList.any (P.loopsFrom ·)) && (c.plainKeys == P.plainKeys) && c.shortTexts.isNone
def facts3 (P : Program) (fn : Func) (s : ChangeSpec) (c : OpenClaim) : Bool :=
 P.stopsHeard && P.mayEnter && (c.lifted == P.liftsFinal) && (P.make == some c.make) && (c.kinds == (if c.domain.isEmpty then [] else fn.params.toList.map fun t => match P.underlying t with | some (.int k) => some k | _ => none)) && (c.pinned == c.pinnedBy) &&
 (c.veiled == (fn.params.toList ++ s.plain.varTypes P ++ fn.resultTypes.toList).any (P.veiledRec ·)) && c.veiledFits P fn.params.toList (fn.params.toList ++ s.plain.varTypes P ++ fn.resultTypes.toList)
theorem joined_of {P : Program} {f : FuncId} {fn : Func} {s : ChangeSpec} {c : OpenClaim} (h1 : facts1 P f fn s c = true) (h2 : facts2 P fn s c = true) (h3 : facts3 P fn s c = true) : joinedFacts P f fn s c = true := by
 simp only [facts1, Bool.and_eq_true] at h1
 simp only [facts2, Bool.and_eq_true] at h2
 simp only [facts3, Bool.and_eq_true] at h3
 simp only [joinedFacts, Bool.and_eq_true]
 simp only [h1, h2, h3, and_self, and_true, true_and]
 exact h3.1.1.1.2
end Go.Proofs.YtolaedhdjcnijaaGreatDoor
