/-
 Cells of rows that are owned are written; the law's cuts of its arguments, walked.
-/
import Derived.Test.YtmkaahkbhdlniaaGreatDoorKn29
set_option linter.unusedVariables false
set_option linter.unusedSimpArgs false
namespace Go.Mw
open Go.RowKit
section
variable {P : Program} {r : Option Nat} {n : Nat} {ops : Array Oper} {Q : Post} {rest : List Oper} {σ : St} {w w₀ : World} {S : Nat → Prop} {rs : List HP} {put : HP → List HP} {ty : TypeId} {pos : String} {after : Array Edge}
variable {α : Type} {enc : α → List Value} {k e c : Nat} {l : List α} {A : Option Addr}
theorem flat_set (hk : ∀ x, (enc x).length = k) : ∀ {l : List α} {i f : Nat} {a a' : α} {v : Value}, l[i]? = some a → f < k → enc a' = (enc a).set f v → (l.flatMap enc).set (i * k + f) v = (l.set i a').flatMap enc
 | [], _, _, _, _, _, h, _, _ => by simp at h
 | x :: l, 0, f, a, a', v, h, hf, he => by
  simp only [List.getElem?_cons_zero, Option.some.injEq] at h
  subst h
  rw [List.flatMap_cons, Nat.zero_mul, Nat.zero_add, List.set_append_left _ _ (by rw [hk]; exact hf), List.set_cons_zero, List.flatMap_cons, he]
 | x :: l, i + 1, f, a, a', v, h, hf, he => by
  simp only [List.getElem?_cons_succ] at h
  rw [List.flatMap_cons, List.set_append_right _ _ (by rw [hk, Nat.succ_mul]; omega), hk, Nat.succ_mul, show i * k + k + f - k = i * k + f by omega, flat_set hk h hf he, List.set_cons_succ, List.flatMap_cons]
theorem acts_storeD {x y : Operand} {T : TypeId} [h1 : OneCell P T] [hk : EncK enc k] {i f : Nat} {a : α} (a' : α) {v : Value} {m : Nat} (hm : m = l.length) (H : Sep w₀ S rs w) (hat : At rs (rowD e k enc (.slice A m c) l) put) (hi : l[i]? = some a) (hf : f < k) (he : enc a' = (enc a).set f v) (hx : evF σ x = adr A (i * k + f)) (hy : evF σ y = v) (hv : v.oneCell' = true) :
    ∃ w', Acts P (evF σ) (.store T x y) ty w w' ∧ Sep w₀ S (put (rowD e k enc (.slice A m c) (l.set i a'))) w' := by
  subst hm
  have hlt : i < l.length := (List.getElem?_eq_some_iff.1 hi).1
  obtain ⟨F, hp, hS, hput⟩ := H.focus hat
  have H0 := Sep.start1 hp
  obtain ⟨g, c', rest, hvv, hlen, hxl, hle, hmx, H1⟩ := H0.rowOpen At0 (by omega)
  injection hvv with hA _ hc
  subst hA; subst hc
  have hb := H1.obj At0
  have hfl := flat_len hk.len l
  have hle2 : (i + 1) * k ≤ l.length * k := Nat.mul_le_mul_right k hlt
  rw [Nat.succ_mul] at hle2
  have hplt : i * k + f < (l.flatMap enc ++ rest).length := by rw [List.length_append, hfl]; omega
  obtain ⟨hkk, ho'⟩ := stored_blk (v := v) hb hplt
  have H2 := H1.setObj (At0 (p := blk g (l.flatMap enc ++ rest) e) (l := [])) hkk ho'
  rw [set_front (by rw [hfl]; omega), flat_set hk.len hi hf he] at H2
  have H3 : Sep w F [blk g ((l.set i a').flatMap enc ++ rest) e] (w.setCell ⟨g, i * k + f, none⟩ v) := H2
  have hfl2 := flat_len hk.len (l.set i a')
  rw [List.length_set] at hfl2
  have H4 := H3.rowShut (n := l.length) (c := c) At0 (by rw [List.length_append, hfl2]; rw [List.length_append, hfl] at hlen; exact hlen) hfl2 hle hmx
  refine ⟨w.setCell ⟨g, i * k + f, none⟩ v, fun _ _ _ _ => ?_, ?_⟩
  · have hst : (store (⟨g, i * k + f, none⟩ : Addr) v).run P w = .ok () (w.setCell ⟨g, i * k + f, none⟩ v) := by
      rw [run_store P w _ v _ hv, cell_blk hb, List.getElem?_eq_getElem hplt]
      simp [World.frozen?, hb]
    have hcs : v.cells = #[v] := by cases v <;> first | rfl | cases hv
    have hx' : evF σ x = .pointer (some ⟨g, i * k + f, none⟩) := by rw [hx]; show Value.pointer (some (Addr.add ⟨g, 0, none⟩ (i * k + f))) = _; rw [Addr.add_lit, Nat.zero_add]
    simp [execOp, hx', hy, Instr.storeAt, Instr.sureAddr, storeVar, h1.size, hcs, storeCells, hst, Addr.add_zero']
  obtain ⟨h5, F5, h6, h7⟩ := H4
  refine hput _ F5 _ h5 ?_ fun b hb => h7 b hb
  have h8 := starL_one.1 h6
  show (rowH e k (.slice (some ⟨g, 0, none⟩) l.length c) (l.set i a').length ((l.set i a').flatMap enc)).ok F5 _
  rw [List.length_set]
  exact h8
theorem FL_storeD {x y : Operand} {T : TypeId} [h1 : OneCell P T] [hk : EncK enc k] {i f : Nat} {a : α} (a' : α) {v : Value} {m : Nat} (hm : m = l.length) (H : Sep w₀ S rs w) (hat : At rs (rowD e k enc (.slice A m c) l) put) (hi : l[i]? = some a) (hf : f < k) (he : enc a' = (enc a).set f v) (hx : evF σ x = adr A (i * k + f)) (hy : evF σ y = v) (hv : v.oneCell' = true)
    (h : ∀ w', Sep w₀ S (put (rowD e k enc (.slice A m c) (l.set i a'))) w' → FL P r n ops Q rest σ w') :
    FL P r n ops Q ({ dst := none, op := .store T x y, type := ty, pos := pos, after := after, guard := none } :: rest) σ w := by
  obtain ⟨w', ha, hs⟩ := acts_storeD (P := P) (ty := ty) (T := T) a' hm H hat hi hf he hx hy hv
  exact FL_act ha rfl (h w' hs)
theorem Gives.idxN {ρ : Operand → Value} {x y : Operand} {t e : TypeId} [ht : IsSlice P t e] {bytes : Nat} [hc : Cells P e k bytes] {m i : Nat} {j : IntKind} (hm : m = l.length) (hx : ρ x = .slice A m c) (hy : ρ y = .int j i) (hr : Rd w₀ A enc k l) (hlt : i < l.length) : Gives P ρ (.indexAddr t x y) ty w (adr A (i * k)) w := by
 subst hm; exact Gives.idxR hx hy hr hlt
theorem Sep_rdN {m : Nat} (hm : m = l.length) (H : Sep w₀ S rs w) (hat : At rs (rowD e k enc (.slice A m c) l) put) : Rd w A enc k l := by
 subst hm; exact Sep.rowAt H hat
theorem Gives.minE {ρ : Operand → Value} {x y : Operand} {kd : IntKind} {a b m : Int} {ts : Array TypeId} (hx : ρ x = .int kd a) (hy : ρ y = .int kd b) (he : Min.min a b = m) : Gives P ρ (.call { callee := .builtin .min, args := #[x, y], argTypes := ts }) ty w (.int kd m) w := by subst he; exact Gives.min hx hy
end
end Go.Mw
namespace Go.Proofs.YtmkaahkbhdlniaaGreatDoor
open Go Go.Mw Go.Lib
set_option maxRecDepth 4000
def cutStep (x : StepM) : StepM := ⟨x.kind, x.n, x.s.take 1100⟩
def stepsL (l : List StepM) : List StepM := (l.take 70).map cutStep
def cutCell (c : CellM) : CellM := ⟨c.null, c.n, c.s.take 1100⟩
def cellsL (r : List CellM) : List CellM := (r.take 40).map cutCell
theorem min_take (s : List UInt8) (k : Nat) : Min.min ((s.length : Nat) : Int) (k : Int) = (((s.take k).length : Nat) : Int) := by
 rw [List.length_take]
 omega
theorem take_take' (s : List UInt8) (k : Nat) : s.take (s.take k).length = s.take k := by
 rw [List.length_take]
 by_cases h : k ≤ s.length
 ·rw [Nat.min_eq_left h]
 rw [Nat.min_eq_right (by omega), List.take_length, List.take_of_length_le (by omega)]
section
variable {w : World}
theorem steps_ok {l : List StepM} {v : Value} (hl : RowIn w v stepCells 3 l) : Rets Tryz.prog 14 [v] w fun v' w' => ∃ x, v' = x ∧ True ∧ Turn noB (rowD 57 3 stepCells x (stepsL l)) w w' := by
 obtain ⟨A, m, rfl, ⟨hm, hm'⟩, hA⟩ := hl
 have H := Sep.start0 w
 refine rets1 Tryz.func14 rfl rfl rfl rfl ?_
 refine Sr (Am ?_)
 refine Nx (Am ?_)
 refine Qn (FW_seq (Sr (Am ?_)))
 refine Qn (FW_block ?_)
 have H5 := Sep.nilD H 57 3 stepCells
 refine FW_loop' (fun x : Nat × Value => [(0, .slice A l.length m), (3, x.2), (4, I x.1)]) (fun x w' => (x.1 ≤ l.length ∧ x.1 ≤ 70) ∧ Sep w noB [rowD 57 3 stepCells x.2 ((l.take x.1).map cutStep)] w') (fun x _ => l.length - x.1) (0, .slice none 0 0) ⟨rfl, rfl, rfl, trivial⟩ ⟨⟨Nat.zero_le _, Nat.zero_le _⟩, H5⟩ (fun x τ w5 hI => ?_)
 obtain ⟨i, v1⟩ := x
 obtain ⟨⟨hi, hi70⟩, H5⟩ := hI
 dsimp only at hi hi70 H5
 have hml : ((l.take i).map cutStep).length = i := by rw [List.length_map, List.length_take]; omega
 try simp only [upds, like, upd_ds, und_ds]
 refine FW_seq (Sr (Mv ?_))
 refine Mv ?_
 refine Vs ?_
 refine Vl ?_
 refine Mv ?_
 refine FL_splitP (t := 10) rfl (fun hs11 => ?_) (fun hs11 => ?_)
 ·have hilt := hs11
  refine On (Mv ?_)
  refine On (Vl ?_)
  refine Pt ?_
  refine Qn (Cp rfl (fun hc16 => ?_) (fun hc16 => ?_))
  ·have hlt : i < l.length := by omega
   obtain ⟨x, hx⟩ := get_some hlt
   have htk : (l.take (i + 1)).map cutStep = (l.take i).map cutStep ++ [cutStep x] := by rw [List.take_add_one, hx, List.map_append]; rfl
   refine Sk (FW_seq (FW_block (Sr (Mv ?_))))
   refine Mv ?_
   refine Vv (Gives.idxR rfl rfl (by assumption) (by omega)) (Vv (Gives.loadE0 rfl H5 (by assumption) (by assumption)) ?_)
   refine FL_alloc H5 (h := fun b5 w23 H23 k22 => ?_)
   refine FL_storeAll H23 (h := fun w25 H25 => ?_)
   refine Nx (Vf ?_)
   refine Ld H25 ?_
   refine Vf ?_
   refine Ld H25 ?_
   refine Vt ?_
   refine Vv (Gives.minE rfl rfl (min_take x.s 1100)) (Vv (Gives.sliceToT (l := x.s) (i := (x.s.take 1100).length) rfl rfl (by rw [List.length_take]; omega)) ?_)
   rw [take_take']
   refine Vf ?_
   refine FL_store H25 (h := fun w35 H35 => ?_)
   refine Qn (FW_region (Mv ?_))
   refine FL_loadAll H35 (cs := stepCells (cutStep x)) (h := ?_)
   refine FL_buildSlice H35 (xs := [.tmp 29]) (out := [cutStep x].flatMap stepCells) (Elems.many rfl rfl Elems.nil) rfl rfl rfl (fun bs w39 H39 k38 => ?_)
   refine FL_appendD H39 (news := [cutStep x]) At1 (by rw [hml]; unfold maxLen; simp; omega) (by rw [hml]; show (i + 1) * 32 ≤ _; omega) (by intro u hu; simp only [List.flatMap_cons, List.flatMap_nil, stepCells, List.append_nil, List.mem_cons, List.not_mem_nil, or_false] at hu; rcases hu with rfl | rfl | rfl <;> rfl) (h := ?_)
   intro v2 w41 H41
   rw [← htk] at H41
   refine Am ?_
   refine FL_nil (Qblk_normal (Qseq_normal (FW_region (Mv ?_))))
   refine Vv (Gives.addI (c := ((i + 1 : Nat) : Int)) rfl rfl (by omega) (by omega)) (Am ?_)
   refine FL_nil ?_
   exact Qround_normal (i + 1, v2) ⟨rfl, rfl, rfl, trivial⟩ ⟨⟨by dsimp only; omega, by dsimp only; omega⟩, (H41.front1).firsts (l := [_])⟩ (by dsimp only; omega)
  have hend : (l.take i).map cutStep = stepsL l := by unfold stepsL; rw [show i = 70 by have h := hc16; omega]
  refine FW_exit (Qseq_exit (Qround_exit (Qblk_exit (Qseq_normal (Sr (Mv ?_))))))
  refine Am ?_
  refine Qn (FW_ret (Qfn_ret (hR := ?_)))
  exact ⟨_, rfl, trivial, by rw [hend] at H5; exact H5.turn⟩
 have hend : (l.take i).map cutStep = stepsL l := by unfold stepsL; rw [List.take_of_length_le (l := l) (i := i) (by have h := hs11; omega), List.take_of_length_le (l := l) (i := 70) (by have h := hs11; omega)]
 refine Of (Of (Pf ?_))
 refine Qn (FW_cond_false rfl ?_)
 refine FW_exit (Qseq_exit (Qround_exit (Qblk_exit (Qseq_normal (Sr (Mv ?_))))))
 refine Am ?_
 refine Qn (FW_ret (Qfn_ret (hR := ?_)))
 exact ⟨_, rfl, trivial, by rw [hend] at H5; exact H5.turn⟩
theorem cells_ok {l : List CellM} {v : Value} (hl : RowIn w v cellCells 3 l) : Rets Tryz.prog 15 [v] w fun v' w' => ∃ x, v' = x ∧ True ∧ Turn noB (rowD 34 3 cellCells x (cellsL l)) w w' := by
 obtain ⟨A, m, rfl, ⟨hm, hm'⟩, hA⟩ := hl
 have H := Sep.start0 w
 obtain ⟨r, hr⟩ : ∃ r, r = l.take 40 := ⟨_, rfl⟩
 have hrl : r.length ≤ 40 := by rw [hr, List.length_take]; omega
 have hrl2 : r.length ≤ l.length := by rw [hr, List.length_take]; omega
 have hmin : Min.min ((l.length : Nat) : Int) 40 = ((r.length : Nat) : Int) := by rw [hr, List.length_take]; omega
 have hfin : cellsL l = r.map cutCell := by rw [hr]; rfl
 rw [hfin]
 refine rets1 Tryz.func15 rfl rfl rfl rfl ?_
 refine Sr (Am ?_)
 refine Nx (Mv ?_)
 refine Mv ?_
 refine Vs ?_
 refine Vv (Gives.minE rfl rfl hmin) (Vv (Gives.sliceTo (h := r.length) rfl rfl (by omega)) ?_)
 refine FL_call (rowCopy_ok (l := r) ⟨A, m, rfl, ⟨by omega, hm'⟩, by rw [hr]; exact (hA.keep H.kept).cut 40⟩ (by omega)) rfl rfl (fun v' w8 hv => ?_)
 obtain ⟨x, rfl, _, hkk, F1, hq, hsub⟩ := hv
 have H8 := H.new hkk hq (fun b hb => (hsub b hb).resolve_left id)
 obtain ⟨B, cb, rfl, hcb, hB⟩ := Sep.formD H8 At0
 refine Am ?_
 refine Qn (FW_seq (Sr (Am ?_)))
 refine Qn (FW_block (FW_loop' (fun i : Nat => [(0, .slice B r.length cb), (3, I i)]) (fun i w' => i ≤ r.length ∧ Sep w noB [rowD 34 3 cellCells (.slice B r.length cb) ((r.take i).map cutCell ++ r.drop i)] w') (fun i _ => r.length - i) 0 ⟨rfl, rfl, trivial⟩ ⟨Nat.zero_le _, H8⟩ (fun i τ w12 hI => ?_)))
 obtain ⟨hi, H12⟩ := hI
 try simp only [upds, like, upd_ds, und_ds]
 refine FW_seq (Sr (Mv ?_))
 refine Mv ?_
 refine Vs ?_
 refine Vl ?_
 refine Qn (Cp rfl (fun hc17 => ?_) (fun hc17 => ?_))
 ·have hlt : i < r.length := by omega
  obtain ⟨x, hx⟩ := get_some hlt
  obtain ⟨cur, hcur⟩ : ∃ cur, cur = (r.take i).map cutCell ++ r.drop i := ⟨_, rfl⟩
  rw [← hcur] at H12
  have htl : ((r.take i).map cutCell).length = i := by rw [List.length_map, List.length_take]; omega
  have hcl : r.length = cur.length := by rw [hcur, List.length_append, htl, List.length_drop]; omega
  have hcx : cur[i]? = some x := by rw [hcur, List.getElem?_append_right (by omega), htl, Nat.sub_self, List.getElem?_drop]; exact hx
  have hset : cur.set i (cutCell x) = (r.take (i + 1)).map cutCell ++ r.drop (i + 1) := by
   rw [hcur, List.set_append_right _ _ (by omega), htl, Nat.sub_self]
   have hd : r.drop i = x :: r.drop (i + 1) := by
    rw [List.drop_eq_getElem_cons hlt]
    rw [List.getElem?_eq_getElem hlt] at hx
    injection hx with hx
    rw [hx]
   rw [hd, List.set_cons_zero, List.take_add_one, hx, List.map_append]
   simp
  have hRc := Sep_rdN hcl H12 At0
  refine Sk (FW_seq (FW_block (FW_drawS rfl H12 (h := fun hok19 w21 H21 => ?_))))
  refine Gm hok19 0 ?_
  refine Gm hok19 1 ?_
  refine Gm hok19 2 ?_
  refine Gm hok19 3 ?_
  refine Gp hok19 4 rfl rfl (fun _ => (Gives.idxN hcl rfl rfl hRc (by omega))) (Gp hok19 5 rfl rfl (fun _ => (Gives.fieldR rfl hRc (by omega))) ?_)
  refine Gl hok19 6 rfl rfl (Gives.loadW (i := i) (f := 2) (c := x) rfl (Sep_rdN hcl H21 At0) hcx rfl) (Gm hok19 7 ?_)
  refine Gm hok19 8 ?_
  refine Gp hok19 9 rfl rfl (fun _ => (Gives.idxN hcl rfl rfl hRc (by omega))) (Gp hok19 10 rfl rfl (fun _ => (Gives.fieldR rfl hRc (by omega))) ?_)
  refine Gl hok19 11 rfl rfl (Gives.loadW (i := i) (f := 2) (c := x) rfl (Sep_rdN hcl H21 At0) hcx rfl) (Gp hok19 12 rfl rfl (fun _ => (Gives.lenT rfl)) ?_)
  refine Gp hok19 13 rfl rfl (fun _ => (Gives.minE rfl rfl (min_take x.s 1100))) (Gp hok19 14 rfl rfl (fun _ => (Gives.sliceToT (l := x.s) (i := (x.s.take 1100).length) rfl rfl (by rw [List.length_take]; omega))) ?_)
  rw [take_take']
  refine Gp hok19 15 rfl rfl (fun _ => (Gives.idxN hcl rfl rfl hRc (by omega))) (Gp hok19 16 rfl rfl (fun _ => (Gives.fieldR rfl hRc (by omega))) ?_)
  refine FGact hok19 17 [] rfl (by kernel_rfl) (acts_storeD (i := i) (f := 2) (a := x) (cutCell x) hcl H21 At0 hcx (by decide) rfl rfl rfl rfl) (by kernel_rfl) (by kernel_rfl) (fun w34 H34 => ?_)
  rw [hset] at H34
  refine ⟨Stab_nil, ?_⟩
  refine FG_end hok19 (by kernel_rfl) ?_
  refine Qblk_normal (Qseq_normal (FW_region (Mv ?_)))
  refine Vv (Gives.addI (c := ((i + 1 : Nat) : Int)) rfl rfl (by omega) (by omega)) (Am ?_)
  refine FL_nil ?_
  exact Qround_normal (i + 1) ⟨rfl, rfl, trivial⟩ ⟨by omega, H34⟩ (by omega)
 have hil : i = r.length := by omega
 rw [hil, List.take_length, List.drop_length, List.append_nil] at H12
 refine FW_exit (Qseq_exit (Qround_exit (Qblk_exit (Qseq_normal (Sr (Mv ?_))))))
 refine Am ?_
 refine Qn (FW_ret (Qfn_ret (hR := ?_)))
 exact ⟨_, rfl, trivial, by unfold rowD; rw [List.length_map]; unfold rowD at H12; rw [List.length_map] at H12; exact H12.turn⟩
end
theorem steps_again (l : List StepM) : stepsL (stepsL l) = stepsL l := by
 unfold stepsL
 rw [List.take_of_length_le (by rw [List.length_map, List.length_take]; omega), List.map_map]
 refine List.map_congr_left fun x _ => ?_
 show cutStep (cutStep x) = cutStep x
 unfold cutStep
 dsimp only
 rw [List.take_take, Nat.min_self]
theorem steps_len (l : List StepM) : (stepsL l).length ≤ 70 := by unfold stepsL; rw [List.length_map, List.length_take]; omega
theorem steps_fits {l : List StepM} (h : ∀ x ∈ l, fits x.n) : ∀ x ∈ stepsL l, fits x.n := by
 intro x hx
 obtain ⟨y, hy, rfl⟩ := List.mem_map.1 hx
 exact h y (List.mem_of_mem_take hy)
theorem rowIn_own {α : Type} {enc : α → List Value} {k e c : Nat} [EncK enc k] {l : List α} {A : Option Addr} {w w₀ : World} {S : Nat → Prop} {rs : List HP} {put : HP → List HP} (H : Mw.Sep w₀ S rs w) (hat : At rs (rowD e k enc (.slice A l.length c) l) put) (hc : l.length ≤ c) : RowIn w (.slice A l.length c) enc k l :=
 ⟨A, c, rfl, ⟨hc, Sep.capD H hat⟩, Sep_rdD H hat⟩
section
variable {w : World}
theorem exprTexts_ok {l : List StepM} {vl : Value} (s : List UInt8) (hl : RowIn w vl stepCells 3 l) (hx : ∀ x ∈ l, fits x.n) (hT : TabsX w) : Rets Tryz.prog 9 [vl, str s] w fun v w' => v = .bool true ∧ Kept noB w w' := by
 have H := Sep.start0 w
 have hfx := steps_fits hx
 have hsl := steps_len l
 obtain ⟨m, hm⟩ : ∃ m, m = stepsL l := ⟨_, rfl⟩
 have hmm : stepsL m = m := by rw [hm, steps_again]
 rw [← hm] at hfx hsl
 obtain ⟨t, ht⟩ : ∃ t, t = s.take 1000 := ⟨_, rfl⟩
 have htl : t.length ≤ 1000 := by rw [ht, List.length_take]; omega
 refine rets2 Tryz.func9 rfl rfl rfl rfl ?_
 refine Sr (Am ?_)
 refine Qn (FW_seq (FW_drawS rfl H (h := fun hok2 w4 H4 => ?_)))
 refine Gm hok2 0 ?_
 refine Gm hok2 2 ?_
 refine Gm hok2 3 ?_
 refine Gp hok2 4 rfl rfl (fun _ => (Gives.lenT rfl)) (Gp hok2 5 rfl rfl (fun _ => (Gives.minE rfl rfl (min_take s 1000))) ?_)
 refine Gp hok2 6 rfl rfl (fun _ => (Gives.sliceToT (l := s) (i := (s.take 1000).length) rfl rfl (by rw [List.length_take]; omega))) ?_
 rw [take_take', ← ht]
 refine FGcall hok2 1 [(6, true), (5, true), (4, true), (3, true), (2, true)] rfl (by kernel_rfl) (steps_ok (hl.keep H4.kept)) rfl (by kernel_rfl) (by kernel_rfl) (fun v' w9 hv => ?_)
 obtain ⟨x1, rfl, _, hkk, F1, hq, hsub⟩ := hv
 have H9 := H4.new hkk hq (fun b hb => (hsub b hb).resolve_left id)
 rw [← hm] at H9
 obtain ⟨B1, c1, rfl, hc1, hB1⟩ := Sep.formD H9 At0
 refine ⟨Stab_pure (Stab_pure (Stab_pure (Stab_pure (Stab_pure (Stab_nil))))), ?_⟩
 refine FGset hok2 7 [(6, true), (5, true), (4, true), (3, true), (2, true)] (h := ⟨Stab_pure (Stab_pure (Stab_pure (Stab_pure (Stab_pure (Stab_nil))))), ?_⟩)
 refine FGset hok2 8 [] (h := ⟨Stab_nil, ?_⟩)
 refine FG_end hok2 (by kernel_rfl) ?_
 refine Qseq_normal (Sr (Mv ?_))
 refine FL_call (steps_ok (rowIn_own H9 At0 hc1)) rfl rfl (fun v' w14 hv => ?_)
 obtain ⟨x2, rfl, _, hkk, F1, hq, hsub⟩ := hv
 have H14 := H9.new hkk hq (fun b hb => (hsub b hb).resolve_left id)
 rw [hmm] at H14
 obtain ⟨B2, c2, rfl, hc2, hB2⟩ := Sep.formD H14 At0
 refine Am ?_
 refine Nx (Mv ?_)
 refine FL_callQ H14 (textE_ok (rowIn_own H14 At1 hc1) hfx (hT.keep H14.kept)) (h := fun w18 H18 k17 => ?_)
 refine Mv ?_
 refine Vx ?_
 refine Vx ?_
 refine Am ?_
 refine Am ?_
 refine Nx (Mv ?_)
 refine FL_callQ H18 (textR_ok22 (rowIn_own H18 At0 hc2) hfx) (h := fun w26 H26 k25 => ?_)
 refine Mv ?_
 refine Vx ?_
 refine Vx ?_
 refine Am ?_
 refine Am ?_
 refine Nx (Mv ?_)
 refine FL_call (parseE_ok t (.inl (by omega)) (by omega) (hT.keep H26.kept)) rfl rfl (fun v' w34 hv => ?_)
 obtain ⟨x3, rfl, _, hkk, F1, hq, hsub⟩ := hv
 have H34 := H26.new hkk hq (fun b hb => (hsub b hb).resolve_left id)
 obtain ⟨B3, c3, rfl, hc3, hB3⟩ := Sep.formD H34 At0
 refine Mv ?_
 refine Vx ?_
 refine Vx ?_
 refine Am ?_
 refine Am ?_
 refine Nx (Mv ?_)
 refine FL_call (parse_ok22 t (by omega)) rfl rfl (fun v' w42 hv => ?_)
 obtain ⟨x4, rfl, _, hkk, F1, hq, hsub⟩ := hv
 have H42 := H34.new hkk hq (fun b hb => (hsub b hb).resolve_left id)
 obtain ⟨B4, c4, rfl, hc4, hB4⟩ := Sep.formD H42 At0
 refine Mv ?_
 refine Vx ?_
 refine Vx ?_
 refine Am ?_
 refine Am ?_
 refine Nx (Mv ?_)
 refine Mv ?_
 refine Vv (Gives.eqlT rfl rfl) (Mv ?_)
 refine FL_splitP (t := 46) rfl (fun hs52 => ?_) (fun hs52 => ?_)
 ·refine On (Mv ?_)
  refine On (Mv ?_)
  refine On (Ve ?_)
  refine Pt ?_
  refine Mv ?_
  refine FL_splitP (t := 51) rfl (fun hs58 => ?_) (fun hs58 => ?_)
  ·refine On (Mv ?_)
   refine On (Mv ?_)
   refine On (FL_callQ H42 (stepsEq_ok (rowIn_own H42 At1 hc3) (rowIn_own H42 At0 hc4)) (h := fun w62 H62 k61 => ?_))
   rw [decide_eq_true (rfl : (parseS t).1 = (parseS t).1)]
   refine Pt ?_
   refine Mv ?_
   refine FL_split (t := 56) rfl (fun hs65 => ?_) (fun hs65 => ?_)
   ·refine On (Mv ?_)
    refine On (Mv ?_)
    refine On (Ve ?_)
    refine Pt ?_
    refine Mv ?_
    refine FL_splitP (t := 61) rfl (fun hs71 => ?_) (fun hs71 => ?_)
    ·refine On (Mv ?_)
     refine On (Mv ?_)
     refine On (FL_callQ H62 (stepsEq_ok (rowIn_own H62 At3 hc1) (rowIn_own H62 At2 hc2)) (h := fun w75 H75 k74 => ?_))
     rw [decide_eq_true (rfl : m = m)]
     refine Pt ?_
     refine Mv ?_
     refine FL_split (t := 66) rfl (fun hs78 => ?_) (fun hs78 => ?_)
     ·refine On (FL_callQ H75 (works_ok (hT.keep H75.kept)) (h := fun w80 H80 k79 => ?_))
      refine Pt ?_
      refine Am ?_
      refine Qn (FW_ret (Qfn_ret (hR := ?_)))
      exact ⟨rfl, H80.kept⟩
     exact Bool.noConfusion hs78
    exact (hs71 (by first | trivial | rfl)).elim
   exact Bool.noConfusion hs65
  exact (hs58 (by first | trivial | rfl)).elim
 exact (hs52 (by first | trivial | rfl)).elim
end
theorem cells_len (r : List CellM) : (cellsL r).length ≤ 40 := by unfold cellsL; rw [List.length_map, List.length_take]; omega
theorem cells_fits {r : List CellM} (h : RowFits r) : RowFits (cellsL r) := by
 intro x hx
 obtain ⟨y, hy, rfl⟩ := List.mem_map.1 hx
 exact h y (List.mem_of_mem_take hy)
section
variable {w : World}
theorem exprEvals_ok {cols : List ColM} {l : List StepM} {r : List CellM} {vc vl vr : Value} (hc : RowIn w vc colCells 7 cols) (hl : RowIn w vl stepCells 3 l) (hr : RowIn w vr cellCells 3 r) (hx : ∀ x ∈ l, fits x.n) (hf : RowFits r) (hT : TabsX w) :
    Rets Tryz.prog 3 [vc, vl, vr] w fun v w' => v = .bool true ∧ Kept noB w w' := by
  have H := Sep.start0 w
  obtain ⟨A, mc, rfl, ⟨hmc, hmc'⟩, hA⟩ := hc
  have hfx := steps_fits hx
  have hsl := steps_len l
  obtain ⟨m, hm⟩ : ∃ m, m = stepsL l := ⟨_, rfl⟩
  have hmm : stepsL m = m := by rw [hm, steps_again]
  rw [← hm] at hfx hsl
  obtain ⟨d, hd⟩ : ∃ d, d = cols.take 40 := ⟨_, rfl⟩
  have hdl : d.length ≤ 40 := by rw [hd, List.length_take]; omega
  have hdl2 : d.length ≤ cols.length := by rw [hd, List.length_take]; omega
  have hmin : Min.min ((cols.length : Nat) : Int) 40 = ((d.length : Nat) : Int) := by rw [hd, List.length_take]; omega
  have hfr := cells_fits hf
  have hrl := cells_len r
  obtain ⟨q, hq0⟩ : ∃ q, q = cellsL r := ⟨_, rfl⟩
  rw [← hq0] at hfr hrl
  refine rets3 Tryz.func3 rfl rfl rfl rfl ?_
  refine Sr (Am ?_)
  refine Nx (Mv ?_)
  refine Mv ?_
  refine Vs ?_
  refine Vv (Gives.minE rfl rfl hmin) (Vv (Gives.sliceTo (h := d.length) rfl rfl (by omega)) ?_)
  refine FL_call (colsCopy_ok (l := d) ⟨A, mc, rfl, ⟨by omega, hmc'⟩, by rw [hd]; exact (hA.keep H.kept).cut 40⟩ (by omega)) rfl rfl (fun v' w8 hv => ?_)
  obtain ⟨x1, rfl, _, hkk, F1, hq, hsub⟩ := hv
  have H8 := H.new hkk hq (fun b hb => (hsub b hb).resolve_left id)
  obtain ⟨B1, c1, rfl, hc1, hB1⟩ := Sep.formD H8 At0
  refine Mv ?_
  refine FL_call (steps_ok (hl.keep H8.kept)) rfl rfl (fun v' w11 hv => ?_)
  obtain ⟨x2, rfl, _, hkk, F1, hq, hsub⟩ := hv
  have H11 := H8.new hkk hq (fun b hb => (hsub b hb).resolve_left id)
  rw [← hm] at H11
  obtain ⟨B2, c2, rfl, hc2, hB2⟩ := Sep.formD H11 At0
  refine Mv ?_
  refine FL_call (cells_ok (hr.keep H11.kept)) rfl rfl (fun v' w14 hv => ?_)
  obtain ⟨x3, rfl, _, hkk, F1, hq, hsub⟩ := hv
  have H14 := H11.new hkk hq (fun b hb => (hsub b hb).resolve_left id)
  rw [← hq0] at H14
  obtain ⟨B3, c3, rfl, hc3, hB3⟩ := Sep.formD H14 At0
  refine Am ?_
  refine Am ?_
  refine Am ?_
  refine Nx (Mv ?_)
  refine FL_call (colsCopy_ok (rowIn_own H14 At2 hc1) (by omega)) rfl rfl (fun v' w20 hv => ?_)
  obtain ⟨x4, rfl, _, hkk, F1, hq, hsub⟩ := hv
  have H20 := H14.new hkk hq (fun b hb => (hsub b hb).resolve_left id)
  obtain ⟨B4, c4, rfl, hc4, hB4⟩ := Sep.formD H20 At0
  refine Mv ?_
  refine FL_call (steps_ok (rowIn_own H20 At2 hc2)) rfl rfl (fun v' w23 hv => ?_)
  obtain ⟨x5, rfl, _, hkk, F1, hq, hsub⟩ := hv
  have H23 := H20.new hkk hq (fun b hb => (hsub b hb).resolve_left id)
  rw [hmm] at H23
  obtain ⟨B5, c5, rfl, hc5, hB5⟩ := Sep.formD H23 At0
  refine Mv ?_
  refine FL_call (rowCopy_ok (rowIn_own H23 At2 hc3) (by omega)) rfl rfl (fun v' w26 hv => ?_)
  obtain ⟨x6, rfl, _, hkk, F1, hq, hsub⟩ := hv
  have H26 := H23.new hkk hq (fun b hb => (hsub b hb).resolve_left id)
  obtain ⟨B6, c6, rfl, hc6, hB6⟩ := Sep.formD H26 At0
  refine Am ?_
  refine Am ?_
  refine Am ?_
  refine Nx (Mv ?_)
  refine Mv ?_
  refine FL_callQ H26 (typeE_ok (rowIn_own H26 At5 hc1) (rowIn_own H26 At4 hc2) hfx (hT.keep H26.kept).utf) (h := fun w33 H33 k32 => ?_)
  refine Mv ?_
  refine Vx ?_
  refine Vx ?_
  refine FL_alloc H33 (h := fun b37 w38 H38 k37 => ?_)
  refine FL_storeAll H38 (h := fun w40 H40 => ?_)
  refine Am ?_
  refine Nx (Mv ?_)
  refine Mv ?_
  refine FL_callQ H40 (type_ok22 (rowIn_own H40 At3 hc4) (rowIn_own H40 At2 hc5)) (h := fun w45 H45 k44 => ?_)
  refine Mv ?_
  refine Vx ?_
  refine Vx ?_
  refine FL_alloc H45 (h := fun b49 w50 H50 k49 => ?_)
  refine FL_storeAll H50 (h := fun w52 H52 => ?_)
  refine Am ?_
  refine Nx (Mv ?_)
  refine Mv ?_
  refine Mv ?_
  refine FL_callQ H52 (evalE_ok (rowIn_own H52 At7 hc1) (rowIn_own H52 At6 hc2) (rowIn_own H52 At5 hc3) hfr hfx (hT.keep H52.kept).utf) (h := fun w58 H58 k57 => ?_)
  refine Mv ?_
  refine Vx ?_
  refine Vx ?_
  refine FL_alloc H58 (h := fun b62 w63 H63 k62 => ?_)
  refine FL_storeAll H63 (h := fun w65 H65 => ?_)
  refine Am ?_
  refine Nx (Mv ?_)
  refine Mv ?_
  refine Mv ?_
  refine FL_callQ H65 (eval_ok22 (rowIn_own H65 At5 hc4) (rowIn_own H65 At4 hc5) (rowIn_own H65 At3 hc6) hfr hfx) (h := fun w71 H71 k70 => ?_)
  refine Mv ?_
  refine Vx ?_
  refine Vx ?_
  refine FL_alloc H71 (h := fun b75 w76 H76 k75 => ?_)
  refine FL_storeAll H76 (h := fun w78 H78 => ?_)
  refine Am ?_
  refine Nx (Mv ?_)
  refine FL_call (usesE_ok (rowIn_own H78 At8 hc2) (by omega)) rfl rfl (fun v' w82 hv => ?_)
  obtain ⟨x7, rfl, _, hkk, F1, hq, hsub⟩ := hv
  have H82 := H78.new hkk hq (fun b hb => (hsub b hb).resolve_left id)
  obtain ⟨B7, c7, rfl, hc7, hB7⟩ := Sep.formD H82 At0
  refine Am ?_
  refine Qn (FW_seq (Sr (FL_loadAll H82 (h := ?_))))
  refine FL_loadAll H82 (h := ?_)
  refine Vv (Gives.neqG (enc := typeCells) _ _ rfl rfl) (Mv ?_)
  refine FL_splitP (t := 67) rfl (fun hs88 => ?_) (fun hs88 => ?_)
  · exact (hs88 (by first | trivial | rfl)).elim
  refine On (Mv ?_)
  refine On (Mv ?_)
  refine On (Vn ?_)
  refine Pf ?_
  refine Mv ?_
  refine FL_splitP (t := 72) rfl (fun hs95 => ?_) (fun hs95 => ?_)
  · exact (hs95 (by first | trivial | rfl)).elim
  refine On (FL_loadAll H82 (h := ?_))
  refine On (FL_loadAll H82 (h := ?_))
  refine On (Vv (Gives.neqG (enc := cellCells) _ _ rfl rfl) (Pf ?_))
  refine Mv ?_
  refine FL_splitP (t := 77) rfl (fun hs102 => ?_) (fun hs102 => ?_)
  · exact (hs102 (by first | trivial | rfl)).elim
  refine On (Mv ?_)
  refine On (Mv ?_)
  refine On (Vn ?_)
  refine Pf ?_
  refine Mv ?_
  refine FL_splitP (t := 82) rfl (fun hs109 => ?_) (fun hs109 => ?_)
  · exact (hs109 (by first | trivial | rfl)).elim
  refine On (Mv ?_)
  refine On (Mv ?_)
  refine On (FL_call (usesR_ok22 (rowIn_own H82 At6 hc5) hfx (by omega)) rfl rfl (fun v' w114 hv => ?_))
  obtain ⟨x8, rfl, _, hkk, F1, hq, hsub⟩ := hv
  have H114 := H82.new hkk hq (fun b hb => (hsub b hb).resolve_left id)
  obtain ⟨B8, c8, rfl, hc8, hB8⟩ := Sep.formD H114 At0
  refine On (FL_callQ H114 (intsEq_ok (rowIn_own H114 At1 hc7) (rowIn_own H114 At0 hc8)) (h := fun w116 H116 k115 => ?_))
  rw [decide_eq_true (rfl : usesS m = usesS m)]
  refine On (Vv (Gives.not rfl) (Pf ?_))
  refine Qn (Cd rfl (fun hc119 => ?_) (fun hc119 => ?_))
  · exact Bool.noConfusion hc119
  refine Sk (FW_seq (Sr (Am ?_)))
  refine Qn (FW_block (FW_loop' (fun x : Nat × List Int => [(0, .slice B1 d.length c1), (1, .slice B2 m.length c2), (2, .slice B3 q.length c3), (7, .slice B4 d.length c4), (8, .slice B5 m.length c5), (9, .slice B6 q.length c6), (18, .slice B7 (usesS m).length c7), (19, I x.1)]) (fun x w' => (x.1 ≤ (usesS m).length ∧ (usesS m).length = x.2.length) ∧ Sep w noB [rowD 3 1 intCells (.slice B7 (usesS m).length c7) x.2, rowD 34 3 cellCells (.slice B6 q.length c6) q, rowD 57 3 stepCells (.slice B5 m.length c5) m, rowD 74 7 colCells (.slice B4 d.length c4) d, rowD 34 3 cellCells (.slice B3 q.length c3) q, rowD 57 3 stepCells (.slice B2 m.length c2) m, rowD 74 7 colCells (.slice B1 d.length c1) d] w') (fun x _ => (usesS m).length - x.1) (0, usesS m) ⟨rfl, rfl, rfl, rfl, rfl, rfl, rfl, rfl, trivial⟩ ⟨⟨Nat.zero_le _, rfl⟩, ((H116.drop0.front1.drop0.front1.drop0).front1.drop0).front1.drop0⟩ (fun x τ w123 hI => ?_)))
  obtain ⟨i, cur⟩ := x
  obtain ⟨⟨hi, hcur⟩, H123⟩ := hI
  dsimp only at hi hcur H123
  try simp only [upds, like, upd_ds, und_ds]
  refine FW_seq (Sr (Mv ?_))
  refine Mv ?_
  refine Vs ?_
  refine Vl ?_
  refine Qn (Cp rfl (fun hc128 => ?_) (fun hc128 => ?_))
  · have hlt : i < cur.length := by omega
    obtain ⟨z, hz⟩ := get_some hlt
    have hcap := Sep.capD H123 At0
    refine Sk (FW_seq (FW_block (FW_region (Mv ?_))))
    refine Mv ?_
    refine Vv (Gives.idxN hcur rfl rfl (Sep_rdN hcur H123 At0) hlt) (FL_storeD (i := i) (f := 0) (a := z) (-1) hcur H123 At0 hz (by decide) rfl rfl rfl rfl (h := fun w134 H134 => ?_))
    refine FL_nil (Qblk_normal (Qseq_normal (FW_region (Mv ?_))))
    refine Vv (Gives.addI (c := ((i + 1 : Nat) : Int)) rfl rfl (by omega) (by omega)) (Am ?_)
    refine FL_nil ?_
    exact Qround_normal (i + 1, cur.set i (-1)) ⟨rfl, rfl, rfl, rfl, rfl, rfl, rfl, rfl, trivial⟩ ⟨⟨by dsimp only; omega, by rw [List.length_set]; exact hcur⟩, H134⟩ (by dsimp only; omega)
  refine FW_exit (Qseq_exit (Qround_exit (Qblk_exit (Qseq_normal (Sr (Mv ?_))))))
  refine Mv ?_
  refine FL_callQ H123 (stepsEq_ok (rowIn_own H123 At5 hc2) (rowIn_own H123 At2 hc5)) (h := fun w142 H142 k141 => ?_)
  rw [decide_eq_true (rfl : m = m)]
  refine Mv ?_
  refine FL_split (t := 101) rfl (fun hs144 => ?_) (fun hs144 => ?_)
  · refine On (Mv ?_)
    refine On (Mv ?_)
    refine On (FL_callQ H142 (colsEq_ok (rowIn_own H142 At6 hc1) (rowIn_own H142 At3 hc4)) (h := fun w148 H148 k147 => ?_))
    rw [decide_eq_true (rfl : d = d)]
    refine Pt ?_
    refine Mv ?_
    refine FL_split (t := 106) rfl (fun hs151 => ?_) (fun hs151 => ?_)
    · refine On (Mv ?_)
      refine On (Mv ?_)
      refine On (FL_callQ H148 (rowEq_ok (rowIn_own H148 At4 hc3) (rowIn_own H148 At1 hc6)) (h := fun w155 H155 k154 => ?_))
      rw [decide_eq_true (rfl : q = q)]
      refine Pt ?_
      refine Mv ?_
      refine FL_split (t := 111) rfl (fun hs158 => ?_) (fun hs158 => ?_)
      · refine On (FL_callQ H155 (works_ok (hT.keep H155.kept)) (h := fun w160 H160 k159 => ?_))
        refine Pt ?_
        refine Am ?_
        refine Qn (FW_ret (Qfn_ret (hR := ?_)))
        exact ⟨rfl, H160.kept⟩
      exact Bool.noConfusion hs158
    exact Bool.noConfusion hs151
  exact Bool.noConfusion hs144
end
def wholeK (b : Bool) : Int := if b then 3 else 2
def kindsS (b : Bool) : List Int := [wholeK b, 1, 4, 5, 3]
def kindAt (b : Bool) (i : Nat) : Int := (kindsS b).getD (i % 5) 0
def colAt (b : Bool) (i : Nat) : ColM := ⟨((i + 1 : Nat) : Int), [], ⟨kindAt b i, decide ((4 : Int) < i)⟩, cell0⟩
def colsS (b : Bool) : List ColM := (List.range 10).map (colAt b)
theorem kindsS_get (b : Bool) (i : Nat) : (kindsS b)[i % 5]? = some (kindAt b i) := by
 have h : i % 5 < (kindsS b).length := Nat.mod_lt _ (by decide)
 unfold kindAt
 rw [List.getD_eq_getElem?_getD, List.getElem?_eq_getElem h]
 rfl
structure GoodE (k : Int) (n : Bool) (l : List StepM) : Prop where
 may : ∀ x ∈ l, mayS x = true ∧ fits x.n
 run : ∀ b st, runT (colsS b) st l = some (st ++ [⟨k, n⟩])
structure RowTo (m : Nat) (r : List CellM) : Prop where
 len : r.length = m
 fit : RowFits r
 ok : ∀ b (i : Nat) c, r[i]? = some c → okC (colAt b i).type c
abbrev RowS (r : List CellM) : Prop := RowTo 10 r
theorem RowTo.nil : RowTo 0 [] := ⟨rfl, fun _ h => absurd h List.not_mem_nil, fun _ i c h => by simp at h⟩
theorem RowTo.push {i : Nat} {r : List CellM} {c : CellM} (h : RowTo i r) (hc : fits c.n ∧ ∀ b, okC (colAt b i).type c) : RowTo (i + 1) (r ++ [c]) := by
 refine ⟨by rw [List.length_append, h.len]; rfl, fun y hy => ?_, fun b j d hd => ?_⟩
 ·rcases List.mem_append.1 hy with h1 | h1
  ·exact h.fit y h1
  rw [List.mem_singleton.1 h1]; exact hc.1
 rcases Nat.lt_or_ge j r.length with hj | hj
 ·rw [List.getElem?_append_left hj] at hd; exact h.ok b j d hd
 rw [List.getElem?_append_right hj] at hd
 cases hk : j - r.length with
 | zero =>
  rw [hk] at hd
  have e : j = i := by have := h.len; omega
  simp only [List.getElem?_cons_zero, Option.some.injEq] at hd
  rw [e, ← hd]; exact hc.2 b
 | succ m => rw [hk] at hd; simp at hd
def rowWords1 : List (List UInt8) := [[], [97], [98], [97, 32, 98], [195, 164]]
def rowWords2 : List (List UInt8) := [[], [0], [255], [97]]
def cellFor (i : Nat) (c : CellM) : Prop := fits c.n ∧ c.null = false ∧ ∀ b, isC (kindAt b i) c = true
theorem kindAt_of {b : Bool} {i m : Nat} (h : i % 5 = m) : kindAt b i = (kindsS b).getD m 0 := by unfold kindAt; rw [h]
theorem kindAt_in (b : Bool) (i : Nat) : 1 ≤ kindAt b i ∧ kindAt b i ≤ 5 := by
 have h := kindsS_get b i
 have h2 := List.mem_of_getElem? h
 unfold kindsS wholeK at h2
 simp only [List.mem_cons, List.not_mem_nil, or_false] at h2
 cases b <;> simp at h2 <;> omega
theorem cellFor0 {i : Nat} {n : Int} (h : i % 5 = 0) (hn : -2147483648 ≤ n ∧ n ≤ 2147483647) : cellFor i ⟨false, n, []⟩ := by
 refine ⟨by unfold fits; dsimp only; omega, rfl, fun b => ?_⟩
 rw [kindAt_of h]
 cases b <;> simp [kindsS, wholeK, isC, hn]
theorem cellFor1 {i : Nat} {n : Int} (h : i % 5 = 1) (hn : 0 ≤ n ∧ n ≤ 1) : cellFor i ⟨false, n, []⟩ := by
 refine ⟨by unfold fits; dsimp only; omega, rfl, fun b => ?_⟩
 rw [kindAt_of h]
 cases b <;> simp [kindsS, wholeK, isC, hn]
theorem cellFor2 {i : Nat} {y : List UInt8} (h : i % 5 = 2) (hy : y ∈ rowWords1) : cellFor i ⟨false, 0, y⟩ := by
 refine ⟨by unfold fits; dsimp only; omega, rfl, fun b => ?_⟩
 rw [kindAt_of h]
 have key : ∀ y ∈ rowWords1, isC 4 ⟨false, 0, y⟩ = true := by decide +kernel
 cases b <;> exact key y hy
theorem cellFor3 {i : Nat} {y : List UInt8} (h : i % 5 = 3) (hy : y ∈ rowWords2) : cellFor i ⟨false, 0, y⟩ := by
 refine ⟨by unfold fits; dsimp only; omega, rfl, fun b => ?_⟩
 rw [kindAt_of h]
 have key : ∀ y ∈ rowWords2, isC 5 ⟨false, 0, y⟩ = true := by decide +kernel
 cases b <;> exact key y hy
theorem cellFor4 {i : Nat} {n : Int} (h : i % 5 = 4) (hn : fits n) : cellFor i ⟨false, n, []⟩ := by
 refine ⟨hn, rfl, fun b => ?_⟩
 rw [kindAt_of h]
 cases b <;> simp [kindsS, isC]
theorem cellFor_ok {i : Nat} {c : CellM} (h : cellFor i c) : fits c.n ∧ ∀ b, okC (colAt b i).type c :=
 ⟨h.1, fun b => okC_iff.2 ⟨may_of (kindAt_in b i), .inr ⟨h.2.1, h.2.2 b⟩⟩⟩
theorem cellFor_null {i : Nat} (h : (4 : Int) < i) : fits cellNull.n ∧ ∀ b, okC (colAt b i).type cellNull :=
 ⟨⟨by decide, by decide⟩, fun b => okC_iff.2 ⟨may_of (kindAt_in b i), .inl ⟨rfl, decide_eq_true h, rfl⟩⟩⟩
def seedNum (l : List Int) (i : Nat) : Int := if 0 < l.length then l.getD (i % l.length) 0 else i
def baseAt (i : Nat) (k : Int) : CellM :=
 if i % 5 = 1 then ⟨false, k % 2, []⟩
 else if i % 5 = 2 then ⟨false, 0, rowWords1.getD (k % 5).toNat []⟩
 else if i % 5 = 3 then ⟨false, 0, rowWords2.getD (k % 4).toNat []⟩
 else if i % 5 = 4 then ⟨false, k, []⟩
 else ⟨false, k % 4294967296 - 2147483648, []⟩
def cellAt (l : List Int) (i : Nat) : CellM := if (4 : Int) < i ∧ (seedNum l i).tmod 3 = 0 then cellNull else baseAt i (seedNum l i)
def rowS (l : List Int) : List CellM := (List.range 10).map (cellAt l)
theorem getD_in {α : Type} {l : List α} {i : Nat} {d : α} (h : i < l.length) : l.getD i d ∈ l := by
 rw [List.getD_eq_getElem?_getD, List.getElem?_eq_getElem h]
 exact List.getElem_mem h
theorem baseAt_for {i : Nat} {k : Int} (hk : fits k) : cellFor i (baseAt i k) := by
 unfold baseAt
 split
 ·rename_i h; exact cellFor1 h (by omega)
 split
 ·rename_i h; exact cellFor2 h (getD_in (l := rowWords1) (by show (k % 5).toNat < 5; omega))
 split
 ·rename_i h; exact cellFor3 h (getD_in (l := rowWords2) (by show (k % 4).toNat < 4; omega))
 split
 ·rename_i h; exact cellFor4 h hk
 exact cellFor0 (by omega) (by omega)
theorem seedNum_fits {l : List Int} {i : Nat} (hl : ∀ x ∈ l, fits x) (hi : i < 1000) : fits (seedNum l i) := by
 unfold seedNum
 split
 ·rename_i h; exact hl _ (getD_in (Nat.mod_lt _ h))
 unfold fits; omega
theorem cellAt_ok {l : List Int} {i : Nat} (hl : ∀ x ∈ l, fits x) (hi : i < 1000) : fits (cellAt l i).n ∧ ∀ b, okC (colAt b i).type (cellAt l i) := by
 unfold cellAt
 split
 ·rename_i h; exact cellFor_null h.1
 exact cellFor_ok (baseAt_for (seedNum_fits hl hi))
theorem rowTo_range {l : List Int} (hl : ∀ x ∈ l, fits x) : ∀ {m : Nat}, m < 1000 → RowTo m ((List.range m).map (cellAt l))
 | 0, _ => RowTo.nil
 | m + 1, h => by
  rw [List.range_succ, List.map_append]
  exact (rowTo_range hl (by omega)).push (cellAt_ok hl (by omega))
theorem rowS_ok {l : List Int} (hl : ∀ x ∈ l, fits x) : RowS (rowS l) := rowTo_range hl (by decide)
/-! Wider columns, and cells that are not used. -/
/-! Expressions one behind the other. -/
/-! What is drawn: of a kind, and so deep. -/
end Go.Proofs.YtmkaahkbhdlniaaGreatDoor
