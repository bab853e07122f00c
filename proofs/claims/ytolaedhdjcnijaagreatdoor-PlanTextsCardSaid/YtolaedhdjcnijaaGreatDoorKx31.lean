/-
 The program's Parse of a plan, walked: the whole.
-/
import Derived.Test.YtolaedhdjcnijaaGreatDoorKx30
import Derived.Test.YtolaedhdjcnijaaGreatDoorKx27
import Derived.Test.YtolaedhdjcnijaaGreatDoorKx29
import Derived.Test.YtolaedhdjcnijaaGreatDoorKx12
import Derived.Test.YtolaedhdjcnijaaGreatDoorKx6
set_option linter.unusedVariables false
set_option linter.unusedSimpArgs false
namespace Go.Mw
open Go.RowKit
theorem resACC {P : Program} {T U V : TypeId} {k : Nat} [Agg P T k] [OneCell P U] [OneCell P V] {σ : St} {w : World} {a b c x y z : Nat} {us : List Value} {v u : Value} {E F G : TypeId} (hx : w.heap[x]? = some (.cells us.toArray E (0, 0))) (hy : w.heap[y]? = some (.cells [v].toArray F (0, 0))) (hz : w.heap[z]? = some (.cells [u].toArray G (0, 0)))
    (hk : us.length = k := by exact rfl) (ha : σ a = .pointer (some ⟨x, 0, none⟩) := by exact rfl) (hb : σ b = .pointer (some ⟨y, 0, none⟩) := by exact rfl) (hc : σ c = .pointer (some ⟨z, 0, none⟩) := by exact rfl) : ResAll P σ w [.cell a T, .cell b U, .cell c V] [.agg us.toArray, v, u] :=
  ⟨_, [v, u], ⟨x, 0, none⟩, rfl, ha, loadVar_blkN (k := k) hx (us := us) (by rw [List.drop_zero, ← hk, List.take_length]) hk, v, [u], ⟨y, 0, none⟩, rfl, hb, load_one hy, u, [], ⟨z, 0, none⟩, rfl, hc, load_one hz, rfl⟩
end Go.Mw
namespace Go.Proofs.YtolaedhdjcnijaaGreatDoor
open Go Go.Mw Go.Lib
set_option maxRecDepth 4000
theorem rowIn_none {α : Type} {w : World} {enc : α → List Value} {k : Nat} : RowIn w (.slice none 0 0) enc k [] := ⟨none, 0, rfl, ⟨Nat.le_refl _, by decide⟩, RowAt.nil _ _ _⟩
theorem plan0_in (w : World) : PlanIn w (agg [.slice none 0 0, .slice none 0 0, I 0]) plan0 := ⟨_, _, rfl, rowIn_none, [], rowIn_none, RawOf.nil⟩
section
variable {w w₀ : World} {S : Nat → Prop} {rs : List HP}
theorem Sep_plan0 {F : Nat → Prop} (H : Mw.Sep w₀ F rs w) : Turn F (planH (agg [.slice none 0 0, .slice none 0 0, I 0]) plan0) w₀ w := (Sep.lookNew H plan0_in).first.turn
theorem Sep_readPlan {b : Nat} {p : PlanM} {st : Int} {vw vc : Value} {r : List (List UInt8 × Value)} (H : Mw.Sep w₀ S (blk b [vw, vc, I p.group, I st] 74 :: seeH vw stepCells 3 p.wh :: rowD 53 2 outCells vc r :: rawsH r p.cols :: rs) w) : PlanIn w (agg [vw, vc, I p.group]) p :=
 ⟨vw, vc, rfl, Sep.sees H At1, r, Sep_in H At2, Sep.sees H At3⟩
theorem parsePE_ok (s : List UInt8) (hl : s.length ≤ 900000 ∨ 1048576 < s.length) (hmx : s.length ≤ 1000000000) (hT : TabsX w) : Rets Tryz.prog 15 [str s] w fun v w' => ∃ x, v = .tuple #[x, I (parseP s).2.1, I (parseP s).2.2] ∧ True ∧ Turn noB (planH x (parseP s).1) w w' := by
  have H := Sep.start0 w
  obtain ⟨res, hres⟩ : ∃ res, res = parseP s := ⟨_, rfl⟩
  rw [← hres]
  refine retsD1 Tryz.func15 rfl rfl rfl rfl ?_
  refine Sr (FL_alloc H (h := fun b2 w2 H2 k1 => ?_))
  refine FL_alloc H2 (h := fun b3 w4 H4 k3 => ?_)
  refine FL_alloc H4 (h := fun b4 w6 H6 k5 => ?_)
  refine Qn (FW_seq (Sr (Mv ?_)))
  refine Vt ?_
  refine Vg ?_
  refine Qn (Cp rfl (fun hc10 => ?_) (fun hc10 => ?_))
  · unfold parseP at hres
    rw [if_pos (by omega)] at hres
    refine Sr (Vv (Gives.build (out := [.slice none 0 0, .slice none 0 0, I 0]) Fills.nil) (FL_storeAll H6 (h := fun w14 H14 => ?_)))
    refine FL_store H14 (h := fun w16 H16 => ?_)
    refine FL_store H16 (h := fun w18 H18 => ?_)
    refine Qn (Rs (QfnD_ret (h := ?_)))
    exact ⟨[_, I 0, I 5], resACC (H18.obj At2) (H18.obj At1) (H18.obj At0), _, by rw [hres]; rfl, trivial, by rw [hres]; exact Sep_plan0 H18⟩
  have hle : s.length ≤ 900000 := by omega
  have hsl : s.length ≤ 1048576 := by omega
  refine Sk (Sr (FL_alloc H6 (h := fun b5 w22 H22 k21 => ?_)))
  refine Qn (FW_seq (Sr (Mv ?_)))
  refine FL_call (Lines_ok s) rfl rfl (fun v' w25 hv => ?_)
  obtain ⟨bS, rfl, _, hkk, F1, hq, hsub⟩ := hv
  have H25 := H22.new hkk hq (fun b hb => (hsub b hb).resolve_left id)
  refine Qn (FW_block ?_)
  have hmany := raw_many s
  have HJ : Mw.Sep w noB (plJ b2 b3 b4 b5 [] :: [blk bS [str s] 9]) w25 := by
    have h0 : Mw.Sep w noB (seeH (.slice none 0 0) stepCells 3 [] :: _) w25 := Sep.lookNew H25 fun _ => rowIn_none
    have h1 := ((Sep_rawNil (Sep.nilD h0 53 2 outCells)).front1.front2).front4
    have h2 := ((Sep_readH (p := plan0) h1).front2.front3).front4
    exact Sep.pack0 (p := fun z : List (List UInt8) × PlanM × Int => starL [pureH (([] : List (List UInt8)) = z.1.map endL ∧ runG z.1 = some (z.2.1, z.2.2)), blk b2 [.slice none 0 0, .slice none 0 0, I 0] 25, blk b3 [I (([] : List (List UInt8)).length : Nat)] 3, blk b4 [I 0] 27, readH b5 z.2.1 z.2.2]) ([], plan0, 0) (Sep.bundle (l := [pureH (([] : List (List UInt8)) = ([] : List (List UInt8)).map endL ∧ runG [] = some (plan0, 0)), _, _, _, _]) (Sep.addPure ⟨rfl, rfl⟩ h2))
  refine FW_rangeF (gf := 88) (lb := [selfP bS]) str (rawL s) (plJ b2 b3 b4 b5) (plL b2 b3 b4) _ HJ rfl rfl ?_ ?_ ?_ ?_
  · intro l D ro rb pre x Fr W hpre HW
    have hxm : x ∈ rawL s := hpre.subset (List.mem_append_right pre (List.mem_singleton.2 rfl))
    have hxl := raw_len hxm
    have hpl : pre.length + 1 ≤ s.length + 1 := by have := hpre.length_le; rw [List.length_append, List.length_singleton] at this; omega
    refine FW_region (Am ?_)
    refine FL_nil (Qassign_normal ?_)
    refine ⟨[], HW, fun WB HB => ?_⟩
    have HB2 : Mw.Sep w noB (obj l rb :: obj D (.deferred (some [])) :: plJ b2 b3 b4 b5 pre :: Fr) WB := HB
    replace HB2 := HB2.front2
    unfold plJ at HB2
    obtain ⟨⟨ls, p, st⟩, HB2⟩ := HB2.ex0
    obtain ⟨⟨hpm, hrun⟩, HB3⟩ := (HB2.parts).pure0
    dsimp only at hpm hrun HB3
    obtain ⟨hpc, hst, hfit⟩ := run_good ls hrun
    replace HB := HB3
    refine FW_block (Sr (Mv ?_))
    refine FL_callS (cutSuffix_ok x (by omega)) (h := ?_)
    refine Mv ?_
    refine Vx ?_
    refine Vx ?_
    refine Am ?_
    refine Am ?_
    refine Qn (FW_seq (Sr (Mv ?_)))
    refine Vv (Gives.not rfl) (Mv ?_)
    refine FL_split (t := 25) rfl (fun hs41 => ?_) (fun hs41 => ?_)
    · have hsuf : Lib.hasSuffix x [10] = false := by simpa using hs41
      have hno : ∀ l, x ≠ endL l := by
        rcases trim_suf x with ⟨_, _, _, h⟩ | ⟨h, _⟩
        · rw [hsuf] at h; cases h
        exact h
      have hbad : ∃ ls p st, pre = ls.map endL ∧ runG ls = some (p, st) ∧ ((∃ l, x = endL l ∧ lineT p st l = none) ∨ ∀ l, x ≠ endL l) := ⟨ls, p, st, hpm, hrun, .inr hno⟩
      refine Of (Of (Of (Pt ?_)))
      refine Qn (FW_cond_true rfl ?_)
      refine FW_seq (FW_drawS rfl HB (h := fun hok44 w46 H46 => ?_))
      refine Gp hok44 0 rfl rfl (fun _ => (Gives.build (out := [.slice none 0 0, .slice none 0 0, I 0]) Fills.nil)) (FGload hok44 1 H46 (h := ?_))
      refine FGstoreAll hok44 2 [(1, false)] H46 (h := fun w50 H50 => ⟨Stab_load H50 (h := Stab_nil), ?_⟩)
      refine FGstore hok44 3 [] H50 (h := fun w52 H52 => ⟨Stab_nil, ?_⟩)
      refine FGstore hok44 4 [] H52 (h := fun w54 H54 => ⟨Stab_nil, ?_⟩)
      refine FG_end hok44 (by kernel_rfl) ?_
      refine Qseq_normal (Rs (Qblk_ret (Qleave_ret ?_)))
      exact (Sep.bundle (l := [pureH (∃ ls p st, pre = ls.map endL ∧ runG ls = some (p, st) ∧ ((∃ l, x = endL l ∧ lineT p st l = none) ∨ ∀ l, x ≠ endL l)), _, _, _]) (rs := [_, _]) (Sep.addPure hbad ((H54.front3).drop0.firsts (l := [_, _, _, _, _])))).back2
    have hsuf : Lib.hasSuffix x [10] = true := by simpa using hs41
    obtain ⟨l0, hx0, htrim⟩ : ∃ l0, x = endL l0 ∧ Lib.trimSuffix x [10] = l0 := by
      rcases trim_suf x with ⟨l0, h1, h2, _⟩ | ⟨_, _, h⟩
      · exact ⟨l0, h1, h2⟩
      rw [hsuf] at h; cases h
    have hl0 : l0.length ≤ s.length + 1 := by have h1 := hxl; rw [hx0] at h1; unfold endL at h1; rw [List.length_append, List.length_singleton] at h1; omega
    have hpl2 : ls.length = pre.length := by rw [hpm, List.length_map]
    rw [htrim]
    refine On (Mv ?_)
    refine On ?_
    obtain ⟨F0, hp0, hS0, hput0⟩ := HB.focus At3
    refine FL_call (line_ok l0 hp0 hst (by omega) (by omega) fun w' hk => hT.keep (HB.kept.trans hk hS0)) rfl rfl (fun v' w59 hv => ?_)
    obtain ⟨rfl, hkk, F1, hq, hsub⟩ := hv
    have H59 := hput0 _ F1 _ hkk hq hsub
    refine On (Vv (Gives.not rfl) (Pf ?_))
    refine Qn (Cd rfl (fun hc62 => ?_) (fun hc62 => ?_))
    · have hnone : lineT p st l0 = none := by
        have h1 := hc62
        cases hq : lineT p st l0 with
        | none => rfl
        | some y => rw [hq] at h1; cases h1
      have hbad : ∃ ls p st, pre = ls.map endL ∧ runG ls = some (p, st) ∧ ((∃ l, x = endL l ∧ lineT p st l = none) ∨ ∀ l, x ≠ endL l) := ⟨ls, p, st, hpm, hrun, .inl ⟨l0, hx0, hnone⟩⟩
      refine FW_seq (FW_drawS rfl H59 (h := fun hok64 w66 H66 => ?_))
      refine Gp hok64 0 rfl rfl (fun _ => (Gives.build (out := [.slice none 0 0, .slice none 0 0, I 0]) Fills.nil)) (FGload hok64 1 H66 (h := ?_))
      refine FGstoreAll hok64 2 [(1, false)] H66 (h := fun w70 H70 => ⟨Stab_load H70 (h := Stab_nil), ?_⟩)
      refine FGstore hok64 3 [] H70 (h := fun w72 H72 => ⟨Stab_nil, ?_⟩)
      refine FGstore hok64 4 [] H72 (h := fun w74 H74 => ⟨Stab_nil, ?_⟩)
      refine FG_end hok64 (by kernel_rfl) ?_
      refine Qseq_normal (Rs (Qblk_ret (Qleave_ret ?_)))
      exact (Sep.bundle (l := [pureH (∃ ls p st, pre = ls.map endL ∧ runG ls = some (p, st) ∧ ((∃ l, x = endL l ∧ lineT p st l = none) ∨ ∀ l, x ≠ endL l)), _, _, _]) (rs := [_, _]) (Sep.addPure hbad ((H74.front3).drop0.firsts (l := [_, _, _, _, _])))).back2
    obtain ⟨⟨p', st'⟩, hl1⟩ : ∃ y, lineT p st l0 = some y := by
      have h1 := hc62
      cases hq : lineT p st l0 with
      | none => rw [hq] at h1; cases h1
      | some y => exact ⟨y, rfl⟩
    rw [hl1] at H59
    have hpm2 : pre ++ [x] = (ls ++ [l0]).map endL := by rw [List.map_append, hpm, hx0]; rfl
    have hrun2 : runG (ls ++ [l0]) = some (p', st') := by rw [run_snoc, hrun]; exact hl1
    refine Sk (FW_region (Ld H59 ?_))
    refine Vv (Gives.addI (c := (((pre ++ [x]).length : Nat) : Int)) rfl rfl (by rw [List.length_append, List.length_singleton]; omega) (by rw [List.length_append, List.length_singleton]; omega)) ?_
    refine FL_store H59 (h := fun w80 H80 => ?_)
    refine FL_nil (Qblk_normal (Qleave_normal ?_))
    exact (Sep.pack0 (p := fun z : List (List UInt8) × PlanM × Int => starL [pureH (pre ++ [x] = z.1.map endL ∧ runG z.1 = some (z.2.1, z.2.2)), blk b2 [.slice none 0 0, .slice none 0 0, I 0] 25, blk b3 [I ((pre ++ [x]).length : Nat)] 3, blk b4 [I 0] 27, readH b5 z.2.1 z.2.2]) (ls ++ [l0], p', st') (Sep.bundle (l := [pureH (pre ++ [x] = (ls ++ [l0]).map endL ∧ runG (ls ++ [l0]) = some (p', st')), _, _, _, _]) (Sep.addPure ⟨hpm2, hrun2⟩ H80))).back2
  · intro l D ro rj W HW hy
    exact lines_iter hsl HW hy
  rotate_left 1
  · intro D W pre x hpre HD
    obtain ⟨⟨ls, p, st, hpm, hrun, hbad⟩, HD2⟩ := ((HD.front1).parts).pure0
    subst hpm
    rw [fail_line hsl hpre hrun hbad] at hres
    exact Qblk_ret (Qseq_ret (QfnD_one HD2 At3 (fun w1 H1 => ⟨[_, _, I 4], resACC (H1.obj At0) (H1.obj At1) (H1.obj At2), _, by rw [hres]; rfl, trivial, by rw [hres]; exact Sep_plan0 H1⟩)))
  intro D w83 H83
  have H83 := H83.front1
  unfold plJ at H83
  obtain ⟨⟨ls, p, st⟩, H83⟩ := H83.ex0
  obtain ⟨⟨hpm, hrun⟩, H83⟩ := (H83.parts).pure0
  dsimp only at hpm hrun H83
  obtain ⟨hpc, hst, hfit⟩ := run_good ls hrun
  obtain ⟨hwhole, hls⟩ := raw_all hpm
  have hfin := parse_done hsl hwhole (by rw [hls]; exact hrun)
  rw [← hres, hls] at hfin
  have hlen : (rawL s).length = ls.length := by rw [hpm, List.length_map]
  rw [hlen] at H83
  obtain ⟨vw, vc, r, H83⟩ := Sep_unread (H83.front3)
  obtain ⟨Aw, cw, rfl, _⟩ := (Sep.sees H83 At1 : RowIn _ vw stepCells 3 p.wh)
  obtain ⟨Ac, cc, rfl, hcc, hRc⟩ := Sep.formD H83 At2 --on
  refine Qblk_normal (Qseq_normal (FW_seq (Sr (Vf ?_))))
  refine Ld H83 ?_
  refine Vn ?_
  refine Qn (Cp rfl (fun hc87 => ?_) (fun hc87 => ?_))
  · rw [if_pos hc87] at hfin
    refine FW_seq (FW_drawS rfl H83 (h := fun hok89 w91 H91 => ?_))
    refine Gp hok89 0 rfl rfl (fun _ => (Gives.build (out := [.slice none 0 0, .slice none 0 0, I 0]) Fills.nil)) (FGload hok89 1 H91 (h := ?_))
    refine FGstoreAll hok89 2 [(1, false)] H91 (h := fun w95 H95 => ⟨Stab_load H95 (h := Stab_nil), ?_⟩)
    refine FGstore hok89 3 [] H95 (h := fun w97 H97 => ⟨Stab_nil, ?_⟩)
    refine FGstore hok89 4 [] H97 (h := fun w99 H99 => ⟨Stab_nil, ?_⟩)
    refine FG_end hok89 (by kernel_rfl) ?_
    refine Qseq_normal (Rs (QfnD_one H99 At7 (hR := fun w101 H101 => ?_)))
    exact ⟨[_, _, I 4], resACC (H101.obj At4) (H101.obj At5) (H101.obj At6), _, by rw [hfin]; rfl, trivial, by rw [hfin]; exact Sep_plan0 H101⟩
  rw [if_neg hc87] at hfin
  refine Sk (FW_seq (Sr (Vf ?_)))
  refine FL_loadN H83 (us := [.slice Aw p.wh.length cw, .slice Ac r.length cc, I p.group]) (hu := rfl) (hk := rfl) (h := ?_)
  have hpl := Sep_readPlan H83
  refine FL_callQ H83 (textPE_ok hpl hfit.1 hfit.2 (by omega) (hT.keep H83.kept)) (h := fun w107 H107 k106 => ?_)
  refine Mv ?_
  refine Vx ?_
  refine Vx ?_
  refine Am ?_
  refine Am ?_
  refine Nx (Mv ?_)
  refine Vn ?_
  refine Qn (Cp rfl (fun hc115 => ?_) (fun hc115 => ?_))
  · have hmay : mayP p = false := by
      cases hq : mayP p with
      | false => rfl
      | true => have h1 := hc115; unfold textP at h1; rw [hq, if_neg (by decide)] at h1; exact absurd rfl h1
    have ht2 : (textP p).2 = 2 := by unfold textP; rw [if_pos hmay]
    rw [if_pos hmay] at hfin
    refine Sr (Vv (Gives.build (out := [.slice none 0 0, .slice none 0 0, I 0]) Fills.nil) (Mv ?_))
    refine FL_storeAll H107 (h := fun w120 H120 => ?_)
    refine FL_store H120 (h := fun w122 H122 => ?_)
    refine FL_store H122 (h := fun w124 H124 => ?_)
    refine Qn (Rs (QfnD_one H124 At7 (hR := fun w126 H126 => ?_)))
    exact ⟨[_, I 0, _], resACC (H126.obj At4) (H126.obj At5) (H126.obj At6), _, by rw [hfin, ht2]; rfl, trivial, by rw [hfin]; exact Sep_plan0 H126⟩
  have hmay : mayP p = true := by
    cases hq : mayP p with
    | true => rfl
    | false => have h1 := hc115; unfold textP at h1; rw [if_pos hq] at h1; exact absurd (by decide) h1
  rw [if_neg (by rw [hmay]; decide)] at hfin
  refine Sk (Sr (Vf ?_))
  refine FL_loadN H107 (us := [.slice Aw p.wh.length cw, .slice Ac r.length cc, I p.group]) (hu := rfl) (hk := rfl) (h := ?_)
  refine FL_storeAll H107 (h := fun w132 H132 => ?_)
  refine FL_store H132 (h := fun w134 H134 => ?_)
  refine FL_store H134 (h := fun w136 H136 => ?_)
  refine Qn (FW_ret (QfnD_one H136 At7 (hR := fun w138 H138 => ?_)))
  exact ⟨[_, I 0, I 0], resACC (H138.obj At4) (H138.obj At5) (H138.obj At6), _, by rw [hfin]; rfl, trivial, by rw [hfin]; exact (Sep_plan (g := p.group) H138.drop0).first.turn⟩
end
theorem where_fit {s : List UInt8} {w : List StepM} (h : whereL s = some w) : StepsFit w := by
 unfold whereL at h
 obtain ⟨t, _, h⟩ := Option.bind_eq_some_iff.1 h
 split at h
 ·cases h
 split at h
 ·injection h with h; subst h; exact fun x hx => absurd hx List.not_mem_nil
 split at h
 ·injection h with h; subst h; exact parse_fits t
 cases h
theorem out_fit {s : List UInt8} {o : OutM} (h : outL s = some o) : StepsFit o.steps := by
 unfold outL at h
 obtain ⟨t, _, h⟩ := Option.bind_eq_some_iff.1 h
 obtain ⟨x, _, h⟩ := Option.bind_eq_some_iff.1 h
 split at h
 ·injection h with h; subst h; exact parse_fits _
 cases h
theorem cols_fit : ∀ ls : List (List UInt8), ∀ o ∈ colsL ls, StepsFit o.steps
 | [], o, ho => absurd ho List.not_mem_nil
 | s :: l, o, ho => by
  rw [colsL] at ho
  cases hs : outL s with
  | none => rw [hs] at ho; exact absurd ho List.not_mem_nil
  | some x =>
   rw [hs] at ho
   rcases List.mem_cons.1 ho with rfl | ho
   ·exact out_fit hs
   exact cols_fit l o ho
theorem fit0 : AllFit plan0 ∧ plan0.cols.length ≤ 16 := ⟨⟨fun x hx => absurd hx List.not_mem_nil, fun o ho => absurd ho List.not_mem_nil⟩, by decide⟩
theorem parse_small (s : List UInt8) : AllFit (parseP s).1 ∧ (parseP s).1.cols.length ≤ 16 := by
 unfold parseP
 split
 ·exact fit0
 dsimp only
 obtain ⟨many, hmany⟩ : ∃ m, m = if (linesL s).2 = true then (linesL s).1.length else (linesL s).1.length - 1 := ⟨_, rfl⟩
 rw [← hmany]
 split
 ·exact fit0
 split
 ·exact fit0
 rename_i wv hw
 split
 ·exact fit0
 split
 ·exact fit0
 split
 ·exact fit0
 split
 ·exact fit0
 rename_i hm
 have hm' := (may_parts.1 (eq_true_of_ne_false hm)).1
 exact ⟨⟨where_fit hw, cols_fit _⟩, (named_cols hm').1.2.1⟩
def slash (l : List UInt8) : List UInt8 := l.flatMap fun c => if c = 47 then [10] else [c]
theorem slash_len (l : List UInt8) : (slash l).length = l.length := by
 unfold slash
 induction l with
 | nil => rfl
 | cons c l ih => rw [List.flatMap_cons, List.length_append, ih, List.length_cons]; split <;> simp <;> omega
def back (l : List UInt8) : List UInt8 := l.map fun c => if c = 10 then 47 else c
def slTx : List (List UInt8) := exTx.map back
def slNo : List (List UInt8) := noTx.map fun x => back x.1
theorem sl_ex : slTx.map slash = exTx ∧ slNo.map slash = noTx.map (·.1) := by decide +kernel
theorem ex_parse (i : Nat) {s : List UInt8} {p : PlanM} (hs : slTx[i]? = some s) (hp : exPl[i]? = some p) : parseP (slash s) = (p, 0, 0) := by
 have h1 : (exTx)[i]? = some (slash s) := by rw [← sl_ex.1, List.getElem?_map, hs]; rfl
 rw [← ex_may.2, List.getElem?_map, hp] at h1
 injection h1 with h1
 have hm := List.all_eq_true.1 ex_may.1 p (List.mem_of_getElem? hp)
 have hf : AllFit p := by
  have key : ∀ q ∈ exPl, AllFit q := by
   unfold exPl
   intro q hq
   simp only [List.mem_cons, List.not_mem_nil, or_false] at hq
   rcases hq with rfl | rfl | rfl | rfl | rfl <;>
   ·refine ⟨fun x hx => ?_, fun o ho x hx => ?_⟩
    ·simp at hx
     try (rcases hx with rfl | rfl | rfl)
     all_goals (first | (subst hx; unfold fits; decide) | (unfold fits; decide))
    simp at ho
    first
    | (rcases ho with rfl | rfl <;> simp at hx <;> (first | (subst hx; unfold fits; decide) | (rcases hx with rfl | rfl <;> (unfold fits; decide)) | (rcases hx with rfl | rfl | rfl <;> (unfold fits; decide))))
    | (subst ho; simp at hx; subst hx; unfold fits; decide)
  exact key p (List.mem_of_getElem? hp)
 rw [← h1]
 refine plan_back hm hf.1 hf.2 ?_
 have hl : ∀ q ∈ exPl, (unlines (linesP q)).length ≤ 100 := by decide +kernel
 have := hl p (List.mem_of_getElem? hp)
 omega
theorem no_parse (i : Nat) {s x : List UInt8} {n e : Int} (hs : slNo[i]? = some s) (hx : noTx[i]? = some (x, n, e)) : parseP (slash s) = (plan0, n, e) := by
 have h1 : (noTx.map (·.1))[i]? = some (slash s) := by rw [← sl_ex.2, List.getElem?_map, hs]; rfl
 rw [List.getElem?_map, hx] at h1
 injection h1 with h1
 have := ex_none _ (List.mem_of_getElem? hx)
 rw [← h1]
 exact this
end Go.Proofs.YtolaedhdjcnijaaGreatDoor
namespace Go.Mw
open Go.RowKit
theorem resC3 {P : Program} {w w₀ : World} {S : Nat → Prop} {rs : List HP} {put : HP → List HP} {σ : St} {us : List Value} {a b k E : Nat} {T : TypeId} [Agg P T k] {t u : Nat} {v z : Value} (H : Sep w₀ S rs w) (hx : σ a = .pointer (some ⟨b, 0, none⟩) := by exact rfl) (hat : At rs (blk b us E) put := by first | exact At0 | exact At1 | exact At2 | exact At3 | exact At4 | exact At5 | exact At6 | exact At7 | exact At8 | exact At9) (hk : us.length = k := by exact rfl) (hv : σ t = v := by exact rfl) (hu : σ u = z := by exact rfl) :
    ResAll P σ w [.cell a T, .tmp t, .tmp u] [.agg us.toArray, v, z] :=
  ⟨_, _, _, rfl, hx, loadVar_blkN (k := k) (H.obj hat) (us := us) (by rw [List.drop_zero, ← hk, List.take_length]) hk, _, by subst hv; rfl, _, by subst hu; rfl, rfl⟩
end Go.Mw
namespace Go.Proofs.YtolaedhdjcnijaaGreatDoor
open Go Go.Mw Go.Lib
set_option maxRecDepth 4000
theorem lines_mem {s x : List UInt8} (h : x ∈ (linesL s).1) : x.length ≤ s.length := by
 refine split_len10 s x ?_
 unfold linesL at h
 split at h
 ·exact (List.dropLast_sublist _).subset h
 exact h
theorem lines_len (s : List UInt8) : (linesL s).1.length ≤ s.length + 1 := by
 have h1 := split_count 10 s
 have h2 := List.count_le_length (a := (10 : UInt8)) (l := s)
 unfold linesL
 split
 ·show (splitW 10 s).dropLast.length ≤ _
  rw [List.length_dropLast]; omega
 show (splitW 10 s).length ≤ _
 omega
theorem lines_some {s : List UInt8} (h : (linesL s).2 = false) : 1 ≤ (linesL s).1.length := by
 unfold linesL at h ⊢
 split
 ·rw [if_pos (by assumption)] at h; cases h
 exact List.length_pos_iff.2 (splitP_ne s)
theorem takeM_at {α : Type} {l : List α} {m k : Nat} {x : α} (hk : k < m) (h : l[k]? = some x) : (l.take m)[k]? = some x := by rw [List.getElem?_take, if_pos hk, h]
section
variable {w : World}
theorem parsePR_ok (s : List UInt8) (hl : s.length ≤ 900000) : Rets Tryz.prog 16 [str s] w fun v w' => ∃ x, v = .tuple #[x, I (parseP s).2.1, I (parseP s).2.2] ∧ True ∧ Turn noB (planH x (parseP s).1) w w' := by
  have H := Sep.start0 w
  obtain ⟨res, hres⟩ : ∃ res, res = parseP s := ⟨_, rfl⟩
  rw [← hres]
  unfold parseP at hres
  rw [if_neg (by omega)] at hres
  dsimp only at hres
  have hlm := fun x => lines_mem (s := s) (x := x)
  have hll := lines_len s
  have hls := lines_some (s := s)
  have hlo := lines_ok23 (w := w) s (by omega)
  obtain ⟨L, hL⟩ : ∃ L, L = (linesL s).1 := ⟨_, rfl⟩
  obtain ⟨wh, hwh⟩ : ∃ wh, wh = (linesL s).2 := ⟨_, rfl⟩
  rw [← hL] at hlm hll hls
  rw [← hL, ← hwh] at hres
  rw [← hwh] at hls
  obtain ⟨many, hmany⟩ : ∃ m, m = if wh = true then L.length else L.length - 1 := ⟨_, rfl⟩
  rw [← hmany] at hres
  have hml : many ≤ L.length := by rw [hmany]; split <;> omega
  refine retsC1 Tryz.func16 rfl rfl rfl rfl ?_
  refine Sr (FL_alloc H (h := fun b2 w2 H2 k1 => ?_))
  refine Am ?_
  refine Am ?_
  refine Qn (FW_seq (Sr (Mv ?_)))
  refine Vt ?_
  refine Vg ?_
  refine Qn (Cp rfl (fun hc8 => ?_) (fun hc8 => ?_))
  · omega
  refine Sk (Sr (Mv ?_))
  refine FL_callN H2 (lines_ok23 s (by omega)) (h := fun x w12 _ H12 k11 => ?_)
  rw [← hL] at H12
  rw [← hwh]
  obtain ⟨A, c, rfl, hc, _⟩ := Sep.formD H12 At0
  refine Mv ?_
  refine Vx ?_
  refine Vx ?_
  refine Am ?_
  refine Am ?_
  refine Nx (Mv ?_)
  refine Vs ?_
  refine Am ?_
  refine Qn (FW_cut (fun _ : Unit => [(2, selfP b2), (5, .slice A L.length c), (7, I many)]) (fun _ w' => Sep w noB [rowD 9 1 textCells (.slice A L.length c) L, blk b2 [.slice none 0 0, .slice none 0 0, I 0] 25] w') ?_ ?_)
  · refine Sr (Mv ?_)
    refine Vv (Gives.not rfl) (Qn ?_)
    refine Cd rfl (fun hc24 => ?_) (fun hc24 => ?_)
    · have hwf : wh = false := by simpa using hc24
      refine FW_region (Mv ?_)
      refine Vv (Gives.subI (c := ((L.length - 1 : Nat) : Int)) rfl rfl (by have := hls hwf; omega) (by omega)) (Am ?_)
      refine FL_nil ?_
      exact Qcut_normal () ⟨rfl, rfl, by rw [hmany, if_neg (by rw [hwf]; decide)]; rfl, trivial⟩ H12
    have hwf : wh = true := by simpa using hc24
    refine FW_skip ?_
    exact Qcut_normal () ⟨rfl, rfl, by rw [hmany, if_pos hwf]; rfl, trivial⟩ H12
  intro _ τ w33 H33
  simp only [upds, like, upd_ds, und_ds]
  refine FW_seq (Sr (Mv ?_))
  refine Vl ?_
  refine Qn (Cp rfl (fun hc36 => ?_) (fun hc36 => ?_))
  · rw [if_pos (by omega)] at hres
    refine Sr (Vv (Gives.build (out := [.slice none 0 0, .slice none 0 0, I 0]) Fills.nil) (FL_storeAll H33 (h := fun w40 H40 => ?_)))
    refine Am ?_
    refine Am ?_
    refine Qn (Rs (QfnC_ret (h := ?_)))
    exact ⟨_, resC3 H40, _, by rw [hres]; rfl, trivial, by rw [hres]; exact Sep_plan0 H40⟩
  rw [if_neg (by omega)] at hres
  obtain ⟨l0, hl0⟩ := get_some (l := L) (i := 0) (by omega)
  rw [getD_of hl0] at hres
  have hl0l := hlm l0 (List.mem_of_getElem? hl0)
  refine Sk (Sr (Mv ?_))
  refine Vv (Gives.idxR (l := L) (enc := textCells) (i := 0) rfl rfl (Sep_rdD H33 At0) (by omega)) (Vv (Gives.loadW (i := 0) (f := 0) rfl (Sep_rdD H33 At0) hl0 rfl) ?_)
  refine FL_callN H33 (where_ok23 l0 (by omega)) (h := fun x w49 hφ H49 k48 => ?_)
  obtain ⟨vw, lw⟩ := x
  dsimp only at hφ H49 ⊢
  obtain ⟨W, cw, rfl, _, _⟩ := Sep.formD H49 At0
  refine Mv ?_
  refine Vx ?_
  refine Vx ?_
  refine Am ?_
  refine Am ?_
  refine Qn (FW_seq (Sr (Mv ?_)))
  refine Vv (Gives.not rfl) (Qn ?_)
  refine Cd rfl (fun hc57 => ?_) (fun hc57 => ?_)
  · have hwn : whereL l0 = none := by
      cases h : whereL l0 with
      | none => rfl
      | some u => rw [h] at hc57; exact absurd hc57 (by simp)
    rw [hwn] at hres
    dsimp only at hres
    refine Sr (Vv (Gives.build (out := [.slice none 0 0, .slice none 0 0, I 0]) Fills.nil) (FL_storeAll H49 (h := fun w61 H61 => ?_)))
    refine Am ?_
    refine Am ?_
    refine Qn (Rs (QfnC_ret (h := ?_)))
    exact ⟨_, resC3 H61, _, by rw [hres]; rfl, trivial, by rw [hres]; exact Sep_plan0 H61⟩
  obtain ⟨wv, hwv⟩ := Option.isSome_iff_exists.1 (show (whereL l0).isSome = true by simpa using hc57)
  have hlw := hφ wv hwv
  subst hlw
  rw [hwv] at hres
  dsimp only at hres
  obtain ⟨M, hM⟩ : ∃ M, M = L.take many := ⟨_, rfl⟩
  rw [← hM] at hres
  refine Sk (Sr (Mv ?_))
  refine Vv (Gives.build (out := [.slice W lw.length cw, .slice none 0 0, I 0]) (Fills.one rfl rfl rfl (by simp) rfl Fills.nil)) (FL_alloc H49 (h := fun b10 w69 H69 k68 => ?_))
  refine FL_storeAll H69 (h := fun w71 H71 => ?_)
  refine Nx (Am ?_)
  refine Qn (FW_cut (fun z : List OutM × (Option Addr × Nat) × List (List UInt8 × Value) => [(2, selfP b2), (5, .slice A L.length c), (7, I many), (10, selfP b10), (11, I (1 + z.1.length : Nat))]) (fun z w' => (colsL (M.drop 1) = z.1 ∧ z.2.2.length = z.1.length ∧ 1 + z.1.length ≤ many) ∧ Sep w noB [rawsH z.2.2 z.1, rowD 53 2 outCells (.slice z.2.1.1 z.2.2.length z.2.1.2) z.2.2, blk b10 [.slice W lw.length cw, .slice z.2.1.1 z.2.2.length z.2.1.2, I 0] 25, seeH (.slice W lw.length cw) stepCells 3 lw, rowD 9 1 textCells (.slice A L.length c) L, blk b2 [.slice none 0 0, .slice none 0 0, I 0] 25] w') ?_ ?_)
  · refine FW_block ?_
    have H75 := Sep_rawNil (Sep.nilD (Sep_seeRow H71.front1 At0).front1 53 2 outCells)
    refine FW_loop' (fun z : List OutM × (Option Addr × Nat) × List (List UInt8 × Value) => [(2, selfP b2), (5, .slice A L.length c), (7, I many), (10, selfP b10), (11, I (1 + z.1.length : Nat))]) (fun z w' => (colsL (M.drop 1) = z.1 ++ colsL (M.drop (1 + z.1.length)) ∧ z.2.2.length = z.1.length ∧ 1 + z.1.length ≤ many) ∧ Sep w noB [rawsH z.2.2 z.1, rowD 53 2 outCells (.slice z.2.1.1 z.2.2.length z.2.1.2) z.2.2, blk b10 [.slice W lw.length cw, .slice z.2.1.1 z.2.2.length z.2.1.2, I 0] 25, seeH (.slice W lw.length cw) stepCells 3 lw, rowD 9 1 textCells (.slice A L.length c) L, blk b2 [.slice none 0 0, .slice none 0 0, I 0] 25] w') (fun z _ => many - z.1.length) ([], (none, 0), []) ⟨rfl, rfl, rfl, rfl, rfl, trivial⟩ ⟨⟨rfl, rfl, by dsimp only [List.length_nil]; omega⟩, H75⟩ (fun z τ w75 hI => ?_)
    obtain ⟨cs, ⟨C, cc⟩, r⟩ := z
    obtain ⟨⟨hcs, hrl, hcm⟩, H75⟩ := hI
    dsimp only at hcs hrl hcm H75
    try simp only [upds, like, upd_ds]
    refine FW_seq (Sr (Mv ?_))
    refine Mv ?_
    refine Vl ?_
    refine Qn (Cp rfl (fun hc79 => ?_) (fun hc79 => ?_))
    · have hlt : 1 + cs.length < many := by omega
      obtain ⟨li, hli⟩ := get_some (l := L) (i := 1 + cs.length) (by omega)
      have hlil := hlm li (List.mem_of_getElem? hli)
      have hMi := takeM_at hlt hli
      rw [← hM] at hMi
      rw [outs_snoc hMi, colsL] at hcs
      refine Sk (FW_block (Sr (Mv ?_)))
      refine Mv ?_
      refine Vv (Gives.idxR (l := L) (enc := textCells) (i := 1 + cs.length) rfl rfl (Sep_rdD H75 At4) (by omega)) (Vv (Gives.loadW (i := 1 + cs.length) (f := 0) rfl (Sep_rdD H75 At4) hli rfl) ?_)
      refine FL_callN H75 (out_ok23 li (by omega)) (h := fun x w86 hψ H86 k85 => ?_)
      obtain ⟨on, vx, os⟩ := x
      dsimp only at hψ H86 ⊢
      obtain ⟨X, cx, rfl, _, _⟩ := Sep.formD H86 At0
      refine Mv ?_
      refine Vx ?_
      refine Vx ?_
      refine FL_alloc H86 (h := fun b12 w91 H91 k90 => ?_)
      refine FL_storeAll H91 (h := fun w93 H93 => ?_)
      refine Am ?_
      refine Qn (FW_seq (Sr (Mv ?_)))
      refine Vv (Gives.not rfl) (Qn ?_)
      refine Cd rfl (fun hc97 => ?_) (fun hc97 => ?_)
      · have hon : outL li = none := by
          cases h : outL li with
          | none => rfl
          | some u => rw [h] at hc97; exact absurd hc97 (by simp)
        rw [hon] at hcs
        dsimp only at hcs
        rw [List.append_nil] at hcs
        refine FW_exit (Qseq_exit (Qblk_exit_ne rfl (Qround_exit (Qblk_exit ?_))))
        exact Qcut_normal (cs, (C, cc), r) ⟨rfl, rfl, rfl, rfl, rfl, trivial⟩ ⟨⟨hcs, hrl, hcm⟩, H93.drop0.drop0⟩
      obtain ⟨o, ho⟩ := Option.isSome_iff_exists.1 (show (outL li).isSome = true by simpa using hc97)
      obtain ⟨rfl, rfl⟩ := hψ o ho
      rw [ho] at hcs
      dsimp only at hcs
      refine Sk (Sr (Vf ?_))
      refine Ld H93 ?_
      refine FL_loadAll H93 (h := ?_)
      refine FL_buildSlice H93 (xs := [.tmp 63]) (out := [(o.name, Value.slice X o.steps.length cx)].flatMap outCells) (Elems.many rfl rfl Elems.nil) rfl rfl rfl (fun bs w105 H105 k104 => ?_)
      refine FL_appendD H105 (news := [(o.name, Value.slice X o.steps.length cx)]) At3 (by unfold maxLen; simp; omega) (by simp; omega) (outs_one rfl) (h := ?_)
      intro v2 w107 H107
      obtain ⟨C2, cc2, rfl, _, _⟩ := Sep.formD H107 At3
      refine Vf ?_
      refine FL_store H107 (h := fun w110 H110 => ?_)
      refine Qn (FW_region (Mv ?_))
      refine Vv (Gives.addI (c := ((1 + (cs ++ [o]).length : Nat) : Int)) rfl rfl (by rw [List.length_append, List.length_singleton]; omega) (by rw [List.length_append, List.length_singleton]; omega)) ?_
      refine Am ?_
      refine FL_nil (Qblk_normal ?_)
      exact Qround_normal (cs ++ [o], (C2, cc2), r ++ [(o.name, Value.slice X o.steps.length cx)]) ⟨rfl, rfl, rfl, rfl, rfl, trivial⟩ ⟨⟨by dsimp only; rw [List.length_append, List.length_singleton, hcs, List.append_assoc]; rfl, by dsimp only; rw [List.length_append, List.length_append, hrl]; rfl, by dsimp only; rw [List.length_append, List.length_singleton]; omega⟩, Sep_rawPush H110.drop0⟩ (by dsimp only; rw [List.length_append, List.length_singleton]; omega)
    rw [List.drop_of_length_le (show M.length ≤ 1 + cs.length by rw [hM, List.length_take]; omega), colsL, List.append_nil] at hcs
    refine FW_exit (Qseq_exit (Qround_exit (Qblk_exit ?_)))
    exact Qcut_normal (cs, (C, cc), r) ⟨rfl, rfl, rfl, rfl, rfl, trivial⟩ ⟨⟨hcs, hrl, hcm⟩, H75⟩
  rintro ⟨cs, ⟨C, cc⟩, r⟩ τ w118 ⟨⟨hcs, hrl, hcm⟩, H118⟩
  dsimp only at hcs hrl hcm H118
  rw [hcs] at hres
  simp only [upds, like, upd_ds]
  refine FW_seq (Sr (Mv ?_))
  refine Mv ?_
  refine Vv (Gives.geq rfl rfl) (Mv ?_)
  refine FL_splitP (t := 72) rfl (fun hs123 => ?_) (fun hs123 => ?_)
  · rw [if_pos (.inl (by omega))] at hres
    refine Of (Of (Of (Of (Pt ?_))))
    refine Qn (FW_cond_true rfl ?_)
    refine Sr (Vv (Gives.build (out := [.slice none 0 0, .slice none 0 0, I 0]) Fills.nil) (Mv ?_))
    refine FL_storeAll H118 (h := fun w129 H129 => ?_)
    refine Am ?_
    refine Am ?_
    refine Qn (Rs (QfnC_ret (h := ?_)))
    exact ⟨_, resC3 H129, _, by rw [hres]; rfl, trivial, by rw [hres]; exact Sep_plan0 H129⟩
  refine On (Vf ?_)
  refine On (Ld H118 ?_)
  refine On (Vs ?_)
  refine On (Ve ?_)
  refine Pf ?_
  refine Qn (Cp rfl (fun hc138 => ?_) (fun hc138 => ?_))
  · rw [if_pos (.inr (by omega))] at hres
    refine Sr (Vv (Gives.build (out := [.slice none 0 0, .slice none 0 0, I 0]) Fills.nil) (Mv ?_))
    refine FL_storeAll H118 (h := fun w143 H143 => ?_)
    refine Am ?_
    refine Am ?_
    refine Qn (Rs (QfnC_ret (h := ?_)))
    exact ⟨_, resC3 H143, _, by rw [hres]; rfl, trivial, by rw [hres]; exact Sep_plan0 H143⟩
  rw [if_neg (by omega)] at hres
  obtain ⟨lg, hlg⟩ := get_some (l := L) (i := 1 + cs.length) (by omega)
  rw [getD_of hlg] at hres
  have hlgl := hlm lg (List.mem_of_getElem? hlg)
  refine Sk (Sr (Mv ?_))
  refine Mv ?_
  refine Vv (Gives.idxR (l := L) (enc := textCells) (i := 1 + cs.length) rfl rfl (Sep_rdD H118 At4) (by omega)) (Vv (Gives.loadW (i := 1 + cs.length) (f := 0) rfl (Sep_rdD H118 At4) hlg rfl) ?_)
  refine FL_call (group_ok23 lg (by omega)) rfl rfl (fun v' w153 hv => ?_)
  obtain ⟨⟨gn, rfl, hgn⟩, hkk⟩ := hv
  have H153 := H118.keep hkk
  refine Mv ?_
  refine Vx ?_
  refine Vx ?_
  refine Am ?_
  refine Am ?_
  refine Qn (FW_seq (Sr (Mv ?_)))
  refine Vv (Gives.not rfl) (Qn ?_)
  refine Cd rfl (fun hc161 => ?_) (fun hc161 => ?_)
  · have hgo : groupL lg = none := by
      cases h : groupL lg with
      | none => rfl
      | some u => rw [h] at hc161; exact absurd hc161 (by simp)
    rw [hgo] at hres
    dsimp only at hres
    refine Sr (Vv (Gives.build (out := [.slice none 0 0, .slice none 0 0, I 0]) Fills.nil) (Mv ?_))
    refine FL_storeAll H153 (h := fun w166 H166 => ?_)
    refine Am ?_
    refine Am ?_
    refine Qn (Rs (QfnC_ret (h := ?_)))
    exact ⟨_, resC3 H166, _, by rw [hres]; rfl, trivial, by rw [hres]; exact Sep_plan0 H166⟩
  obtain ⟨g, hg⟩ := Option.isSome_iff_exists.1 (show (groupL lg).isSome = true by simpa using hc161)
  obtain rfl := hgn g hg
  rw [hg] at hres
  dsimp only at hres
  refine Sk (FW_seq (Sr (Mv ?_)))
  refine Vv (Gives.addI (c := ((1 + cs.length + 1 : Nat) : Int)) rfl rfl (by omega) (by omega)) (Mv ?_)
  refine Vs ?_
  refine Vl ?_
  refine Qn (Cp rfl (fun hc176 => ?_) (fun hc176 => ?_))
  · rw [if_pos (by omega)] at hres
    refine Sr (Vv (Gives.build (out := [.slice none 0 0, .slice none 0 0, I 0]) Fills.nil) (Mv ?_))
    refine Vv (Gives.addI (c := ((1 + cs.length + 1 : Nat) : Int)) rfl rfl (by omega) (by omega)) (FL_storeAll H153 (h := fun w182 H182 => ?_))
    refine Am ?_
    refine Am ?_
    refine Qn (Rs (QfnC_ret (h := ?_)))
    exact ⟨_, resC3 H182, _, by rw [hres]; rfl, trivial, by rw [hres]; exact Sep_plan0 H182⟩
  rw [if_neg (by omega)] at hres
  refine Sk (Sr (Mv ?_))
  refine Vf ?_
  refine FL_store H153 (h := fun w190 H190 => ?_)
  refine Qn (FW_seq (Sr (FL_loadAll H190 (h := ?_))))
  have hfw : StepsFit lw := where_fit hwv
  have hfc : ∀ o ∈ cs, StepsFit o.steps := by rw [← hcs]; exact cols_fit _
  have hpl : PlanIn w190 (agg [.slice W lw.length cw, .slice C r.length cc, I gn]) ⟨lw, cs, gn⟩ := ⟨_, _, rfl, Sep.sees H190 At3, r, Sep_in H190 At1, Sep.sees H190 At0⟩
  refine FL_callQ H190 (textPR_ok hpl hfw hfc) (h := fun w193 H193 k192 => ?_)
  refine Mv ?_
  refine Vx ?_
  refine Vx ?_
  refine Am ?_
  refine Am ?_
  refine Nx (Mv ?_)
  refine Vn ?_
  refine Qn (Cp rfl (fun hc201 => ?_) (fun hc201 => ?_))
  · have hmy : mayP ⟨lw, cs, gn⟩ = false := by
      cases h : mayP ⟨lw, cs, gn⟩ with
      | false => rfl
      | true => exact absurd (show (textP ⟨lw, cs, gn⟩).2 = 0 by unfold textP; rw [if_neg (by rw [h]; decide)]) hc201
    have hte : textP ⟨lw, cs, gn⟩ = ([], 2) := if_pos hmy
    rw [if_pos hmy] at hres
    refine Sr (Vv (Gives.build (out := [.slice none 0 0, .slice none 0 0, I 0]) Fills.nil) (Mv ?_))
    refine FL_storeAll H193 (h := fun w206 H206 => ?_)
    refine Am ?_
    refine Am ?_
    refine Qn (Rs (QfnC_ret (h := ?_)))
    exact ⟨_, resC3 H206, _, by rw [hres, hte]; rfl, trivial, by rw [hres]; exact Sep_plan0 H206⟩
  have hmy : ¬ mayP ⟨lw, cs, gn⟩ = false := fun h => hc201 (by rw [show textP ⟨lw, cs, gn⟩ = ([], 2) from if_pos h]; decide)
  rw [if_neg hmy] at hres
  refine Sk (Sr (FL_loadAll H193 (h := ?_)))
  refine FL_storeAll H193 (h := fun w213 H213 => ?_)
  refine Am ?_
  refine Am ?_
  refine Qn (FW_ret (QfnC_ret (h := ?_)))
  exact ⟨_, resC3 H213, _, by rw [hres]; rfl, trivial, by rw [hres]; exact (Sep_plan (H213.front1.front3)).first.turn⟩
end
end Go.Proofs.YtolaedhdjcnijaaGreatDoor
namespace Go.Mw
open Go.RowKit
section
variable {P : Program} {r : Option Nat} {n : Nat} {ops : Array Oper} {Q : Post} {rest : List Oper} {σ : St} {w w₀ : World} {S : Nat → Prop} {rs : List HP} {put : HP → List HP} {ty : TypeId} {pos : String} {after : Array Edge} {lv : List Bool} {pd : List (Nat × Bool)} {guard : Option (Nat × Bool)}
theorem step_callN (hok : okOps n ops = true) (e : Nat) (pd' : List (Nat × Bool)) {d : Nat} {f : FuncId} {xs : List Operand} {ats : Array TypeId} {vals : List Value} {α : Type} {val : α → Value} {φ : α → Prop} {q : α → HP} [he : Enters P f] (H : Sep w₀ S rs w)
    (hc : Rets P f vals w fun v w' => ∃ x, v = val x ∧ φ x ∧ Turn noB (q x) w w')
    (ho : ops[e]? = some { dst := some d, op := .call { callee := .value (.func f), args := xs.toArray, argTypes := ats }, type := ty, pos := pos, after := after, guard := guard } := by exact rfl)
    (hw : Region.wanted { dst := some d, op := .call { callee := .value (.func f), args := xs.toArray, argTypes := ats }, type := ty, pos := pos, after := after, guard := guard } (yieldF ops σ) = true := by kernel_rfl) (hv : xs.map (evF σ) = vals := by exact rfl) (hck : effectIn ops lv (pd.map (·.1)) e = true := by kernel_rfl)
    (hpd : pd.filter (fun p => !((above ops e).contains p.1)) = pd' := by kernel_rfl) (h : ∀ x w', φ x → Sep w₀ S (q x :: rs) w' → Kept noB w w' → Stab P ops (upd σ d (val x)) w' pd' ∧ FG P r n ops Q (lv.set e true) pd' (upd σ d (val x)) w') : EffStep P r n ops Q lv pd σ w e := by
  refine step_call hok e pd' ho hw hc hv hck hpd fun v' w' ⟨x, h1, hφ, hk, F', hq, hs⟩ => ?_
  subst h1
  exact h x w' hφ (H.new hk hq fun b hb => (hs b hb).resolve_left id) hk
end
end Go.Mw
