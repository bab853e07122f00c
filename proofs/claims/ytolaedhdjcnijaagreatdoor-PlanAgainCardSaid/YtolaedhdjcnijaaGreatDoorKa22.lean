/-
 The program's Parse of a plan, walked: the whole.
-/
import Derived.Test.YtolaedhdjcnijaaGreatDoorKa21
import Derived.Test.YtolaedhdjcnijaaGreatDoorKa18
import Derived.Test.YtolaedhdjcnijaaGreatDoorKa19
import Derived.Test.YtolaedhdjcnijaaGreatDoorKa17
set_option linter.unusedVariables false
set_option linter.unusedSimpArgs false
namespace Go.Mw
open Go.RowKit
theorem resACC {P : Program} {T U V : TypeId} {k : Nat} [Agg P T k] [OneCell P U] [OneCell P V] {σ : St} {w : World} {a b c x y z : Nat} {us : List Value} {v u : Value} {E F G : TypeId} (hx : w.heap[x]? = some (.cells us.toArray E (0, 0))) (hy : w.heap[y]? = some (.cells [v].toArray F (0, 0))) (hz : w.heap[z]? = some (.cells [u].toArray G (0, 0)))
    (hk : us.length = k := by exact rfl) (ha : σ a = .pointer (some ⟨x, 0, none⟩) := by exact rfl) (hb : σ b = .pointer (some ⟨y, 0, none⟩) := by exact rfl) (hc : σ c = .pointer (some ⟨z, 0, none⟩) := by exact rfl) : ResAll P σ w [.cell a T, .cell b U, .cell c V] [.agg us.toArray, v, u] :=
  ⟨_, [v, u], ⟨x, 0, none⟩, rfl, ha, loadVar_blkN (k := k) hx (us := us) (by rw [List.drop_zero, ← hk, List.take_length]) hk, v, [u], ⟨y, 0, none⟩, rfl, hb, load_one hy, u, [], ⟨z, 0, none⟩, rfl, hc, load_one hz, rfl⟩
end Go.Mw
namespace Go.Proofs.YtolaedhdjcnijaaGreatDoor
open Go Go.Mw Go.Lib
set_option maxRecDepth 4000
theorem rowIn_none {α : Type} {w : World} {enc : α → List Value} {k : Nat} : RowIn w (.slice none 0 0) enc k [] := ⟨none, 0, rfl, ⟨Nat.le_refl _, by decide⟩, RowAt.nil _ _ _⟩
theorem plan0_in (w : World) : PlanIn w (agg [.slice none 0 0, .slice none 0 0, I 0]) plan0 := ⟨_, _, rfl, rowIn_none, [], rowIn_none, RawOf.nil⟩
section
variable {w w₀ : World} {S : Nat → Prop} {rs : List HP}
theorem Sep_plan0 {F : Nat → Prop} (H : Mw.Sep w₀ F rs w) : Turn F (planH (agg [.slice none 0 0, .slice none 0 0, I 0]) plan0) w₀ w := (Sep.lookNew H plan0_in).first.turn
theorem Sep_readPlan {b : Nat} {p : PlanM} {st : Int} {vw vc : Value} {r : List (List UInt8 × Value)} (H : Mw.Sep w₀ S (blk b [vw, vc, I p.group, I st] 74 :: seeH vw stepCells 3 p.wh :: rowD 53 2 outCells vc r :: rawsH r p.cols :: rs) w) : PlanIn w (agg [vw, vc, I p.group]) p :=
 ⟨vw, vc, rfl, Sep.sees H At1, r, Sep_in H At2, Sep.sees H At3⟩
theorem parsePE_ok (s : List UInt8) (hl : s.length ≤ 900000 ∨ 1048576 < s.length) (hmx : s.length ≤ 1000000000) (hT : TabsX w) : Rets Tryz.prog 15 [str s] w fun v w' => ∃ x, v = .tuple #[x, I (parseP s).2.1, I (parseP s).2.2] ∧ True ∧ Turn noB (planH x (parseP s).1) w w' := by
  have H := Sep.start0 w
  obtain ⟨res, hres⟩ : ∃ res, res = parseP s := ⟨_, rfl⟩
  rw [← hres]
  refine retsD1 Tryz.func15 rfl rfl rfl rfl ?_
  refine Sr (FL_alloc H (h := fun b2 w2 H2 k1 => ?_))
  refine FL_alloc H2 (h := fun b3 w4 H4 k3 => ?_)
  refine FL_alloc H4 (h := fun b4 w6 H6 k5 => ?_)
  refine Qn (FW_seq (Sr (Mv ?_)))
  refine Vt ?_
  refine Vg ?_
  refine Qn (Cp rfl (fun hc10 => ?_) (fun hc10 => ?_))
  · unfold parseP at hres
    rw [if_pos (by omega)] at hres
    refine Sr (Vv (Gives.build (out := [.slice none 0 0, .slice none 0 0, I 0]) Fills.nil) (FL_storeAll H6 (h := fun w14 H14 => ?_)))
    refine FL_store H14 (h := fun w16 H16 => ?_)
    refine FL_store H16 (h := fun w18 H18 => ?_)
    refine Qn (Rs (QfnD_ret (h := ?_)))
    exact ⟨[_, I 0, I 5], resACC (H18.obj At2) (H18.obj At1) (H18.obj At0), _, by rw [hres]; rfl, trivial, by rw [hres]; exact Sep_plan0 H18⟩
  have hle : s.length ≤ 900000 := by omega
  have hsl : s.length ≤ 1048576 := by omega
  refine Sk (Sr (FL_alloc H6 (h := fun b5 w22 H22 k21 => ?_)))
  refine Qn (FW_seq (Sr (Mv ?_)))
  refine FL_call (Lines_ok s) rfl rfl (fun v' w25 hv => ?_)
  obtain ⟨bS, rfl, _, hkk, F1, hq, hsub⟩ := hv
  have H25 := H22.new hkk hq (fun b hb => (hsub b hb).resolve_left id)
  refine Qn (FW_block ?_)
  have hmany := raw_many s
  have HJ : Mw.Sep w noB (plJ b2 b3 b4 b5 [] :: [blk bS [str s] 9]) w25 := by
    have h0 : Mw.Sep w noB (seeH (.slice none 0 0) stepCells 3 [] :: _) w25 := Sep.lookNew H25 fun _ => rowIn_none
    have h1 := ((Sep_rawNil (Sep.nilD h0 53 2 outCells)).front1.front2).front4
    have h2 := ((Sep_readH (p := plan0) h1).front2.front3).front4
    exact Sep.pack0 (p := fun z : List (List UInt8) × PlanM × Int => starL [pureH (([] : List (List UInt8)) = z.1.map endL ∧ runG z.1 = some (z.2.1, z.2.2)), blk b2 [.slice none 0 0, .slice none 0 0, I 0] 25, blk b3 [I (([] : List (List UInt8)).length : Nat)] 3, blk b4 [I 0] 27, readH b5 z.2.1 z.2.2]) ([], plan0, 0) (Sep.bundle (l := [pureH (([] : List (List UInt8)) = ([] : List (List UInt8)).map endL ∧ runG [] = some (plan0, 0)), _, _, _, _]) (Sep.addPure ⟨rfl, rfl⟩ h2))
  refine FW_rangeF (gf := 88) (lb := [selfP bS]) str (rawL s) (plJ b2 b3 b4 b5) (plL b2 b3 b4) _ HJ rfl rfl ?_ ?_ ?_ ?_
  · intro l D ro rb pre x Fr W hpre HW
    have hxm : x ∈ rawL s := hpre.subset (List.mem_append_right pre (List.mem_singleton.2 rfl))
    have hxl := raw_len hxm
    have hpl : pre.length + 1 ≤ s.length + 1 := by have := hpre.length_le; rw [List.length_append, List.length_singleton] at this; omega
    refine FW_region (Am ?_)
    refine FL_nil (Qassign_normal ?_)
    refine ⟨[], HW, fun WB HB => ?_⟩
    have HB2 : Mw.Sep w noB (obj l rb :: obj D (.deferred (some [])) :: plJ b2 b3 b4 b5 pre :: Fr) WB := HB
    replace HB2 := HB2.front2
    unfold plJ at HB2
    obtain ⟨⟨ls, p, st⟩, HB2⟩ := HB2.ex0
    obtain ⟨⟨hpm, hrun⟩, HB3⟩ := (HB2.parts).pure0
    dsimp only at hpm hrun HB3
    obtain ⟨hpc, hst, hfit⟩ := run_good ls hrun
    replace HB := HB3
    refine FW_block (Sr (Mv ?_))
    refine FL_callS (cutSuffix_ok x (by omega)) (h := ?_)
    refine Mv ?_
    refine Vx ?_
    refine Vx ?_
    refine Am ?_
    refine Am ?_
    refine Qn (FW_seq (Sr (Mv ?_)))
    refine Vv (Gives.not rfl) (Mv ?_)
    refine FL_split (t := 25) rfl (fun hs41 => ?_) (fun hs41 => ?_)
    · have hsuf : Lib.hasSuffix x [10] = false := by simpa using hs41
      have hno : ∀ l, x ≠ endL l := by
        rcases trim_suf x with ⟨_, _, _, h⟩ | ⟨h, _⟩
        · rw [hsuf] at h; cases h
        exact h
      have hbad : ∃ ls p st, pre = ls.map endL ∧ runG ls = some (p, st) ∧ ((∃ l, x = endL l ∧ lineT p st l = none) ∨ ∀ l, x ≠ endL l) := ⟨ls, p, st, hpm, hrun, .inr hno⟩
      refine Of (Of (Of (Pt ?_)))
      refine Qn (FW_cond_true rfl ?_)
      refine FW_seq (FW_drawS rfl HB (h := fun hok44 w46 H46 => ?_))
      refine Gp hok44 0 rfl rfl (fun _ => (Gives.build (out := [.slice none 0 0, .slice none 0 0, I 0]) Fills.nil)) (FGload hok44 1 H46 (h := ?_))
      refine FGstoreAll hok44 2 [(1, false)] H46 (h := fun w50 H50 => ⟨Stab_load H50 (h := Stab_nil), ?_⟩)
      refine FGstore hok44 3 [] H50 (h := fun w52 H52 => ⟨Stab_nil, ?_⟩)
      refine FGstore hok44 4 [] H52 (h := fun w54 H54 => ⟨Stab_nil, ?_⟩)
      refine FG_end hok44 (by kernel_rfl) ?_
      refine Qseq_normal (Rs (Qblk_ret (Qleave_ret ?_)))
      exact (Sep.bundle (l := [pureH (∃ ls p st, pre = ls.map endL ∧ runG ls = some (p, st) ∧ ((∃ l, x = endL l ∧ lineT p st l = none) ∨ ∀ l, x ≠ endL l)), _, _, _]) (rs := [_, _]) (Sep.addPure hbad ((H54.front3).drop0.firsts (l := [_, _, _, _, _])))).back2
    have hsuf : Lib.hasSuffix x [10] = true := by simpa using hs41
    obtain ⟨l0, hx0, htrim⟩ : ∃ l0, x = endL l0 ∧ Lib.trimSuffix x [10] = l0 := by
      rcases trim_suf x with ⟨l0, h1, h2, _⟩ | ⟨_, _, h⟩
      · exact ⟨l0, h1, h2⟩
      rw [hsuf] at h; cases h
    have hl0 : l0.length ≤ s.length + 1 := by have h1 := hxl; rw [hx0] at h1; unfold endL at h1; rw [List.length_append, List.length_singleton] at h1; omega
    have hpl2 : ls.length = pre.length := by rw [hpm, List.length_map]
    rw [htrim]
    refine On (Mv ?_)
    refine On ?_
    obtain ⟨F0, hp0, hS0, hput0⟩ := HB.focus At3
    refine FL_call (line_ok l0 hp0 hst (by omega) (by omega) fun w' hk => hT.keep (HB.kept.trans hk hS0)) rfl rfl (fun v' w59 hv => ?_)
    obtain ⟨rfl, hkk, F1, hq, hsub⟩ := hv
    have H59 := hput0 _ F1 _ hkk hq hsub
    refine On (Vv (Gives.not rfl) (Pf ?_))
    refine Qn (Cd rfl (fun hc62 => ?_) (fun hc62 => ?_))
    · have hnone : lineT p st l0 = none := by
        have h1 := hc62
        cases hq : lineT p st l0 with
        | none => rfl
        | some y => rw [hq] at h1; cases h1
      have hbad : ∃ ls p st, pre = ls.map endL ∧ runG ls = some (p, st) ∧ ((∃ l, x = endL l ∧ lineT p st l = none) ∨ ∀ l, x ≠ endL l) := ⟨ls, p, st, hpm, hrun, .inl ⟨l0, hx0, hnone⟩⟩
      refine FW_seq (FW_drawS rfl H59 (h := fun hok64 w66 H66 => ?_))
      refine Gp hok64 0 rfl rfl (fun _ => (Gives.build (out := [.slice none 0 0, .slice none 0 0, I 0]) Fills.nil)) (FGload hok64 1 H66 (h := ?_))
      refine FGstoreAll hok64 2 [(1, false)] H66 (h := fun w70 H70 => ⟨Stab_load H70 (h := Stab_nil), ?_⟩)
      refine FGstore hok64 3 [] H70 (h := fun w72 H72 => ⟨Stab_nil, ?_⟩)
      refine FGstore hok64 4 [] H72 (h := fun w74 H74 => ⟨Stab_nil, ?_⟩)
      refine FG_end hok64 (by kernel_rfl) ?_
      refine Qseq_normal (Rs (Qblk_ret (Qleave_ret ?_)))
      exact (Sep.bundle (l := [pureH (∃ ls p st, pre = ls.map endL ∧ runG ls = some (p, st) ∧ ((∃ l, x = endL l ∧ lineT p st l = none) ∨ ∀ l, x ≠ endL l)), _, _, _]) (rs := [_, _]) (Sep.addPure hbad ((H74.front3).drop0.firsts (l := [_, _, _, _, _])))).back2
    obtain ⟨⟨p', st'⟩, hl1⟩ : ∃ y, lineT p st l0 = some y := by
      have h1 := hc62
      cases hq : lineT p st l0 with
      | none => rw [hq] at h1; cases h1
      | some y => exact ⟨y, rfl⟩
    rw [hl1] at H59
    have hpm2 : pre ++ [x] = (ls ++ [l0]).map endL := by rw [List.map_append, hpm, hx0]; rfl
    have hrun2 : runG (ls ++ [l0]) = some (p', st') := by rw [run_snoc, hrun]; exact hl1
    refine Sk (FW_region (Ld H59 ?_))
    refine Vv (Gives.addI (c := (((pre ++ [x]).length : Nat) : Int)) rfl rfl (by rw [List.length_append, List.length_singleton]; omega) (by rw [List.length_append, List.length_singleton]; omega)) ?_
    refine FL_store H59 (h := fun w80 H80 => ?_)
    refine FL_nil (Qblk_normal (Qleave_normal ?_))
    exact (Sep.pack0 (p := fun z : List (List UInt8) × PlanM × Int => starL [pureH (pre ++ [x] = z.1.map endL ∧ runG z.1 = some (z.2.1, z.2.2)), blk b2 [.slice none 0 0, .slice none 0 0, I 0] 25, blk b3 [I ((pre ++ [x]).length : Nat)] 3, blk b4 [I 0] 27, readH b5 z.2.1 z.2.2]) (ls ++ [l0], p', st') (Sep.bundle (l := [pureH (pre ++ [x] = (ls ++ [l0]).map endL ∧ runG (ls ++ [l0]) = some (p', st')), _, _, _, _]) (Sep.addPure ⟨hpm2, hrun2⟩ H80))).back2
  · intro l D ro rj W HW hy
    exact lines_iter hsl HW hy
  rotate_left 1
  · intro D W pre x hpre HD
    obtain ⟨⟨ls, p, st, hpm, hrun, hbad⟩, HD2⟩ := ((HD.front1).parts).pure0
    subst hpm
    rw [fail_line hsl hpre hrun hbad] at hres
    exact Qblk_ret (Qseq_ret (QfnD_one HD2 At3 (fun w1 H1 => ⟨[_, _, I 4], resACC (H1.obj At0) (H1.obj At1) (H1.obj At2), _, by rw [hres]; rfl, trivial, by rw [hres]; exact Sep_plan0 H1⟩)))
  intro D w83 H83
  have H83 := H83.front1
  unfold plJ at H83
  obtain ⟨⟨ls, p, st⟩, H83⟩ := H83.ex0
  obtain ⟨⟨hpm, hrun⟩, H83⟩ := (H83.parts).pure0
  dsimp only at hpm hrun H83
  obtain ⟨hpc, hst, hfit⟩ := run_good ls hrun
  obtain ⟨hwhole, hls⟩ := raw_all hpm
  have hfin := parse_done hsl hwhole (by rw [hls]; exact hrun)
  rw [← hres, hls] at hfin
  have hlen : (rawL s).length = ls.length := by rw [hpm, List.length_map]
  rw [hlen] at H83
  obtain ⟨vw, vc, r, H83⟩ := Sep_unread (H83.front3)
  obtain ⟨Aw, cw, rfl, _⟩ := (Sep.sees H83 At1 : RowIn _ vw stepCells 3 p.wh)
  obtain ⟨Ac, cc, rfl, hcc, hRc⟩ := Sep.formD H83 At2 --on
  refine Qblk_normal (Qseq_normal (FW_seq (Sr (Vf ?_))))
  refine Ld H83 ?_
  refine Vn ?_
  refine Qn (Cp rfl (fun hc87 => ?_) (fun hc87 => ?_))
  · rw [if_pos hc87] at hfin
    refine FW_seq (FW_drawS rfl H83 (h := fun hok89 w91 H91 => ?_))
    refine Gp hok89 0 rfl rfl (fun _ => (Gives.build (out := [.slice none 0 0, .slice none 0 0, I 0]) Fills.nil)) (FGload hok89 1 H91 (h := ?_))
    refine FGstoreAll hok89 2 [(1, false)] H91 (h := fun w95 H95 => ⟨Stab_load H95 (h := Stab_nil), ?_⟩)
    refine FGstore hok89 3 [] H95 (h := fun w97 H97 => ⟨Stab_nil, ?_⟩)
    refine FGstore hok89 4 [] H97 (h := fun w99 H99 => ⟨Stab_nil, ?_⟩)
    refine FG_end hok89 (by kernel_rfl) ?_
    refine Qseq_normal (Rs (QfnD_one H99 At7 (hR := fun w101 H101 => ?_)))
    exact ⟨[_, _, I 4], resACC (H101.obj At4) (H101.obj At5) (H101.obj At6), _, by rw [hfin]; rfl, trivial, by rw [hfin]; exact Sep_plan0 H101⟩
  rw [if_neg hc87] at hfin
  refine Sk (FW_seq (Sr (Vf ?_)))
  refine FL_loadN H83 (us := [.slice Aw p.wh.length cw, .slice Ac r.length cc, I p.group]) (hu := rfl) (hk := rfl) (h := ?_)
  have hpl := Sep_readPlan H83
  refine FL_callQ H83 (textPE_ok hpl hfit.1 hfit.2 (by omega) (hT.keep H83.kept)) (h := fun w107 H107 k106 => ?_)
  refine Mv ?_
  refine Vx ?_
  refine Vx ?_
  refine Am ?_
  refine Am ?_
  refine Nx (Mv ?_)
  refine Vn ?_
  refine Qn (Cp rfl (fun hc115 => ?_) (fun hc115 => ?_))
  · have hmay : mayP p = false := by
      cases hq : mayP p with
      | false => rfl
      | true => have h1 := hc115; unfold textP at h1; rw [hq, if_neg (by decide)] at h1; exact absurd rfl h1
    have ht2 : (textP p).2 = 2 := by unfold textP; rw [if_pos hmay]
    rw [if_pos hmay] at hfin
    refine Sr (Vv (Gives.build (out := [.slice none 0 0, .slice none 0 0, I 0]) Fills.nil) (Mv ?_))
    refine FL_storeAll H107 (h := fun w120 H120 => ?_)
    refine FL_store H120 (h := fun w122 H122 => ?_)
    refine FL_store H122 (h := fun w124 H124 => ?_)
    refine Qn (Rs (QfnD_one H124 At7 (hR := fun w126 H126 => ?_)))
    exact ⟨[_, I 0, _], resACC (H126.obj At4) (H126.obj At5) (H126.obj At6), _, by rw [hfin, ht2]; rfl, trivial, by rw [hfin]; exact Sep_plan0 H126⟩
  have hmay : mayP p = true := by
    cases hq : mayP p with
    | true => rfl
    | false => have h1 := hc115; unfold textP at h1; rw [if_pos hq] at h1; exact absurd (by decide) h1
  rw [if_neg (by rw [hmay]; decide)] at hfin
  refine Sk (Sr (Vf ?_))
  refine FL_loadN H107 (us := [.slice Aw p.wh.length cw, .slice Ac r.length cc, I p.group]) (hu := rfl) (hk := rfl) (h := ?_)
  refine FL_storeAll H107 (h := fun w132 H132 => ?_)
  refine FL_store H132 (h := fun w134 H134 => ?_)
  refine FL_store H134 (h := fun w136 H136 => ?_)
  refine Qn (FW_ret (QfnD_one H136 At7 (hR := fun w138 H138 => ?_)))
  exact ⟨[_, I 0, I 0], resACC (H138.obj At4) (H138.obj At5) (H138.obj At6), _, by rw [hfin]; rfl, trivial, by rw [hfin]; exact (Sep_plan (g := p.group) H138.drop0).first.turn⟩
end
end Go.Proofs.YtolaedhdjcnijaaGreatDoor
namespace Go.Proofs.YtolaedhdjcnijaaGreatDoor
open Go Go.Lib Go.Mw
set_option maxRecDepth 4000
/-! The plans. -/
end Go.Proofs.YtolaedhdjcnijaaGreatDoor
namespace Go.Proofs.YtolaedhdjcnijaaGreatDoor
open Go Go.Lib Go.Mw
set_option maxRecDepth 8000
/-! The chapter's examples. -/
def smallP : List ColM := [⟨1, [], ⟨2, false⟩, cell0⟩, ⟨2, [], ⟨4, true⟩, cell0⟩, ⟨3, [], ⟨1, false⟩, cell0⟩]
def exTx : List (List UInt8) := [[119, 104, 101, 114, 101, 32, 110, 111, 110, 101, 10, 111, 117, 116, 32, 97, 32, 35, 49, 10, 111, 117, 116, 32, 98, 32, 35, 50, 32, 105, 115, 110, 117, 108, 108, 10, 103, 114, 111, 117, 112, 32, 110, 111, 110, 101, 10], [119, 104, 101, 114, 101, 32, 35, 51, 10, 111, 117, 116, 32, 115, 32, 35, 50, 10, 111, 117, 116, 32, 116, 111, 116, 97, 108, 32, 35, 49, 32, 50, 32, 42, 10, 103, 114, 111, 117, 112, 32, 49, 10], [119, 104, 101, 114, 101, 32, 35, 49, 10, 111, 117, 116, 32, 97, 32, 35, 49, 10, 103, 114, 111, 117, 112, 32, 110, 111, 110, 101, 10], [119, 104, 101, 114, 101, 32, 110, 111, 110, 101, 10, 111, 117, 116, 32, 97, 32, 35, 50, 10, 103, 114, 111, 117, 112, 32, 48, 10], [119, 104, 101, 114, 101, 32, 110, 111, 110, 101, 10, 111, 117, 116, 32, 97, 32, 35, 52, 10, 103, 114, 111, 117, 112, 32, 110, 111, 110, 101, 10]]
def exPl : List PlanM := [⟨[], [⟨[97], [⟨1, 1, []⟩]⟩, ⟨[98], [⟨1, 2, []⟩, ⟨16, 0, []⟩]⟩], -1⟩, ⟨[⟨1, 3, []⟩], [⟨[115], [⟨1, 2, []⟩]⟩, ⟨[116, 111, 116, 97, 108], [⟨1, 1, []⟩, ⟨2, 2, []⟩, ⟨9, 0, []⟩]⟩], 1⟩,
 ⟨[⟨1, 1, []⟩], [⟨[97], [⟨1, 1, []⟩]⟩], -1⟩, ⟨[], [⟨[97], [⟨1, 2, []⟩]⟩], 0⟩, ⟨[], [⟨[97], [⟨1, 4, []⟩]⟩], -1⟩]
def exCh : List (List ColM × Int) := [([⟨1, [97], ⟨3, false⟩, cell0⟩, ⟨2, [98], ⟨1, false⟩, cell0⟩], 0), ([⟨1, [115], ⟨4, true⟩, ⟨true, 0, []⟩⟩, ⟨2, countW, ⟨3, false⟩, cell0⟩, ⟨3, [116, 111, 116, 97, 108], ⟨3, false⟩, cell0⟩], 0), ([], 230), ([], 230), ([], 220)]
theorem ex_may : exPl.all mayP = true ∧ exPl.map (fun p => unlines (linesP p)) = exTx := by decide +kernel
theorem ex_check : exPl.map (checkP smallP) = exCh ∧ checkP smallP ⟨[], [⟨countW, [⟨1, 1, []⟩]⟩], 0⟩ = ([], 230) := by decide +kernel
def noTx : List (List UInt8 × Int × Int) := [([119, 104, 101, 114, 101, 32, 110, 111, 110, 101, 10, 111, 117, 116, 32, 97, 32, 35, 49, 10, 111, 117, 116, 32, 97, 32, 35, 49, 10, 103, 114, 111, 117, 112, 32, 110, 111, 110, 101, 10], 0, 2), ([119, 104, 101, 114, 101, 32, 110, 111, 110, 101, 10, 103, 114, 111, 117, 112, 32, 110, 111, 110, 101, 10], 1, 4), ([119, 104, 101, 114, 101, 32, 110, 111, 110, 101, 10, 111, 117, 116, 32, 97, 32, 35, 49, 10], 2, 4), ([119, 104, 101, 114, 101, 32, 110, 111, 110, 101, 10, 111, 117, 116, 32, 97, 32, 35, 49, 10, 103, 114, 111, 117, 112, 32, 50, 10], 0, 2), ([119, 104, 101, 114, 101, 10], 0, 4), ([], 0, 4), ([119, 104, 101, 114, 101, 32, 110, 111, 110, 101, 10, 111, 117, 116, 32, 97, 32, 35, 49, 10, 103, 114, 111, 117, 112, 32, 48, 49, 10], 2, 4)]
theorem ex_none : ∀ x ∈ noTx, parseP x.1 = (plan0, x.2.1, x.2.2) := by
 decide +kernel
end Go.Proofs.YtolaedhdjcnijaaGreatDoor
namespace Go.Proofs.YtolaedhdjcnijaaGreatDoor
open Go Go.Mw Go.Lib
set_option maxRecDepth 4000
theorem where_fit {s : List UInt8} {w : List StepM} (h : whereL s = some w) : StepsFit w := by
 unfold whereL at h
 obtain ⟨t, _, h⟩ := Option.bind_eq_some_iff.1 h
 split at h
 ·cases h
 split at h
 ·injection h with h; subst h; exact fun x hx => absurd hx List.not_mem_nil
 split at h
 ·injection h with h; subst h; exact parse_fits t
 cases h
theorem out_fit {s : List UInt8} {o : OutM} (h : outL s = some o) : StepsFit o.steps := by
 unfold outL at h
 obtain ⟨t, _, h⟩ := Option.bind_eq_some_iff.1 h
 obtain ⟨x, _, h⟩ := Option.bind_eq_some_iff.1 h
 split at h
 ·injection h with h; subst h; exact parse_fits _
 cases h
theorem cols_fit : ∀ ls : List (List UInt8), ∀ o ∈ colsL ls, StepsFit o.steps
 | [], o, ho => absurd ho List.not_mem_nil
 | s :: l, o, ho => by
  rw [colsL] at ho
  cases hs : outL s with
  | none => rw [hs] at ho; exact absurd ho List.not_mem_nil
  | some x =>
   rw [hs] at ho
   rcases List.mem_cons.1 ho with rfl | ho
   ·exact out_fit hs
   exact cols_fit l o ho
theorem fit0 : AllFit plan0 ∧ plan0.cols.length ≤ 16 := ⟨⟨fun x hx => absurd hx List.not_mem_nil, fun o ho => absurd ho List.not_mem_nil⟩, by decide⟩
theorem parse_small (s : List UInt8) : AllFit (parseP s).1 ∧ (parseP s).1.cols.length ≤ 16 := by
 unfold parseP
 split
 ·exact fit0
 dsimp only
 obtain ⟨many, hmany⟩ : ∃ m, m = if (linesL s).2 = true then (linesL s).1.length else (linesL s).1.length - 1 := ⟨_, rfl⟩
 rw [← hmany]
 split
 ·exact fit0
 split
 ·exact fit0
 rename_i wv hw
 split
 ·exact fit0
 split
 ·exact fit0
 split
 ·exact fit0
 split
 ·exact fit0
 rename_i hm
 have hm' := (may_parts.1 (eq_true_of_ne_false hm)).1
 exact ⟨⟨where_fit hw, cols_fit _⟩, (named_cols hm').1.2.1⟩
def slash (l : List UInt8) : List UInt8 := l.flatMap fun c => if c = 47 then [10] else [c]
theorem slash_len (l : List UInt8) : (slash l).length = l.length := by
 unfold slash
 induction l with
 | nil => rfl
 | cons c l ih => rw [List.flatMap_cons, List.length_append, ih, List.length_cons]; split <;> simp <;> omega
def back (l : List UInt8) : List UInt8 := l.map fun c => if c = 10 then 47 else c
def slTx : List (List UInt8) := exTx.map back
def slNo : List (List UInt8) := noTx.map fun x => back x.1
theorem sl_ex : slTx.map slash = exTx ∧ slNo.map slash = noTx.map (·.1) := by decide +kernel
theorem ex_parse (i : Nat) {s : List UInt8} {p : PlanM} (hs : slTx[i]? = some s) (hp : exPl[i]? = some p) : parseP (slash s) = (p, 0, 0) := by
 have h1 : (exTx)[i]? = some (slash s) := by rw [← sl_ex.1, List.getElem?_map, hs]; rfl
 rw [← ex_may.2, List.getElem?_map, hp] at h1
 injection h1 with h1
 have hm := List.all_eq_true.1 ex_may.1 p (List.mem_of_getElem? hp)
 have hf : AllFit p := by
  have key : ∀ q ∈ exPl, AllFit q := by
   unfold exPl
   intro q hq
   simp only [List.mem_cons, List.not_mem_nil, or_false] at hq
   rcases hq with rfl | rfl | rfl | rfl | rfl <;>
   ·refine ⟨fun x hx => ?_, fun o ho x hx => ?_⟩
    ·simp at hx
     try (rcases hx with rfl | rfl | rfl)
     all_goals (first | (subst hx; unfold fits; decide) | (unfold fits; decide))
    simp at ho
    first
    | (rcases ho with rfl | rfl <;> simp at hx <;> (first | (subst hx; unfold fits; decide) | (rcases hx with rfl | rfl <;> (unfold fits; decide)) | (rcases hx with rfl | rfl | rfl <;> (unfold fits; decide))))
    | (subst ho; simp at hx; subst hx; unfold fits; decide)
  exact key p (List.mem_of_getElem? hp)
 rw [← h1]
 refine plan_back hm hf.1 hf.2 ?_
 have hl : ∀ q ∈ exPl, (unlines (linesP q)).length ≤ 100 := by decide +kernel
 have := hl p (List.mem_of_getElem? hp)
 omega
theorem no_parse (i : Nat) {s x : List UInt8} {n e : Int} (hs : slNo[i]? = some s) (hx : noTx[i]? = some (x, n, e)) : parseP (slash s) = (plan0, n, e) := by
 have h1 : (noTx.map (·.1))[i]? = some (slash s) := by rw [← sl_ex.2, List.getElem?_map, hs]; rfl
 rw [List.getElem?_map, hx] at h1
 injection h1 with h1
 have := ex_none _ (List.mem_of_getElem? hx)
 rw [← h1]
 exact this
section
variable {w : World}
end
theorem plan_form {w : World} {v : Value} {p : PlanM} (h : PlanIn w v p) : ∃ A a B b, v = agg [.slice A p.wh.length a, .slice B p.cols.length b, I p.group] := by
 obtain ⟨vw, vc, rfl, ⟨A, a, rfl, _⟩, r, ⟨B, b, rfl, _⟩, hr⟩ := h
 exact ⟨A, a, B, b, by rw [hr.len]⟩
section
variable {w : World}
theorem replaceSl_ok (l : List UInt8) (hl : l.length ≤ 10000000) (hT : TabsX w) : Rets Tryz.prog 98 [str l, str [47], str [10]] w fun v w' => v = str (slash l) ∧ Kept noB w w' := by
 obtain ⟨m, hm⟩ := hT.len
 have h1 := Lib.countB_le ⟨#[47]⟩ (by decide) l.length ⟨l.toArray⟩ (by rw [Mw.size_mk]; exact Nat.le_refl _)
 rw [Mw.size_mk] at h1
 have := rets_below (Tryz.strings_ReplaceAll ⟨l.toArray⟩ ⟨#[47]⟩ ⟨#[10]⟩ m w (by rw [Mw.size_mk]; omega) hm (by decide) (by
  rw [Mw.size_mk]
  show l.length + Lib.countB ⟨l.toArray⟩ ⟨#[47]⟩ * 1 ≤ _
  omega))
 have e : Lib.replaceAll l [47] [10] = slash l := replaceAll_one 47 _ l (by decide)
 rw [← e]
 exact this
theorem read_ok (s : List UInt8) {p : PlanM} (hs : s.length ≤ 1000) (hp : parseP (slash s) = (p, 0, 0)) (hT : TabsX w) : Rets Tryz.prog 97 [str s] w fun v w' => ∃ x, v = .tuple #[x, .bool true] ∧ True ∧ Turn noB (planH x p) w w' := by
 have H := Sep.start0 w
 have hsl := slash_len s
 refine retsC1 Tryz.func97 rfl rfl rfl rfl ?_
 refine Sr (FL_alloc H (h := fun b2 w2 H2 k1 => ?_))
 refine Am ?_
 refine Nx (Mv ?_)
 refine FL_callQ H2 (replaceSl_ok s (by omega) (hT.keep H2.kept)) (h := fun w6 H6 k5 => ?_)
 refine FL_callN H6 (parsePE_ok (slash s) (.inl (by omega)) (by omega) (hT.keep H6.kept)) (h := fun x w8 _ H8 k7 => ?_)
 rw [hp] at H8 ⊢
 dsimp only at H8 ⊢
 obtain ⟨A, a, B, b, rfl⟩ := plan_form (Sep.sees H8 At0)
 refine Mv ?_
 refine Vx ?_
 refine Vx ?_
 refine Vx ?_
 refine FL_alloc H8 (h := fun b4 w14 H14 k13 => ?_)
 refine FL_storeAll H14 (h := fun w16 H16 => ?_)
 refine Am ?_
 refine Am ?_
 refine Nx (FL_loadAll H16 (h := ?_))
 refine Mv ?_
 refine Ve ?_
 refine Mv ?_
 refine FL_splitP (t := 17) rfl (fun hs23 => ?_) (fun hs23 => ?_)
 ·refine On (Mv ?_)
  refine On (Ve ?_)
  refine Pt ?_
  refine FL_storeAll H16 (h := fun w28 H28 => ?_)
  refine Am ?_
  refine Qn (FW_ret (QfnC_ret (h := ?_)))
  exact ⟨_, resC2 H28, _, rfl, trivial, H28.front1.first.turn⟩
 exact (hs23 trivial).elim
theorem smallC_ok : Rets Tryz.prog 53 [] w fun v w' => ∃ x : Nat, v = .slice (some ⟨x, 0, none⟩) 3 3 ∧ True ∧ Turn noB (blk x (smallP.flatMap colCells) 49) w w' := by
 have H := Sep.start0 w
 refine rets0 Tryz.func53 rfl rfl rfl ?_
 refine Sr (Am ?_)
 refine Nx (Vv (Gives.build (out := typeCells ⟨2, false⟩) (Fills.one rfl rfl rfl (by simp) rfl Fills.nil)) (Vv (Gives.build (out := colCells ⟨1, [], ⟨2, false⟩, cell0⟩) (Fills.one rfl rfl rfl (by simp) rfl (Fills.many rfl rfl (Nat.le_of_ble_eq_true rfl) rfl Fills.nil))) ?_))
 refine Vv (Gives.build (out := typeCells ⟨4, true⟩) (Fills.one rfl rfl rfl (by simp) rfl (Fills.one rfl rfl rfl (by simp) rfl Fills.nil))) (Vv (Gives.build (out := colCells ⟨2, [], ⟨4, true⟩, cell0⟩) (Fills.one rfl rfl rfl (by simp) rfl (Fills.many rfl rfl (Nat.le_of_ble_eq_true rfl) rfl Fills.nil))) ?_)
 refine Vv (Gives.build (out := typeCells ⟨1, false⟩) (Fills.one rfl rfl rfl (by simp) rfl Fills.nil)) (Vv (Gives.build (out := colCells ⟨3, [], ⟨1, false⟩, cell0⟩) (Fills.one rfl rfl rfl (by simp) rfl (Fills.many rfl rfl (Nat.le_of_ble_eq_true rfl) rfl Fills.nil))) ?_)
 refine FL_buildSlice H (xs := [.tmp 2, .tmp 4, .tmp 6]) (out := smallP.flatMap colCells) (Elems.many rfl rfl (Elems.many rfl rfl (Elems.many rfl rfl Elems.nil))) rfl rfl rfl (fun ba w9 H9 k8 => ?_)
 refine Am ?_
 refine Qn (FW_ret (Qfn_ret (hR := ?_)))
 exact ⟨ba, rfl, trivial, H9.turn⟩
theorem comes_ok (s : List UInt8) {p : PlanM} {cols : List ColM} {vw : Value} (hs : s.length ≤ 1000) (hp : parseP (slash s) = (p, 0, 0)) (hc : checkP smallP p = (cols, 0)) (hw : RowIn w vw colCells 7 cols) (hT : TabsX w) : Rets Tryz.prog 51 [str s, vw] w fun v w' => v = .bool true ∧ Kept noB w w' := by
 have H := Sep.start0 w
 obtain ⟨hfit, hn⟩ := parse_small (slash s)
 rw [hp] at hfit hn
 dsimp only at hfit hn
 refine rets2 Tryz.func51 rfl rfl rfl rfl ?_
 refine Sr (Am ?_)
 refine Nx (Mv ?_)
 refine FL_callN H (read_ok s hs hp (hT.keep H.kept)) (h := fun x w4 _ H4 k3 => ?_)
 obtain ⟨A, a, B, b, rfl⟩ := plan_form (Sep.sees H4 At0)
 refine Mv ?_
 refine Vx ?_
 refine Vx ?_
 refine FL_alloc H4 (h := fun b5 w9 H9 k8 => ?_)
 refine FL_storeAll H9 (h := fun w11 H11 => ?_)
 refine Am ?_
 refine Qn (FW_seq (FW_drawS rfl H11 (h := fun hok13 w15 H15 => ?_)))
 refine FGloadAll hok13 1 H15 (h := ?_)
 refine FGcallN hok13 0 [(1, false)] H15 smallC_ok (h := fun bs w18 _ H18 k17 => ⟨(Stab_cons rfl (by kernel_rfl) (Gives.loadN rfl (H18.obj At1) (us := [.slice A p.wh.length a, .slice B p.cols.length b, I p.group]) rfl rfl) rfl (Stab_nil)), ?_⟩)
 refine FGcallN hok13 2 [] H18 (checkE_ok (cols := smallP) ⟨some ⟨bs, 0, none⟩, 3, rfl, ⟨Nat.le_refl _, by decide⟩, Sep.blkRow H18 At0 rfl⟩ (Sep.sees H18 At2) hfit.1 hfit.2 (by omega) (hT.keep H18.kept)) (h := fun vo w20 _ H20 k19 => ?_)
 rw [hc] at H20 ⊢
 dsimp only at H20 ⊢
 refine ⟨Stab_nil, ?_⟩
 refine Gm hok13 3 ?_
 refine Gp hok13 4 rfl rfl (fun _ => (Gives.extract rfl rfl)) (Gp hok13 5 rfl rfl (fun _ => (Gives.extract rfl rfl)) ?_)
 refine Gp hok13 6 rfl rfl (fun _ => Gives.assign rfl) (Gp hok13 7 rfl rfl (fun _ => Gives.assign rfl) ?_)
 refine FG_end hok13 (by kernel_rfl) ?_
 refine Qseq_normal (Sr (Mv ?_))
 refine Mv ?_
 refine FL_split (t := 21) rfl (fun hs27 => ?_) (fun hs27 => ?_)
 ·refine On (Mv ?_)
  refine On (Ve ?_)
  refine Pt ?_
  refine Mv ?_
  refine FL_splitP (t := 25) rfl (fun hs32 => ?_) (fun hs32 => ?_)
  ·refine On (Mv ?_)
   refine On (Mv ?_)
   refine On (FL_callQ H20 (colsEq_ok (a := cols) (b := cols) (Sep_in H20 At0) (hw.keep H20.kept)) (h := fun w36 H36 k35 => ?_))
   refine Pt ?_
   refine Am ?_
   refine Qn (FW_ret (Qfn_ret (hR := ?_)))
   exact ⟨by simp [resPack], H36.kept⟩
  exact (hs32 trivial).elim
 exact absurd hs27 (by decide)
theorem fits_ok (s : List UInt8) {p : PlanM} {e : Int} (hs : s.length ≤ 1000) (hp : parseP (slash s) = (p, 0, 0)) (hc : checkP smallP p = ([], e)) (hT : TabsX w) : Rets Tryz.prog 52 [str s, I e] w fun v w' => v = .bool true ∧ Kept noB w w' := by
 have H := Sep.start0 w
 obtain ⟨hfit, hn⟩ := parse_small (slash s)
 rw [hp] at hfit hn
 dsimp only at hfit hn
 refine rets2 Tryz.func52 rfl rfl rfl rfl ?_
 refine Sr (Am ?_)
 refine Nx (Mv ?_)
 refine FL_callN H (read_ok s hs hp (hT.keep H.kept)) (h := fun x w4 _ H4 k3 => ?_)
 obtain ⟨A, a, B, b, rfl⟩ := plan_form (Sep.sees H4 At0)
 refine Mv ?_
 refine Vx ?_
 refine Vx ?_
 refine FL_alloc H4 (h := fun b5 w9 H9 k8 => ?_)
 refine FL_storeAll H9 (h := fun w11 H11 => ?_)
 refine Am ?_
 refine Qn (FW_seq (FW_drawS rfl H11 (h := fun hok13 w15 H15 => ?_)))
 refine FGloadAll hok13 1 H15 (h := ?_)
 refine FGcallN hok13 0 [(1, false)] H15 smallC_ok (h := fun bs w18 _ H18 k17 => ⟨(Stab_cons rfl (by kernel_rfl) (Gives.loadN rfl (H18.obj At1) (us := [.slice A p.wh.length a, .slice B p.cols.length b, I p.group]) rfl rfl) rfl (Stab_nil)), ?_⟩)
 refine FGcallN hok13 2 [] H18 (checkE_ok (cols := smallP) ⟨some ⟨bs, 0, none⟩, 3, rfl, ⟨Nat.le_refl _, by decide⟩, Sep.blkRow H18 At0 rfl⟩ (Sep.sees H18 At2) hfit.1 hfit.2 (by omega) (hT.keep H18.kept)) (h := fun vo w20 _ H20 k19 => ?_)
 rw [hc] at H20 ⊢
 dsimp only at H20 ⊢
 obtain ⟨Ao, co, rfl, _, _⟩ := Sep.formD H20 At0
 refine ⟨Stab_nil, ?_⟩
 refine Gm hok13 3 ?_
 refine Gp hok13 4 rfl rfl (fun _ => (Gives.extract rfl rfl)) (Gp hok13 5 rfl rfl (fun _ => (Gives.extract rfl rfl)) ?_)
 refine Gp hok13 6 rfl rfl (fun _ => Gives.assign rfl) (Gp hok13 7 rfl rfl (fun _ => Gives.assign rfl) ?_)
 refine FG_end hok13 (by kernel_rfl) ?_
 refine Qseq_normal (Sr (Mv ?_))
 refine Mv ?_
 refine FL_split (t := 21) rfl (fun hs27 => ?_) (fun hs27 => ?_)
 ·refine On (Mv ?_)
  refine On (Mv ?_)
  refine On (Ve ?_)
  refine Pt ?_
  refine Mv ?_
  refine FL_splitP (t := 26) rfl (fun hs33 => ?_) (fun hs33 => ?_)
  ·refine On (Mv ?_)
   refine On (Vs ?_)
   refine On (Ve ?_)
   refine Pt ?_
   refine Am ?_
   refine Qn (FW_ret (Qfn_ret (hR := ?_)))
   exact ⟨rfl, H20.kept⟩
  exact (hs33 trivial).elim
 exact absurd hs27 (by decide)
theorem fails_ok (s : List UInt8) {n e : Int} (hs : s.length ≤ 1000) (hp : parseP (slash s) = (plan0, n, e)) (hT : TabsX w) : Rets Tryz.prog 54 [str s, I n, I e] w fun v w' => v = .bool true ∧ Kept noB w w' := by
 have H := Sep.start0 w
 have hsl := slash_len s
 refine rets3 Tryz.func54 rfl rfl rfl rfl ?_
 refine Sr (Am ?_)
 refine Nx (Mv ?_)
 refine FL_callQ H (replaceSl_ok s (by omega) (hT.keep H.kept)) (h := fun w4 H4 k3 => ?_)
 refine FL_callN H4 (parsePE_ok (slash s) (.inl (by omega)) (by omega) (hT.keep H4.kept)) (h := fun x w6 _ H6 k5 => ?_)
 rw [hp] at H6 ⊢
 dsimp only at H6 ⊢
 obtain ⟨A, a, B, b, rfl⟩ := plan_form (Sep.sees H6 At0)
 refine Mv ?_
 refine Vx ?_
 refine Vx ?_
 refine Vx ?_
 refine FL_alloc H6 (h := fun b7 w12 H12 k11 => ?_)
 refine FL_storeAll H12 (h := fun w14 H14 => ?_)
 refine Am ?_
 refine Am ?_
 refine Nx (Mv ?_)
 refine Mv ?_
 refine Ve ?_
 refine Mv ?_
 refine FL_splitP (t := 20) rfl (fun hs21 => ?_) (fun hs21 => ?_)
 ·refine On (Mv ?_)
  refine On (Mv ?_)
  refine On (Ve ?_)
  refine Pt ?_
  refine Mv ?_
  refine FL_splitP (t := 25) rfl (fun hs27 => ?_) (fun hs27 => ?_)
  ·refine On (FL_loadAll H14 (h := ?_))
   refine On (Vv (Gives.build (out := [.slice none 0 0, .slice none 0 0, I 0]) Fills.nil) (On ?_))
   refine FL_callQ H14 (sameE_ok (p := plan0) (q := plan0) (Sep.sees H14 At1) (plan0_in _)) (h := fun w31 H31 k30 => ?_)
   refine Pt ?_
   refine Am ?_
   refine Qn (FW_ret (Qfn_ret (hR := ?_)))
   exact ⟨by simp [resPack], H31.kept⟩
  exact (hs27 trivial).elim
 exact (hs21 trivial).elim
end
def wq0 : List UInt8 := [119, 104, 101, 114, 101, 32, 110, 111, 110, 101, 47, 111, 117, 116, 32, 97, 32, 35, 49, 47, 111, 117, 116, 32, 98, 32, 35, 50, 32, 105, 115, 110, 117, 108, 108, 47, 103, 114, 111, 117, 112, 32, 110, 111, 110, 101, 47]
def wq1 : List UInt8 := [119, 104, 101, 114, 101, 32, 35, 51, 47, 111, 117, 116, 32, 115, 32, 35, 50, 47, 111, 117, 116, 32, 116, 111, 116, 97, 108, 32, 35, 49, 32, 50, 32, 42, 47, 103, 114, 111, 117, 112, 32, 49, 47]
def wq2 : List UInt8 := [119, 104, 101, 114, 101, 32, 35, 49, 47, 111, 117, 116, 32, 97, 32, 35, 49, 47, 103, 114, 111, 117, 112, 32, 110, 111, 110, 101, 47]
def wq3 : List UInt8 := [119, 104, 101, 114, 101, 32, 110, 111, 110, 101, 47, 111, 117, 116, 32, 97, 32, 35, 50, 47, 103, 114, 111, 117, 112, 32, 48, 47]
def wq4 : List UInt8 := [119, 104, 101, 114, 101, 32, 110, 111, 110, 101, 47, 111, 117, 116, 32, 97, 32, 35, 52, 47, 103, 114, 111, 117, 112, 32, 110, 111, 110, 101, 47]
def wn0 : List UInt8 := [119, 104, 101, 114, 101, 32, 110, 111, 110, 101, 47, 111, 117, 116, 32, 97, 32, 35, 49, 47, 111, 117, 116, 32, 97, 32, 35, 49, 47, 103, 114, 111, 117, 112, 32, 110, 111, 110, 101, 47]
def wn1 : List UInt8 := [119, 104, 101, 114, 101, 32, 110, 111, 110, 101, 47, 103, 114, 111, 117, 112, 32, 110, 111, 110, 101, 47]
def wn2 : List UInt8 := [119, 104, 101, 114, 101, 32, 110, 111, 110, 101, 47, 111, 117, 116, 32, 97, 32, 35, 49, 47]
def wn3 : List UInt8 := [119, 104, 101, 114, 101, 32, 110, 111, 110, 101, 47, 111, 117, 116, 32, 97, 32, 35, 49, 47, 103, 114, 111, 117, 112, 32, 50, 47]
def wn4 : List UInt8 := [119, 104, 101, 114, 101, 47]
def wn5 : List UInt8 := []
def wn6 : List UInt8 := [119, 104, 101, 114, 101, 32, 110, 111, 110, 101, 47, 111, 117, 116, 32, 97, 32, 35, 49, 47, 103, 114, 111, 117, 112, 32, 48, 49, 47]
theorem wq_ex : slTx = [wq0, wq1, wq2, wq3, wq4] ∧ slNo = [wn0, wn1, wn2, wn3, wn4, wn5, wn6] := by decide +kernel
theorem wq0_p : parseP (slash wq0) = (exPl.getD 0 plan0, 0, 0) := ex_parse 0 (by rw [wq_ex.1]; rfl) rfl
theorem wq1_p : parseP (slash wq1) = (exPl.getD 1 plan0, 0, 0) := ex_parse 1 (by rw [wq_ex.1]; rfl) rfl
theorem wq2_p : parseP (slash wq2) = (exPl.getD 2 plan0, 0, 0) := ex_parse 2 (by rw [wq_ex.1]; rfl) rfl
theorem wq3_p : parseP (slash wq3) = (exPl.getD 3 plan0, 0, 0) := ex_parse 3 (by rw [wq_ex.1]; rfl) rfl
theorem wq4_p : parseP (slash wq4) = (exPl.getD 4 plan0, 0, 0) := ex_parse 4 (by rw [wq_ex.1]; rfl) rfl
theorem wn0_p : parseP (slash wn0) = (plan0, 0, 2) := no_parse 0 (by rw [wq_ex.2]; rfl) rfl
theorem wn1_p : parseP (slash wn1) = (plan0, 1, 4) := no_parse 1 (by rw [wq_ex.2]; rfl) rfl
theorem wn2_p : parseP (slash wn2) = (plan0, 2, 4) := no_parse 2 (by rw [wq_ex.2]; rfl) rfl
theorem wn3_p : parseP (slash wn3) = (plan0, 0, 2) := no_parse 3 (by rw [wq_ex.2]; rfl) rfl
theorem wn4_p : parseP (slash wn4) = (plan0, 0, 4) := no_parse 4 (by rw [wq_ex.2]; rfl) rfl
theorem wn5_p : parseP (slash wn5) = (plan0, 0, 4) := no_parse 5 (by rw [wq_ex.2]; rfl) rfl
theorem wn6_p : parseP (slash wn6) = (plan0, 2, 4) := no_parse 6 (by rw [wq_ex.2]; rfl) rfl
def cw0 : List ColM := [⟨1, [97], ⟨3, false⟩, cell0⟩, ⟨2, [98], ⟨1, false⟩, cell0⟩]
def cw1 : List ColM := [⟨1, [115], ⟨4, true⟩, ⟨true, 0, []⟩⟩, ⟨2, countW, ⟨3, false⟩, cell0⟩, ⟨3, [116, 111, 116, 97, 108], ⟨3, false⟩, cell0⟩]
theorem exc (i : Nat) {p : PlanM} {x : List ColM × Int} (hp : exPl[i]? = some p) (hx : exCh[i]? = some x) : checkP smallP p = x := by
 rw [← ex_check.1, List.getElem?_map, hp] at hx
 injection hx
theorem wq0_c : checkP smallP (exPl.getD 0 plan0) = (cw0, 0) := exc 0 rfl rfl
theorem wq1_c : checkP smallP (exPl.getD 1 plan0) = (cw1, 0) := exc 1 rfl rfl
theorem wq2_c : checkP smallP (exPl.getD 2 plan0) = ([], 230) := exc 2 rfl rfl
theorem wq3_c : checkP smallP (exPl.getD 3 plan0) = ([], 230) := exc 3 rfl rfl
theorem wq4_c : checkP smallP (exPl.getD 4 plan0) = ([], 220) := exc 4 rfl rfl
def cntP : PlanM := ⟨[], [⟨countW, [⟨1, 1, []⟩]⟩], 0⟩
theorem cntP_fit : AllFit cntP := ⟨fun x hx => absurd hx List.not_mem_nil, fun o ho x hx => by
 have ho' := List.mem_singleton.1 ho
 subst ho'
 have hx' := List.mem_singleton.1 hx
 subst hx'
 unfold fits; decide⟩
section
variable {w : World}
theorem worksP_ok (hT : TabsX w) : Rets Tryz.prog 18 [] w fun v w' => v = .bool true ∧ Kept noB w w' := by
 have H := Sep.start0 w
 refine rets0 Tryz.func18 rfl rfl rfl ?_
 refine Sr (Am ?_)
 refine Nx (Vv (Gives.build (out := typeCells wholeT) (Fills.one rfl rfl rfl (by simp) rfl Fills.nil)) (FL_alloc H (h := fun b1 w4 H4 k3 => ?_)))
 refine FL_storeAll H4 (h := fun w6 H6 => ?_)
 refine Qn (FW_seq (Sr (FL_loadAll H6 (h := ?_))))
 refine Vv (Gives.build (out := colCells ⟨1, [97], ⟨3, false⟩, cell0⟩) (Fills.one rfl rfl rfl (by simp) rfl (Fills.one rfl rfl rfl (by simp) rfl (Fills.many rfl rfl (Nat.le_of_ble_eq_true rfl) rfl Fills.nil)))) (Vv (Gives.build (out := typeCells ⟨1, false⟩) (Fills.one rfl rfl rfl (by simp) rfl Fills.nil)) ?_)
 refine Vv (Gives.build (out := colCells ⟨2, [98], ⟨1, false⟩, cell0⟩) (Fills.one rfl rfl rfl (by simp) rfl (Fills.one rfl rfl rfl (by simp) rfl (Fills.many rfl rfl (Nat.le_of_ble_eq_true rfl) rfl Fills.nil)))) (FL_buildSlice H6 (xs := [.tmp 6, .tmp 8]) (out := cw0.flatMap colCells) (Elems.many rfl rfl (Elems.many rfl rfl Elems.nil)) rfl rfl rfl (fun ba w12 H12 k11 => ?_))
 refine FL_callQ H12 (comes_ok wq0 (by decide) wq0_p wq0_c ⟨some ⟨ba, 0, none⟩, 2, rfl, ⟨Nat.le_refl _, by decide⟩, Sep.blkRow H12 At0 rfl⟩ (hT.keep H12.kept)) (h := fun w14 H14 k13 => ?_)
 refine Vv (Gives.not rfl) (Mv ?_)
 refine FL_split (t := 12) rfl (fun hs17 => ?_) (fun hs17 => ?_)
 ·exact Bool.noConfusion hs17
 refine On (Vv (Gives.build (out := typeCells ⟨4, true⟩) (Fills.one rfl rfl rfl (by simp) rfl (Fills.one rfl rfl rfl (by simp) rfl Fills.nil))) (On ?_))
 refine Vv (Gives.build (out := cellCells ⟨true, 0, []⟩) (Fills.one rfl rfl rfl (by simp) rfl Fills.nil)) (On ?_)
 refine Vv (Gives.build (out := colCells ⟨1, [115], ⟨4, true⟩, ⟨true, 0, []⟩⟩) (Fills.one rfl rfl rfl (by simp) rfl (Fills.one rfl rfl rfl (by simp) rfl (Fills.many rfl rfl (Nat.le_of_ble_eq_true rfl) rfl (Fills.many rfl rfl (Nat.le_of_ble_eq_true rfl) rfl Fills.nil))))) (On ?_)
 refine FL_loadAll H14 (h := ?_)
 refine On (Vv (Gives.build (out := colCells ⟨2, countW, ⟨3, false⟩, cell0⟩) (Fills.one rfl rfl rfl (by simp) rfl (Fills.one rfl rfl rfl (by simp) rfl (Fills.many rfl rfl (Nat.le_of_ble_eq_true rfl) rfl Fills.nil)))) (On ?_))
 refine FL_loadAll H14 (h := ?_)
 refine On (Vv (Gives.build (out := colCells ⟨3, [116, 111, 116, 97, 108], ⟨3, false⟩, cell0⟩) (Fills.one rfl rfl rfl (by simp) rfl (Fills.one rfl rfl rfl (by simp) rfl (Fills.many rfl rfl (Nat.le_of_ble_eq_true rfl) rfl Fills.nil)))) (On ?_))
 refine FL_buildSlice H14 (xs := [.tmp 15, .tmp 17, .tmp 19]) (out := cw1.flatMap colCells) (Elems.many rfl rfl (Elems.many rfl rfl (Elems.many rfl rfl Elems.nil))) rfl rfl rfl (fun bb w27 H27 k26 => ?_)
 refine On (FL_callQ H27 (comes_ok wq1 (by decide) wq1_p wq1_c ⟨some ⟨bb, 0, none⟩, 3, rfl, ⟨Nat.le_refl _, by decide⟩, Sep.blkRow H27 At0 rfl⟩ (hT.keep H27.kept)) (h := fun w29 H29 k28 => ?_))
 refine On (Vv (Gives.not rfl) (Pf ?_))
 refine Qn (Cd rfl (fun hc32 => ?_) (fun hc32 => ?_))
 ·exact Bool.noConfusion hc32
 refine Sk (FW_seq (Sr (FL_callQ H29 (fits_ok wq2 (by decide) wq2_p wq2_c (hT.keep H29.kept)) (h := fun w35 H35 k34 => ?_))))
 refine Vv (Gives.not rfl) (Mv ?_)
 refine FL_split (t := 26) rfl (fun hs38 => ?_) (fun hs38 => ?_)
 ·exact Bool.noConfusion hs38
 refine On (FL_callQ H35 (fits_ok wq3 (by decide) wq3_p wq3_c (hT.keep H35.kept)) (h := fun w41 H41 k40 => ?_))
 refine On (Vv (Gives.not rfl) (Pf ?_))
 refine Mv ?_
 refine FL_split (t := 30) rfl (fun hs45 => ?_) (fun hs45 => ?_)
 ·exact Bool.noConfusion hs45
 refine On (FL_callQ H41 (fits_ok wq4 (by decide) wq4_p wq4_c (hT.keep H41.kept)) (h := fun w48 H48 k47 => ?_))
 refine On (Vv (Gives.not rfl) (Pf ?_))
 refine Qn (Cd rfl (fun hc51 => ?_) (fun hc51 => ?_))
 ·exact Bool.noConfusion hc51
 refine Sk (Sr (FL_callN H48 smallC_ok (h := fun bc w54 _ H54 k53 => ?_)))
 refine Vv (Gives.build (out := stepCells ⟨1, 1, []⟩) (Fills.one rfl rfl rfl (by simp) rfl (Fills.one rfl rfl rfl (by simp) rfl Fills.nil))) (FL_buildSlice H54 (xs := [.tmp 36]) (out := [(⟨1, 1, []⟩ : StepM)].flatMap stepCells) (Elems.many rfl rfl Elems.nil) rfl rfl rfl (fun bs w57 H57 k56 => ?_))
 refine Vv (Gives.build (out := outCells (countW, .slice (some ⟨bs, 0, none⟩) 1 1)) (Fills.one rfl rfl rfl (by simp) rfl (Fills.one rfl rfl rfl (by simp) rfl Fills.nil))) (FL_buildSlice H57 (xs := [.tmp 38]) (out := [(countW, Value.slice (some ⟨bs, 0, none⟩) 1 1)].flatMap outCells) (Elems.many rfl rfl Elems.nil) rfl rfl rfl (fun bo w60 H60 k59 => ?_))
 refine Vv (Gives.build (out := [.slice none 0 0, .slice (some ⟨bo, 0, none⟩) 1 1, I 0]) (Fills.one rfl rfl rfl (by simp) rfl Fills.nil)) ?_
 have hin : PlanIn _ (agg [.slice none 0 0, .slice (some ⟨bo, 0, none⟩) 1 1, I 0]) cntP := ⟨_, _, rfl, rowIn_none, [(countW, .slice (some ⟨bs, 0, none⟩) 1 1)], ⟨some ⟨bo, 0, none⟩, 1, rfl, ⟨Nat.le_refl _, by decide⟩, Sep.blkRow H60 At0 rfl⟩, (RawOf.nil).push (n := countW) ⟨some ⟨bs, 0, none⟩, 1, rfl, ⟨Nat.le_refl _, by decide⟩, Sep.blkRow H60 At1 rfl⟩⟩
 refine FL_callN H60 (checkE_ok (cols := smallP) (p := cntP) ⟨some ⟨bc, 0, none⟩, 3, rfl, ⟨Nat.le_refl _, by decide⟩, Sep.blkRow H60 At2 rfl⟩ hin cntP_fit.1 cntP_fit.2 (by decide) (hT.keep H60.kept)) (h := fun vo w63 _ H63 k62 => ?_)
 rw [show checkP smallP cntP = ([], 230) from ex_check.2]
 refine Mv ?_
 refine Vx ?_
 refine Vx ?_
 refine Am ?_
 refine Am ?_
 refine Qn (FW_seq (Sr (Mv ?_)))
 refine Vn ?_
 refine Mv ?_
 refine FL_splitP (t := 46) rfl (fun hs72 => ?_) (fun hs72 => ?_)
 ·exact (hs72 trivial).elim
 refine On (FL_callQ H63 (fails_ok wn0 (by decide) wn0_p (hT.keep H63.kept)) (h := fun w75 H75 k74 => ?_))
 refine On (Vv (Gives.not rfl) (Pf ?_))
 refine Mv ?_
 refine FL_split (t := 50) rfl (fun hs79 => ?_) (fun hs79 => ?_)
 ·exact Bool.noConfusion hs79
 refine On (FL_callQ H75 (fails_ok wn1 (by decide) wn1_p (hT.keep H75.kept)) (h := fun w82 H82 k81 => ?_))
 refine On (Vv (Gives.not rfl) (Pf ?_))
 refine Mv ?_
 refine FL_split (t := 54) rfl (fun hs86 => ?_) (fun hs86 => ?_)
 ·exact Bool.noConfusion hs86
 refine On (FL_callQ H82 (fails_ok wn2 (by decide) wn2_p (hT.keep H82.kept)) (h := fun w89 H89 k88 => ?_))
 refine On (Vv (Gives.not rfl) (Pf ?_))
 refine Mv ?_
 refine FL_split (t := 58) rfl (fun hs93 => ?_) (fun hs93 => ?_)
 ·exact Bool.noConfusion hs93
 refine On (FL_callQ H89 (fails_ok wn3 (by decide) wn3_p (hT.keep H89.kept)) (h := fun w96 H96 k95 => ?_))
 refine On (Vv (Gives.not rfl) (Pf ?_))
 refine Qn (Cd rfl (fun hc99 => ?_) (fun hc99 => ?_))
 ·exact Bool.noConfusion hc99
 refine Sk (Sr (FL_callQ H96 (fails_ok wn4 (by decide) wn4_p (hT.keep H96.kept)) (h := fun w102 H102 k101 => ?_)))
 refine Mv ?_
 refine FL_split (t := 63) rfl (fun hs104 => ?_) (fun hs104 => ?_)
 ·refine On (FL_callQ H102 (fails_ok wn5 (by decide) wn5_p (hT.keep H102.kept)) (h := fun w106 H106 k105 => ?_))
  refine Pt ?_
  refine Mv ?_
  refine FL_split (t := 66) rfl (fun hs109 => ?_) (fun hs109 => ?_)
  ·refine On (FL_callQ H106 (fails_ok wn6 (by decide) wn6_p (hT.keep H106.kept)) (h := fun w111 H111 k110 => ?_))
   refine Pt ?_
   refine Am ?_
   refine Qn (FW_ret (Qfn_ret (hR := ?_)))
   exact ⟨rfl, H111.kept⟩
  exact absurd hs109 (by decide)
 exact absurd hs104 (by decide)
end
end Go.Proofs.YtolaedhdjcnijaaGreatDoor
namespace Go.Mw
open Go.RowKit
section
variable {P : Program} {ρ : Operand → Value} {ty : TypeId} {w w₀ : World} {x y : Operand} {α : Type} {enc : α → List Value} {k : Nat} {l : List α} {A : Option Addr}
end
end Go.Mw
namespace Go.Proofs.YtolaedhdjcnijaaGreatDoor
open Go Go.Mw Go.Lib
set_option maxRecDepth 4000
def pairCells (x : Int × Int) : List Value := [I x.1, I x.2]
instance : EncK pairCells 2 := ⟨fun _ => rfl⟩
section
variable {w : World}
end
section
variable {w : World}
end
end Go.Proofs.YtolaedhdjcnijaaGreatDoor
