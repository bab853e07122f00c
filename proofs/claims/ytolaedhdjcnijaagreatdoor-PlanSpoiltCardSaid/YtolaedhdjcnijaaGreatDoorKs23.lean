/-
 The program's Parse of a plan, walked: the whole.
-/
import Derived.Test.YtolaedhdjcnijaaGreatDoorKs22
import Derived.Test.YtolaedhdjcnijaaGreatDoorKs19
import Derived.Test.YtolaedhdjcnijaaGreatDoorKs20
import Derived.Test.YtolaedhdjcnijaaGreatDoorKs18
set_option linter.unusedVariables false
set_option linter.unusedSimpArgs false
namespace Go.Mw
open Go.RowKit
theorem resACC {P : Program} {T U V : TypeId} {k : Nat} [Agg P T k] [OneCell P U] [OneCell P V] {σ : St} {w : World} {a b c x y z : Nat} {us : List Value} {v u : Value} {E F G : TypeId} (hx : w.heap[x]? = some (.cells us.toArray E (0, 0))) (hy : w.heap[y]? = some (.cells [v].toArray F (0, 0))) (hz : w.heap[z]? = some (.cells [u].toArray G (0, 0)))
    (hk : us.length = k := by exact rfl) (ha : σ a = .pointer (some ⟨x, 0, none⟩) := by exact rfl) (hb : σ b = .pointer (some ⟨y, 0, none⟩) := by exact rfl) (hc : σ c = .pointer (some ⟨z, 0, none⟩) := by exact rfl) : ResAll P σ w [.cell a T, .cell b U, .cell c V] [.agg us.toArray, v, u] :=
  ⟨_, [v, u], ⟨x, 0, none⟩, rfl, ha, loadVar_blkN (k := k) hx (us := us) (by rw [List.drop_zero, ← hk, List.take_length]) hk, v, [u], ⟨y, 0, none⟩, rfl, hb, load_one hy, u, [], ⟨z, 0, none⟩, rfl, hc, load_one hz, rfl⟩
end Go.Mw
namespace Go.Proofs.YtolaedhdjcnijaaGreatDoor
open Go Go.Mw Go.Lib
set_option maxRecDepth 4000
theorem rowIn_none {α : Type} {w : World} {enc : α → List Value} {k : Nat} : RowIn w (.slice none 0 0) enc k [] := ⟨none, 0, rfl, ⟨Nat.le_refl _, by decide⟩, RowAt.nil _ _ _⟩
theorem plan0_in (w : World) : PlanIn w (agg [.slice none 0 0, .slice none 0 0, I 0]) plan0 := ⟨_, _, rfl, rowIn_none, [], rowIn_none, RawOf.nil⟩
section
variable {w w₀ : World} {S : Nat → Prop} {rs : List HP}
theorem Sep_plan0 {F : Nat → Prop} (H : Mw.Sep w₀ F rs w) : Turn F (planH (agg [.slice none 0 0, .slice none 0 0, I 0]) plan0) w₀ w := (Sep.lookNew H plan0_in).first.turn
theorem Sep_readPlan {b : Nat} {p : PlanM} {st : Int} {vw vc : Value} {r : List (List UInt8 × Value)} (H : Mw.Sep w₀ S (blk b [vw, vc, I p.group, I st] 74 :: seeH vw stepCells 3 p.wh :: rowD 53 2 outCells vc r :: rawsH r p.cols :: rs) w) : PlanIn w (agg [vw, vc, I p.group]) p :=
 ⟨vw, vc, rfl, Sep.sees H At1, r, Sep_in H At2, Sep.sees H At3⟩
theorem parsePE_ok (s : List UInt8) (hl : s.length ≤ 900000 ∨ 1048576 < s.length) (hmx : s.length ≤ 1000000000) (hT : TabsX w) : Rets Tryz.prog 15 [str s] w fun v w' => ∃ x, v = .tuple #[x, I (parseP s).2.1, I (parseP s).2.2] ∧ True ∧ Turn noB (planH x (parseP s).1) w w' := by
  have H := Sep.start0 w
  obtain ⟨res, hres⟩ : ∃ res, res = parseP s := ⟨_, rfl⟩
  rw [← hres]
  refine retsD1 Tryz.func15 rfl rfl rfl rfl ?_
  refine Sr (FL_alloc H (h := fun b2 w2 H2 k1 => ?_))
  refine FL_alloc H2 (h := fun b3 w4 H4 k3 => ?_)
  refine FL_alloc H4 (h := fun b4 w6 H6 k5 => ?_)
  refine Qn (FW_seq (Sr (Mv ?_)))
  refine Vt ?_
  refine Vg ?_
  refine Qn (Cp rfl (fun hc10 => ?_) (fun hc10 => ?_))
  · unfold parseP at hres
    rw [if_pos (by omega)] at hres
    refine Sr (Vv (Gives.build (out := [.slice none 0 0, .slice none 0 0, I 0]) Fills.nil) (FL_storeAll H6 (h := fun w14 H14 => ?_)))
    refine FL_store H14 (h := fun w16 H16 => ?_)
    refine FL_store H16 (h := fun w18 H18 => ?_)
    refine Qn (Rs (QfnD_ret (h := ?_)))
    exact ⟨[_, I 0, I 5], resACC (H18.obj At2) (H18.obj At1) (H18.obj At0), _, by rw [hres]; rfl, trivial, by rw [hres]; exact Sep_plan0 H18⟩
  have hle : s.length ≤ 900000 := by omega
  have hsl : s.length ≤ 1048576 := by omega
  refine Sk (Sr (FL_alloc H6 (h := fun b5 w22 H22 k21 => ?_)))
  refine Qn (FW_seq (Sr (Mv ?_)))
  refine FL_call (Lines_ok s) rfl rfl (fun v' w25 hv => ?_)
  obtain ⟨bS, rfl, _, hkk, F1, hq, hsub⟩ := hv
  have H25 := H22.new hkk hq (fun b hb => (hsub b hb).resolve_left id)
  refine Qn (FW_block ?_)
  have hmany := raw_many s
  have HJ : Mw.Sep w noB (plJ b2 b3 b4 b5 [] :: [blk bS [str s] 9]) w25 := by
    have h0 : Mw.Sep w noB (seeH (.slice none 0 0) stepCells 3 [] :: _) w25 := Sep.lookNew H25 fun _ => rowIn_none
    have h1 := ((Sep_rawNil (Sep.nilD h0 53 2 outCells)).front1.front2).front4
    have h2 := ((Sep_readH (p := plan0) h1).front2.front3).front4
    exact Sep.pack0 (p := fun z : List (List UInt8) × PlanM × Int => starL [pureH (([] : List (List UInt8)) = z.1.map endL ∧ runG z.1 = some (z.2.1, z.2.2)), blk b2 [.slice none 0 0, .slice none 0 0, I 0] 25, blk b3 [I (([] : List (List UInt8)).length : Nat)] 3, blk b4 [I 0] 27, readH b5 z.2.1 z.2.2]) ([], plan0, 0) (Sep.bundle (l := [pureH (([] : List (List UInt8)) = ([] : List (List UInt8)).map endL ∧ runG [] = some (plan0, 0)), _, _, _, _]) (Sep.addPure ⟨rfl, rfl⟩ h2))
  refine FW_rangeF (gf := 88) (lb := [selfP bS]) str (rawL s) (plJ b2 b3 b4 b5) (plL b2 b3 b4) _ HJ rfl rfl ?_ ?_ ?_ ?_
  · intro l D ro rb pre x Fr W hpre HW
    have hxm : x ∈ rawL s := hpre.subset (List.mem_append_right pre (List.mem_singleton.2 rfl))
    have hxl := raw_len hxm
    have hpl : pre.length + 1 ≤ s.length + 1 := by have := hpre.length_le; rw [List.length_append, List.length_singleton] at this; omega
    refine FW_region (Am ?_)
    refine FL_nil (Qassign_normal ?_)
    refine ⟨[], HW, fun WB HB => ?_⟩
    have HB2 : Mw.Sep w noB (obj l rb :: obj D (.deferred (some [])) :: plJ b2 b3 b4 b5 pre :: Fr) WB := HB
    replace HB2 := HB2.front2
    unfold plJ at HB2
    obtain ⟨⟨ls, p, st⟩, HB2⟩ := HB2.ex0
    obtain ⟨⟨hpm, hrun⟩, HB3⟩ := (HB2.parts).pure0
    dsimp only at hpm hrun HB3
    obtain ⟨hpc, hst, hfit⟩ := run_good ls hrun
    replace HB := HB3
    refine FW_block (Sr (Mv ?_))
    refine FL_callS (cutSuffix_ok x (by omega)) (h := ?_)
    refine Mv ?_
    refine Vx ?_
    refine Vx ?_
    refine Am ?_
    refine Am ?_
    refine Qn (FW_seq (Sr (Mv ?_)))
    refine Vv (Gives.not rfl) (Mv ?_)
    refine FL_split (t := 25) rfl (fun hs41 => ?_) (fun hs41 => ?_)
    · have hsuf : Lib.hasSuffix x [10] = false := by simpa using hs41
      have hno : ∀ l, x ≠ endL l := by
        rcases trim_suf x with ⟨_, _, _, h⟩ | ⟨h, _⟩
        · rw [hsuf] at h; cases h
        exact h
      have hbad : ∃ ls p st, pre = ls.map endL ∧ runG ls = some (p, st) ∧ ((∃ l, x = endL l ∧ lineT p st l = none) ∨ ∀ l, x ≠ endL l) := ⟨ls, p, st, hpm, hrun, .inr hno⟩
      refine Of (Of (Of (Pt ?_)))
      refine Qn (FW_cond_true rfl ?_)
      refine FW_seq (FW_drawS rfl HB (h := fun hok44 w46 H46 => ?_))
      refine Gp hok44 0 rfl rfl (fun _ => (Gives.build (out := [.slice none 0 0, .slice none 0 0, I 0]) Fills.nil)) (FGload hok44 1 H46 (h := ?_))
      refine FGstoreAll hok44 2 [(1, false)] H46 (h := fun w50 H50 => ⟨Stab_load H50 (h := Stab_nil), ?_⟩)
      refine FGstore hok44 3 [] H50 (h := fun w52 H52 => ⟨Stab_nil, ?_⟩)
      refine FGstore hok44 4 [] H52 (h := fun w54 H54 => ⟨Stab_nil, ?_⟩)
      refine FG_end hok44 (by kernel_rfl) ?_
      refine Qseq_normal (Rs (Qblk_ret (Qleave_ret ?_)))
      exact (Sep.bundle (l := [pureH (∃ ls p st, pre = ls.map endL ∧ runG ls = some (p, st) ∧ ((∃ l, x = endL l ∧ lineT p st l = none) ∨ ∀ l, x ≠ endL l)), _, _, _]) (rs := [_, _]) (Sep.addPure hbad ((H54.front3).drop0.firsts (l := [_, _, _, _, _])))).back2
    have hsuf : Lib.hasSuffix x [10] = true := by simpa using hs41
    obtain ⟨l0, hx0, htrim⟩ : ∃ l0, x = endL l0 ∧ Lib.trimSuffix x [10] = l0 := by
      rcases trim_suf x with ⟨l0, h1, h2, _⟩ | ⟨_, _, h⟩
      · exact ⟨l0, h1, h2⟩
      rw [hsuf] at h; cases h
    have hl0 : l0.length ≤ s.length + 1 := by have h1 := hxl; rw [hx0] at h1; unfold endL at h1; rw [List.length_append, List.length_singleton] at h1; omega
    have hpl2 : ls.length = pre.length := by rw [hpm, List.length_map]
    rw [htrim]
    refine On (Mv ?_)
    refine On ?_
    obtain ⟨F0, hp0, hS0, hput0⟩ := HB.focus At3
    refine FL_call (line_ok l0 hp0 hst (by omega) (by omega) fun w' hk => hT.keep (HB.kept.trans hk hS0)) rfl rfl (fun v' w59 hv => ?_)
    obtain ⟨rfl, hkk, F1, hq, hsub⟩ := hv
    have H59 := hput0 _ F1 _ hkk hq hsub
    refine On (Vv (Gives.not rfl) (Pf ?_))
    refine Qn (Cd rfl (fun hc62 => ?_) (fun hc62 => ?_))
    · have hnone : lineT p st l0 = none := by
        have h1 := hc62
        cases hq : lineT p st l0 with
        | none => rfl
        | some y => rw [hq] at h1; cases h1
      have hbad : ∃ ls p st, pre = ls.map endL ∧ runG ls = some (p, st) ∧ ((∃ l, x = endL l ∧ lineT p st l = none) ∨ ∀ l, x ≠ endL l) := ⟨ls, p, st, hpm, hrun, .inl ⟨l0, hx0, hnone⟩⟩
      refine FW_seq (FW_drawS rfl H59 (h := fun hok64 w66 H66 => ?_))
      refine Gp hok64 0 rfl rfl (fun _ => (Gives.build (out := [.slice none 0 0, .slice none 0 0, I 0]) Fills.nil)) (FGload hok64 1 H66 (h := ?_))
      refine FGstoreAll hok64 2 [(1, false)] H66 (h := fun w70 H70 => ⟨Stab_load H70 (h := Stab_nil), ?_⟩)
      refine FGstore hok64 3 [] H70 (h := fun w72 H72 => ⟨Stab_nil, ?_⟩)
      refine FGstore hok64 4 [] H72 (h := fun w74 H74 => ⟨Stab_nil, ?_⟩)
      refine FG_end hok64 (by kernel_rfl) ?_
      refine Qseq_normal (Rs (Qblk_ret (Qleave_ret ?_)))
      exact (Sep.bundle (l := [pureH (∃ ls p st, pre = ls.map endL ∧ runG ls = some (p, st) ∧ ((∃ l, x = endL l ∧ lineT p st l = none) ∨ ∀ l, x ≠ endL l)), _, _, _]) (rs := [_, _]) (Sep.addPure hbad ((H74.front3).drop0.firsts (l := [_, _, _, _, _])))).back2
    obtain ⟨⟨p', st'⟩, hl1⟩ : ∃ y, lineT p st l0 = some y := by
      have h1 := hc62
      cases hq : lineT p st l0 with
      | none => rw [hq] at h1; cases h1
      | some y => exact ⟨y, rfl⟩
    rw [hl1] at H59
    have hpm2 : pre ++ [x] = (ls ++ [l0]).map endL := by rw [List.map_append, hpm, hx0]; rfl
    have hrun2 : runG (ls ++ [l0]) = some (p', st') := by rw [run_snoc, hrun]; exact hl1
    refine Sk (FW_region (Ld H59 ?_))
    refine Vv (Gives.addI (c := (((pre ++ [x]).length : Nat) : Int)) rfl rfl (by rw [List.length_append, List.length_singleton]; omega) (by rw [List.length_append, List.length_singleton]; omega)) ?_
    refine FL_store H59 (h := fun w80 H80 => ?_)
    refine FL_nil (Qblk_normal (Qleave_normal ?_))
    exact (Sep.pack0 (p := fun z : List (List UInt8) × PlanM × Int => starL [pureH (pre ++ [x] = z.1.map endL ∧ runG z.1 = some (z.2.1, z.2.2)), blk b2 [.slice none 0 0, .slice none 0 0, I 0] 25, blk b3 [I ((pre ++ [x]).length : Nat)] 3, blk b4 [I 0] 27, readH b5 z.2.1 z.2.2]) (ls ++ [l0], p', st') (Sep.bundle (l := [pureH (pre ++ [x] = (ls ++ [l0]).map endL ∧ runG (ls ++ [l0]) = some (p', st')), _, _, _, _]) (Sep.addPure ⟨hpm2, hrun2⟩ H80))).back2
  · intro l D ro rj W HW hy
    exact lines_iter hsl HW hy
  rotate_left 1
  · intro D W pre x hpre HD
    obtain ⟨⟨ls, p, st, hpm, hrun, hbad⟩, HD2⟩ := ((HD.front1).parts).pure0
    subst hpm
    rw [fail_line hsl hpre hrun hbad] at hres
    exact Qblk_ret (Qseq_ret (QfnD_one HD2 At3 (fun w1 H1 => ⟨[_, _, I 4], resACC (H1.obj At0) (H1.obj At1) (H1.obj At2), _, by rw [hres]; rfl, trivial, by rw [hres]; exact Sep_plan0 H1⟩)))
  intro D w83 H83
  have H83 := H83.front1
  unfold plJ at H83
  obtain ⟨⟨ls, p, st⟩, H83⟩ := H83.ex0
  obtain ⟨⟨hpm, hrun⟩, H83⟩ := (H83.parts).pure0
  dsimp only at hpm hrun H83
  obtain ⟨hpc, hst, hfit⟩ := run_good ls hrun
  obtain ⟨hwhole, hls⟩ := raw_all hpm
  have hfin := parse_done hsl hwhole (by rw [hls]; exact hrun)
  rw [← hres, hls] at hfin
  have hlen : (rawL s).length = ls.length := by rw [hpm, List.length_map]
  rw [hlen] at H83
  obtain ⟨vw, vc, r, H83⟩ := Sep_unread (H83.front3)
  obtain ⟨Aw, cw, rfl, _⟩ := (Sep.sees H83 At1 : RowIn _ vw stepCells 3 p.wh)
  obtain ⟨Ac, cc, rfl, hcc, hRc⟩ := Sep.formD H83 At2 --on
  refine Qblk_normal (Qseq_normal (FW_seq (Sr (Vf ?_))))
  refine Ld H83 ?_
  refine Vn ?_
  refine Qn (Cp rfl (fun hc87 => ?_) (fun hc87 => ?_))
  · rw [if_pos hc87] at hfin
    refine FW_seq (FW_drawS rfl H83 (h := fun hok89 w91 H91 => ?_))
    refine Gp hok89 0 rfl rfl (fun _ => (Gives.build (out := [.slice none 0 0, .slice none 0 0, I 0]) Fills.nil)) (FGload hok89 1 H91 (h := ?_))
    refine FGstoreAll hok89 2 [(1, false)] H91 (h := fun w95 H95 => ⟨Stab_load H95 (h := Stab_nil), ?_⟩)
    refine FGstore hok89 3 [] H95 (h := fun w97 H97 => ⟨Stab_nil, ?_⟩)
    refine FGstore hok89 4 [] H97 (h := fun w99 H99 => ⟨Stab_nil, ?_⟩)
    refine FG_end hok89 (by kernel_rfl) ?_
    refine Qseq_normal (Rs (QfnD_one H99 At7 (hR := fun w101 H101 => ?_)))
    exact ⟨[_, _, I 4], resACC (H101.obj At4) (H101.obj At5) (H101.obj At6), _, by rw [hfin]; rfl, trivial, by rw [hfin]; exact Sep_plan0 H101⟩
  rw [if_neg hc87] at hfin
  refine Sk (FW_seq (Sr (Vf ?_)))
  refine FL_loadN H83 (us := [.slice Aw p.wh.length cw, .slice Ac r.length cc, I p.group]) (hu := rfl) (hk := rfl) (h := ?_)
  have hpl := Sep_readPlan H83
  refine FL_callQ H83 (textPE_ok hpl hfit.1 hfit.2 (by omega) (hT.keep H83.kept)) (h := fun w107 H107 k106 => ?_)
  refine Mv ?_
  refine Vx ?_
  refine Vx ?_
  refine Am ?_
  refine Am ?_
  refine Nx (Mv ?_)
  refine Vn ?_
  refine Qn (Cp rfl (fun hc115 => ?_) (fun hc115 => ?_))
  · have hmay : mayP p = false := by
      cases hq : mayP p with
      | false => rfl
      | true => have h1 := hc115; unfold textP at h1; rw [hq, if_neg (by decide)] at h1; exact absurd rfl h1
    have ht2 : (textP p).2 = 2 := by unfold textP; rw [if_pos hmay]
    rw [if_pos hmay] at hfin
    refine Sr (Vv (Gives.build (out := [.slice none 0 0, .slice none 0 0, I 0]) Fills.nil) (Mv ?_))
    refine FL_storeAll H107 (h := fun w120 H120 => ?_)
    refine FL_store H120 (h := fun w122 H122 => ?_)
    refine FL_store H122 (h := fun w124 H124 => ?_)
    refine Qn (Rs (QfnD_one H124 At7 (hR := fun w126 H126 => ?_)))
    exact ⟨[_, I 0, _], resACC (H126.obj At4) (H126.obj At5) (H126.obj At6), _, by rw [hfin, ht2]; rfl, trivial, by rw [hfin]; exact Sep_plan0 H126⟩
  have hmay : mayP p = true := by
    cases hq : mayP p with
    | true => rfl
    | false => have h1 := hc115; unfold textP at h1; rw [if_pos hq] at h1; exact absurd (by decide) h1
  rw [if_neg (by rw [hmay]; decide)] at hfin
  refine Sk (Sr (Vf ?_))
  refine FL_loadN H107 (us := [.slice Aw p.wh.length cw, .slice Ac r.length cc, I p.group]) (hu := rfl) (hk := rfl) (h := ?_)
  refine FL_storeAll H107 (h := fun w132 H132 => ?_)
  refine FL_store H132 (h := fun w134 H134 => ?_)
  refine FL_store H134 (h := fun w136 H136 => ?_)
  refine Qn (FW_ret (QfnD_one H136 At7 (hR := fun w138 H138 => ?_)))
  exact ⟨[_, I 0, I 0], resACC (H138.obj At4) (H138.obj At5) (H138.obj At6), _, by rw [hfin]; rfl, trivial, by rw [hfin]; exact (Sep_plan (g := p.group) H138.drop0).first.turn⟩
end
end Go.Proofs.YtolaedhdjcnijaaGreatDoor
namespace Go.Proofs.YtolaedhdjcnijaaGreatDoor
open Go Go.Lib Go.Mw
set_option maxRecDepth 4000
def colsP (b : Bool) : List ColM := [⟨1, [97], ⟨if b then 3 else 2, false⟩, cell0⟩, ⟨3, [98], ⟨if b then 3 else 2, true⟩, cell0⟩, ⟨4, [99], ⟨1, true⟩, cell0⟩, ⟨9, [100], ⟨4, false⟩, cell0⟩, ⟨12, [101], ⟨5, true⟩, cell0⟩]
def exprL : List (List StepM) := [[⟨1, 1, []⟩], [⟨1, 1, []⟩, ⟨1, 3, []⟩, ⟨7, 0, []⟩], [⟨1, 3, []⟩, ⟨2, 0, []⟩, ⟨17, 0, []⟩], [⟨2, 5, []⟩], [⟨1, 9, []⟩, ⟨18, 0, []⟩], [⟨1, 1, []⟩, ⟨10, 0, []⟩, ⟨1, 1, []⟩, ⟨9, 0, []⟩], [⟨1, 4, []⟩], [⟨1, 9, []⟩], [⟨1, 12, []⟩], [⟨1, 4, []⟩, ⟨15, 0, []⟩, ⟨1, 3, []⟩, ⟨16, 0, []⟩, ⟨14, 0, []⟩], [⟨6, 5, []⟩], [⟨1, 1, []⟩, ⟨1, 3, []⟩, ⟨12, 0, []⟩]]
def exprTx : List (List UInt8) := [[35, 49], [35, 49, 32, 35, 51, 32, 43], [35, 51, 32, 48, 32, 101, 108, 115, 101], [53], [35, 57, 32, 108, 101, 110], [35, 49, 32, 110, 101, 103, 32, 35, 49, 32, 42], [35, 52], [35, 57], [35, 49, 50], [35, 52, 32, 110, 111, 116, 32, 35, 51, 32, 105, 115, 110, 117, 108, 108, 32, 111, 114], [110, 117, 108, 108, 58, 98, 121, 116, 101, 115], [35, 49, 32, 35, 51, 32, 60]]
def exprP (n : Int) (num : Bool) : List StepM := exprL.getD (n % (if num then 6 else 12)).toNat []
def whereE : List (List StepM) := [[], [⟨1, 4, []⟩], [⟨1, 1, []⟩, ⟨1, 3, []⟩, ⟨11, 0, []⟩], [⟨3, 1, []⟩]]
def whereTx : List (List UInt8) := [[], [35, 52], [35, 49, 32, 35, 51, 32, 61], [116, 114, 117, 101]]
def whereP (n : Int) : List StepM := whereE.getD (n % 4).toNat []
theorem expr_parse : exprTx.map parseS = exprL.map fun l => (l, 0) := by
 have key : exprTx.map parseF = exprL.map fun l => (l, 0) := by decide +kernel
 rw [← key]
 exact List.map_congr_left fun s _ => (parseF_eq s).symm
theorem where_parse : whereTx.map parseS = whereE.map fun l => (l, 0) := by
 have key : whereTx.map parseF = whereE.map fun l => (l, 0) := by decide +kernel
 rw [← key]
 exact List.map_congr_left fun s _ => (parseF_eq s).symm
def goodP (l : List StepM) : Bool := decide ((textS l).2 = 0 ∧ (textS l).1 ≠ [] ∧ (textS l).1.length ≤ 30) && l.all (fun x => decide (-9223372036854775808 ≤ x.n ∧ x.n ≤ 9223372036854775807)) && decide ((typeS (colsP false) l).2 = 0 ∧ typeS (colsP true) l = typeS (colsP false) l) && (l.filter fun x => decide (x.kind = 1)).all (fun x => (colsP false).any fun c => decide (c.id = x.n))
theorem expr_good : (exprL.all goodP && whereE.tail.all goodP && (exprL.take 6).all (fun l => decide ((typeS (colsP false) l).1.kind = 3)) && whereE.tail.all (fun l => decide ((typeS (colsP false) l).1.kind = 1))) = true := by decide +kernel
theorem exprP_in (n : Int) (num : Bool) : exprP n num ∈ exprL ∧ (num = true → exprP n num ∈ exprL.take 6) := by
 unfold exprP
 cases num with
 | true =>
  have h : (n % 6).toNat < 6 := by omega
  have e : exprL.getD (n % 6).toNat [] = (exprL.take 6)[(n % 6).toNat]'h := by
   have key : ∀ i : Fin 6, exprL.getD i.val [] = (exprL.take 6)[i.val]'i.isLt := by decide +kernel
   exact key ⟨_, h⟩
  rw [if_pos rfl, e]
  exact ⟨List.mem_of_mem_take (List.getElem_mem _), fun _ => List.getElem_mem _⟩
 | false =>
  have h : (n % 12).toNat < 12 := by omega
  rw [if_neg (by decide), List.getD_eq_getElem?_getD, List.getElem?_eq_getElem h, Option.getD_some]
  exact ⟨List.getElem_mem _, fun h => absurd h (by decide)⟩
theorem good_parts {l : List StepM} (h : goodP l = true) : ((textS l).2 = 0 ∧ (textS l).1 ≠ [] ∧ (textS l).1.length ≤ 30) ∧ StepsFit l ∧ ((typeS (colsP false) l).2 = 0 ∧ typeS (colsP true) l = typeS (colsP false) l) ∧ ∀ x ∈ l, x.kind = 1 → ∃ c ∈ colsP false, c.id = x.n := by
 unfold goodP at h
 simp only [Bool.and_eq_true, decide_eq_true_eq, List.all_eq_true, List.any_eq_true, List.mem_filter] at h
 obtain ⟨⟨⟨h1, h2⟩, h3⟩, h4⟩ := h
 exact ⟨h1, fun x hx => h2 x hx, h3, fun x hx hk => h4 x ⟨hx, hk⟩⟩
theorem exprP_good (n : Int) (num : Bool) : goodP (exprP n num) = true ∧ (num = true → (typeS (colsP false) (exprP n num)).1.kind = 3) := by
 have h := expr_good
 simp only [Bool.and_eq_true, List.all_eq_true, decide_eq_true_eq] at h
 obtain ⟨⟨⟨h1, _⟩, h3⟩, _⟩ := h
 exact ⟨h1 _ (exprP_in n num).1, fun e => h3 _ ((exprP_in n num).2 e)⟩
theorem whereP_good (n : Int) : whereP n = [] ∨ (goodP (whereP n) = true ∧ (typeS (colsP false) (whereP n)).1.kind = 1) := by
 have h := expr_good
 simp only [Bool.and_eq_true, List.all_eq_true, decide_eq_true_eq] at h
 obtain ⟨⟨⟨_, h2⟩, _⟩, h4⟩ := h
 have hl : (n % 4).toNat < 4 := by omega
 have hm : whereP n ∈ whereE := by
  unfold whereP
  rw [List.getD_eq_getElem?_getD, List.getElem?_eq_getElem hl, Option.getD_some]
  exact List.getElem_mem _
 rcases List.mem_cons.1 hm with e | hm
 ·exact .inl e
 exact .inr ⟨h2 _ hm, h4 _ hm⟩
/-! The plans. -/
def nameP : List (List UInt8) := [[120], [99, 111, 117, 110, 116, 95], [121, 49], [116, 111, 116, 97, 108]]
def pairsP (l : List (Int × Int)) : List (Int × Int) := (if l = [] then [(0, 0)] else l).take 16
def groupP (group : Int) (n : Nat) : Int := if 0 < group % 4 then (group.tdiv 4) % (n + 1 : Nat) else -1
def colOf (g : Int) (l : List (Int × Int)) (i : Nat) : OutM := ⟨nameP.getD ((l.getD i (0, 0)).1 % 4).toNat [] ++ [UInt8.ofNat (97 + i)], exprP (l.getD i (0, 0)).2 (decide (0 ≤ g ∧ g ≤ i))⟩
def madeP (wh : Int) (l : List (Int × Int)) (group : Int) : PlanM := ⟨whereP wh, (List.range (pairsP l).length).map (colOf (groupP group (pairsP l).length) (pairsP l)), groupP group (pairsP l).length⟩
theorem pairs_len (l : List (Int × Int)) : 1 ≤ (pairsP l).length ∧ (pairsP l).length ≤ 16 := by
 unfold pairsP
 rw [List.length_take]
 split
 ·exact ⟨by decide, by decide⟩
 rename_i h
 have := List.length_pos_iff.2 h
 omega
theorem madeP_len (wh : Int) (l : List (Int × Int)) (group : Int) : (madeP wh l group).cols.length = (pairsP l).length := by unfold madeP; simp
theorem group_range (group : Int) (n : Nat) : -1 ≤ groupP group n ∧ groupP group n ≤ n := by
 unfold groupP
 split
 ·have h1 := Int.emod_nonneg (group.tdiv 4) (b := ((n + 1 : Nat) : Int)) (by omega)
  have h2 := Int.emod_lt_of_pos (group.tdiv 4) (b := ((n + 1 : Nat) : Int)) (by omega)
  omega
 omega
theorem name_good : (nameP.all fun w => (List.range 16).all fun i => isNameS (w ++ [UInt8.ofNat (97 + i)]) && !decide (w ++ [UInt8.ofNat (97 + i)] = countW) && decide ((w ++ [UInt8.ofNat (97 + i)]).length ≤ 7)) = true := by decide +kernel
theorem colOf_name {g : Int} {l : List (Int × Int)} {i : Nat} (hi : i < 16) : isNameS (colOf g l i).name = true ∧ (colOf g l i).name ≠ countW ∧ (colOf g l i).name.length ≤ 7 := by
 have h := name_good
 simp only [List.all_eq_true, Bool.and_eq_true, Bool.not_eq_true', decide_eq_false_iff_not, decide_eq_true_eq] at h
 have hl : ((l.getD i (0, 0)).1 % 4).toNat < 4 := by omega
 have hm : nameP.getD ((l.getD i (0, 0)).1 % 4).toNat [] ∈ nameP := by
  rw [List.getD_eq_getElem?_getD, List.getElem?_eq_getElem hl, Option.getD_some]
  exact List.getElem_mem _
 obtain ⟨⟨h1, h2⟩, h3⟩ := h _ hm i (List.mem_range.2 hi)
 exact ⟨h1, h2, h3⟩
theorem colOf_inj {g : Int} {l : List (Int × Int)} {i j : Nat} (hi : i < 16) (hj : j < 16) (h : (colOf g l i).name = (colOf g l j).name) : i = j := by
 have h := congrArg List.getLast? h
 unfold colOf at h
 simp only [List.getLast?_append, List.getLast?_singleton, Option.some_or, Option.some.injEq] at h
 have h := congrArg UInt8.toNat h
 simp only [UInt8.toNat_ofNat'] at h
 omega
theorem made_named (wh : Int) (l : List (Int × Int)) (group : Int) : namedP (madeP wh l group) = true := by
 obtain ⟨p1, p2⟩ := pairs_len l
 obtain ⟨g1, g2⟩ := group_range group (pairsP l).length
 unfold namedP
 simp only [Bool.and_eq_true, decide_eq_true_eq, List.all_eq_true, Bool.not_eq_true', Bool.and_eq_false_iff, decide_eq_false_iff_not]
 refine ⟨⟨by rw [madeP_len]; exact ⟨p1, p2, g1, g2⟩, fun o ho => ?_⟩, ?_⟩
 ·obtain ⟨i, hi, rfl⟩ := List.mem_map.1 ho
  have hi := List.mem_range.1 hi
  have := colOf_name (g := groupP group (pairsP l).length) (l := pairsP l) (i := i) (by omega)
  exact ⟨this.1, .inr this.2.1⟩
 unfold madeP
 dsimp only
 rw [List.map_map]
 refine List.pairwise_map.2 (List.Pairwise.imp_of_mem (fun {a b} ha hb hab e => ?_) (List.nodup_range (n := (pairsP l).length)))
 have ha := List.mem_range.1 ha
 have hb := List.mem_range.1 hb
 exact hab (colOf_inj (by omega) (by omega) e)
theorem made_col {wh : Int} {l : List (Int × Int)} {group : Int} {j : Nat} {o : OutM} (h : (madeP wh l group).cols[j]? = some o) : j < (pairsP l).length ∧ o = colOf (groupP group (pairsP l).length) (pairsP l) j := by
 unfold madeP at h
 dsimp only at h
 rw [List.getElem?_map] at h
 obtain ⟨k, hk, e⟩ := Option.map_eq_some_iff.1 h
 have hlt : j < (List.range (pairsP l).length).length := (List.getElem?_eq_some_iff.1 hk).1
 rw [List.length_range] at hlt
 rw [List.getElem?_range hlt] at hk
 injection hk with hk
 subst hk
 exact ⟨hlt, e.symm⟩
theorem made_good {wh : Int} {l : List (Int × Int)} {group : Int} {o : OutM} (h : o ∈ (madeP wh l group).cols) : goodP o.steps = true := by
 obtain ⟨j, hj⟩ := List.mem_iff_getElem?.1 h
 obtain ⟨_, rfl⟩ := made_col hj
 exact (exprP_good _ _).1
theorem made_fit (wh : Int) (l : List (Int × Int)) (group : Int) : StepsFit (madeP wh l group).wh ∧ ∀ o ∈ (madeP wh l group).cols, StepsFit o.steps := by
 refine ⟨?_, fun o ho => (good_parts (made_good ho)).2.1⟩
 rcases whereP_good wh with e | ⟨h, _⟩
 ·show StepsFit (whereP wh)
  rw [e]; intro x hx; exact absurd hx List.not_mem_nil
 exact (good_parts h).2.1
theorem outs_miss {cols : List ColM} {g : Int} : ∀ {l : List OutM} {i : Nat} {acc : List ColM}, (∀ (j : Nat) o, l[j]? = some o → (typeS cols o.steps).2 = 220 ∨ ((typeS cols o.steps).2 = 0 ∧ (0 ≤ g → g ≤ (i + j : Nat) → (typeS cols o.steps).1.kind = 3))) → (∃ o ∈ l, (typeS cols o.steps).2 = 220) → outsP cols g i l acc = ([], 220)
 | [], _, _, _, ⟨o, ho, _⟩ => absurd ho List.not_mem_nil
 | o :: l, i, acc, h, ⟨y, hy, hm⟩ => by
  rw [outsP]
  rcases h 0 o rfl with h1 | ⟨h1, h2⟩
  ·rw [if_pos (by rw [h1]; decide), h1]
  rw [if_neg (by rw [h1]; exact fun h => h rfl)]
  have hy : y ∈ l := by
   rcases List.mem_cons.1 hy with rfl | hy
   ·rw [h1] at hm; exact absurd hm (by decide)
   exact hy
  have ih := fun acc => outs_miss (cols := cols) (g := g) (l := l) (i := i + 1) (acc := acc) (fun j x hx => by
   have := h (j + 1) x hx
   rw [show i + 1 + j = i + (j + 1) by omega]
   exact this) ⟨y, hy, hm⟩
  by_cases hg : 0 ≤ g ∧ g ≤ i
  ·rw [if_pos hg, if_neg (by rw [h2 hg.1 (by simpa using hg.2)]; exact fun h => h rfl), ih]
  rw [if_neg hg, ih]
def badNames : List (List UInt8) := [[], [65], [49], [97, 32, 98]]
def out0 : OutM := ⟨[], []⟩
def renamed (cols : List OutM) (k : Nat) (w : List UInt8) : List OutM := cols.set k ⟨w, (cols.getD k out0).steps⟩
def restepped (cols : List OutM) (k : Nat) (l : List StepM) : List OutM := cols.set k ⟨(cols.getD k out0).name, l⟩
def aheadOne (cols : List OutM) (i : Nat) : List OutM := (cols.take i).map (fun o => (⟨o.name, exprP 0 true⟩ : OutM)) ++ cols.drop i
def badGroup (n : Nat) : List Int := [-2, (n + 1 : Nat), 9223372036854775807, -9223372036854775808]
def spoiltP (l : List (Int × Int)) (what at' : Int) : PlanM :=
 let p := madeP 0 l 0
 let k := (at' % (p.cols.length : Nat)).toNat
 let j := (at' % 4).toNat
 let c := what % 9
 if c = 0 then ⟨[], renamed p.cols k (badNames.getD j []), -1⟩
 else if c = 1 then ⟨[], p.cols ++ [p.cols.getD k out0], -1⟩
 else if c = 2 then ⟨[], [], -1⟩
 else if c = 3 then ⟨[], p.cols, (badGroup p.cols.length).getD j 0⟩
 else if c = 4 then ⟨[], renamed p.cols k countW, (p.cols.length : Nat)⟩
 else if c = 5 then ⟨[], aheadOne (restepped p.cols k (exprP 7 false)) k, k⟩
 else if c = 6 then ⟨exprP (at' % 6) true, p.cols, -1⟩
 else if c = 7 then ⟨[], restepped p.cols k [], -1⟩
 else ⟨[⟨1, 2, []⟩], p.cols, -1⟩
theorem getD_get {α : Type} {l : List α} {k : Nat} {d : α} (h : k < l.length) : l.getD k d ∈ l ∧ l[k]? = some (l.getD k d) := by
 rw [List.getD_eq_getElem?_getD, List.getElem?_eq_getElem h, Option.getD_some]
 exact ⟨List.getElem_mem _, rfl⟩
theorem made0 (l : List (Int × Int)) : madeP 0 l 0 = ⟨[], (madeP 0 l 0).cols, -1⟩ := rfl
theorem named_bad {p : PlanM} {o : OutM} (ho : o ∈ p.cols) (h : isNameS o.name = false ∨ (0 ≤ p.group ∧ o.name = countW)) (cols : List ColM) : checkP cols p = ([], 230) := by
 have hn : namedP p = false := by
  cases hp : namedP p with
  | false => rfl
  | true =>
   unfold namedP at hp
   simp only [Bool.and_eq_true, List.all_eq_true, decide_eq_true_eq, Bool.not_eq_true', Bool.and_eq_false_iff, decide_eq_false_iff_not] at hp
   obtain ⟨h1, h2⟩ := hp.1.2 o ho
   rcases h with h | ⟨h3, h4⟩
   ·rw [h1] at h; exact absurd h (by decide)
   rcases h2 with h2 | h2
   ·exact absurd h3 h2
   exact absurd h4 h2
 unfold checkP
 rw [if_pos hn]
theorem named_shape {p : PlanM} (h : ¬ (1 ≤ p.cols.length ∧ p.cols.length ≤ 16 ∧ -1 ≤ p.group ∧ p.group ≤ p.cols.length)) (cols : List ColM) : checkP cols p = ([], 230) := by
 have hn : namedP p = false := by
  unfold namedP
  rw [decide_eq_false h, Bool.false_and, Bool.false_and]
 unfold checkP
 rw [if_pos hn]
theorem named_twice {p : PlanM} (h : ¬ (p.cols.map (·.name)).Nodup) (cols : List ColM) : checkP cols p = ([], 230) := by
 have hn : namedP p = false := by
  unfold namedP
  rw [decide_eq_false h, Bool.and_false]
 unfold checkP
 rw [if_pos hn]
theorem named_names {p q : PlanM} (h : namedP p = true) (hc : q.cols.map (·.name) = p.cols.map (·.name)) (hg : -1 ≤ q.group ∧ q.group ≤ q.cols.length) (hw : ∀ o ∈ p.cols, o.name ≠ countW) : namedP q = true := by
 have hl : q.cols.length = p.cols.length := by have := congrArg List.length hc; simpa using this
 unfold namedP at h ⊢
 rw [hc]
 simp only [Bool.and_eq_true, List.all_eq_true, decide_eq_true_eq, Bool.not_eq_true', Bool.and_eq_false_iff, decide_eq_false_iff_not] at h ⊢
 refine ⟨⟨⟨by omega, by omega, hg.1, hg.2⟩, fun o ho => ?_⟩, h.2⟩
 have : o.name ∈ p.cols.map (·.name) := by rw [← hc]; exact List.mem_map.2 ⟨o, ho, rfl⟩
 obtain ⟨o', ho', e⟩ := List.mem_map.1 this
 rw [← e]
 exact ⟨(h.1.2 o' ho').1, .inr (hw o' ho')⟩
theorem made_ne (wh : Int) (l : List (Int × Int)) (group : Int) : ∀ o ∈ (madeP wh l group).cols, o.name ≠ countW := by
 intro o ho
 obtain ⟨i, hi, rfl⟩ := List.mem_map.1 ho
 have hi := List.mem_range.1 hi
 exact (colOf_name (by have := (pairs_len l).2; omega)).2.1
theorem restepped_names {cols : List OutM} {k : Nat} {l : List StepM} (hk : k < cols.length) : (restepped cols k l).map (·.name) = cols.map (·.name) := by
 unfold restepped
 rw [List.map_set]
 obtain ⟨_, h⟩ := getD_get (d := out0) hk
 refine List.ext_getElem? fun i => ?_
 rw [List.getElem?_set]
 split
 ·rename_i e
  subst e
  rw [List.getElem?_map, h]
  simp [hk]
 rfl
theorem aheadOne_names (cols : List OutM) (i : Nat) : (aheadOne cols i).map (·.name) = cols.map (·.name) := by
 unfold aheadOne
 rw [List.map_append, List.map_map]
 show (cols.take i).map (·.name) ++ _ = _
 rw [← List.map_append, List.take_append_drop]
theorem outs_bad {cols : List ColM} {g : Int} {y : OutM} {r : List OutM} (hy : (typeS cols y.steps).2 = 0 ∧ (typeS cols y.steps).1.kind ≠ 3) : ∀ {l : List OutM} {i : Nat} {acc : List ColM}, (∀ o ∈ l, (typeS cols o.steps).2 = 0) → 0 ≤ g → g = (i + l.length : Nat) → outsP cols g i (l ++ y :: r) acc = ([], 230)
 | [], i, acc, _, h0, hg => by
  have hg : g = (i : Int) := hg
  rw [List.nil_append, outsP, if_neg (fun h => h hy.1), if_pos ⟨h0, by omega⟩, if_pos hy.2]
 | o :: l, i, acc, h, h0, hg => by
  rw [List.length_cons] at hg
  rw [List.cons_append, outsP, if_neg (fun h' => h' (h o List.mem_cons_self)), if_neg (by omega)]
  exact outs_bad hy (fun x hx => h x (List.mem_cons_of_mem _ hx)) h0 (by omega)
theorem spoilt_no (l : List (Int × Int)) (what at' : Int) : checkP (colsP false) (spoiltP l what at') = ([], if what % 9 < 7 then 230 else 220) := by
 have hn : (madeP 0 l 0).cols.length = (pairsP l).length := madeP_len 0 l 0
 obtain ⟨p1, p2⟩ := pairs_len l
 have hk : (at' % ((madeP 0 l 0).cols.length : Nat)).toNat < (madeP 0 l 0).cols.length := by
  have h1 := Int.emod_nonneg at' (b := ((madeP 0 l 0).cols.length : Int)) (by omega)
  have h2 := Int.emod_lt_of_pos at' (b := ((madeP 0 l 0).cols.length : Int)) (by omega)
  omega
 have hj : (at' % 4).toNat < 4 := by omega
 have hname := made_named 0 l 0
 have e2 : (typeS (colsP false) [⟨1, 2, []⟩]).2 = 220 := by decide +kernel
 have e7 : (typeS (colsP false) []).2 = 220 := by decide +kernel
 unfold spoiltP
 dsimp only
 obtain ⟨k, ek⟩ : ∃ k, k = (at' % ((madeP 0 l 0).cols.length : Nat)).toNat := ⟨_, rfl⟩
 obtain ⟨j, ej⟩ : ∃ j, j = (at' % 4).toNat := ⟨_, rfl⟩
 rw [← ek, ← ej]
 rw [← ek] at hk
 rw [← ej] at hj
 have set_in : ∀ o, o ∈ (madeP 0 l 0).cols.set k o := fun o => List.mem_of_getElem? (i := k) (by rw [List.getElem?_set_self hk])
 have cols_ok : ∀ o ∈ (madeP 0 l 0).cols, (typeS (colsP false) o.steps).2 = 0 := fun o ho => (good_parts (made_good ho)).2.2.1.1
 by_cases c0 : what % 9 = 0
 ·rw [if_pos c0, if_pos (by omega)]
  refine named_bad (o := ⟨badNames.getD j [], ((madeP 0 l 0).cols.getD k out0).steps⟩) (set_in _) (.inl ?_) _
  have key : ∀ j : Fin 4, isNameS (badNames.getD j.val []) = false := by decide +kernel
  exact key ⟨j, hj⟩
 rw [if_neg c0]
 by_cases c1 : what % 9 = 1
 ·rw [if_pos c1, if_pos (by omega)]
  refine named_twice (fun h => ?_) _
  rw [List.map_append, List.nodup_append] at h
  exact h.2.2 _ (List.mem_map.2 ⟨_, (getD_get (d := out0) hk).1, rfl⟩) _ List.mem_cons_self rfl
 rw [if_neg c1]
 by_cases c2 : what % 9 = 2
 ·rw [if_pos c2, if_pos (by omega)]
  exact named_shape (by decide) _
 rw [if_neg c2]
 by_cases c3 : what % 9 = 3
 ·rw [if_pos c3, if_pos (by omega)]
  refine named_shape (fun h => ?_) _
  obtain ⟨_, _, h1, h2⟩ := h
  dsimp only at h1 h2
  have : j = 0 ∨ j = 1 ∨ j = 2 ∨ j = 3 := by omega
  unfold badGroup at h1 h2
  rcases this with rfl | rfl | rfl | rfl <;> simp at h1 h2 <;> omega
 rw [if_neg c3]
 by_cases c4 : what % 9 = 4
 ·rw [if_pos c4, if_pos (by omega)]
  exact named_bad (o := ⟨countW, ((madeP 0 l 0).cols.getD k out0).steps⟩) (set_in _) (.inr ⟨by show (0 : Int) ≤ ((madeP 0 l 0).cols.length : Nat); omega, rfl⟩) _
 rw [if_neg c4]
 by_cases c5 : what % 9 = 5
 ·rw [if_pos c5, if_pos (by omega)]
  obtain ⟨cs, hcs⟩ : ∃ cs, cs = restepped (madeP 0 l 0).cols k (exprP 7 false) := ⟨_, rfl⟩
  have hlen : cs.length = (madeP 0 l 0).cols.length := by rw [hcs]; unfold restepped; rw [List.length_set]
  have hlt : k < cs.length := by omega
  have hsplit : aheadOne cs k = (cs.take k).map (fun o => (⟨o.name, exprP 0 true⟩ : OutM)) ++ cs[k] :: cs.drop (k + 1) := by
   unfold aheadOne
   rw [List.drop_eq_getElem_cons hlt]
  have hck : cs[k].steps = exprP 7 false := by
   have : cs[k]? = some ⟨((madeP 0 l 0).cols.getD k out0).name, exprP 7 false⟩ := by rw [hcs]; unfold restepped; rw [List.getElem?_set_self hk]
   rw [List.getElem?_eq_getElem hlt] at this
   injection this with this
   rw [this]
  rw [← hcs]
  unfold checkP
  rw [if_neg, if_neg (fun h => h.1 rfl), if_neg (fun h => h.1 rfl)]
  ·dsimp only
   rw [hsplit]
   refine outs_bad (by rw [hck]; exact ⟨by decide +kernel, by decide +kernel⟩) (fun o ho => ?_) (by omega) (by rw [List.length_map, List.length_take]; omega)
   obtain ⟨x, _, rfl⟩ := List.mem_map.1 ho
   show (typeS (colsP false) (exprP 0 true)).2 = 0
   decide +kernel
  rw [named_names (p := madeP 0 l 0) hname]
  ·decide
  ·show (aheadOne cs k).map (·.name) = _
   rw [aheadOne_names, hcs, restepped_names hk]
  ·show (-1 : Int) ≤ k ∧ (k : Int) ≤ (aheadOne cs k).length
   have : (aheadOne cs k).length = cs.length := by unfold aheadOne; rw [List.length_append, List.length_map, List.length_take, List.length_drop]; omega
   omega
  exact made_ne 0 l 0
 rw [if_neg c5]
 by_cases c6 : what % 9 = 6
 ·rw [if_pos c6, if_pos (by omega)]
  obtain ⟨h1, h2⟩ := exprP_good (at' % 6) true
  have h2 := h2 rfl
  have hne : exprP (at' % 6) true ≠ [] := fun e => (good_parts h1).1.2.1 (by rw [e]; rfl)
  unfold checkP
  rw [if_neg, if_neg (fun h => h.2 (good_parts h1).2.2.1.1), if_pos ⟨hne, by dsimp only; rw [h2]; decide⟩]
  rw [named_names (q := ⟨exprP (at' % 6) true, (madeP 0 l 0).cols, -1⟩) hname rfl ⟨by show (-1 : Int) ≤ -1; omega, by show (-1 : Int) ≤ ((madeP 0 l 0).cols.length : Nat); omega⟩ (made_ne 0 l 0)]
  decide
 rw [if_neg c6]
 by_cases c7 : what % 9 = 7
 ·rw [if_pos c7, if_neg (by omega)]
  unfold checkP
  rw [if_neg, if_neg (fun h => h.1 rfl), if_neg (fun h => h.1 rfl)]
  ·dsimp only
   refine outs_miss (fun i o ho => ?_) ⟨_, set_in _, e7⟩
   rcases List.mem_or_eq_of_mem_set (List.mem_of_getElem? ho) with h | h
   ·exact .inr ⟨cols_ok o h, fun h => absurd h (by omega)⟩
   exact .inl (by rw [h]; exact e7)
  rw [named_names (p := madeP 0 l 0) hname (restepped_names hk) ⟨by dsimp only; omega, by dsimp only; omega⟩ (made_ne 0 l 0)]
  decide
 rw [if_neg c7, if_neg (by omega)]
 unfold checkP
 rw [if_neg, if_pos ⟨by simp, by show (typeS (colsP false) [⟨1, 2, []⟩]).2 ≠ 0; rw [e2]; decide⟩]
 ·show (([] : List ColM), (typeS (colsP false) [⟨1, 2, []⟩]).2) = _
  rw [e2]
 rw [named_names (q := ⟨[⟨1, 2, []⟩], (madeP 0 l 0).cols, -1⟩) hname rfl ⟨by show (-1 : Int) ≤ -1; omega, by show (-1 : Int) ≤ ((madeP 0 l 0).cols.length : Nat); omega⟩ (made_ne 0 l 0)]
 decide
end Go.Proofs.YtolaedhdjcnijaaGreatDoor
namespace Go.Proofs.YtolaedhdjcnijaaGreatDoor
open Go Go.Lib Go.Mw
set_option maxRecDepth 8000
/-! The chapter's examples. -/
def smallP : List ColM := [⟨1, [], ⟨2, false⟩, cell0⟩, ⟨2, [], ⟨4, true⟩, cell0⟩, ⟨3, [], ⟨1, false⟩, cell0⟩]
def exTx : List (List UInt8) := [[119, 104, 101, 114, 101, 32, 110, 111, 110, 101, 10, 111, 117, 116, 32, 97, 32, 35, 49, 10, 111, 117, 116, 32, 98, 32, 35, 50, 32, 105, 115, 110, 117, 108, 108, 10, 103, 114, 111, 117, 112, 32, 110, 111, 110, 101, 10], [119, 104, 101, 114, 101, 32, 35, 51, 10, 111, 117, 116, 32, 115, 32, 35, 50, 10, 111, 117, 116, 32, 116, 111, 116, 97, 108, 32, 35, 49, 32, 50, 32, 42, 10, 103, 114, 111, 117, 112, 32, 49, 10], [119, 104, 101, 114, 101, 32, 35, 49, 10, 111, 117, 116, 32, 97, 32, 35, 49, 10, 103, 114, 111, 117, 112, 32, 110, 111, 110, 101, 10], [119, 104, 101, 114, 101, 32, 110, 111, 110, 101, 10, 111, 117, 116, 32, 97, 32, 35, 50, 10, 103, 114, 111, 117, 112, 32, 48, 10], [119, 104, 101, 114, 101, 32, 110, 111, 110, 101, 10, 111, 117, 116, 32, 97, 32, 35, 52, 10, 103, 114, 111, 117, 112, 32, 110, 111, 110, 101, 10]]
def exPl : List PlanM := [⟨[], [⟨[97], [⟨1, 1, []⟩]⟩, ⟨[98], [⟨1, 2, []⟩, ⟨16, 0, []⟩]⟩], -1⟩, ⟨[⟨1, 3, []⟩], [⟨[115], [⟨1, 2, []⟩]⟩, ⟨[116, 111, 116, 97, 108], [⟨1, 1, []⟩, ⟨2, 2, []⟩, ⟨9, 0, []⟩]⟩], 1⟩,
 ⟨[⟨1, 1, []⟩], [⟨[97], [⟨1, 1, []⟩]⟩], -1⟩, ⟨[], [⟨[97], [⟨1, 2, []⟩]⟩], 0⟩, ⟨[], [⟨[97], [⟨1, 4, []⟩]⟩], -1⟩]
def exCh : List (List ColM × Int) := [([⟨1, [97], ⟨3, false⟩, cell0⟩, ⟨2, [98], ⟨1, false⟩, cell0⟩], 0), ([⟨1, [115], ⟨4, true⟩, ⟨true, 0, []⟩⟩, ⟨2, countW, ⟨3, false⟩, cell0⟩, ⟨3, [116, 111, 116, 97, 108], ⟨3, false⟩, cell0⟩], 0), ([], 230), ([], 230), ([], 220)]
theorem ex_may : exPl.all mayP = true ∧ exPl.map (fun p => unlines (linesP p)) = exTx := by decide +kernel
theorem ex_check : exPl.map (checkP smallP) = exCh ∧ checkP smallP ⟨[], [⟨countW, [⟨1, 1, []⟩]⟩], 0⟩ = ([], 230) := by decide +kernel
def noTx : List (List UInt8 × Int × Int) := [([119, 104, 101, 114, 101, 32, 110, 111, 110, 101, 10, 111, 117, 116, 32, 97, 32, 35, 49, 10, 111, 117, 116, 32, 97, 32, 35, 49, 10, 103, 114, 111, 117, 112, 32, 110, 111, 110, 101, 10], 0, 2), ([119, 104, 101, 114, 101, 32, 110, 111, 110, 101, 10, 103, 114, 111, 117, 112, 32, 110, 111, 110, 101, 10], 1, 4), ([119, 104, 101, 114, 101, 32, 110, 111, 110, 101, 10, 111, 117, 116, 32, 97, 32, 35, 49, 10], 2, 4), ([119, 104, 101, 114, 101, 32, 110, 111, 110, 101, 10, 111, 117, 116, 32, 97, 32, 35, 49, 10, 103, 114, 111, 117, 112, 32, 50, 10], 0, 2), ([119, 104, 101, 114, 101, 10], 0, 4), ([], 0, 4), ([119, 104, 101, 114, 101, 32, 110, 111, 110, 101, 10, 111, 117, 116, 32, 97, 32, 35, 49, 10, 103, 114, 111, 117, 112, 32, 48, 49, 10], 2, 4)]
theorem ex_none : ∀ x ∈ noTx, parseP x.1 = (plan0, x.2.1, x.2.2) := by
 decide +kernel
end Go.Proofs.YtolaedhdjcnijaaGreatDoor
namespace Go.Proofs.YtolaedhdjcnijaaGreatDoor
open Go Go.Mw Go.Lib
set_option maxRecDepth 4000
theorem where_fit {s : List UInt8} {w : List StepM} (h : whereL s = some w) : StepsFit w := by
 unfold whereL at h
 obtain ⟨t, _, h⟩ := Option.bind_eq_some_iff.1 h
 split at h
 ·cases h
 split at h
 ·injection h with h; subst h; exact fun x hx => absurd hx List.not_mem_nil
 split at h
 ·injection h with h; subst h; exact parse_fits t
 cases h
theorem out_fit {s : List UInt8} {o : OutM} (h : outL s = some o) : StepsFit o.steps := by
 unfold outL at h
 obtain ⟨t, _, h⟩ := Option.bind_eq_some_iff.1 h
 obtain ⟨x, _, h⟩ := Option.bind_eq_some_iff.1 h
 split at h
 ·injection h with h; subst h; exact parse_fits _
 cases h
theorem cols_fit : ∀ ls : List (List UInt8), ∀ o ∈ colsL ls, StepsFit o.steps
 | [], o, ho => absurd ho List.not_mem_nil
 | s :: l, o, ho => by
  rw [colsL] at ho
  cases hs : outL s with
  | none => rw [hs] at ho; exact absurd ho List.not_mem_nil
  | some x =>
   rw [hs] at ho
   rcases List.mem_cons.1 ho with rfl | ho
   ·exact out_fit hs
   exact cols_fit l o ho
theorem fit0 : AllFit plan0 ∧ plan0.cols.length ≤ 16 := ⟨⟨fun x hx => absurd hx List.not_mem_nil, fun o ho => absurd ho List.not_mem_nil⟩, by decide⟩
theorem parse_small (s : List UInt8) : AllFit (parseP s).1 ∧ (parseP s).1.cols.length ≤ 16 := by
 unfold parseP
 split
 ·exact fit0
 dsimp only
 obtain ⟨many, hmany⟩ : ∃ m, m = if (linesL s).2 = true then (linesL s).1.length else (linesL s).1.length - 1 := ⟨_, rfl⟩
 rw [← hmany]
 split
 ·exact fit0
 split
 ·exact fit0
 rename_i wv hw
 split
 ·exact fit0
 split
 ·exact fit0
 split
 ·exact fit0
 split
 ·exact fit0
 rename_i hm
 have hm' := (may_parts.1 (eq_true_of_ne_false hm)).1
 exact ⟨⟨where_fit hw, cols_fit _⟩, (named_cols hm').1.2.1⟩
def slash (l : List UInt8) : List UInt8 := l.flatMap fun c => if c = 47 then [10] else [c]
theorem slash_len (l : List UInt8) : (slash l).length = l.length := by
 unfold slash
 induction l with
 | nil => rfl
 | cons c l ih => rw [List.flatMap_cons, List.length_append, ih, List.length_cons]; split <;> simp <;> omega
def back (l : List UInt8) : List UInt8 := l.map fun c => if c = 10 then 47 else c
def slTx : List (List UInt8) := exTx.map back
def slNo : List (List UInt8) := noTx.map fun x => back x.1
theorem sl_ex : slTx.map slash = exTx ∧ slNo.map slash = noTx.map (·.1) := by decide +kernel
theorem ex_parse (i : Nat) {s : List UInt8} {p : PlanM} (hs : slTx[i]? = some s) (hp : exPl[i]? = some p) : parseP (slash s) = (p, 0, 0) := by
 have h1 : (exTx)[i]? = some (slash s) := by rw [← sl_ex.1, List.getElem?_map, hs]; rfl
 rw [← ex_may.2, List.getElem?_map, hp] at h1
 injection h1 with h1
 have hm := List.all_eq_true.1 ex_may.1 p (List.mem_of_getElem? hp)
 have hf : AllFit p := by
  have key : ∀ q ∈ exPl, AllFit q := by
   unfold exPl
   intro q hq
   simp only [List.mem_cons, List.not_mem_nil, or_false] at hq
   rcases hq with rfl | rfl | rfl | rfl | rfl <;>
   ·refine ⟨fun x hx => ?_, fun o ho x hx => ?_⟩
    ·simp at hx
     try (rcases hx with rfl | rfl | rfl)
     all_goals (first | (subst hx; unfold fits; decide) | (unfold fits; decide))
    simp at ho
    first
    | (rcases ho with rfl | rfl <;> simp at hx <;> (first | (subst hx; unfold fits; decide) | (rcases hx with rfl | rfl <;> (unfold fits; decide)) | (rcases hx with rfl | rfl | rfl <;> (unfold fits; decide))))
    | (subst ho; simp at hx; subst hx; unfold fits; decide)
  exact key p (List.mem_of_getElem? hp)
 rw [← h1]
 refine plan_back hm hf.1 hf.2 ?_
 have hl : ∀ q ∈ exPl, (unlines (linesP q)).length ≤ 100 := by decide +kernel
 have := hl p (List.mem_of_getElem? hp)
 omega
theorem no_parse (i : Nat) {s x : List UInt8} {n e : Int} (hs : slNo[i]? = some s) (hx : noTx[i]? = some (x, n, e)) : parseP (slash s) = (plan0, n, e) := by
 have h1 : (noTx.map (·.1))[i]? = some (slash s) := by rw [← sl_ex.2, List.getElem?_map, hs]; rfl
 rw [List.getElem?_map, hx] at h1
 injection h1 with h1
 have := ex_none _ (List.mem_of_getElem? hx)
 rw [← h1]
 exact this
section
variable {w : World}
end
end Go.Proofs.YtolaedhdjcnijaaGreatDoor
