/-
 A line of a plan's text, walked.
-/
import Derived.Test.YtolaedhdjcnijaaGreatDoorKx27
import Derived.Test.YtolaedhdjcnijaaGreatDoorKx28
import Derived.Test.YtolaedhdjcnijaaGreatDoorKx23
set_option linter.unusedVariables false
set_option linter.unusedSimpArgs false
namespace Go.Proofs.YtolaedhdjcnijaaGreatDoor
open Go Go.Mw Go.Lib
set_option maxRecDepth 4000
theorem index_idx : ∀ s : List UInt8, Lib.index s [32] = match s.idxOf? 32 with | some i => (i : Int) | none => -1
 | [] => rfl
 | c :: t => by
  have ih := index_idx t
  by_cases h : c = 32
  ·subst h
   have e : List.idxOf? 32 (32 :: t) = some 0 := by unfold List.idxOf?; rw [List.findIdx?_cons]; rfl
   rw [index_hit1, e]; rfl
  have hb : (c == 32) = false := by simpa using h
  have e : List.idxOf? 32 (c :: t) = (List.idxOf? 32 t).map (· + 1) := by unfold List.idxOf?; rw [List.findIdx?_cons, hb]; rfl
  rw [index_miss1 h, ih, e]
  cases List.idxOf? 32 t with
  | none => rfl
  | some i =>
   show (if (i : Int) = -1 then (-1 : Int) else (i : Int) + 1) = ((i + 1 : Nat) : Int)
   rw [if_neg (by omega)]
   omega
theorem cut_lib (s : List UInt8) : (Lib.cut s [32]).1 = (cutSp s).1 ∧ (Lib.cut s [32]).2.1 = (cutSp s).2 := by
 unfold Lib.cut cutSp cutL
 rw [index_idx]
 cases h : s.idxOf? 32 with
 | none => simp
 | some i => simp
theorem cutSp_len (s : List UInt8) : (cutSp s).1.length ≤ s.length ∧ (cutSp s).2.length ≤ s.length := by
 unfold cutSp
 cases h : cutL s with
 | none => simp
 | some x =>
  obtain ⟨a, b⟩ := x
  have := cut_eq h
  rw [this]
  simp only [Option.getD_some, List.length_append]
  omega
theorem outs_one {n : List UInt8} {v : Value} (hv : v.oneCell' = true) : ∀ u ∈ [(n, v)].flatMap outCells, u.oneCell' = true := fun u hu => by
 simp only [List.flatMap_cons, List.flatMap_nil, List.append_nil, outCells, List.mem_cons, List.not_mem_nil, or_false] at hu
 rcases hu with rfl | rfl
 ·rfl
 exact hv
theorem atoi_fits {l : List UInt8} {v : Int} (h : atoiAll l = .ok v) : fits v := atoiAll_bounds h
def readH (b : Nat) (p : PlanM) (st : Int) : HP := exH fun x : Value × Value × List (List UInt8 × Value) => starL [blk b [x.1, x.2.1, I p.group, I st] 74, seeH x.1 stepCells 3 p.wh, rowD 53 2 outCells x.2.1 x.2.2, rawsH x.2.2 p.cols]
def nextH (b : Nat) : Option (PlanM × Int) → HP
 | some r => readH b r.1 r.2
 | none => emp
section
variable {w w₀ : World} {S : Nat → Prop} {rs : List HP}
theorem Sep_readH {b : Nat} {p : PlanM} {st : Int} {vw vc : Value} {r : List (List UInt8 × Value)} (H : Mw.Sep w₀ S (blk b [vw, vc, I p.group, I st] 74 :: seeH vw stepCells 3 p.wh :: rowD 53 2 outCells vc r :: rawsH r p.cols :: rs) w) : Mw.Sep w₀ S (readH b p st :: rs) w :=
 Sep.pack0 (p := fun x : Value × Value × List (List UInt8 × Value) => starL [blk b [x.1, x.2.1, I p.group, I st] 74, seeH x.1 stepCells 3 p.wh, rowD 53 2 outCells x.2.1 x.2.2, rawsH x.2.2 p.cols]) (vw, vc, r) (Sep.bundle (l := [_, _, _, _]) H)
theorem Sep_unread {b : Nat} {p : PlanM} {st : Int} (H : Mw.Sep w₀ S (readH b p st :: rs) w) : ∃ vw vc r, Mw.Sep w₀ S (blk b [vw, vc, I p.group, I st] 74 :: seeH vw stepCells 3 p.wh :: rowD 53 2 outCells vc r :: rawsH r p.cols :: rs) w := by
 unfold readH at H
 obtain ⟨⟨vw, vc, r⟩, H⟩ := H.ex0
 exact ⟨vw, vc, r, Sep.parts H⟩
theorem Sep_none {F : Nat → Prop} (H : Mw.Sep w₀ F rs w) : Turn F emp w₀ w := (Sep.addPure (φ := True) trivial H).first.turn
theorem cut_ok (s : List UInt8) (hl : s.length ≤ 1048576) (hT : TabsX w) : Rets Tryz.prog 91 [str s, str [32]] w fun v w' => (∃ b, v = .tuple #[str (cutSp s).1, str (cutSp s).2, .bool b]) ∧ Kept noB w w' := by
 obtain ⟨m, hm⟩ := hT.len
 have hs : (⟨s.toArray⟩ : ByteArray).size = s.length := Mw.size_mk s
 exact Calls.mono (Tryz.strings_Cut ⟨s.toArray⟩ ⟨#[32]⟩ m w (by rw [hs]; omega) hm) fun e w' he => by
  obtain ⟨rfl, n, rfl⟩ := he
  obtain ⟨h1, h2⟩ := cut_lib s
  refine ⟨⟨(Lib.cut s [32]).2.2, ?_⟩, (Kept.refl noB w).drewn _⟩
  show Value.tuple #[str (Lib.cut s [32]).1, str (Lib.cut s [32]).2.1, .bool (Lib.cut s [32]).2.2] = _
  rw [h1, h2]
theorem atoi_ok (t : List UInt8) (hl : t.length ≤ 1048576) (hT : TabsX w) : Rets Tryz.prog 93 [str t] w fun v w' => (∃ n e b, v = .tuple #[I n, e] ∧ IsNil e b ∧ (b = true → atoiAll t = .ok n) ∧ (b = false → ∀ m, atoiAll t ≠ .ok m)) ∧ Kept noB w w' := by
 have hs : (⟨t.toArray⟩ : ByteArray).size = t.length := Mw.size_mk t
 cases h : atoiAll t
 ·rename_i v
  exact Calls.mono (Tryz.strconv_Atoi_ok ⟨t.toArray⟩ (by rw [hs]; omega) v h w) fun e w' he => by
   obtain ⟨rfl, hw⟩ := he
   refine ⟨⟨v, .nilIface, true, rfl, .inl ⟨rfl, rfl⟩, fun _ => rfl, fun hf => by cases hf⟩, ?_⟩
   rcases hw with rfl | ⟨t, rfl⟩
   ·exact Kept.refl _ _
   exact Kept.of_below (Lib.bytesWorld_below _ _ _)
 ·skip
  obtain ⟨tp, p, hv⟩ := hT.syn
  exact Calls.mono (Tryz.strconv_Atoi_syntax_var ⟨t.toArray⟩ (by rw [hs]; omega) h rfl tp p w hv) fun e w' he => by
   obtain ⟨N, rfl, _, _, hb⟩ := he
   exact ⟨⟨_, _, false, rfl, .inr ⟨rfl, _, _, rfl⟩, (fun hf => by cases hf), fun _ m hm => by cases hm⟩, Kept.of_below hb⟩
 ·skip
  obtain ⟨tp, p, hv⟩ := hT.ran
  exact Calls.mono (Tryz.strconv_Atoi_range_var ⟨t.toArray⟩ (by rw [hs]; omega) h tp p w hv) fun e w' he => by
   obtain ⟨N, rfl, _, _, hb⟩ := he
   exact ⟨⟨_, _, false, rfl, .inr ⟨rfl, _, _, rfl⟩, (fun hf => by cases hf), fun _ m hm => by cases hm⟩, Kept.of_below hb⟩
theorem stepsT_ok (t : List UInt8) (hl : t.length ≤ 1000000) (hT : TabsX w) : Rets Tryz.prog 92 [str t] w fun v w' => ∃ x, v = .tuple #[x, .bool (stepsO t).isSome] ∧ True ∧ Turn noB (rowD 60 3 stepCells x (parseS t).1) w w' := by
 have H := Sep.start0 w
 obtain ⟨res, hres⟩ : ∃ res, res = (stepsO t).isSome := ⟨_, rfl⟩
 rw [← hres]
 unfold stepsO at hres
 refine rets1 Tryz.func92 rfl rfl rfl rfl ?_
 refine Sr (Am ?_)
 refine Am ?_
 refine Nx (Mv ?_)
 refine FL_callN H (parseE_ok t (.inl hl) (by omega) (hT.keep H.kept)) (h := fun x w5 _ H5 k4 => ?_)
 obtain ⟨B, cb, rfl, hcb, hB⟩ := Sep.formD H5 At0
 refine Mv ?_
 refine Vx ?_
 refine Vx ?_
 refine Am ?_
 refine Am ?_
 refine Nx (Mv ?_)
 refine Mv ?_
 refine Ve ?_
 refine Mv ?_
 refine FL_splitP (t := 14) rfl (fun hs15 => ?_) (fun hs15 => ?_)
 ·have he : (parseS t).2 = 0 := hs15
  refine On (Mv ?_)
  refine On (Vs ?_)
  refine On (Vg ?_)
  refine Pt ?_
  refine Am ?_
  refine Am ?_
  refine Qn (FW_ret (Qfn_ret (hR := ?_)))
  exact ⟨_, by first | (rw [hres]; rfl) | (rw [hres]; by_cases hq : (parseS t).1 = [] <;> simp [hq, he, resPack, List.length_pos_iff]), trivial, H5.turn⟩
 rw [if_neg (fun h => hs15 h.1)] at hres
 refine Of (Of (Of (Pf ?_)))
 refine Am ?_
 refine Am ?_
 refine Qn (FW_ret (Qfn_ret (hR := ?_)))
 exact ⟨_, by first | (rw [hres]; rfl) | (rw [hres]; by_cases hq : (parseS t).1 = [] <;> simp [hq, he, resPack, List.length_pos_iff]), trivial, H5.turn⟩
theorem line_ok {b : Nat} {F : Nat → Prop} {p : PlanM} {st : Int} (s : List UInt8) (hp : (readH b p st).ok F w) (hst : st = 0 ∨ st = 1 ∨ st = 2 ∨ st = 3) (hl : s.length ≤ 1000000) (hn : p.cols.length ≤ 1000000) (hT : ∀ w', Kept F w w' → TabsX w') :
    Rets Tryz.prog 45 [selfP b, str s] w fun v w' => v = .bool (lineT p st s).isSome ∧ Turn F (nextH b (lineT p st s)) w w' := by
  obtain ⟨vw, vc, r, H⟩ := Sep_unread (Sep.start1 hp)
  obtain ⟨res, hres⟩ : ∃ res, res = lineT p st s := ⟨_, rfl⟩
  rw [← hres]
  unfold lineT at hres
  obtain ⟨wd, hwd⟩ : ∃ wd, wd = (cutSp s).1 := ⟨_, rfl⟩
  obtain ⟨rest, hrest⟩ : ∃ rest, rest = (cutSp s).2 := ⟨_, rfl⟩
  have hrl : rest.length ≤ 1000000 := by have := (cutSp_len s).2; rw [hrest]; omega
  rw [← hwd, ← hrest] at hres
  obtain ⟨A, ca, rfl, hca, hA⟩ := Sep.formD H At2
  have hraw : RawOf w r p.cols := Sep.sees H At3
  have hrn := hraw.len
  have hvw : ∃ A c, vw = .slice A p.wh.length c := by
    obtain ⟨A, c, e, _⟩ := (Sep.sees H At1 : RowIn w vw stepCells 3 p.wh)
    exact ⟨A, c, e⟩
  obtain ⟨Aw, cw, rfl⟩ := hvw
  refine rets2 Tryz.func45 rfl rfl rfl rfl ?_
  refine Sr (Am ?_)
  refine Nx (Mv ?_)
  refine FL_call (cut_ok s (by omega) (hT _ H.kept)) rfl rfl (fun v' w4 hv => ?_)
  obtain ⟨⟨b7, rfl⟩, hkk⟩ := hv
  have H4 := H.keep hkk
  rw [← hwd, ← hrest]
  refine Mv ?_
  refine Vx ?_
  refine Vx ?_
  refine Vx ?_
  refine Am ?_
  refine Am ?_
  refine Am ?_
  refine Qn (FW_seq (Sr (Mv ?_)))
  refine Vv (Gives.nilCheck rfl) (Vf ?_)
  refine Ld H4 ?_
  refine Qn (FW_block (FW_cut (fun _ : Unit => [(0, selfP b), (5, str wd), (6, str rest)]) (fun _ w' => (res = (outC s).map fun o => (⟨p.wh, p.cols ++ [o], p.group⟩, 2)) ∧ Sep w F [blk b [.slice Aw p.wh.length cw, .slice A r.length ca, I p.group, I st] 74, seeH (.slice Aw p.wh.length cw) stepCells 3 p.wh, rowD 53 2 outCells (.slice A r.length ca) r, rawsH r p.cols] w') ?_ ?_))
  · refine FW_block (FW_seq (FW_block (FW_seq (FW_block (FW_seq (FW_seq (Sr (Ve ?_))))))))
    refine Am ?_
    refine Qn (Cp rfl (fun hc19 => ?_) (fun hc19 => ?_))
    · rw [if_pos hc19] at hres
      refine FW_exit (Qseq_exit (Qseq_exit (Qblk_exit (Qseq_normal (FW_seq (Sr (Mv ?_)))))))
      refine Vv (Gives.nilCheck rfl) (Vf ?_)
      refine FL_store H4 (h := fun w25 H25 => ?_)
      refine Qn (FW_seq (Sr (Mv ?_)))
      refine Vv (Gives.neqT rfl rfl) (Mv ?_)
      refine FL_splitP (t := 38) rfl (fun hs29 => ?_) (fun hs29 => ?_)
      · have hw1 : ¬ wd = whereN := hs29
        rw [if_neg hw1] at hres
        refine Of (Of (Pt ?_))
        refine Qn (FW_cond_true rfl ?_)
        refine Sr (Mv ?_)
        refine Vv (Gives.eqlT rfl rfl) (Am ?_)
        refine Qn (Rs (Qseq_ret (Qblk_ret (Qseq_ret (Qblk_ret (Qcut_ret (Qblk_ret (Qseq_ret (Qfn_ret (hR := ?_))))))))))
        exact ⟨by rw [hres]; exact congrArg Value.bool (decide_eq_false hw1), by rw [hres]; exact Sep_none H25⟩
      have hw1 : wd = whereN := Classical.not_not.1 hs29
      rw [if_pos hw1] at hres
      refine On (Mv ?_)
      refine On (Vv (Gives.eqlT rfl rfl) (Pf ?_))
      refine Qn (Cp rfl (fun hc40 => ?_) (fun hc40 => ?_))
      · have hr1 : rest = noneW := hc40
        rw [if_pos hr1] at hres
        refine Sr (Mv ?_)
        refine Vv (Gives.eqlT rfl rfl) (Am ?_)
        refine Qn (Rs (Qseq_ret (Qblk_ret (Qseq_ret (Qblk_ret (Qcut_ret (Qblk_ret (Qseq_ret (Qfn_ret (hR := ?_))))))))))
        exact ⟨by rw [hres]; exact congrArg Value.bool (decide_eq_true hw1), by rw [hres]; exact (Sep_readH (p := p) H25).first.turn⟩
      rw [if_neg (show ¬ rest = noneW from hc40)] at hres
      refine Sk (Sr (Mv ?_))
      refine FL_callN H25 (stepsT_ok rest hrl (hT _ H25.kept)) (h := fun x w49 _ H49 k48 => ?_)
      obtain ⟨B, cb, rfl, hcb, hB⟩ := Sep.formD H49 At0
      refine Mv ?_
      refine Vx ?_
      refine Vx ?_
      refine Am ?_
      refine Am ?_
      refine Nx (Mv ?_)
      refine Mv ?_
      refine Vv (Gives.nilCheck rfl) (Vf ?_)
      refine Vf ?_
      refine FL_store H49 (h := fun w61 H61 => ?_)
      refine Nx (Mv ?_)
      refine Am ?_
      refine Qn (Rs (Qblk_ret (Qseq_ret (Qblk_ret (Qcut_ret (Qblk_ret (Qseq_ret (Qfn_ret (hR := ?_)))))))))
      rw [hres]
      unfold stepsO
      by_cases hq : (parseS rest).2 = 0 ∧ (parseS rest).1 ≠ []
      · rw [if_pos hq]
        refine ⟨rfl, ?_⟩
        exact (Sep_readH (p := ⟨(parseS rest).1, p.cols, p.group⟩) (Sep.front1 (Sep_seeRow H61 At0)).front2.drop0).first.turn
      rw [if_neg hq]
      exact ⟨rfl, Sep_none H61⟩
    have hs0 : ¬ st = 0 := hc19
    rw [if_neg hs0] at hres
    refine Sk (FW_seq (Sr (Ve ?_)))
    refine Am ?_
    refine Qn (Cp rfl (fun hc68 => ?_) (fun hc68 => ?_))
    · have hs2 : st = 2 := hc68
      refine FW_exit (Qseq_exit (Qseq_exit (Qblk_exit_ne rfl (Qseq_exit (Qblk_exit (Qseq_normal ?_))))))
      refine Sr (Mv ?_)
      refine Vv (Gives.eqlT rfl rfl) (Qn ?_)
      refine Cp rfl (fun hc72 => ?_) (fun hc72 => ?_)
      · rw [if_pos ⟨hs2, hc72⟩] at hres
        refine Sr (Mv ?_)
        refine Vv (Gives.nilCheck rfl) (Vf ?_)
        refine FL_store H4 (h := fun w78 H78 => ?_)
        refine Nx (Mv ?_)
        refine FL_call (atoi_ok rest (by omega) (hT _ H78.kept)) rfl rfl (fun v' w81 hv => ?_)
        obtain ⟨⟨n, ev, bn, rfl, hnil, hyes, hnot⟩, hkk⟩ := hv
        have H81 := H78.keep hkk
        refine Mv ?_
        refine Vx ?_
        refine Vx ?_
        refine Am ?_
        refine Am ?_
        refine Qn (FW_seq (Sr (Mv ?_)))
        refine Vv (Gives.eqlT rfl rfl) (Qn ?_)
        refine Cp rfl (fun hc89 => ?_) (fun hc89 => ?_)
        · have hr1 : rest = noneW := hc89
          have hgc : groupC rest = some (-1) := by unfold groupC; rw [if_pos hr1]
          rw [hgc] at hres
          refine FW_region (Am ?_)
          refine Am ?_
          refine Nx (Mv ?_)
          refine Mv ?_
          refine Vv (Gives.nilCheck rfl) (Vf ?_)
          refine Vf ?_
          refine FL_store H81 (h := fun w99 H99 => ?_)
          refine Nx (Mv ?_)
          refine Vv (Gives.eqlNilI (b := true) (.inl ⟨rfl, rfl⟩) rfl rfl) (Mv ?_)
          refine FL_split (t := 74) rfl (fun hs103 => ?_) (fun hs103 => ?_)
          · refine On (Mv ?_)
            refine On (Vl ?_)
            refine On (Mv ?_)
            refine FL_splitP (t := 77) rfl (fun hs108 => ?_) (fun hs108 => ?_)
            · refine Of (Of (Of (Of (Of (Ou (Ou (Of (On (Pt ?_)))))))))
              refine Pt ?_
              refine Mv ?_
              refine On (Mv ?_)
              refine On (Vv (Gives.geq rfl rfl) (On ?_))
              refine Mv ?_
              refine FL_splitP (t := 91) rfl (fun hs116 => ?_) (fun hs116 => ?_)
              · exact absurd hs116 (by decide)
              refine On (Mv ?_)
              refine On (Vv (Gives.eqlT rfl rfl) (On ?_))
              refine Pf ?_
              refine Pt ?_
              refine Am ?_
              refine Qn (FW_ret (Qblk_ret (Qcut_ret (Qblk_ret (Qseq_ret (Qfn_ret (hR := ?_)))))))
              exact ⟨by rw [hres]; exact congrArg Value.bool (decide_eq_true hr1), by rw [hres]; exact (Sep_readH (p := ⟨p.wh, p.cols, -1⟩) H99).first.turn⟩
            exact absurd (show (-1 : Int) < 0 by decide) hs108
          exact Bool.noConfusion hs103
        have hr1 : ¬ rest = noneW := hc89
        have hgc : groupC rest = (groupN rest).map fun n : Nat => ((n : Nat) : Int) := by unfold groupC; rw [if_neg hr1]
        refine Sk (Sr (Mv ?_))
        refine Mv ?_
        refine Vv (Gives.nilCheck rfl) (Vf ?_)
        refine Vf ?_
        refine FL_store H81 (h := fun w133 H133 => ?_)
        refine Nx (Mv ?_)
        refine Vv (Gives.eqlNilI hnil rfl rfl) (Mv ?_)
        refine FL_split (t := 74) rfl (fun hs137 => ?_) (fun hs137 => ?_)
        · have hat : atoiAll rest = .ok n := hyes hs137
          have hnf := atoi_fits hat
          refine On (Mv ?_)
          refine On (Vl ?_)
          refine On (Mv ?_)
          refine FL_splitP (t := 77) rfl (fun hs142 => ?_) (fun hs142 => ?_)
          · have hno : groupC rest = none := by
              rw [hgc]
              cases hq : groupN rest with
              | none => rfl
              | some k =>
                have h1 := (groupN_atoi.2 (show (groupN rest).map (fun n : Nat => ((n : Nat) : Int)) = some (k : Int) by rw [hq]; rfl)).1
                rw [hat] at h1
                injection h1 with h1
                omega
            refine Of (Of (Of (Of (Of (Ou (Ou (Of (On (Pt ?_)))))))))
            refine Pt ?_
            refine Mv ?_
            refine On (Mv ?_)
            refine On (Vv (Gives.geq rfl rfl) (On ?_))
            refine Mv ?_
            refine FL_splitP (t := 91) rfl (fun hs150 => ?_) (fun hs150 => ?_)
            · exact absurd hs150 (by omega)
            refine On (Mv ?_)
            refine On (Vv (Gives.eqlT rfl rfl) (On ?_))
            refine Pf ?_
            refine Pt ?_
            refine Am ?_
            refine Qn (FW_ret (Qblk_ret (Qcut_ret (Qblk_ret (Qseq_ret (Qfn_ret (hR := ?_)))))))
            exact ⟨by rw [hres, hno]; exact congrArg Value.bool (decide_eq_false hr1), by rw [hres, hno]; exact Sep_none H133⟩
          refine On (Mv ?_)
          refine On (FL_callQ H133 (itoa_ok n hnf (hT _ H133.kept)) (h := fun w160 H160 k159 => ?_))
          refine On (Mv ?_)
          refine On (Vv (Gives.eqlT rfl rfl) (On ?_))
          refine Mv ?_
          refine FL_splitP (t := 82) rfl (fun hs164 => ?_) (fun hs164 => ?_)
          · refine On (Mv ?_)
            refine On (Vv (Gives.leq rfl rfl) (On ?_))
            refine Pt ?_
            refine On (Pf ?_)
            refine Pt ?_
            refine Mv ?_
            refine FL_splitP (t := 88) rfl (fun hs171 => ?_) (fun hs171 => ?_)
            · have hsome : groupC rest = some n := by rw [hgc]; exact groupN_atoi.1 ⟨hat, by omega, by assumption, hs171⟩
              refine On (Mv ?_)
              refine On (Vv (Gives.geq rfl rfl) (On ?_))
              refine Mv ?_
              refine FL_splitP (t := 91) rfl (fun hs176 => ?_) (fun hs176 => ?_)
              · refine Of (Of (On (Pt ?_)))
                refine Pt ?_
                refine Am ?_
                refine Qn (FW_ret (Qblk_ret (Qcut_ret (Qblk_ret (Qseq_ret (Qfn_ret (hR := ?_)))))))
                exact ⟨by rw [hres, hsome]; rfl, by rw [hres, hsome]; exact (Sep_readH (p := ⟨p.wh, p.cols, n⟩) H160).first.turn⟩
              exact absurd (show 0 ≤ n by omega) hs176
            have hno : groupC rest = none := by
              rw [hgc]
              cases hq : groupN rest with
              | none => rfl
              | some k =>
                have h1 := groupN_atoi.2 (show (groupN rest).map (fun n : Nat => ((n : Nat) : Int)) = some (k : Int) by rw [hq]; rfl)
                have h2 := h1.1
                rw [hat] at h2
                injection h2 with h2
                omega
            refine Of (Of (Of (Ou (Ou (Of (Pf ?_))))))
            refine Am ?_
            refine Qn (FW_ret (Qblk_ret (Qcut_ret (Qblk_ret (Qseq_ret (Qfn_ret (hR := ?_)))))))
            exact ⟨by rw [hres, hno]; rfl, by rw [hres, hno]; exact Sep_none H160⟩
          have hno : groupC rest = none := by
            rw [hgc]
            cases hq : groupN rest with
            | none => rfl
            | some k =>
              have h1 := groupN_atoi.2 (show (groupN rest).map (fun n : Nat => ((n : Nat) : Int)) = some (k : Int) by rw [hq]; rfl)
              have h2 := h1.1
              rw [hat] at h2
              injection h2 with h2
              exact absurd (by rw [h2]; exact h1.2.2.1) hs164
          refine Of (Of (On (Pf ?_)))
          refine On (Pf ?_)
          refine Pt ?_
          refine Mv ?_
          refine Of (Of (Of (Ou (Ou (Of (Pf ?_))))))
          refine Am ?_
          refine Qn (FW_ret (Qblk_ret (Qcut_ret (Qblk_ret (Qseq_ret (Qfn_ret (hR := ?_)))))))
          exact ⟨by rw [hres, hno]; rfl, by rw [hres, hno]; exact Sep_none H160⟩
        have hno : groupC rest = none := by
          rw [hgc]
          cases hq : groupN rest with
          | none => rfl
          | some k => exact absurd (groupN_atoi.2 (by rw [hq]; rfl)).1 (hnot (by simpa using hs137) _)
        refine Of (Of (Of (Ou (Ou (Ou (Ou (Ou (Ou (Ou (Ou (Of (Pf ?_))))))))))))
        refine Mv ?_
        refine Of (Of (Of (Ou (Ou (Of (Pf ?_))))))
        refine Am ?_
        refine Qn (FW_ret (Qblk_ret (Qcut_ret (Qblk_ret (Qseq_ret (Qfn_ret (hR := ?_)))))))
        exact ⟨by rw [hres, hno]; rfl, by rw [hres, hno]; exact Sep_none H133⟩
      rw [if_neg (fun h => hc72 h.2), if_pos (.inr hs2)] at hres
      refine FW_skip (Qblk_normal ?_)
      exact Qcut_normal () ⟨rfl, rfl, rfl, trivial⟩ ⟨hres, H4⟩
    have hs2 : ¬ st = 2 := hc68
    rw [if_neg (fun h => hs2 h.1)] at hres
    refine Sk (Sr (Ve ?_))
    refine Am ?_
    refine Qn (Cp rfl (fun hc205 => ?_) (fun hc205 => ?_))
    · have hs12 : st = 1 ∨ st = 2 := .inl hc205
      rw [if_pos hs12] at hres
      refine FW_exit (Qseq_exit (Qblk_exit_ne rfl (Qseq_exit (Qblk_exit_ne rfl (Qseq_exit (Qblk_exit ?_))))))
      exact Qcut_normal () ⟨rfl, rfl, rfl, trivial⟩ ⟨hres, H4⟩
    rw [if_neg (by omega)] at hres
    refine Sk (FW_exit (Qblk_exit_ne rfl (Qseq_exit (Qblk_exit_ne rfl (Qseq_exit (Qblk_exit_ne rfl (Qcut_exit (Qblk_exit (Qseq_normal ?_)))))))))
    refine Sr (Am ?_)
    refine Qn (FW_ret (Qfn_ret (hR := ?_)))
    exact ⟨by rw [hres]; rfl, by rw [hres]; exact Sep_none H4⟩
  rintro _ τ w212 ⟨hres2, H212⟩
  simp only [upds, like, upd_ds, und_ds]
  refine FW_seq (Sr (Mv ?_))
  refine Vv (Gives.nilCheck rfl) (Vf ?_)
  refine FL_store H212 (h := fun w217 H217 => ?_)
  refine Nx (Mv ?_)
  refine FL_call (cut_ok rest (by omega) (hT _ H217.kept)) rfl rfl (fun v' w220 hv => ?_)
  obtain ⟨⟨b14, rfl⟩, hkk⟩ := hv
  have H220 := H217.keep hkk
  obtain ⟨name, hname⟩ : ∃ name, name = (cutSp rest).1 := ⟨_, rfl⟩
  obtain ⟨text, htext⟩ : ∃ text, text = (cutSp rest).2 := ⟨_, rfl⟩
  have htl : text.length ≤ 1000000 := by have := (cutSp_len rest).2; rw [htext]; omega
  unfold outC at hres2
  rw [← hwd, ← hrest, ← hname, ← htext] at hres2
  rw [← hname, ← htext]
  refine Mv ?_
  refine Vx ?_
  refine Vx ?_
  refine Vx ?_
  refine Am ?_
  refine Am ?_
  refine Am ?_
  refine Nx (Mv ?_)
  refine FL_callN H220 (stepsT_ok text htl (hT _ H220.kept)) (h := fun x w230 _ H230 k229 => ?_)
  obtain ⟨B, cb, rfl, hcb, hB⟩ := Sep.formD H230 At0
  refine Mv ?_
  refine Vx ?_
  refine Vx ?_
  refine Am ?_
  refine Am ?_
  refine Nx (Mv ?_)
  refine Mv ?_
  refine Vv (Gives.nilCheck rfl) (Vf ?_)
  refine Vf ?_
  refine Ld H230 ?_
  refine Mv ?_
  refine Mv ?_
  refine Vv (Gives.build (out := outCells (name, .slice B (parseS text).1.length cb)) (Fills.one rfl rfl rfl (by simp) rfl (Fills.one rfl rfl rfl (by simp) rfl Fills.nil))) (FL_buildSlice H230 (xs := [.tmp 118]) (out := [(name, Value.slice B (parseS text).1.length cb)].flatMap outCells) (Elems.many rfl rfl Elems.nil) rfl rfl rfl (fun bs w246 H246 k245 => ?_))
  refine FL_appendD H246 (news := [(name, Value.slice B (parseS text).1.length cb)]) At3 (by unfold maxLen; simp; omega) (by simp; omega) (outs_one rfl) (h := ?_)
  intro v2 w248 H248
  obtain ⟨A2, c2, rfl, hc2, hA2⟩ := Sep.formD H248 At3
  refine Vv (Gives.nilCheck rfl) (Vf ?_)
  refine Vf ?_
  refine FL_store H248 (h := fun w253 H253 => ?_)
  refine Nx (Mv ?_)
  refine Mv ?_
  refine FL_split (t := 125) rfl (fun hs256 => ?_) (fun hs256 => ?_)
  · have his : (stepsO text).isSome = true := hs256
    refine On (Mv ?_)
    refine On (Vv (Gives.eqlT rfl rfl) (Pt ?_))
    refine Mv ?_
    refine FL_splitP (t := 129) rfl (fun hs262 => ?_) (fun hs262 => ?_)
    · have hwo : wd = outN := hs262
      refine On (Mv ?_)
      refine On (FL_callQ H253 (isName_ok _) (h := fun w266 H266 k265 => ?_))
      refine Pt ?_
      refine Am ?_
      refine Qn (Rs (Qblk_ret (Qseq_ret (Qfn_ret (hR := ?_)))))
      cases hq : isNameS name with
      | false => exact ⟨by rw [hres2, if_neg (fun h => by rw [hq] at h; cases h.2)]; rfl, by rw [hres2, if_neg (fun h => by rw [hq] at h; cases h.2)]; exact Sep_none H266⟩
      | true =>
        have hst2 : stepsO text = some (parseS text).1 := by
          unfold stepsO at his ⊢
          split at his
          · rename_i h1; rw [if_pos h1]
          cases his
        refine ⟨by rw [hres2, if_pos ⟨hwo, hq⟩, hst2]; rfl, ?_⟩
        rw [hres2, if_pos ⟨hwo, hq⟩, hst2]
        have HA := (Sep_rawPush (n := name) (H266.front4.front1)).front3.front3.front3
        exact (Sep_readH (p := ⟨p.wh, p.cols ++ [⟨name, (parseS text).1⟩], p.group⟩) HA).first.turn
    have hwo : ¬ wd = outN := hs262
    refine Of (Of (Pf ?_))
    refine Am ?_
    refine Qn (Rs (Qblk_ret (Qseq_ret (Qfn_ret (hR := ?_)))))
    exact ⟨by rw [hres2, if_neg (fun h => hwo h.1)]; rfl, by rw [hres2, if_neg (fun h => hwo h.1)]; exact Sep_none H253⟩
  have hno : stepsO text = none := by
    cases hq : stepsO text with
    | none => rfl
    | some l => rw [hq] at hs256; exact Bool.noConfusion hs256
  refine Of (Of (Pf ?_))
  refine Mv ?_
  refine Of (Of (Pf ?_))
  refine Am ?_
  refine Qn (Rs (Qblk_ret (Qseq_ret (Qfn_ret (hR := ?_)))))
  exact ⟨by rw [hres2, hno]; split <;> rfl, by rw [hres2, hno]; split <;> exact Sep_none H253⟩
end
def endL (l : List UInt8) : List UInt8 := l ++ [10]
theorem endL_inj {a b : List UInt8} (h : endL a = endL b) : a = b := List.append_cancel_right h
theorem map_endL : ∀ {a b : List (List UInt8)}, a.map endL = b.map endL → a = b
 | [], [], _ => rfl
 | [], b :: l, h => by cases h
 | a :: l, [], h => by cases h
 | a :: l, b :: m, h => by
  injection h with h1 h2
  rw [endL_inj h1, map_endL h2]
def rawL (s : List UInt8) : List (List UInt8) := (splitW 10 s).dropLast.map endL ++ (if (splitW 10 s).getLast? = some [] then [] else [(splitW 10 s).getLastD []])
def fullL (s : List UInt8) : List (List UInt8) := if (linesL s).2 = true then (linesL s).1 else (linesL s).1.dropLast
theorem rawL_nil : rawL [] = [] := rfl
theorem split10_none {l : List UInt8} (h : Lib.indexByte l 10 = -1) : splitW 10 l = [l] :=
 split_word fun c hc e => by
  obtain ⟨k, hk⟩ := List.getElem?_of_mem hc
  exact Lib.indexByte_none h k (by rw [hk, e])
theorem split10_some {l : List UInt8} {o : Nat} (h : Lib.indexByte l 10 = o) : o < l.length ∧ l.take (o + 1) = endL (l.take o) ∧ splitW 10 l = l.take o :: splitW 10 (l.drop (o + 1)) := by
 obtain ⟨h1, h2⟩ := Lib.indexByte_some h
 have hlt := (List.getElem?_eq_some_iff.1 h1).1
 have e : l = l.take o ++ 10 :: l.drop (o + 1) := by
  have e1 : l.drop o = 10 :: l.drop (o + 1) := by
   rw [List.drop_eq_getElem_cons hlt]
   congr 1
   rw [List.getElem?_eq_getElem hlt] at h1
   injection h1
  conv => lhs; rw [← List.take_append_drop o l, e1]
 refine ⟨hlt, by rw [List.take_add_one, h1]; rfl, ?_⟩
 have := split_app (sep := 10) (w := l.take o) (l := l.drop (o + 1)) fun c hc e => by
  obtain ⟨k, hk⟩ := List.getElem?_of_mem hc
  rw [List.getElem?_take] at hk
  split at hk
  ·exact h2 k (by omega) (by rw [hk, e])
  cases hk
 rw [← this, ← e]
theorem rawL_none {l : List UInt8} (h : Lib.indexByte l 10 = -1) (hne : l ≠ []) : rawL l = [l] := by
 unfold rawL
 rw [split10_none h]
 simp [hne]
theorem rawL_some {l : List UInt8} {o : Nat} (h : Lib.indexByte l 10 = o) : rawL l = l.take (o + 1) :: rawL (l.drop (o + 1)) := by
 obtain ⟨_, h2, h3⟩ := split10_some h
 have hne := splitP_ne (l.drop (o + 1))
 unfold rawL
 rw [h3, h2]
 cases hs : splitW 10 (l.drop (o + 1)) with
 | nil => exact absurd hs hne
 | cons a r =>
  rw [List.dropLast_cons_of_ne_nil (by simp)]
  simp
theorem split_no10 {s : List UInt8} : ∀ w ∈ splitW 10 s, ∀ c ∈ w, c ≠ 10 := by
 induction s with
 | nil => intro w hw c hc; simp [splitW] at hw; subst hw; cases hc
 | cons x l ih =>
  intro w hw c hc
  by_cases hx : x = 10
  ·rw [splitW, if_pos hx] at hw
   rcases List.mem_cons.1 hw with rfl | hw
   ·cases hc
   exact ih w hw c hc
  obtain ⟨w1, ws, e1, e2⟩ := split_cons (sep := 10) (l := l) hx
  rw [e2] at hw
  rw [e1] at ih
  rcases List.mem_cons.1 hw with rfl | hw
  ·rcases List.mem_cons.1 hc with rfl | hc
   ·exact hx
   exact ih w1 (by simp) c hc
  exact ih w (List.mem_cons_of_mem _ hw) c hc
theorem raw_form (s : List UInt8) : ∃ T, rawL s = (fullL s).map endL ++ T ∧ ((T = [] ∧ (linesL s).2 = true) ∨ (∃ x, T = [x] ∧ (linesL s).2 = false ∧ ∀ c ∈ x, c ≠ 10)) := by
 have hne := splitP_ne s
 unfold rawL fullL linesL
 by_cases h : (splitW 10 s).getLast? = some []
 ·rw [if_pos h, if_pos h]
  exact ⟨[], by simp, .inl ⟨rfl, rfl⟩⟩
 rw [if_neg h, if_neg h]
 refine ⟨[(splitW 10 s).getLastD []], by simp, .inr ⟨_, rfl, rfl, ?_⟩⟩
 refine split_no10 (s := s) _ ?_
 rw [List.getLastD_eq_getLast?, List.getLast?_eq_some_getLast hne]
 exact List.getLast_mem hne
theorem raw_prefix {s : List UInt8} {ls : List (List UInt8)} {x : List UInt8} (h : ls.map endL ++ [x] <+: rawL s) : (∃ l rest, x = endL l ∧ fullL s = ls ++ l :: rest) ∨ ((linesL s).2 = false ∧ ls = fullL s ∧ ∀ c ∈ x, c ≠ 10) := by
 obtain ⟨T, hT, hc⟩ := raw_form s
 obtain ⟨t, ht⟩ := h
 rw [hT, List.append_assoc, List.singleton_append] at ht
 rcases List.append_eq_append_iff.1 ht with ⟨a, h1, h2⟩ | ⟨c, h1, h2⟩
 ·obtain ⟨l1, l2, e, e1, e2⟩ := List.map_eq_append_iff.1 h1
  have e1' := map_endL e1
  subst e1'
  cases l2 with
  | nil =>
   subst e2
   rw [List.map_nil, List.nil_append] at h2
   rcases hc with ⟨rfl, _⟩ | ⟨y, rfl, hw, hy⟩
   ·cases h2
   injection h2 with h2 _
   subst h2
   rw [List.append_nil] at e
   exact .inr ⟨hw, e.symm, hy⟩
  | cons l l2 =>
   subst e2
   injection h2 with h2 _
   exact .inl ⟨l, l2, h2, e⟩
 rcases hc with ⟨rfl, _⟩ | ⟨y, rfl, hw, hy⟩
 ·cases c <;> cases h2
 cases c with
 | nil =>
  rw [List.append_nil] at h1
  injection h2 with h2 _
  subst h2
  exact .inr ⟨hw, map_endL h1, hy⟩
 | cons z c => injection h2 with _ h2; cases c <;> cases h2
theorem raw_all {s : List UInt8} {ls : List (List UInt8)} (h : rawL s = ls.map endL) : (linesL s).2 = true ∧ (linesL s).1 = ls := by
 obtain ⟨T, hT, hc⟩ := raw_form s
 rw [hT] at h
 rcases hc with ⟨rfl, hw⟩ | ⟨y, rfl, hw, hy⟩
 ·rw [List.append_nil] at h
  have := map_endL h
  unfold fullL at this
  rw [if_pos hw] at this
  exact ⟨hw, this⟩
 obtain ⟨l1, l2, e, e1, e2⟩ := List.map_eq_append_iff.1 h.symm
 cases l2 with
 | nil => cases e2
 | cons l l2 =>
  injection e2 with e2 _
  exact absurd rfl (hy 10 (by rw [← e2]; unfold endL; simp))
theorem split_len10 (s : List UInt8) : ∀ w ∈ splitW 10 s, w.length ≤ s.length := by
  induction s with
  | nil => intro w h; have : w = [] := by simpa [splitW] using h
           rw [this]; simp
  | cons c l ih =>
    intro w h
    by_cases hc : c = 10
    · rw [splitW, if_pos hc] at h
      rcases List.mem_cons.1 h with rfl | h
      · simp
      have := ih w h; simp only [List.length_cons]; omega
    obtain ⟨w1, ws, e1, e2⟩ := split_cons (sep := 10) (l := l) hc
    rw [e2] at h
    rw [e1] at ih
    rcases List.mem_cons.1 h with rfl | h
    · have := ih w1 (by simp)
      simp only [List.length_cons]; omega
    have := ih w (List.mem_cons_of_mem _ h)
    simp only [List.length_cons]; omega
theorem raw_len {s x : List UInt8} (h : x ∈ rawL s) : x.length ≤ s.length + 1 := by
 unfold rawL at h
 rcases List.mem_append.1 h with h | h
 ·obtain ⟨y, hy, rfl⟩ := List.mem_map.1 h
  have := split_len10 s y ((List.dropLast_sublist _).subset hy)
  unfold endL
  rw [List.length_append, List.length_singleton]; omega
 split at h
 ·cases h
 rw [List.mem_singleton] at h
 subst h
 have hne := splitP_ne s
 have := split_len10 s _ (List.getLast_mem hne)
 rw [List.getLastD_eq_getLast?, List.getLast?_eq_some_getLast hne]
 show ((splitW 10 s).getLast hne).length ≤ _
 omega
theorem raw_many (s : List UInt8) : (rawL s).length ≤ s.length + 1 := by
 have h1 := split_count 10 s
 have h2 : s.count 10 ≤ s.length := List.count_le_length
 have h0 : 0 < (splitW 10 s).length := by omega
 unfold rawL
 rw [List.length_append, List.length_map, List.length_dropLast]
 split <;> simp only [List.length_nil, List.length_cons] <;> omega
theorem run_ind {J : List (List UInt8) → PlanM → Int → Prop} (h0 : J [] plan0 0) (hs : ∀ m x p t p' t', J m p t → lineT p t x = some (p', t') → J (m ++ [x]) p' t') : ∀ (ls : List (List UInt8)) {p : PlanM} {st : Int}, runG ls = some (p, st) → J ls p st := by
 intro ls
 have key : ∀ n (ls : List (List UInt8)), ls.length = n → ∀ {p : PlanM} {st : Int}, runG ls = some (p, st) → J ls p st := by
  intro n
  induction n with
  | zero =>
   intro l hl p st h
   have := List.eq_nil_of_length_eq_zero hl
   subst this
   injection h with h
   injection h with h1 h2
   subst h1; subst h2
   exact h0
  | succ n ih =>
   intro l hl p st h
   obtain ⟨m, x, rfl⟩ := snoc_of (show l ≠ [] by intro e; rw [e] at hl; cases hl)
   rw [run_snoc] at h
   obtain ⟨⟨p', t'⟩, h1, h2⟩ := Option.bind_eq_some_iff.1 h
   exact hs m x p' t' p st (ih m (by rw [List.length_append, List.length_singleton] at hl; omega) h1) h2
 exact fun {p st} h => key ls.length ls rfl h
theorem line_cases {p p' : PlanM} {t t' : Int} {x : List UInt8} (h : lineT p t x = some (p', t')) : (p'.wh = p.wh ∨ ∃ y, p'.wh = (parseS y).1) ∧ (p'.cols = p.cols ∨ ∃ n y, p'.cols = p.cols ++ [⟨n, (parseS y).1⟩]) ∧ (t' = 1 ∨ t' = 2 ∨ t' = 3) := by
 unfold lineT at h
 split at h
 ·split at h
  ·split at h
   ·injection h with h; injection h with e1 e2; subst e1; subst e2; exact ⟨.inl rfl, .inl rfl, .inl rfl⟩
   obtain ⟨y, hy, h⟩ := Option.map_eq_some_iff.1 h
   unfold stepsO at hy
   split at hy
   ·injection hy with hy
    injection h with e1 e2; subst e1; subst e2; exact ⟨.inr ⟨_, hy.symm⟩, .inl rfl, .inl rfl⟩
   cases hy
  cases h
 split at h
 ·obtain ⟨y, _, h⟩ := Option.map_eq_some_iff.1 h
  injection h with e1 e2; subst e1; subst e2; exact ⟨.inl rfl, .inl rfl, .inr (.inr rfl)⟩
 split at h
 ·obtain ⟨o, ho, h⟩ := Option.map_eq_some_iff.1 h
  unfold outC at ho
  split at ho
  ·obtain ⟨l, hl, ho⟩ := Option.map_eq_some_iff.1 ho
   unfold stepsO at hl
   split at hl
   ·injection hl with hl
    subst hl; subst ho
    injection h with e1 e2; subst e1; subst e2; exact ⟨.inl rfl, .inr ⟨_, _, rfl⟩, .inr (.inl rfl)⟩
   cases hl
  cases ho
 cases h
def AllFit (p : PlanM) : Prop := StepsFit p.wh ∧ ∀ o ∈ p.cols, StepsFit o.steps
theorem run_good (ls : List (List UInt8)) {p : PlanM} {st : Int} (h : runG ls = some (p, st)) : p.cols.length ≤ ls.length ∧ (st = 0 ∨ st = 1 ∨ st = 2 ∨ st = 3) ∧ AllFit p := by
 refine run_ind (J := fun ls p st => p.cols.length ≤ ls.length ∧ (st = 0 ∨ st = 1 ∨ st = 2 ∨ st = 3) ∧ AllFit p) ⟨Nat.le_refl _, .inl rfl, (fun x hx => absurd hx List.not_mem_nil), fun o ho => absurd ho List.not_mem_nil⟩ (fun m x p t p' t' hJ hl => ?_) ls h
 obtain ⟨h1, h2, h3, h4⟩ := hJ
 obtain ⟨c1, c2, c3⟩ := line_cases hl
 rw [List.length_append, List.length_singleton]
 refine ⟨?_, by omega, ?_, fun o ho => ?_⟩
 ·rcases c2 with e | ⟨n, y, e⟩
  ·rw [e]; omega
  rw [e, List.length_append, List.length_singleton]; omega
 ·rcases c1 with e | ⟨y, e⟩
  ·rw [e]; exact h3
  rw [e]; exact parse_fits y
 rcases c2 with e | ⟨n, y, e⟩
 ·rw [e] at ho; exact h4 o ho
 rw [e] at ho
 rcases List.mem_append.1 ho with ho | ho
 ·exact h4 o ho
 rw [List.mem_singleton] at ho
 subst ho
 exact parse_fits y
theorem trim_suf (x : List UInt8) : (∃ l, x = endL l ∧ Lib.trimSuffix x [10] = l ∧ Lib.hasSuffix x [10] = true) ∨ ((∀ l, x ≠ endL l) ∧ Lib.trimSuffix x [10] = x ∧ Lib.hasSuffix x [10] = false) := by
 by_cases h : Lib.hasSuffix x [10] = true
 ·have h' := h
  unfold Lib.hasSuffix at h'
  obtain ⟨l, hl⟩ := List.isSuffixOf_iff_suffix.1 h'
  refine .inl ⟨l, hl.symm, ?_, h⟩
  unfold Lib.trimSuffix
  rw [if_pos h, ← hl]
  simp
 refine .inr ⟨fun l e => h ?_, ?_, by simpa using h⟩
 ·unfold Lib.hasSuffix
  exact List.isSuffixOf_iff_suffix.2 ⟨l, e.symm⟩
 unfold Lib.trimSuffix
 rw [if_neg h]
def plJ (b2 b3 b4 b5 : Nat) (pre : List (List UInt8)) : HP := exH fun z : List (List UInt8) × PlanM × Int => starL [pureH (pre = z.1.map endL ∧ runG z.1 = some (z.2.1, z.2.2)), blk b2 [.slice none 0 0, .slice none 0 0, I 0] 25, blk b3 [I (pre.length : Nat)] 3, blk b4 [I 0] 27, readH b5 z.2.1 z.2.2]
def plL (b2 b3 b4 : Nat) (pre : List (List UInt8)) (x : List UInt8) : HP := starL [pureH (∃ ls p st, pre = ls.map endL ∧ runG ls = some (p, st) ∧ ((∃ l, x = endL l ∧ lineT p st l = none) ∨ ∀ l, x ≠ endL l)), blk b2 [.slice none 0 0, .slice none 0 0, I 0] 25, blk b3 [I (pre.length : Nat)] 3, blk b4 [I 4] 27]
theorem fail_line {s : List UInt8} {ls : List (List UInt8)} {x : List UInt8} {p : PlanM} {st : Int} (hs : s.length ≤ 1048576) (hp : ls.map endL ++ [x] <+: rawL s) (hr : runG ls = some (p, st)) (hx : (∃ l, x = endL l ∧ lineT p st l = none) ∨ ∀ l, x ≠ endL l) : parseP s = (plan0, (((ls.map endL).length : Nat) : Int), 4) := by
 rw [List.length_map]
 rcases raw_prefix hp with ⟨l, rest, e, hf⟩ | ⟨hw, hf, hno⟩
 ·rcases hx with ⟨l', e', hn⟩ | hx
  ·have : l = l' := endL_inj (e.symm.trans e')
   subst this
   exact parse_fail hs hf hr hn
  exact absurd e (hx l)
 unfold fullL at hf
 rw [hw, if_neg (by decide)] at hf
 rw [hf] at hr ⊢
 exact parse_part hs hw hr
section
variable {w : World}
theorem index10_ok (l : List UInt8) : Rets Tryz.prog 89 [str l, .int .u8 10] w fun v w' => v = I (Lib.indexByte l 10) ∧ w = w' :=
 rets_same (Tryz.strings_IndexByte ⟨l.toArray⟩ 10 w)
theorem Lines_ok (s : List UInt8) : Rets Tryz.prog 43 [str s] w fun v w' => ∃ x : Nat, v = .func (.func 88) #[] #[selfP x] ∧ True ∧ Turn noB (blk x [str s] 9) w w' := by
 have H := Sep.start0 w
 refine rets1 Tryz.func43 rfl rfl rfl rfl ?_
 refine Sr (FL_box H (cs := [str s]) rfl (h := fun b1 w2 H2 k1 => ?_))
 refine Am ?_
 refine Nx (Vv (Gives.makeFunc (fs := []) (us := []) (cs := [.tmp 1]) rfl rfl) (Am ?_))
 refine Qn (FW_ret (Qfn_ret (hR := ?_)))
 exact ⟨b1, rfl, trivial, H2.turn⟩
theorem cutSuffix_ok (x : List UInt8) (hl : x.length ≤ 10000000) : Rets Tryz.prog 44 [str x, str [10]] w fun v w' => v = .tuple #[str (Lib.trimSuffix x [10]), .bool (Lib.hasSuffix x [10])] ∧ w = w' :=
 rets_same (Tryz.strings_CutSuffix ⟨x.toArray⟩ ⟨#[10]⟩ w (by rw [Mw.size_mk]; omega))
theorem lines_iter {S : Nat → Prop} {w₀ : World} {J : List (List UInt8) → HP} {L : List (List UInt8) → List UInt8 → HP} {l D : Nat} {ro rj : Obj} {bS : Nat} {s : List UInt8} (hl : s.length ≤ 1048576)
    (HW : Sep w₀ S [obj l ro, obj D (.deferred (some [])), J [], blk bS [str s] 9] w)
    (hy : ∀ (pre : List (List UInt8)) (x : List UInt8) (Fr : List HP) (W : World), pre ++ [x] <+: rawL s → Sep w₀ S (obj l ro :: obj D (.deferred (some [])) :: J pre :: Fr) W → YieldB Tryz.prog l [str x] W fun b W' => if b = true then Sep w₀ S (obj l ro :: obj D (.deferred (some [])) :: J (pre ++ [x]) :: Fr) W' else Sep w₀ S [obj l rj, obj D (.deferred (some [])), L pre x] W') :
    Rets Tryz.prog 88 [.func (.yield l) #[] #[], selfP bS] w fun _ W' => Sep w₀ S [obj l ro, obj D (.deferred (some [])), J (rawL s)] W' ∨ ∃ pre x, pre ++ [x] <+: rawL s ∧ Sep w₀ S [obj l rj, obj D (.deferred (some [])), L pre x] W' := by
  have H := HW
  refine rets2 Tryz.func88 rfl rfl rfl rfl ?_
  refine FW_block (FW_loop' (fun _ : List (List UInt8) × List UInt8 => [(0, .func (.yield l) #[] #[]), (1, selfP bS)]) (fun x w' => (x.1 ++ rawL x.2 = rawL s ∧ x.2.length ≤ s.length) ∧ Sep w₀ S [obj l ro, obj D (.deferred (some [])), J x.1, blk bS [str x.2] 9] w') (fun x _ => x.2.length) ([], s) ⟨rfl, rfl, trivial⟩ ⟨⟨rfl, Nat.le_refl _⟩, H⟩ (fun x τ w2 hI => ?_))
  obtain ⟨pre, t⟩ := x
  obtain ⟨⟨hsp, htl⟩, H2⟩ := hI
  dsimp only at hsp htl H2
  try simp only [upds, like, upd_ds, und_ds]
  refine FW_seq (Sr (Ld H2 ?_))
  refine Vt ?_
  refine Vg ?_
  refine Qn (Cp rfl (fun hc6 => ?_) (fun hc6 => ?_))
  · have hne : t ≠ [] := fun e => by rw [e] at hc6; exact absurd hc6 (by decide)
    refine Sk (FW_block (Sr (Am ?_)))
    refine Qn (FW_seq (Sr (Ld H2 ?_)))
    refine FL_callS (index10_ok t) (h := ?_)
    refine Am ?_
    refine Nx (Mv ?_)
    refine Vv (Gives.geq rfl rfl) (Qn ?_)
    refine Cp rfl (fun hc14 => ?_) (fun hc14 => ?_)
    · obtain ⟨o, ho⟩ : ∃ o : Nat, Lib.indexByte t 10 = o := ⟨(Lib.indexByte t 10).toNat, by have h1 := hc14; omega⟩
      obtain ⟨holt, hot, _⟩ := split10_some ho
      have hrs := rawL_some ho
      have hpre : pre ++ [t.take (o + 1)] <+: rawL s := by
        rw [← hsp, hrs]
        exact ⟨rawL (t.drop (o + 1)), by simp⟩
      rw [ho]
      refine FW_drawS rfl H2 (h := fun hok16 w18 H18 => ?_)
      refine FGload hok16 0 H18 (h := ?_)
      refine Gm hok16 1 ?_
      refine Gp hok16 2 rfl rfl (fun _ => (Gives.addI (c := ((o + 1 : Nat) : Int)) rfl rfl (by show (o : Int) + 1 = _; omega) (by omega))) (Gp hok16 3 rfl rfl (fun _ => (Gives.sliceToT (i := o + 1) rfl rfl (by omega))) ?_)
      refine FGload hok16 4 H18 (h := ?_)
      refine Gm hok16 5 ?_
      refine Gp hok16 6 rfl rfl (fun _ => (Gives.addI (c := ((o + 1 : Nat) : Int)) rfl rfl (by show (o : Int) + 1 = _; omega) (by omega))) (Gp hok16 7 rfl rfl (fun _ => (Gives.sliceFromT (i := o + 1) rfl rfl (by omega))) ?_)
      refine Gp hok16 8 rfl rfl (fun _ => Gives.assign rfl) (FGstore hok16 9 [] H18 (h := fun w27 H27 => ⟨Stab_nil, ?_⟩))
      refine FG_end hok16 (by kernel_rfl) ?_
      refine Qseq_normal (Sr (Mv ?_))
      refine Mv ?_
      refine FL_yieldB rfl (hy pre (t.take (o + 1)) _ _ hpre H27) rfl rfl (fun b8 w31 hyv => ?_)
      refine Vv (Gives.not rfl) (Qn ?_)
      refine Cd rfl (fun hc33 => ?_) (fun hc33 => ?_)
      · have hb : b8 = false := by have h1 := hc33; revert h1; cases b8 <;> simp
        rw [hb, if_neg (by decide)] at hyv
        refine FW_ret (Qblk_ret (Qround_ret (Qblk_ret (Qfn_ret (hR := ?_)))))
        exact .inr ⟨pre, t.take (o + 1), hpre, hyv⟩
      have hb : b8 = true := by have h1 := hc33; revert h1; cases b8 <;> simp
      rw [hb, if_pos rfl] at hyv
      have H37 := hyv
      refine FW_skip (Qblk_normal ?_)
      exact Qround_normal (pre ++ [t.take (o + 1)], t.drop (o + 1)) ⟨rfl, rfl, trivial⟩ ⟨⟨by dsimp only; rw [← hsp, hrs]; simp, by dsimp only; rw [List.length_drop]; omega⟩, H37⟩ (by dsimp only; rw [List.length_drop]; omega)
    have hneg : Lib.indexByte t 10 = -1 := by have h1 := hc14; have h2 := Lib.indexByte_ge t 10; omega
    have hrs := rawL_none hneg hne
    have hpre : pre ++ [t] <+: rawL s := by rw [← hsp, hrs]; exact List.prefix_refl _
    refine FW_region (Ld H2 ?_)
    refine Am ?_
    refine FL_store H2 (h := fun w43 H43 => ?_)
    refine Nx (Mv ?_)
    refine Mv ?_
    refine FL_yieldB rfl (hy pre t _ _ hpre H43) rfl rfl (fun b8 w47 hyv => ?_)
    refine Vv (Gives.not rfl) (Qn ?_)
    refine Cd rfl (fun hc49 => ?_) (fun hc49 => ?_)
    · have hb : b8 = false := by have h1 := hc49; revert h1; cases b8 <;> simp
      rw [hb, if_neg (by decide)] at hyv
      refine FW_ret (Qblk_ret (Qround_ret (Qblk_ret (Qfn_ret (hR := ?_)))))
      exact .inr ⟨pre, t, hpre, hyv⟩
    have hb : b8 = true := by have h1 := hc49; revert h1; cases b8 <;> simp
    rw [hb, if_pos rfl] at hyv
    have H53 := hyv
    refine FW_skip (Qblk_normal ?_)
    exact Qround_normal (pre ++ [t], []) ⟨rfl, rfl, trivial⟩ ⟨⟨by dsimp only; rw [← hsp, hrs, rawL_nil, List.append_nil], by simp⟩, H53⟩ (by have := List.length_pos_iff.2 hne; dsimp only; simpa using this)
  have he : t = [] := List.eq_nil_of_length_eq_zero (by omega)
  subst he
  rw [rawL_nil, List.append_nil] at hsp
  refine FW_exit (Qseq_exit (Qround_exit (Qblk_exit (Qfn_normal (hR := ?_)))))
  exact .inl (by rw [← hsp]; exact H2.firsts (l := [_, _, _]))
end
end Go.Proofs.YtolaedhdjcnijaaGreatDoor
