/-
 The program's words of steps, walked.
-/
import Derived.Test.YtolaedhdjcnijaaGreatDoorKt17
import Derived.Lib.ItoaLen
set_option linter.unusedVariables false
set_option linter.unusedSimpArgs false
namespace Go.Proofs.YtolaedhdjcnijaaGreatDoor
open Go Go.Mw Go.Lib
set_option maxRecDepth 4000
theorem index_nil1 (b : UInt8) : Lib.index [] [b] = -1 := rfl
theorem index_hit1 (b : UInt8) (t : List UInt8) : Lib.index (b :: t) [b] = 0 := by
 unfold Lib.index
 rw [if_pos (by simp [List.isPrefixOf])]
theorem index_miss1 {b c : UInt8} (h : c ≠ b) (t : List UInt8) : Lib.index (c :: t) [b] = if Lib.index t [b] = -1 then -1 else Lib.index t [b] + 1 := by
 rw [Lib.index, if_neg (by simp [List.isPrefixOf]; exact fun e => h e.symm)]
 by_cases h1 : Lib.index t [b] = -1 <;> simp [h1]
theorem replaceK_one (b : UInt8) (new : List UInt8) : ∀ (s : List UInt8) (k : Nat), s.count b ≤ k → Lib.replaceK [b] new k s = s.flatMap fun c => if c = b then new else [c]
 | [], 0, _ => rfl
 | [], k + 1, _ => by rw [Lib.replaceK, index_nil1, if_pos (by decide)]; rfl
 | c :: t, k, hk => by
  by_cases h : c = b
  ·subst h
   rw [List.count_cons_self] at hk
   obtain ⟨k, rfl⟩ : ∃ k', k = k' + 1 := ⟨k - 1, by omega⟩
   rw [Lib.replaceK_hit [c] new k (c :: t) 0 (index_hit1 c t), List.flatMap_cons, if_pos rfl]
   show [] ++ new ++ Lib.replaceK [c] new k t = _
   rw [replaceK_one c new t k (by omega)]
   rfl
  rw [List.count_cons_of_ne h] at hk
  rw [List.flatMap_cons, if_neg h, ← replaceK_one b new t k hk]
  cases k with
  | zero => rfl
  | succ k =>
   rw [Lib.replaceK, Lib.replaceK, index_miss1 h]
   by_cases h1 : Lib.index t [b] = -1
   ·rw [h1]; rfl
   have hge := Lib.index_ge t [b]
   have e0 : ¬ (Lib.index t [b] == -1) = true := by simpa using h1
   have e1 : ¬ (Lib.index t [b] + 1 == -1) = true := by simp; omega
   rw [if_neg h1, if_neg e0, if_neg e1]
   have e2 : (Lib.index t [b] + 1).toNat = (Lib.index t [b]).toNat + 1 := by omega
   have e3 : (Lib.index t [b]).toNat + 1 + [b].length = ((Lib.index t [b]).toNat + [b].length) + 1 := by omega
   rw [e2, e3, List.take_succ_cons, List.drop_succ_cons]
   rfl
theorem replaceAll_one (b : UInt8) (new s : List UInt8) (h : new ≠ [b]) : Lib.replaceAll s [b] new = s.flatMap fun c => if c = b then new else [c] := by
 unfold Lib.replaceAll Lib.replace
 rw [if_neg (by simpa using fun e => h e.symm)]
 refine replaceK_one b new s _ ?_
 unfold Lib.replaceNum
 rw [if_pos (.inl (by decide)), Lib.count_one]
 exact Nat.le_refl _
theorem kept_grow (w : World) (k : Nat) (os : Array Obj) : Kept noB w (Go.Sort.grow (w.drewN k) os) := by
 refine ⟨rfl, rfl, rfl, ?_, fun b hb _ => ?_⟩
 ·show w.heap.size ≤ (w.heap ++ os).size
  rw [Array.size_append]; omega
 show (w.heap ++ os)[b]? = w.heap[b]?
 rw [Array.getElem?_append_left hb]
section
variable {w : World}
theorem formatInt_ok (n : Int) (hn : fits n) (hT : TabsX w) : Rets Tryz.prog 125 [.int .i64 n, I 10] w fun v w' => v = str (Lib.itoa n) ∧ Kept noB w w' :=
 Calls.mono (Tryz.strconv_FormatInt_10 n hn.1 hn.2 w hT.pow) fun e w' he => by
  obtain ⟨rfl, k, os, rfl⟩ := he
  exact ⟨rfl, kept_grow w k os⟩
theorem formatBool_ok (b : Bool) : Rets Tryz.prog 126 [.bool b] w fun v w' => v = str (if b = true then [116, 114, 117, 101] else [102, 97, 108, 115, 101]) ∧ w = w' :=
 rets_same (by
  have := Tryz.strconv_FormatBool b w
  cases b <;> exact this)
theorem replaceAll_ok (l : List UInt8) (hl : l.length ≤ 10000000) (hT : TabsX w) : Rets Tryz.prog 98 [str l, str [32], str [92, 117, 48, 48, 50, 48]] w fun v w' => v = str (l.flatMap fun c => if c = 32 then [92, 117, 48, 48, 50, 48] else [c]) ∧ Kept noB w w' := by
 obtain ⟨m, hm⟩ := hT.len
 have h1 := Lib.countB_le ⟨#[32]⟩ (by decide) l.length ⟨l.toArray⟩ (by rw [Mw.size_mk]; exact Nat.le_refl _)
 rw [Mw.size_mk] at h1
 have := rets_below (Tryz.strings_ReplaceAll ⟨l.toArray⟩ ⟨#[32]⟩ ⟨#[92, 117, 48, 48, 50, 48]⟩ m w (by rw [Mw.size_mk]; omega) hm (by decide) (by
  rw [Mw.size_mk]
  show l.length + Lib.countB ⟨l.toArray⟩ ⟨#[32]⟩ * 6 ≤ _
  omega))
 have e : Lib.replaceAll l [32] [92, 117, 48, 48, 50, 48] = l.flatMap fun c => if c = 32 then [92, 117, 48, 48, 50, 48] else [c] := replaceAll_one 32 _ l (by decide)
 rw [← e]
 exact this
theorem signs_ok : Rets Tryz.prog 129 [] w fun v w' => ∃ b : Nat, v = .slice (some ⟨b, 0, none⟩) 12 12 ∧ True ∧ Turn noB (blk b (signsW.flatMap textCells) 9) w w' := by
 have H := Sep.start0 w
 refine rets0 Tryz.func129 rfl rfl rfl ?_
 refine Sr (Am ?_)
 refine Nx (FL_buildSlice H (xs := [_, _, _, _, _, _, _, _, _, _, _, _]) (out := signsW.flatMap textCells) (Elems.one rfl rfl (Elems.one rfl rfl (Elems.one rfl rfl (Elems.one rfl rfl (Elems.one rfl rfl (Elems.one rfl rfl (Elems.one rfl rfl (Elems.one rfl rfl (Elems.one rfl rfl (Elems.one rfl rfl (Elems.one rfl rfl (Elems.one rfl rfl Elems.nil)))))))))))) rfl rfl rfl (fun b1 w3 H3 k2 => ?_))
 refine Am ?_
 refine Qn (FW_ret (Qfn_ret (hR := ?_)))
 exact ⟨b1, rfl, trivial, H3.turn⟩
theorem wordE_ok (x : StepM) (hm : mayS x = true) (hf : fits x.n) (hT : TabsX w) : Rets Tryz.prog 83 [agg (stepCells x)] w fun v w' => v = str (wordS x) ∧ Kept noB w w' := by
 have H := Sep.start0 w
 have hil := itoa_len hf.1 hf.2
 obtain ⟨res, hres⟩ : ∃ res, res = wordS x := ⟨_, rfl⟩
 rw [← hres]
 unfold wordS at hres
 unfold mayS at hm
 refine rets1 Tryz.func83 rfl rfl rfl rfl ?_
 refine Sr (FL_box H (cs := stepCells x) rfl (h := fun b0 w2 H2 k0 => ?_))
 refine Am ?_
 refine Qn (FW_seq (Sr (Vf ?_)))
 refine Ld H2 ?_
 refine Qn (FW_block (Sr (Ve ?_)))
 refine Am ?_
 refine Qn (Cp rfl (fun hc8 => ?_) (fun hc8 => ?_))
 ·rw [if_pos hc8] at hres hm
  refine Sr (Vf ?_)
  refine Ld H2 ?_
  refine FL_callQ H2 (formatInt_ok x.n hf (hT.keep H2.kept)) (h := fun w13 H13 k12 => ?_)
  refine Vv (Gives.catT rfl rfl (by first | omega | (simp; done) | (simp; omega))) ?_
  refine Am ?_
  refine Qn (Rb (Qfn_ret (hR := ?_)))
  exact ⟨by rw [hres]; rfl, H13.kept⟩
 rw [if_neg hc8] at hres hm
 refine Sr (Ve ?_)
 refine Am ?_
 refine Qn (Cp rfl (fun hc20 => ?_) (fun hc20 => ?_))
 ·rw [if_pos hc20] at hres hm
  refine Sr (Vf ?_)
  refine Ld H2 ?_
  refine FL_callQ H2 (formatInt_ok x.n hf (hT.keep H2.kept)) (h := fun w25 H25 k24 => ?_)
  refine Am ?_
  refine Qn (Rb (Qfn_ret (hR := ?_)))
  exact ⟨by rw [hres]; rfl, H25.kept⟩
 rw [if_neg hc20] at hres hm
 refine Sr (Ve ?_)
 refine Am ?_
 refine Qn (Cp rfl (fun hc31 => ?_) (fun hc31 => ?_))
 ·rw [if_pos hc31] at hres hm
  refine Sr (Vf ?_)
  refine Ld H2 ?_
  refine Ve ?_
  refine FL_callS (formatBool_ok (decide (x.n = 1))) (h := ?_)
  refine Am ?_
  refine Qn (Rb (Qfn_ret (hR := ?_)))
  exact ⟨by rw [hres]; by_cases h1 : x.n = 1 <;> simp only [h1, decide_true, decide_false, if_true, if_false] <;> rfl, H2.kept⟩
 rw [if_neg hc31] at hres hm
 refine Sr (Ve ?_)
 refine Am ?_
 refine Qn (Cp rfl (fun hc42 => ?_) (fun hc42 => ?_))
 ·rw [if_pos hc42] at hres hm
  simp only [decide_eq_true_eq] at hm
  obtain ⟨_, hlen, hval⟩ := hm
  have hql := quote_len x.s
  refine Sr (Vf ?_)
  refine Ld H2 ?_
  refine FL_callQ H2 (quoteE_ok x.s (by omega) (hT.keep H2.kept).utf) (h := fun w47 H47 k46 => ?_)
  rw [show quoteP x.s = (quoteL x.s, 0) by unfold quoteP; rw [if_pos hval]]
  refine Mv ?_
  refine Vx ?_
  refine Vx ?_
  refine Am ?_
  refine Am ?_
  refine Nx (Mv ?_)
  refine FL_callQ H47 (replaceAll_ok (quoteL x.s) (by omega) (hT.keep H47.kept)) (h := fun w55 H55 k54 => ?_)
  refine Am ?_
  refine Qn (Rb (Qfn_ret (hR := ?_)))
  exact ⟨by rw [hres]; rfl, H55.kept⟩
 rw [if_neg hc42] at hres hm
 refine Sr (Ve ?_)
 refine Am ?_
 refine Qn (Cp rfl (fun hc61 => ?_) (fun hc61 => ?_))
 ·rw [if_pos hc61] at hres hm
  simp only [decide_eq_true_eq] at hm
  obtain ⟨hn0, hlen⟩ := hm
  have hck : checkC typeRaw ⟨false, 0, x.s⟩ = 0 := by
   have e : isC typeRaw.kind ⟨false, 0, x.s⟩ = decide ((0 : Int) = 0 ∧ x.s.length ≤ 1024) := rfl
   have e1 : mayT typeRaw = true := rfl
   unfold checkC
   rw [e1, if_neg (by decide), if_neg (by simp), e, if_pos (by simp [hlen])]
  refine Sr (Vv (Gives.build (out := typeCells typeRaw) (Fills.one rfl rfl rfl (by simp) rfl Fills.nil)) (Vf ?_))
  refine Ld H2 ?_
  refine Vv (Gives.build (out := cellCells ⟨false, 0, x.s⟩) (Fills.one rfl rfl rfl (by simp) rfl Fills.nil)) (FL_callQ H2 (textRaw_ok ⟨false, 0, x.s⟩ ⟨(by show (-9223372036854775808 : Int) ≤ 0; decide), (by show (0 : Int) ≤ 9223372036854775807; decide)⟩ (hT.keep H2.kept).utf) (h := fun w68 H68 k67 => ?_))
  rw [show textRaw ⟨false, 0, x.s⟩ = (120 :: hexL x.s, 0) from if_pos hck]
  refine Mv ?_
  refine Vx ?_
  refine Vx ?_
  refine Am ?_
  refine Am ?_
  refine Nx (Mv ?_)
  refine Am ?_
  refine Qn (Rb (Qfn_ret (hR := ?_)))
  exact ⟨by rw [hres]; rfl, H68.kept⟩
 rw [if_neg hc61] at hres hm
 refine Sr (Ve ?_)
 refine Am ?_
 refine Qn (Cp rfl (fun hc80 => ?_) (fun hc80 => ?_))
 ·rw [if_pos hc80] at hres hm
  simp only [decide_eq_true_eq] at hm
  refine Sr (Vf ?_)
  refine Ld H2 ?_
  refine FL_callQ H2 (null_ok x.n) (h := fun w85 H85 k84 => ?_)
  refine Am ?_
  refine Qn (Rb (Qfn_ret (hR := ?_)))
  exact ⟨by rw [hres]; rfl, H85.kept⟩
 rw [if_neg hc80] at hres hm
 simp only [decide_eq_true_eq] at hm
 obtain ⟨h7, h18, _, _⟩ := hm
 have hg := sign_get h7 h18
 rw [← hres] at hg
 have htn : (((x.kind - 7).toNat : Nat) : Int) = x.kind - 7 := Int.toNat_of_nonneg (by omega)
 refine FW_skip (Qblk_normal (Qseq_normal (FW_seq (FW_drawS rfl H2 (h := fun hok89 w91 H91 => ?_)))))
 refine Gp hok89 1 rfl rfl (fun _ => (Gives.field0 rfl)) (FGload hok89 2 H91 (h := ?_))
 refine Gp hok89 3 rfl rfl (fun _ => (Gives.subI (c := (((x.kind - 7).toNat : Nat) : Int)) rfl rfl (by omega) (by omega))) (FGcall hok89 0 [(3, true), (2, false), (1, true)] rfl (by kernel_rfl) (signs_ok) rfl (by kernel_rfl) (by kernel_rfl) (fun v' w96 hv => ?_))
 obtain ⟨b1, rfl, _, hkk, F1, hq, hsub⟩ := hv
 have H96 := H91.new hkk hq (fun b hb => (hsub b hb).resolve_left id)
 have hR : Rd w96 (some ⟨b1, 0, none⟩) textCells 1 signsW := Sep.blkRow H96 At0 rfl
 refine ⟨Stab_pure (Stab_load H96 (h := Stab_pure (Stab_nil))), ?_⟩
 refine Gp hok89 4 rfl rfl (fun _ => (Gives.idxR (l := signsW) (enc := textCells) rfl rfl hR (get_lt hg))) (Gl hok89 5 rfl rfl (Gives.loadW (f := 0) rfl hR hg rfl) ?_)
 refine Gp hok89 6 rfl rfl (fun _ => Gives.assign rfl) (FG_end hok89 (by kernel_rfl) ?_)
 refine Qseq_normal (FW_ret (Qfn_ret (hR := ?_)))
 exact ⟨rfl, H96.kept⟩
end
theorem join_eq (sep : UInt8) : ∀ ws : List (List UInt8), Lib.join ws [sep] = joinW sep ws
 | [] => rfl
 | [w] => Lib.join_one w [sep]
 | w :: x :: l => by
  have ih := join_eq sep (x :: l)
  show _ = w ++ sep :: joinW sep (x :: l)
  rw [← ih]
  simp [Lib.join, List.intercalate]
attribute [local irreducible] mayS wordS
section
variable {w : World}
theorem join_ok {l : List (List UInt8)} {v : Value} (hr : RowIn w v textCells 1 l) (hl : l.length ≤ 1000000) (hlen : (joinW 32 l).length ≤ 140737488355328) : Rets Tryz.prog 39 [v, str [32]] w fun v' w' => v' = str (joinW 32 l) ∧ Kept noB w w' := by
 obtain ⟨A, c, rfl, ⟨hc, hc'⟩, hR⟩ := hr
 by_cases h0 : l = []
 ·subst h0
  exact Calls.mono (Tryz.strings_Join_none A c ⟨#[32]⟩ w) fun e w' he => by
   obtain ⟨rfl, rfl⟩ := he
   exact ⟨rfl, Kept.refl _ _⟩
 have hpos : 0 < l.length := List.length_pos_iff.2 h0
 obtain ⟨ad, rfl⟩ := hR.addr hpos
 obtain ⟨x0, hx0⟩ := get_some hpos
 obtain ⟨ad', e0, hc0⟩ := hR.cell (f := 0) hx0 rfl
 injection e0 with e0; subst e0
 have hsp := World.cell?_spot hc0
 obtain ⟨bk, o, sp⟩ := ad
 have hsp' : sp = none := hsp
 subst hsp'
 have hbk : bk < w.heap.size := by
  refine Classical.byContradiction fun hn => ?_
  unfold World.cell? at hc0
  rw [Array.getElem?_eq_none (by show w.heap.size ≤ bk; omega)] at hc0
  cases hc0
 have hml : (l.map fun s : List UInt8 => (⟨s.toArray⟩ : ByteArray)).map (·.data.toList) = l := by
  rw [List.map_map]
  exact (List.map_congr_left fun s _ => rfl).trans (List.map_id l)
 have := rets_below (Tryz.strings_Join bk o c (l.map fun s => ⟨s.toArray⟩) ⟨#[32]⟩ w (fun j x hj => by
  rw [List.getElem?_map] at hj
  obtain ⟨s, hs, rfl⟩ := Option.map_eq_some_iff.1 hj
  obtain ⟨ad', e1, hcs⟩ := hR.cell (f := 0) hs rfl
  injection e1 with e1; subst e1
  rw [Nat.mul_one, Nat.add_zero, Addr.add_lit] at hcs
  exact hcs) hbk (by rw [List.length_map]; omega) (by rw [List.length_map]; exact hc) (by rw [hml]; show (Lib.join l [32]).length ≤ _; rw [join_eq]; exact hlen))
 rw [hml, List.length_map] at this
 have e : Lib.join l [32] = joinW 32 l := join_eq 32 l
 rw [← e]
 exact this
theorem textE_ok {l : List StepM} {vl : Value} (hl : RowIn w vl stepCells 3 l) (hx : ∀ x ∈ l, fits x.n) (hT : TabsX w) : Rets Tryz.prog 37 [vl] w fun v w' => v = .tuple #[str (textS l).1, I (textS l).2] ∧ Kept noB w w' := by
  obtain ⟨C, n, rfl, ⟨hn, hn'⟩, hC⟩ := hl
  have H := Sep.start0 w
  obtain ⟨res, hres⟩ : ∃ res, res = textS l := ⟨_, rfl⟩
  rw [← hres]
  unfold textS at hres
  refine rets1 Tryz.func37 rfl rfl rfl rfl ?_
  refine Sr (Am ?_)
  refine Am ?_
  refine Qn (FW_seq (Sr (Mv ?_)))
  refine Vs ?_
  refine Vg ?_
  refine Qn (Cp rfl (fun hc6 => ?_) (fun hc6 => ?_))
  · rw [if_pos (by omega)] at hres
    refine Sr (Am ?_)
    refine Am ?_
    refine Qn (Rs (Qfn_ret (hR := ?_)))
    exact ⟨by rw [hres]; rfl, H.kept⟩
  rw [if_neg (by omega)] at hres
  refine Sk (Sr (Am ?_))
  refine Qn (FW_seq (Sr (Mv ?_)))
  refine Vs ?_
  refine Mv ?_
  refine Qn (FW_block ?_)
  have H17 := Sep.nilD H 9 1 textCells
  refine FW_loop' (fun x : Nat × Value => [(0, .slice C l.length n), (4, x.2), (10, .slice C l.length n), (11, I l.length), (12, I x.1)]) (fun x w' => (x.1 ≤ l.length ∧ ∀ (j : Nat) y, j < x.1 → l[j]? = some y → mayS y = true) ∧ Sep w noB [rowD 9 1 textCells x.2 ((l.take x.1).map wordS)] w') (fun x _ => l.length - x.1) (0, .slice none 0 0) ⟨rfl, rfl, rfl, rfl, rfl, trivial⟩ ⟨⟨Nat.zero_le _, fun j x hj => absurd hj (Nat.not_lt_zero j)⟩, H17⟩ (fun x τ w17 hI => ?_)
  obtain ⟨i, v1⟩ := x
  obtain ⟨⟨hi, hmay⟩, H17⟩ := hI
  dsimp only at hi hmay H17
  have hml : ((l.take i).map wordS).length = i := by rw [List.length_map, List.length_take]; omega
  try simp only [upds, like, upd_ds, und_ds]
  refine Sr (Vl ?_)
  refine Qn (FW_seq (Cp rfl (fun hc19 => ?_) (fun hc19 => ?_)))
  · have hlt : i < l.length := by omega
    obtain ⟨x, hx'⟩ := get_some hlt
    have hfx := hx x (List.mem_of_getElem? hx')
    have htk : (l.take (i + 1)).map wordS = (l.take i).map wordS ++ [wordS x] := by rw [List.take_add_one, hx', List.map_append]; rfl
    refine Sk (FW_seq (FW_block (Sr (Vv (Gives.idxR rfl rfl (by assumption) (by omega)) (Vv (Gives.loadE0 rfl H17 (by assumption) (by assumption)) ?_)))))
    refine FL_alloc H17 (h := fun b6 w24 H24 k23 => ?_)
    refine FL_storeAll H24 (h := fun w26 H26 => ?_)
    refine Qn (FW_seq (Sr (FL_loadAll H26 (h := ?_))))
    refine FL_callQ H26 (may_ok x hfx (hT.keep H26.kept).utf) (h := fun w29 H29 k28 => ?_)
    refine Vv (Gives.not rfl) (Qn ?_)
    refine Cd rfl (fun hc31 => ?_) (fun hc31 => ?_)
    · have hno : l.all mayS = false := by
        rw [← Bool.not_eq_true, List.all_eq_true]
        intro h
        have := h x (List.mem_of_getElem? hx')
        rw [this] at hc31; cases hc31
      rw [if_pos hno] at hres
      refine Sr (Am ?_)
      refine Am ?_
      refine Qn (Rs (Qblk_ret (Qseq_ret (Qround_ret (Qblk_ret (Qseq_ret (Qfn_ret (hR := ?_))))))))
      exact ⟨by rw [hres]; rfl, H29.kept⟩
    have hmx : mayS x = true := by simpa using hc31
    refine Sk (FW_region (Mv ?_))
    refine FL_loadAll H29 (h := ?_)
    refine FL_callQ H29 (wordE_ok x hmx hfx (hT.keep H29.kept)) (h := fun w40 H40 k39 => ?_)
    refine FL_buildSlice H40 (xs := [.tmp 21]) (out := [wordS x].flatMap textCells) (Elems.one rfl rfl Elems.nil) rfl rfl rfl (fun bs w42 H42 k41 => ?_)
    refine FL_appendD H42 (news := [wordS x]) At1 (by rw [hml]; unfold maxLen; simp; omega) (by rw [hml]; show (i + 1) * 16 ≤ _; omega) (by intro u hu; simp only [List.flatMap_cons, List.flatMap_nil, textCells, List.append_nil, List.mem_cons, List.not_mem_nil, or_false] at hu; subst hu; rfl) (h := ?_)
    intro v2 w44 H44
    rw [← htk] at H44
    refine Am ?_
    refine FL_nil (Qblk_normal (Qseq_normal (FW_region (Vv (Gives.addI rfl rfl rfl (by omega)) ?_))))
    refine Mv ?_
    refine FL_nil ?_
    exact Qround_normal (i + 1, v2) ⟨rfl, rfl, rfl, rfl, rfl, trivial⟩ ⟨⟨by dsimp only; omega, fun j y hj hy => by
    by_cases e : j = i
    · subst e; rw [hx'] at hy; injection hy with hy; rw [← hy]; exact hmx
    exact hmay j y (by dsimp only at hj; omega) hy⟩, (H44.front1).firsts (l := [_])⟩ (by dsimp only; omega)
  have hil : i = l.length := by omega
  have hall : l.all mayS = true := List.all_eq_true.2 fun x hxm => by
    obtain ⟨j, hj⟩ := List.getElem?_of_mem hxm
    exact hmay j x (by have := get_lt hj; omega) hj
  rw [if_neg (by rw [hall]; simp)] at hres
  rw [hil, List.take_length] at H17
  rw [hil, List.take_length] at hml
  have hlen : (joinW 32 (l.map wordS)).length ≤ (6146 + 1) * l.length := by
    have := len_join 32 (k := 6146) (ws := l.map wordS) fun w hw => by
      obtain ⟨x, hxm, rfl⟩ := List.mem_map.1 hw
      exact word_len (List.all_eq_true.1 hall x hxm) (hx x hxm)
    rw [List.length_map] at this
    exact this
  obtain ⟨B, cb, rfl, hcb, hB⟩ := Sep.formD H17 At0
  refine FW_exit (Qseq_exit (Qround_exit (Qblk_exit (Qseq_normal (Sr (Mv ?_))))))
  refine FL_callQ H17 (join_ok (w := w17) ⟨B, cb, rfl, ⟨hcb, Sep.capD H17 At0⟩, Sep_rdD H17 At0⟩ (by omega) (by omega)) (h := fun w52 H52 k51 => ?_)
  refine Am ?_
  refine Am ?_
  refine Qn (FW_ret (Qfn_ret (hR := ?_)))
  exact ⟨by rw [hres]; rfl, H52.kept⟩
end
def rdrH (b : Nat) (l : List UInt8) (at_ : Nat) (e : Int) : HP := blk b [str l, I at_, I e] 235
def failS (e k : Int) : Int := if e = 0 then k else e
def takeS' (l : List UInt8) (at_ : Nat) (e : Int) : UInt8 × Nat × Int := if e ≠ 0 then (0, at_, e) else if at_ = l.length then (0, at_, 3) else (l.getD at_ 0, at_ + 1, 0)
def wantS (l : List UInt8) (at_ : Nat) (e : Int) (c : UInt8) : Nat × Int := ((takeS' l at_ e).2.1, if (takeS' l at_ e).1 = c then (takeS' l at_ e).2.2 else failS (takeS' l at_ e).2.2 41)
def digitS (l : List UInt8) (at_ : Nat) (e : Int) : Nat × Nat × Int :=
 match digitL (takeS' l at_ e).1 with
 | none => (0, (takeS' l at_ e).2.1, failS (takeS' l at_ e).2.2 41)
 | some d => (d, (takeS' l at_ e).2.1, (takeS' l at_ e).2.2)
def halfS (l : List UInt8) (at_ : Nat) (e : Int) (second : Bool) : Nat × Nat × Int :=
 let d0 := digitS l at_ e
 let e1 := if second = true ∧ d0.1 ≠ 13 then failS d0.2.2 41 else d0.2.2
 let d1 := digitS l d0.2.1 e1
 let n1 := 16 * d0.1 + d1.1
 let e2 := if second ≠ decide (220 ≤ n1 ∧ n1 ≤ 223) then failS d1.2.2 41 else d1.2.2
 let d2 := digitS l d1.2.1 e2
 let n2 := 16 * n1 + d2.1
 let d3 := digitS l d2.2.1 d2.2.2
 (16 * n2 + d3.1, d3.2.1, d3.2.2)
theorem take_at {l : List UInt8} {at_ : Nat} {e : Int} (h : at_ ≤ l.length) : (takeS' l at_ e).2.1 ≤ l.length := by
 unfold takeS'
 split
 ·exact h
 split
 ·exact h
 dsimp only; omega
theorem digit_at {l : List UInt8} {at_ : Nat} {e : Int} (h : at_ ≤ l.length) : (digitS l at_ e).2.1 ≤ l.length := by
 unfold digitS
 split <;> exact take_at h
theorem digit_lt (l : List UInt8) (at_ : Nat) (e : Int) : (digitS l at_ e).1 < 16 := by
 unfold digitS
 split
 ·exact Nat.zero_lt_succ 15
 rename_i h; exact digitL_lt h
theorem half_at {l : List UInt8} {at_ : Nat} {e : Int} {s : Bool} (h : at_ ≤ l.length) : (halfS l at_ e s).2.1 ≤ l.length := digit_at (digit_at (digit_at (digit_at h)))
theorem want_at {l : List UInt8} {at_ : Nat} {e : Int} {c : UInt8} (h : at_ ≤ l.length) : (wantS l at_ e c).1 ≤ l.length := take_at h
section
variable {w : World} {l : List UInt8}
theorem fail_ok {b at_ : Nat} {e : Int} {F : Nat → Prop} (k : Int) (hp : (rdrH b l at_ e).ok F w) : Rets Tryz.prog 202 [selfP b, I k] w fun r w' => r = .tuple #[] ∧ Turn F (rdrH b l at_ (failS e k)) w w' := by
 have H := Sep.start1 hp
 unfold rdrH at H
 refine rets2 Tryz.func202 rfl rfl rfl rfl ?_
 refine Sr (Mv ?_)
 refine Vv (Gives.nilCheck rfl) (Vf ?_)
 refine Ld H ?_
 refine Ve ?_
 refine Qn (Cp rfl (fun hc6 => ?_) (fun hc6 => ?_))
 ·have hres : failS e k = k := if_pos hc6
  refine FW_region (Mv ?_)
  refine Mv ?_
  refine Vv (Gives.nilCheck rfl) (Vf ?_)
  refine FL_store H (h := fun w13 H13 => ?_)
  refine FL_nil (Qfn_normal (hR := ?_))
  exact ⟨rfl, by rw [hres]; exact H13.turn⟩
 have hres : failS e k = e := if_neg hc6
 refine FW_skip (Qfn_normal (hR := ?_))
 exact ⟨rfl, by rw [hres]; exact H.turn⟩
theorem take_ok' {b at_ : Nat} {e : Int} {F : Nat → Prop} (hp : (rdrH b l at_ e).ok F w) (hl : l.length ≤ 1000000) (ha : at_ ≤ l.length) : Rets Tryz.prog 248 [selfP b] w fun r w' => r = B (takeS' l at_ e).1 ∧ Turn F (rdrH b l (takeS' l at_ e).2.1 (takeS' l at_ e).2.2) w w' := by
 have H := Sep.start1 hp
 unfold rdrH at H
 obtain ⟨res, hres⟩ : ∃ res, res = takeS' l at_ e := ⟨_, rfl⟩
 rw [← hres]
 unfold takeS' at hres
 refine rets1 Tryz.func248 rfl rfl rfl rfl ?_
 refine Sr (Am ?_)
 refine Qn (FW_seq (Sr (Mv ?_)))
 refine Vv (Gives.nilCheck rfl) (Vf ?_)
 refine Ld H ?_
 refine Vn ?_
 refine Qn (Cp rfl (fun hc7 => ?_) (fun hc7 => ?_))
 ·rw [if_pos hc7] at hres
  refine Sr (Am ?_)
  refine Qn (Rs (Qfn_ret (hR := ?_)))
  exact ⟨by rw [hres]; rfl, by rw [hres]; exact H.turn⟩
 have hc7 := hc7
 rw [if_neg hc7] at hres
 refine Sk (FW_seq (FW_seq (FW_drawS rfl H (h := fun hok12 w14 H14 => ?_))))
 refine Gm hok12 0 ?_
 refine Gp hok12 1 rfl rfl (fun _ => (Gives.nilCheck rfl)) (Gp hok12 2 rfl rfl (fun _ => (Gives.field0 rfl)) ?_)
 refine FGload hok12 3 H14 (h := ?_)
 refine Gm hok12 4 ?_
 refine Gp hok12 5 rfl rfl (fun _ => (Gives.nilCheck rfl)) (Gp hok12 6 rfl rfl (fun _ => (Gives.field0 rfl)) ?_)
 refine FGload hok12 7 H14 (h := ?_)
 refine Gp hok12 8 rfl rfl (fun _ => (Gives.lenT rfl)) (Gp hok12 9 rfl rfl (fun _ => (Gives.eql rfl rfl)) ?_)
 refine FG_end hok12 (by kernel_rfl) ?_
 refine Qseq_normal (Cp rfl (fun hc23 => ?_) (fun hc23 => ?_))
 ·rw [if_pos (by omega)] at hres
  refine Sr (Mv ?_)
  obtain ⟨F0, hp0, hS0, hput0⟩ := H14.focus At0
  refine FL_call (fail_ok (l := l) 3 hp0) rfl rfl (fun v' w27 hv => ?_)
  obtain ⟨rfl, hkk, F1, hq, hs⟩ := hv
  have H27 := hput0 _ F1 _ hkk hq hs
  have he0 : e = 0 := Classical.not_not.1 hc7
  have hfl : failS e 3 = 3 := if_pos he0
  rw [hfl] at H27
  refine Nx (Am ?_)
  refine Qn (Rs (Qfn_ret (hR := ?_)))
  exact ⟨by rw [hres]; rfl, by rw [hres]; exact H27.turn⟩
 rw [if_neg (by omega)] at hres
 refine Sk (Sr (Mv ?_))
 refine Vv (Gives.nilCheck rfl) (Vf ?_)
 refine Ld H14 ?_
 refine Vv (Gives.addI (c := ((at_ + 1 : Nat) : Int)) rfl rfl (by omega) (by omega)) (Vv (Gives.nilCheck rfl) ?_)
 refine Vf ?_
 refine FL_store H14 (h := fun w39 H39 => ?_)
 refine Qn (FW_seq (FW_drawS rfl H39 (h := fun hok40 w42 H42 => ?_)))
 refine Gm hok40 0 ?_
 refine Gp hok40 1 rfl rfl (fun _ => (Gives.nilCheck rfl)) (Gp hok40 2 rfl rfl (fun _ => (Gives.field0 rfl)) ?_)
 refine FGload hok40 3 H42 (h := ?_)
 refine Gm hok40 4 ?_
 refine Gp hok40 5 rfl rfl (fun _ => (Gives.nilCheck rfl)) (Gp hok40 6 rfl rfl (fun _ => (Gives.field0 rfl)) ?_)
 refine FGload hok40 7 H42 (h := ?_)
 refine Gp hok40 8 rfl rfl (fun _ => (Gives.subI (c := (at_ : Int)) rfl rfl (by omega) (by omega))) (Gp hok40 9 rfl rfl (fun _ => (Gives.idxD rfl rfl (by omega))) ?_)
 refine Gp hok40 10 rfl rfl (fun _ => Gives.assign rfl) (FG_end hok40 (by kernel_rfl) ?_)
 refine Qseq_normal (FW_ret (Qfn_ret (hR := ?_)))
 exact ⟨by rw [hres]; rfl, by rw [hres]; have he0 : e = 0 := Classical.not_not.1 hc7; rw [he0] at H42; exact H42.turn⟩
theorem want_ok' {b at_ : Nat} {e : Int} {F : Nat → Prop} (c : UInt8) (hp : (rdrH b l at_ e).ok F w) (hl : l.length ≤ 1000000) (ha : at_ ≤ l.length) : Rets Tryz.prog 201 [selfP b, B c] w fun r w' => r = .tuple #[] ∧ Turn F (rdrH b l (wantS l at_ e c).1 (wantS l at_ e c).2) w w' := by
  have H := Sep.start1 hp
  refine rets2 Tryz.func201 rfl rfl rfl rfl ?_
  refine Sr (Mv ?_)
  obtain ⟨F0, hp0, hS0, hput0⟩ := H.focus At0
  refine FL_call (take_ok' (l := l) hp0 hl ha) rfl rfl (fun v' w3 hv => ?_)
  obtain ⟨rfl, hkk, F1, hq, hs⟩ := hv
  have H3 := hput0 _ F1 _ hkk hq hs
  refine Am ?_
  refine Nx (Mv ?_)
  refine Mv ?_
  refine Vn ?_
  refine Qn (Cp rfl (fun hc8 => ?_) (fun hc8 => ?_))
  · have hres : wantS l at_ e c = ((takeS' l at_ e).2.1, failS (takeS' l at_ e).2.2 41) := by
      unfold wantS
      rw [if_neg (fun h => hc8 (by rw [h]))]
    refine FW_region (Mv ?_)
    obtain ⟨F0, hp0, hS0, hput0⟩ := H3.focus At0
    refine FL_call (fail_ok (l := l) 41 hp0) rfl rfl (fun v' w12 hv => ?_)
    obtain ⟨rfl, hkk, F1, hq, hs⟩ := hv
    have H12 := hput0 _ F1 _ hkk hq hs
    refine FL_nil (Qfn_normal (hR := ?_))
    exact ⟨rfl, by rw [hres]; exact H12.turn⟩
  have hres : wantS l at_ e c = ((takeS' l at_ e).2.1, (takeS' l at_ e).2.2) := by
    unfold wantS
    rw [if_pos (UInt8.toNat_inj.1 (by have h := hc8; omega))]
  refine FW_skip (Qfn_normal (hR := ?_))
  exact ⟨rfl, by rw [hres]; exact H3.turn⟩
theorem next_go (l : List UInt8) : nextL l = if (Lib.decodeGo ⟨l.toArray⟩).1 = 65533 ∧ (Lib.decodeGo ⟨l.toArray⟩).2 < 2 then none else some (Lib.decodeGo ⟨l.toArray⟩) := by
 by_cases h0 : l = []
 ·subst h0; rfl
 have hd : Lib.decodeGo ⟨l.toArray⟩ = decodeL l := by
  unfold Lib.decodeGo
  rw [if_neg (by rw [Mw.size_mk]; exact fun e => h0 (List.eq_nil_of_length_eq_zero e))]
  rfl
 rw [hd]
 cases hn : nextL l with
 | none =>
  unfold nextL at hn
  split at hn
  ·rename_i h
   rcases h with h | ⟨h1, h2⟩
   ·exact absurd h h0
   rw [if_pos ⟨h1, by omega⟩]
  cases hn
 | some p =>
  obtain ⟨r, n⟩ := p
  obtain ⟨e1, h1, _, _⟩ := next_some hn
  rw [e1, if_neg]
  rintro ⟨h2, h3⟩
  dsimp only at h2 h3
  unfold nextL at hn
  rw [if_pos (.inr ⟨by rw [e1]; exact h2, by rw [e1]; dsimp only; omega⟩)] at hn
  cases hn
theorem next_okU (l : List UInt8) (hT : TabsU w) : Rets Tryz.prog 250 [str l] w fun v w' => v = .tuple #[I32 (nextP l).1, I (nextP l).2, .bool (nextL l).isSome] ∧ Kept noB w w' := by
 have H := Sep.start0 w
 refine rets1 Tryz.func250 rfl rfl rfl rfl ?_
 refine Sr (Am ?_)
 refine Am ?_
 refine Am ?_
 refine Nx (Mv ?_)
 refine FL_callQ H (rets_below (Tryz.utf8_DecodeRuneInString ⟨l.toArray⟩ _ (hT.keep H.kept))) (h := fun w6 H6 k5 => ?_)
 refine Mv ?_
 refine Vx ?_
 refine Vx ?_
 refine Am ?_
 refine Am ?_
 refine Qn (FW_seq (Sr (Mv ?_)))
 refine Ve ?_
 refine Mv ?_
 refine FL_splitP (t := 12) rfl (fun hs15 => ?_) (fun hs15 => ?_)
 ·have hr := hs15
  refine On (Mv ?_)
  refine On (Vl ?_)
  refine Pt ?_
  refine Qn (Cp rfl (fun hc20 => ?_) (fun hc20 => ?_))
  ·have hres := next_go l
   rw [if_pos ⟨by omega, by omega⟩] at hres
   have hresP : nextP l = (0, 0) := by unfold nextP; rw [hres]; rfl
   refine Sr (Am ?_)
   refine Am ?_
   refine Am ?_
   refine Qn (Rs (Qfn_ret (hR := ?_)))
   exact ⟨by rw [hresP, hres]; rfl, H6.kept⟩
  have hres := next_go l
  rw [if_neg (fun h => by omega)] at hres
  refine Sk (Sr (Mv ?_))
  refine Mv ?_
  refine Am ?_
  refine Am ?_
  refine Am ?_
  refine Qn (FW_ret (Qfn_ret (hR := ?_)))
  have hres := next_go l
  rw [if_neg (by omega)] at hres
  have hresP : nextP l = Lib.decodeGo ⟨l.toArray⟩ := by unfold nextP; rw [hres]; rfl
  exact ⟨by rw [hresP, hres]; rfl, H6.kept⟩
 have hr := hs15
 refine Of (Of (Pf ?_))
 refine Qn (FW_cond_false rfl ?_)
 refine Sk (Sr (Mv ?_))
 refine Mv ?_
 refine Am ?_
 refine Am ?_
 refine Am ?_
 refine Qn (FW_ret (Qfn_ret (hR := ?_)))
 have hres := next_go l
 rw [if_neg (by omega)] at hres
 have hresP : nextP l = Lib.decodeGo ⟨l.toArray⟩ := by unfold nextP; rw [hres]; rfl
 exact ⟨by rw [hresP, hres]; rfl, H6.kept⟩
end
theorem or32 (c : UInt8) : bits .or .u8 (c.toNat : Int) 32 = ((c ||| 32).toNat : Int) := by
 have key : ∀ i : Fin 256, bits .or .u8 (i.val : Int) 32 = ((i.val.toUInt8 ||| 32).toNat : Int) := by decide +kernel
 have := key ⟨c.toNat, c.toNat_lt⟩
 have e : (c.toNat).toUInt8 = c := by simp
 simpa only [e] using this
theorem digit_key (c : UInt8) : digitL c = if Lib.indexByte hexS (c ||| 32) < 0 ∨ c.toNat < 48 ∨ (57 < c.toNat ∧ c.toNat < 65) then none else some (Lib.indexByte hexS (c ||| 32)).toNat := by
 have key : ∀ i : Fin 256, digitL i.val.toUInt8 = if Lib.indexByte hexS (i.val.toUInt8 ||| 32) < 0 ∨ i.val.toUInt8.toNat < 48 ∨ (57 < i.val.toUInt8.toNat ∧ i.val.toUInt8.toNat < 65) then none else some (Lib.indexByte hexS (i.val.toUInt8 ||| 32)).toNat := by decide +kernel
 have := key ⟨c.toNat, c.toNat_lt⟩
 have e : (c.toNat).toUInt8 = c := by simp
 simpa only [e] using this
section
variable {w : World} {l : List UInt8}
theorem digit_ok' {b at_ : Nat} {e : Int} {F : Nat → Prop} (hp : (rdrH b l at_ e).ok F w) (hl : l.length ≤ 1000000) (ha : at_ ≤ l.length) : Rets Tryz.prog 263 [selfP b] w fun r w' => r = I (digitS l at_ e).1 ∧ Turn F (rdrH b l (digitS l at_ e).2.1 (digitS l at_ e).2.2) w w' := by
 have H := Sep.start1 hp
 obtain ⟨c, hc⟩ : ∃ c, c = (takeS' l at_ e).1 := ⟨_, rfl⟩
 have hcl := c.toNat_lt
 have hkey := digit_key c
 refine rets1 Tryz.func263 rfl rfl rfl rfl ?_
 refine Sr (Am ?_)
 refine Nx (Mv ?_)
 obtain ⟨F0, hp0, hS0, hput0⟩ := H.focus At0
 refine FL_call (take_ok' (l := l) hp0 hl ha) rfl rfl (fun v' w4 hv => ?_)
 obtain ⟨rfl, hkk, F1, hq, hs⟩ := hv
 have H4 := hput0 _ F1 _ hkk hq hs
 rw [← hc]
 refine Am ?_
 refine Nx (Mv ?_)
 refine Vv (Gives.orE rfl rfl (or32 c)) (FL_callS (indexByte_ok hexS (c ||| 32)) (h := ?_))
 refine Am ?_
 refine Qn (FW_seq (Sr (Mv ?_)))
 refine Vl ?_
 refine Mv ?_
 refine FL_splitP (t := 12) rfl (fun hs13 => ?_) (fun hs13 => ?_)
 ·refine Of (Of (Pt ?_))
  refine Mv ?_
  refine Of (Of (Of (Ou (Ou (Of (Pt ?_))))))
  refine Qn (FW_cond_true rfl ?_)
  refine Sr (Mv ?_)
  have hres : digitS l at_ e = (0, (takeS' l at_ e).2.1, failS (takeS' l at_ e).2.2 41) := by
   unfold digitS
   rw [← hc, hkey, if_pos (by omega)]
  obtain ⟨F0, hp0, hS0, hput0⟩ := H4.focus At0
  refine FL_call (fail_ok (l := l) 41 hp0) rfl rfl (fun v' w19 hv => ?_)
  obtain ⟨rfl, hkk, F1, hq, hs⟩ := hv
  have H19 := hput0 _ F1 _ hkk hq hs
  refine Nx (Am ?_)
  refine Qn (Rs (Qfn_ret (hR := ?_)))
  exact ⟨by rw [hres]; rfl, by rw [hres]; exact H19.turn⟩
 refine On (Mv ?_)
 refine On (Vl ?_)
 refine Pf ?_
 refine Mv ?_
 refine FL_splitP (t := 16) rfl (fun hs26 => ?_) (fun hs26 => ?_)
 ·refine Of (Of (Of (Ou (Ou (Of (Pt ?_))))))
  refine Qn (FW_cond_true rfl ?_)
  refine Sr (Mv ?_)
  have hres : digitS l at_ e = (0, (takeS' l at_ e).2.1, failS (takeS' l at_ e).2.2 41) := by
   unfold digitS
   rw [← hc, hkey, if_pos (by omega)]
  obtain ⟨F0, hp0, hS0, hput0⟩ := H4.focus At0
  refine FL_call (fail_ok (l := l) 41 hp0) rfl rfl (fun v' w30 hv => ?_)
  obtain ⟨rfl, hkk, F1, hq, hs⟩ := hv
  have H30 := hput0 _ F1 _ hkk hq hs
  refine Nx (Am ?_)
  refine Qn (Rs (Qfn_ret (hR := ?_)))
  exact ⟨by rw [hres]; rfl, by rw [hres]; exact H30.turn⟩
 refine On (Mv ?_)
 refine On (Vg ?_)
 refine On (Mv ?_)
 refine FL_splitP (t := 19) rfl (fun hs36 => ?_) (fun hs36 => ?_)
 ·refine On (Mv ?_)
  refine On (Vl ?_)
  refine On (Pt ?_)
  refine Pf ?_
  refine Qn (Cp rfl (fun hc41 => ?_) (fun hc41 => ?_))
  ·refine Sr (Mv ?_)
   have hres : digitS l at_ e = (0, (takeS' l at_ e).2.1, failS (takeS' l at_ e).2.2 41) := by
    unfold digitS
    rw [← hc, hkey, if_pos (by omega)]
   obtain ⟨F0, hp0, hS0, hput0⟩ := H4.focus At0
   refine FL_call (fail_ok (l := l) 41 hp0) rfl rfl (fun v' w44 hv => ?_)
   obtain ⟨rfl, hkk, F1, hq, hs⟩ := hv
   have H44 := hput0 _ F1 _ hkk hq hs
   refine Nx (Am ?_)
   refine Qn (Rs (Qfn_ret (hR := ?_)))
   exact ⟨by rw [hres]; rfl, by rw [hres]; exact H44.turn⟩
  refine Sk (Sr (Mv ?_))
  refine Am ?_
  refine Qn (FW_ret (Qfn_ret (hR := ?_)))
  have hres : digitS l at_ e = ((Lib.indexByte hexS (c ||| 32)).toNat, (takeS' l at_ e).2.1, (takeS' l at_ e).2.2) := by
   unfold digitS
   rw [← hc, hkey, if_neg (by omega)]
  have hn : (((Lib.indexByte hexS (c ||| 32)).toNat : Nat) : Int) = Lib.indexByte hexS (c ||| 32) := Int.toNat_of_nonneg (by omega)
  exact ⟨by rw [hres]; show _ = I (((Lib.indexByte hexS (c ||| 32)).toNat : Nat) : Int); rw [hn]; rfl, by rw [hres]; exact H4.turn⟩
 refine Of (Of (On (Pf ?_)))
 refine Pf ?_
 refine Qn (FW_cond_false rfl ?_)
 refine Sk (Sr (Mv ?_))
 refine Am ?_
 refine Qn (FW_ret (Qfn_ret (hR := ?_)))
 have hres : digitS l at_ e = ((Lib.indexByte hexS (c ||| 32)).toNat, (takeS' l at_ e).2.1, (takeS' l at_ e).2.2) := by
  unfold digitS
  rw [← hc, hkey, if_neg (by omega)]
 have hn : (((Lib.indexByte hexS (c ||| 32)).toNat : Nat) : Int) = Lib.indexByte hexS (c ||| 32) := Int.toNat_of_nonneg (by omega)
 exact ⟨by rw [hres]; show _ = I (((Lib.indexByte hexS (c ||| 32)).toNat : Nat) : Int); rw [hn]; rfl, by rw [hres]; exact H4.turn⟩
theorem or_hex3 {a b : Nat} (ha : a < 268435456) (hb : b < 16) : bits .or .i64 ((16 * a : Nat) : Int) (b : Int) = ((16 * a + b : Nat) : Int) := by
 have key : 16 * a ||| b = 16 * a + b := (Nat.two_pow_add_eq_or_of_lt (i := 4) hb a).symm
 show IntKind.i64.wrap ((BitVec.ofInt 64 ((16 * a : Nat) : Int) ||| BitVec.ofInt 64 (b : Int)).toNat : Int) = _
 rw [BitVec.toNat_or, ofInt_u64 _ (by omega), ofInt_u64 _ (by omega), key, IntKind.wrap_i64]
 omega
theorem shl_hex {a : Nat} (ha : a < 268435456) : IntKind.i64.wrap ((a : Int) * 2 ^ (Min.min (4 : Int).toNat IntKind.i64.bits)) = ((16 * a : Nat) : Int) := by
 show IntKind.i64.wrap ((a : Int) * 16) = _
 rw [IntKind.wrap_i64]; omega
theorem half_ok' {b at_ : Nat} {e : Int} {F : Nat → Prop} (second : Bool) (hp : (rdrH b l at_ e).ok F w) (hl : l.length ≤ 1000000) (ha : at_ ≤ l.length) : Rets Tryz.prog 249 [selfP b, .bool second] w fun r w' => r = I32 (halfS l at_ e second).1 ∧ Turn F (rdrH b l (halfS l at_ e second).2.1 (halfS l at_ e second).2.2) w w' := by
 have H := Sep.start1 hp
 obtain ⟨d0, hd0⟩ : ∃ d, d = digitS l at_ e := ⟨_, rfl⟩
 have h0l := digit_lt l at_ e
 have h0a := digit_at (e := e) ha
 rw [← hd0] at h0l h0a
 obtain ⟨e1, he1⟩ : ∃ e1, e1 = if second = true ∧ d0.1 ≠ 13 then failS d0.2.2 41 else d0.2.2 := ⟨_, rfl⟩
 obtain ⟨d1, hd1⟩ : ∃ d, d = digitS l d0.2.1 e1 := ⟨_, rfl⟩
 have h1l := digit_lt l d0.2.1 e1
 have h1a := digit_at (e := e1) h0a
 rw [← hd1] at h1l h1a
 obtain ⟨n1, hn1⟩ : ∃ n, n = 16 * d0.1 + d1.1 := ⟨_, rfl⟩
 obtain ⟨e2, he2⟩ : ∃ e2, e2 = if second ≠ decide (220 ≤ n1 ∧ n1 ≤ 223) then failS d1.2.2 41 else d1.2.2 := ⟨_, rfl⟩
 obtain ⟨d2, hd2⟩ : ∃ d, d = digitS l d1.2.1 e2 := ⟨_, rfl⟩
 have h2l := digit_lt l d1.2.1 e2
 have h2a := digit_at (e := e2) h1a
 rw [← hd2] at h2l h2a
 obtain ⟨d3, hd3⟩ : ∃ d, d = digitS l d2.2.1 d2.2.2 := ⟨_, rfl⟩
 have h3l := digit_lt l d2.2.1 d2.2.2
 have h3a := digit_at (e := d2.2.2) h2a
 rw [← hd3] at h3l h3a
 have hres : halfS l at_ e second = (16 * (16 * n1 + d2.1) + d3.1, d3.2.1, d3.2.2) := by
  rw [hd3, hd2, he2, hn1, hd1, he1, hd0]; rfl
 refine rets2 Tryz.func249 rfl rfl rfl rfl ?_
 refine Sr (Am ?_)
 refine Nx (Mv ?_)
 obtain ⟨F0, hp0, hS0, hput0⟩ := H.focus At0
 refine FL_call (digit_ok' (l := l) hp0 hl ha) rfl rfl (fun v' w4 hv => ?_)
 obtain ⟨rfl, hkk, F1, hq, hs⟩ := hv
 have H4 := hput0 _ F1 _ hkk hq hs
 rw [← hd0]
 rw [← hd0] at H4
 refine Am ?_
 refine Qn (FW_cut (fun _ : Unit => [(0, selfP b), (1, .bool second), (5, I d0.1)]) (fun _ w' => Sep w F [rdrH b l d0.2.1 e1] w') ?_ ?_)
 ·refine Sr (Mv ?_)
  refine Mv ?_
  refine FL_split (t := 9) rfl (fun hs9 => ?_) (fun hs9 => ?_)
  ·have hsec : second = true := hs9
   refine On (Mv ?_)
   refine On (Vn ?_)
   refine Pt ?_
   refine Qn (Cp rfl (fun hc14 => ?_) (fun hc14 => ?_))
   ·have hee : failS d0.2.2 41 = e1 := by rw [he1, if_pos ⟨hsec, fun h => hc14 (by rw [h]; rfl)⟩]
    refine FW_region (Mv ?_)
    obtain ⟨F0, hp0, hS0, hput0⟩ := H4.focus At0
    refine FL_call (fail_ok (l := l) 41 hp0) rfl rfl (fun v' w18 hv => ?_)
    obtain ⟨rfl, hkk, F1, hq, hs⟩ := hv
    have H18 := hput0 _ F1 _ hkk hq hs
    refine FL_nil ?_
    rw [hee] at H18; exact Qcut_normal () ⟨rfl, rfl, rfl, trivial⟩ H18
   have hee : d0.2.2 = e1 := by rw [he1, if_neg (fun h => h.2 (by have h2 := hc14; omega))]
   refine FW_skip ?_
   rw [hee] at H4; exact Qcut_normal () ⟨rfl, rfl, rfl, trivial⟩ H4
  have hee : d0.2.2 = e1 := by rw [he1, if_neg (fun h => by have h2 := hs9; rw [h.1] at h2; cases h2)]
  refine Of (Of (Pf ?_))
  refine Qn (FW_cond_false rfl ?_)
  refine FW_skip ?_
  rw [hee] at H4; exact Qcut_normal () ⟨rfl, rfl, rfl, trivial⟩ H4
 intro _ τ w26 H26
 simp only [upds, like, upd_ds, und_ds]
 refine Sr (Mv ?_)
 refine Vv (Gives.shlE rfl rfl (by omega) (shl_hex (by omega))) (Mv ?_)
 obtain ⟨F0, hp0, hS0, hput0⟩ := H26.focus At0
 refine FL_call (digit_ok' (l := l) hp0 hl h0a) rfl rfl (fun v' w31 hv => ?_)
 obtain ⟨rfl, hkk, F1, hq, hs⟩ := hv
 have H31 := hput0 _ F1 _ hkk hq hs
 rw [← hd1]
 rw [← hd1] at H31
 refine Vv (Gives.orE rfl rfl (or_hex3 (by omega) h1l)) ?_
 rw [← hn1]
 refine Am ?_
 refine Qn (FW_cut (fun _ : Unit => [(0, selfP b), (1, .bool second), (5, I n1)]) (fun _ w' => Sep w F [rdrH b l d1.2.1 e2] w') ?_ ?_)
 ·refine Sr (Mv ?_)
  refine Mv ?_
  refine Vv (Gives.geq rfl rfl) (Mv ?_)
  refine FL_splitP (t := 23) rfl (fun hs39 => ?_) (fun hs39 => ?_)
  ·have hb : decide (220 ≤ n1 ∧ n1 ≤ 223) = decide ((n1 : Int) ≤ 223) := decide_eq_decide.2 (by have h := hs39; omega)
   refine On (Mv ?_)
   refine On (Vv (Gives.leq rfl rfl) (Pt ?_))
   refine Vv (Gives.neqB rfl rfl) (Qn ?_)
   refine Cd rfl (fun hc45 => ?_) (fun hc45 => ?_)
   ·have hee : failS d1.2.2 41 = e2 := by rw [he2, if_pos (fun h => by have h2 := hc45; rw [← hb, h] at h2; simp at h2)]
    refine FW_region (Mv ?_)
    obtain ⟨F0, hp0, hS0, hput0⟩ := H31.focus At0
    refine FL_call (fail_ok (l := l) 41 hp0) rfl rfl (fun v' w49 hv => ?_)
    obtain ⟨rfl, hkk, F1, hq, hs⟩ := hv
    have H49 := hput0 _ F1 _ hkk hq hs
    refine FL_nil ?_
    rw [hee] at H49; exact Qcut_normal () ⟨rfl, rfl, rfl, trivial⟩ H49
   have hee : d1.2.2 = e2 := by rw [he2, if_neg (fun h => h (by have h2 := hc45; rw [hb]; revert h2; first | (cases second <;> simp; done) | (generalize decide ((n1 : Int) ≤ 223) = D; cases second <;> cases D <;> simp)))]
   refine FW_skip ?_
   rw [hee] at H31; exact Qcut_normal () ⟨rfl, rfl, rfl, trivial⟩ H31
  have hb : decide (220 ≤ n1 ∧ n1 ≤ 223) = false := decide_eq_false (by have h := hs39; omega)
  refine Of (Of (Pf ?_))
  refine Vv (Gives.neqB rfl rfl) (Qn ?_)
  refine Cd rfl (fun hc56 => ?_) (fun hc56 => ?_)
  ·have hee : failS d1.2.2 41 = e2 := by rw [he2, if_pos (fun h => by have h2 := hc56; rw [← hb, h] at h2; simp at h2)]
   refine FW_region (Mv ?_)
   obtain ⟨F0, hp0, hS0, hput0⟩ := H31.focus At0
   refine FL_call (fail_ok (l := l) 41 hp0) rfl rfl (fun v' w60 hv => ?_)
   obtain ⟨rfl, hkk, F1, hq, hs⟩ := hv
   have H60 := hput0 _ F1 _ hkk hq hs
   refine FL_nil ?_
   rw [hee] at H60; exact Qcut_normal () ⟨rfl, rfl, rfl, trivial⟩ H60
  have hee : d1.2.2 = e2 := by rw [he2, if_neg (fun h => h (by have h2 := hc56; rw [hb]; revert h2; first | (cases second <;> simp; done) | (generalize decide ((n1 : Int) ≤ 223) = D; cases second <;> cases D <;> simp)))]
  refine FW_skip ?_
  rw [hee] at H31; exact Qcut_normal () ⟨rfl, rfl, rfl, trivial⟩ H31
 intro _ τ w65 H65
 simp only [upds, like, upd_ds]
 refine Sr (Mv ?_)
 refine Vv (Gives.shlE rfl rfl (by omega) (shl_hex (by omega))) (Mv ?_)
 obtain ⟨F0, hp0, hS0, hput0⟩ := H65.focus At0
 refine FL_call (digit_ok' (l := l) hp0 hl h1a) rfl rfl (fun v' w70 hv => ?_)
 obtain ⟨rfl, hkk, F1, hq, hs⟩ := hv
 have H70 := hput0 _ F1 _ hkk hq hs
 rw [← hd2]
 rw [← hd2] at H70
 refine Vv (Gives.orE rfl rfl (or_hex3 (by omega) h2l)) (Am ?_)
 refine Nx (Mv ?_)
 refine Vv (Gives.shlE rfl rfl (by omega) (shl_hex (by omega))) (Mv ?_)
 obtain ⟨F0, hp0, hS0, hput0⟩ := H70.focus At0
 refine FL_call (digit_ok' (l := l) hp0 hl h2a) rfl rfl (fun v' w77 hv => ?_)
 obtain ⟨rfl, hkk, F1, hq, hs⟩ := hv
 have H77 := hput0 _ F1 _ hkk hq hs
 rw [← hd3]
 rw [← hd3] at H77
 refine Vv (Gives.orE rfl rfl (or_hex3 (by omega) h3l)) (Vv (Gives.convI32 rfl (by omega)) ?_)
 refine Am ?_
 refine Qn (FW_ret (Qfn_ret (hR := ?_)))
 exact ⟨by rw [hres]; rfl, by rw [hres]; exact H77.turn⟩
end
end Go.Proofs.YtolaedhdjcnijaaGreatDoor
