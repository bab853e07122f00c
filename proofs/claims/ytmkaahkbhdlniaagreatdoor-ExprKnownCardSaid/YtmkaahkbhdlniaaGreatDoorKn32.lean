/-
 The known expressions, walked.
-/
import Derived.Test.YtmkaahkbhdlniaaGreatDoorKn31
import Derived.Test.YtmkaahkbhdlniaaGreatDoorShelfR
set_option linter.unusedVariables false
set_option linter.unusedSimpArgs false
namespace Go.Proofs.YtmkaahkbhdlniaaGreatDoor
open Go Go.Mw Go.Lib
set_option maxRecDepth 4000
def rep (s : List UInt8) (n : Nat) : List UInt8 := Lib.repeatL s n
theorem rep_len (s : List UInt8) (n : Nat) : (rep s n).length = n * s.length := Lib.repeatL_length s n
theorem repeat_ok (w : World) (s : List UInt8) (n : Nat) (h : s.length * n ≤ 140737488355328) (hn : n ≤ 9223372036854775807) : Rets Tryz.prog 39 [str s, I n] w fun v w' => v = str (rep s n) ∧ Kept noB w w' :=
 rets_below (Tryz.strings_Repeat ⟨s.toArray⟩ n w hn h)
theorem one_fits {x : StepM} (h : fits x.n) : ∀ y ∈ [x], fits y.n := fun y hy => by rw [List.mem_singleton.1 hy]; exact h
theorem small_fits {n : Nat} (h : n < 1000) : fits ((n : Nat) : Int) := by unfold fits; omega
theorem rdB {α : Type} {enc : α → List Value} {k b e : Nat} [hk : EncK enc k] {l : List α} {w w₀ : World} {S : Nat → Prop} {rs : List HP} {put : HP → List HP} (H : Mw.Sep w₀ S rs w) (hat : At rs (blk b (l.flatMap enc) e) put) : Rd w (some ⟨b, 0, none⟩) enc k l := Sep.blkRow H hat (flat_len hk.len l)
def step0 : StepM := ⟨0, 0, []⟩
theorem neg63 : (parseS (rep [110, 101, 103, 32] 63 ++ [110, 101, 103])).2 = 0 := by rw [← parseF_eq]; decide +kernel
theorem neg64 : (parseS (rep [110, 101, 103, 32] 64 ++ [110, 101, 103])).2 = 5 := by rw [← parseF_eq]; decide +kernel
theorem longHash : (parseS (rep [35] 1048577)).2 = 5 := by
 unfold parseS
 rw [if_pos (.inl (by rw [rep_len]; decide))]
section
variable {w : World}
set_option maxHeartbeats 1000000 in
theorem exprKnown_ok (hT : TabsX w) :
    Rets Tryz.prog 12 [] w fun v w' => v = .bool true ∧ Kept noB w w' := by
  have H := Sep.start0 w
  have hrf0 : RowFits [] := fun _ h => absurd h List.not_mem_nil
  have hrs0 := rowS_ok (l := []) (fun _ h => absurd h List.not_mem_nil)
  refine rets0 Tryz.func12 rfl rfl rfl ?_
  refine Sr (Am ?_)
  refine Nx (FL_buildSlice H (xs := [_, _, _, _, _, _, _, _, _, _, _]) (out := endsL.flatMap intCells) (Elems.one rfl rfl (Elems.one rfl rfl (Elems.one rfl rfl (Elems.one rfl rfl (Elems.one rfl rfl (Elems.one rfl rfl (Elems.one rfl rfl (Elems.one rfl rfl (Elems.one rfl rfl (Elems.one rfl rfl (Elems.one rfl rfl Elems.nil))))))))))) rfl rfl rfl (fun bk w3 H3 k2 => ?_))
  refine Am ?_
  refine Qn (FW_seq (Sr (Am ?_)))
  refine Qn (FW_block (FW_loop' (fun i : Nat => [(1, .slice (some ⟨bk, 0, none⟩) 11 11), (2, I i)]) (fun i w' => i ≤ 11 ∧ Sep w noB [blk bk (endsL.flatMap intCells) 2] w') (fun i _ => 11 - i) 0 ⟨rfl, rfl, trivial⟩ ⟨Nat.zero_le _, H3⟩ (fun i τ w7 hI => ?_)))
  obtain ⟨hi, H7⟩ := hI
  try simp only [upds, like, upd_ds, und_ds]
  refine FW_seq (Sr (Mv ?_))
  refine Mv ?_
  refine Vs ?_
  refine Vl ?_
  refine Qn (Cp rfl (fun hc12 => ?_) (fun hc12 => ?_))
  · have hlt : i < endsL.length := by show i < 11; omega
    obtain ⟨z, hz⟩ := get_some hlt
    have hzf := ends_fits z (List.mem_of_getElem? hz)
    have hRe : Rd w7 (some ⟨bk, 0, none⟩) intCells 1 endsL := rdB H7 At0
    refine Sk (FW_seq (FW_block (FW_seq (Sr (Am ?_)))))
    refine Qn (FW_block (FW_loop' (fun k : Nat => [(1, .slice (some ⟨bk, 0, none⟩) 11 11), (2, I i), (3, I k)]) (fun k w' => k ≤ 11 ∧ Sep w noB [blk bk (endsL.flatMap intCells) 2] w') (fun k _ => 11 - k) 0 ⟨rfl, rfl, rfl, trivial⟩ ⟨Nat.zero_le _, H7⟩ (fun k τ w16 hI => ?_)))
    obtain ⟨hk, H16⟩ := hI
    try simp only [upds, like, upd_ds]
    refine FW_seq (Sr (Mv ?_))
    refine Mv ?_
    refine Vs ?_
    refine Vl ?_
    refine Qn (Cp rfl (fun hc21 => ?_) (fun hc21 => ?_))
    · have hltk : k < endsL.length := by show k < 11; omega
      obtain ⟨y, hy⟩ := get_some hltk
      have hyf := ends_fits y (List.mem_of_getElem? hy)
      refine Sk (FW_seq (FW_block (Sr (Am ?_))))
      refine Qn (FW_block (FW_loop' (fun st : Nat => [(1, .slice (some ⟨bk, 0, none⟩) 11 11), (2, I i), (3, I k), (4, I st)]) (fun st w' => (7 ≤ st ∧ st ≤ 19) ∧ Sep w noB [blk bk (endsL.flatMap intCells) 2] w') (fun st _ => 19 - st) 7 ⟨rfl, rfl, rfl, rfl, trivial⟩ ⟨⟨by decide, by decide⟩, H16⟩ (fun st τ w25 hI => ?_)))
      obtain ⟨⟨hst7, hst⟩, H25⟩ := hI
      try simp only [upds, like, upd_ds]
      refine FW_seq (Sr (Mv ?_))
      refine Vv (Gives.leq rfl rfl) (Qn ?_)
      refine Cp rfl (fun hc28 => ?_) (fun hc28 => ?_)
      · have hst18 : st ≤ 18 := by omega
        have hx3 : ∀ x ∈ [(⟨2, z, []⟩ : StepM), ⟨2, y, []⟩, ⟨((st : Nat) : Int), 0, []⟩], fits x.n := by
          intro x hx
          simp only [List.mem_cons, List.not_mem_nil, or_false] at hx
          rcases hx with rfl | rfl | rfl
          · exact hzf
          · exact hyf
          unfold fits; dsimp only; omega
        refine Sk (FW_seq (FW_block (FW_seq (FW_drawS rfl H25 (h := fun hok30 w32 H32 => ?_)))))
        refine Gm hok30 0 ?_
        refine Gm hok30 1 ?_
        refine Gp hok30 2 rfl rfl (fun _ => Gives.idxR (l := endsL) (enc := intCells) rfl rfl hRe hlt) (Gl hok30 3 rfl rfl (Gives.loadW (enc := intCells) (l := endsL) (f := 0) rfl (rdB H32 At0) hz rfl) ?_)
        refine Gp hok30 4 rfl rfl (fun _ => Gives.build (out := stepCells ⟨2, z, []⟩) (Fills.one rfl rfl rfl (by simp) rfl (Fills.one rfl rfl rfl (by simp) rfl Fills.nil))) (Gm hok30 5 ?_)
        refine Gm hok30 6 ?_
        refine Gp hok30 7 rfl rfl (fun _ => Gives.idxR (l := endsL) (enc := intCells) rfl rfl hRe hltk) (Gl hok30 8 rfl rfl (Gives.loadW (enc := intCells) (l := endsL) (f := 0) rfl (rdB H32 At0) hy rfl) ?_)
        refine Gp hok30 9 rfl rfl (fun _ => Gives.build (out := stepCells ⟨2, y, []⟩) (Fills.one rfl rfl rfl (by simp) rfl (Fills.one rfl rfl rfl (by simp) rfl Fills.nil))) (Gm hok30 10 ?_)
        refine Gp hok30 11 rfl rfl (fun _ => Gives.build (out := stepCells ⟨((st : Nat) : Int), 0, []⟩) (Fills.one rfl rfl rfl (by simp) rfl Fills.nil)) (FGbuildSlice hok30 12 [] H32 (xs := [.tmp 44, .tmp 49, .tmp 51]) (out := [(⟨2, z, []⟩ : StepM), ⟨2, y, []⟩, ⟨((st : Nat) : Int), 0, []⟩].flatMap stepCells) (Elems.many rfl rfl (Elems.many rfl rfl (Elems.many rfl rfl Elems.nil))) (h := fun bs w41 H41 => ⟨Stab_nil, ?_⟩))
        refine FGcallQ hok30 13 [] H41 (exprEvals_ok (rowIn_nil _ colCells 7) (rowIn_blkX H41 At0 rfl (Nat.le_of_ble_eq_true rfl)) (rowIn_nil _ cellCells 3) hx3 hrf0 (hT.keep H41.kept)) (h := fun w43 H43 k42 => ⟨Stab_nil, ?_⟩)
        refine Gp hok30 14 rfl rfl (fun _ => (Gives.not rfl)) (FG_end hok30 (by kernel_rfl) ?_)
        refine Qseq_normal (Cd rfl (fun hc45 => ?_) (fun hc45 => ?_))
        · exact absurd hc45 (by decide)
        refine FW_skip (Qblk_normal (Qseq_normal (FW_region (Mv ?_))))
        refine Vv (Gives.addI (c := ((st + 1 : Nat) : Int)) rfl rfl (by omega) (by omega)) (Am ?_)
        refine FL_nil ?_
        exact Qround_normal (st + 1) ⟨rfl, rfl, rfl, rfl, trivial⟩ ⟨⟨by omega, by omega⟩, H43.drop0⟩ (by omega)
      refine FW_exit (Qseq_exit (Qround_exit (Qblk_exit (Qblk_normal (Qseq_normal (FW_region (Mv ?_)))))))
      refine Vv (Gives.addI (c := ((k + 1 : Nat) : Int)) rfl rfl (by omega) (by omega)) (Am ?_)
      refine FL_nil ?_
      exact Qround_normal (k + 1) ⟨rfl, rfl, rfl, trivial⟩ ⟨by omega, H25⟩ (by omega)
    refine FW_exit (Qseq_exit (Qround_exit (Qblk_exit (Qseq_normal (FW_seq (FW_drawS rfl H16 (h := fun hok55 w57 H57 => ?_)))))))
    refine Gm hok55 1 ?_
    refine Gm hok55 2 ?_
    refine Gp hok55 3 rfl rfl (fun _ => Gives.idxR (l := endsL) (enc := intCells) rfl rfl hRe hlt) (Gl hok55 4 rfl rfl (Gives.loadW (enc := intCells) (l := endsL) (f := 0) rfl (rdB H57 At0) hz rfl) ?_)
    refine Gp hok55 5 rfl rfl (fun _ => Gives.build (out := stepCells ⟨1, z, []⟩) (Fills.one rfl rfl rfl (by simp) rfl (Fills.one rfl rfl rfl (by simp) rfl Fills.nil))) (FG_two hok55 (e1 := 0) (e2 := 6) (by kernel_rfl) ?_ ?_)
    · refine step_callN hok55 0 [(5, true), (4, false), (3, true), (2, true), (1, true)] H57 (columns_ok false) (h := fun xC w62 _ H62 k61 => ?_)
      obtain ⟨BC, cC, rfl, hcC, _⟩ := Sep.formD H62 At0
      refine ⟨Stab_pure ((Stab_cons rfl (by kernel_rfl) (Gives.loadW (enc := intCells) (l := endsL) (f := 0) rfl (by first | exact rdB H62 At0 | exact rdB H62 At1 | exact rdB H62 At2 | exact rdB H62 At3) hz rfl) rfl (Stab_pure (Stab_pure (Stab_pure (Stab_nil)))))), ?_⟩
      refine FG_two hok55 (e1 := 6) (e2 := 7) (by kernel_rfl) ?_ ?_
      · refine step_buildSlice hok55 6 [] H62 (xs := [.tmp 60]) (out := [(⟨1, z, []⟩ : StepM)].flatMap stepCells) (Elems.many rfl rfl Elems.nil) (h := fun bs w64 H64 => ⟨Stab_nil, ?_⟩)
        refine FGcallN hok55 7 [] H64 (rowOf_ok (l := []) (rowIn_nil _ intCells 1) (fun _ h => absurd h List.not_mem_nil)) (h := fun xR w66 _ H66 k65 => ?_)
        obtain ⟨BR, cR, rfl, hcR, _⟩ := Sep.formD H66 At0
        refine ⟨Stab_nil, ?_⟩
        refine FGcallQ hok55 8 [] H66 (exprEvals_ok (cols := colsS false) (l := [⟨1, z, []⟩]) (r := rowS []) (by first | exact rowIn_own H66 At0 hcC | exact rowIn_own H66 At1 hcC | exact rowIn_own H66 At2 hcC) (by first | exact rowIn_blkX H66 At0 rfl (Nat.le_of_ble_eq_true rfl) | exact rowIn_blkX H66 At1 rfl (Nat.le_of_ble_eq_true rfl) | exact rowIn_blkX H66 At2 rfl (Nat.le_of_ble_eq_true rfl)) (by first | exact rowIn_own H66 At0 hcR | exact rowIn_own H66 At1 hcR | exact rowIn_own H66 At2 hcR) (one_fits hzf) hrs0.fit (hT.keep H66.kept)) (h := fun w68 H68 k67 => ⟨Stab_nil, ?_⟩)
        refine Gp hok55 9 rfl rfl (fun _ => (Gives.not rfl)) (Gm hok55 10 ?_)
        refine FG_split (t := 65) rfl (fun hs70 => ?_) (fun hs70 => ?_)
        · exact absurd hs70 (by decide)
        refine Gm hok55 11 ?_
        refine Gm hok55 12 ?_
        refine Gp hok55 13 rfl rfl (fun _ => Gives.idxR (l := endsL) (enc := intCells) rfl rfl hRe hlt) (Gl hok55 14 rfl rfl (Gives.loadW (enc := intCells) (l := endsL) (f := 0) rfl (rdB H68 At3) hz rfl) ?_)
        refine Gm hok55 15 ?_
        refine Gm hok55 16 ?_
        refine Gp hok55 17 rfl rfl (fun _ => Gives.idxR (l := endsL) (enc := intCells) rfl rfl hRe hlt) (Gl hok55 18 rfl rfl (Gives.loadW (enc := intCells) (l := endsL) (f := 0) rfl (rdB H68 At3) hz rfl) ?_)
        refine Gp hok55 19 rfl rfl (fun _ => Gives.build (out := stepCells ⟨z, z, []⟩) (Fills.one rfl rfl rfl (by simp) rfl (Fills.one rfl rfl rfl (by simp) rfl Fills.nil))) (FGbuildSlice hok55 20 [] H68 (xs := [.tmp 74]) (out := [(⟨z, z, []⟩ : StepM)].flatMap stepCells) (Elems.many rfl rfl Elems.nil) (h := fun bs w78 H78 => ⟨Stab_nil, ?_⟩))
        refine FGcallQ hok55 21 [] H78 (exprTexts_ok [] (rowIn_blkX H78 At0 rfl (Nat.le_of_ble_eq_true rfl)) (one_fits hzf) (hT.keep H78.kept)) (h := fun w80 H80 k79 => ⟨Stab_nil, ?_⟩)
        refine Gp hok55 22 rfl rfl (fun _ => (Gives.not rfl)) (Gp hok55 23 rfl rfl (fun _ => Gives.pickF rfl rfl) ?_)
        refine Gm hok55 24 ?_
        refine FG_split (t := 79) rfl (fun hs83 => ?_) (fun hs83 => ?_)
        · exact absurd hs83 (by decide)
        refine Gm hok55 25 ?_
        refine Gm hok55 26 ?_
        refine Gp hok55 27 rfl rfl (fun _ => Gives.idxR (l := endsL) (enc := intCells) rfl rfl hRe hlt) (Gl hok55 28 rfl rfl (Gives.loadW (enc := intCells) (l := endsL) (f := 0) rfl (rdB H80 At4) hz rfl) ?_)
        refine Gp hok55 29 rfl rfl (fun _ => Gives.build (out := stepCells ⟨1, z, []⟩) (Fills.one rfl rfl rfl (by simp) rfl (Fills.one rfl rfl rfl (by simp) rfl Fills.nil))) (FGbuildSlice hok55 30 [] H80 (xs := [.tmp 84]) (out := [(⟨1, z, []⟩ : StepM)].flatMap stepCells) (Elems.many rfl rfl Elems.nil) (h := fun bs w89 H89 => ⟨Stab_nil, ?_⟩))
        refine FGcallQ hok55 31 [] H89 (exprTexts_ok [] (rowIn_blkX H89 At0 rfl (Nat.le_of_ble_eq_true rfl)) (one_fits hzf) (hT.keep H89.kept)) (h := fun w91 H91 k90 => ⟨Stab_nil, ?_⟩)
        refine Gp hok55 32 rfl rfl (fun _ => (Gives.not rfl)) (Gp hok55 33 rfl rfl (fun _ => Gives.pickF rfl rfl) ?_)
        refine Gm hok55 34 ?_
        refine FG_split (t := 89) rfl (fun hs94 => ?_) (fun hs94 => ?_)
        · exact absurd hs94 (by decide)
        refine Gm hok55 35 ?_
        refine Gm hok55 36 ?_
        refine Gp hok55 37 rfl rfl (fun _ => Gives.idxR (l := endsL) (enc := intCells) rfl rfl hRe hlt) (Gl hok55 38 rfl rfl (Gives.loadW (enc := intCells) (l := endsL) (f := 0) rfl (rdB H91 At5) hz rfl) ?_)
        refine Gp hok55 39 rfl rfl (fun _ => Gives.build (out := stepCells ⟨2, z, []⟩) (Fills.one rfl rfl rfl (by simp) rfl (Fills.one rfl rfl rfl (by simp) rfl Fills.nil))) (FGbuildSlice hok55 40 [] H91 (xs := [.tmp 94]) (out := [(⟨2, z, []⟩ : StepM)].flatMap stepCells) (Elems.many rfl rfl Elems.nil) (h := fun bs w100 H100 => ⟨Stab_nil, ?_⟩))
        refine FGcallQ hok55 41 [] H100 (exprTexts_ok [] (rowIn_blkX H100 At0 rfl (Nat.le_of_ble_eq_true rfl)) (one_fits hzf) (hT.keep H100.kept)) (h := fun w102 H102 k101 => ⟨Stab_nil, ?_⟩)
        refine Gp hok55 42 rfl rfl (fun _ => (Gives.not rfl)) (Gp hok55 43 rfl rfl (fun _ => Gives.pickF rfl rfl) ?_)
        refine FG_end hok55 (by kernel_rfl) ?_
        refine Qseq_normal (Cd rfl (fun hc105 => ?_) (fun hc105 => ?_))
        · exact absurd hc105 (by decide)
        refine FW_skip (Qblk_normal (Qseq_normal (FW_region (Mv ?_))))
        refine Vv (Gives.addI (c := ((i + 1 : Nat) : Int)) rfl rfl (by omega) (by omega)) (Am ?_)
        refine FL_nil ?_
        exact Qround_normal (i + 1) ⟨rfl, rfl, trivial⟩ ⟨by omega, ((H102.drop0.drop0.drop0).drop0.drop0).drop0⟩ (by omega)
      refine step_callN hok55 7 [(5, true), (4, false), (3, true), (2, true), (1, true)] H62 (rowOf_ok (l := []) (rowIn_nil _ intCells 1) (fun _ h => absurd h List.not_mem_nil)) (h := fun xR w112 _ H112 k111 => ?_)
      obtain ⟨BR, cR, rfl, hcR, _⟩ := Sep.formD H112 At0
      refine ⟨Stab_pure ((Stab_cons rfl (by kernel_rfl) (Gives.loadW (enc := intCells) (l := endsL) (f := 0) rfl (by first | exact rdB H112 At0 | exact rdB H112 At1 | exact rdB H112 At2 | exact rdB H112 At3) hz rfl) rfl (Stab_pure (Stab_pure (Stab_pure (Stab_nil)))))), ?_⟩
      refine FGbuildSlice hok55 6 [] H112 (xs := [.tmp 60]) (out := [(⟨1, z, []⟩ : StepM)].flatMap stepCells) (Elems.many rfl rfl Elems.nil) (h := fun bs w114 H114 => ⟨Stab_nil, ?_⟩)
      refine FGcallQ hok55 8 [] H114 (exprEvals_ok (cols := colsS false) (l := [⟨1, z, []⟩]) (r := rowS []) (by first | exact rowIn_own H114 At0 hcC | exact rowIn_own H114 At1 hcC | exact rowIn_own H114 At2 hcC) (by first | exact rowIn_blkX H114 At0 rfl (Nat.le_of_ble_eq_true rfl) | exact rowIn_blkX H114 At1 rfl (Nat.le_of_ble_eq_true rfl) | exact rowIn_blkX H114 At2 rfl (Nat.le_of_ble_eq_true rfl)) (by first | exact rowIn_own H114 At0 hcR | exact rowIn_own H114 At1 hcR | exact rowIn_own H114 At2 hcR) (one_fits hzf) hrs0.fit (hT.keep H114.kept)) (h := fun w116 H116 k115 => ⟨Stab_nil, ?_⟩)
      refine Gp hok55 9 rfl rfl (fun _ => (Gives.not rfl)) (Gm hok55 10 ?_)
      refine FG_split (t := 65) rfl (fun hs118 => ?_) (fun hs118 => ?_)
      · exact absurd hs118 (by decide)
      refine Gm hok55 11 ?_
      refine Gm hok55 12 ?_
      refine Gp hok55 13 rfl rfl (fun _ => Gives.idxR (l := endsL) (enc := intCells) rfl rfl hRe hlt) (Gl hok55 14 rfl rfl (Gives.loadW (enc := intCells) (l := endsL) (f := 0) rfl (rdB H116 At3) hz rfl) ?_)
      refine Gm hok55 15 ?_
      refine Gm hok55 16 ?_
      refine Gp hok55 17 rfl rfl (fun _ => Gives.idxR (l := endsL) (enc := intCells) rfl rfl hRe hlt) (Gl hok55 18 rfl rfl (Gives.loadW (enc := intCells) (l := endsL) (f := 0) rfl (rdB H116 At3) hz rfl) ?_)
      refine Gp hok55 19 rfl rfl (fun _ => Gives.build (out := stepCells ⟨z, z, []⟩) (Fills.one rfl rfl rfl (by simp) rfl (Fills.one rfl rfl rfl (by simp) rfl Fills.nil))) (FGbuildSlice hok55 20 [] H116 (xs := [.tmp 74]) (out := [(⟨z, z, []⟩ : StepM)].flatMap stepCells) (Elems.many rfl rfl Elems.nil) (h := fun bs w126 H126 => ⟨Stab_nil, ?_⟩))
      refine FGcallQ hok55 21 [] H126 (exprTexts_ok [] (rowIn_blkX H126 At0 rfl (Nat.le_of_ble_eq_true rfl)) (one_fits hzf) (hT.keep H126.kept)) (h := fun w128 H128 k127 => ⟨Stab_nil, ?_⟩)
      refine Gp hok55 22 rfl rfl (fun _ => (Gives.not rfl)) (Gp hok55 23 rfl rfl (fun _ => Gives.pickF rfl rfl) ?_)
      refine Gm hok55 24 ?_
      refine FG_split (t := 79) rfl (fun hs131 => ?_) (fun hs131 => ?_)
      · exact absurd hs131 (by decide)
      refine Gm hok55 25 ?_
      refine Gm hok55 26 ?_
      refine Gp hok55 27 rfl rfl (fun _ => Gives.idxR (l := endsL) (enc := intCells) rfl rfl hRe hlt) (Gl hok55 28 rfl rfl (Gives.loadW (enc := intCells) (l := endsL) (f := 0) rfl (rdB H128 At4) hz rfl) ?_)
      refine Gp hok55 29 rfl rfl (fun _ => Gives.build (out := stepCells ⟨1, z, []⟩) (Fills.one rfl rfl rfl (by simp) rfl (Fills.one rfl rfl rfl (by simp) rfl Fills.nil))) (FGbuildSlice hok55 30 [] H128 (xs := [.tmp 84]) (out := [(⟨1, z, []⟩ : StepM)].flatMap stepCells) (Elems.many rfl rfl Elems.nil) (h := fun bs w137 H137 => ⟨Stab_nil, ?_⟩))
      refine FGcallQ hok55 31 [] H137 (exprTexts_ok [] (rowIn_blkX H137 At0 rfl (Nat.le_of_ble_eq_true rfl)) (one_fits hzf) (hT.keep H137.kept)) (h := fun w139 H139 k138 => ⟨Stab_nil, ?_⟩)
      refine Gp hok55 32 rfl rfl (fun _ => (Gives.not rfl)) (Gp hok55 33 rfl rfl (fun _ => Gives.pickF rfl rfl) ?_)
      refine Gm hok55 34 ?_
      refine FG_split (t := 89) rfl (fun hs142 => ?_) (fun hs142 => ?_)
      · exact absurd hs142 (by decide)
      refine Gm hok55 35 ?_
      refine Gm hok55 36 ?_
      refine Gp hok55 37 rfl rfl (fun _ => Gives.idxR (l := endsL) (enc := intCells) rfl rfl hRe hlt) (Gl hok55 38 rfl rfl (Gives.loadW (enc := intCells) (l := endsL) (f := 0) rfl (rdB H139 At5) hz rfl) ?_)
      refine Gp hok55 39 rfl rfl (fun _ => Gives.build (out := stepCells ⟨2, z, []⟩) (Fills.one rfl rfl rfl (by simp) rfl (Fills.one rfl rfl rfl (by simp) rfl Fills.nil))) (FGbuildSlice hok55 40 [] H139 (xs := [.tmp 94]) (out := [(⟨2, z, []⟩ : StepM)].flatMap stepCells) (Elems.many rfl rfl Elems.nil) (h := fun bs w148 H148 => ⟨Stab_nil, ?_⟩))
      refine FGcallQ hok55 41 [] H148 (exprTexts_ok [] (rowIn_blkX H148 At0 rfl (Nat.le_of_ble_eq_true rfl)) (one_fits hzf) (hT.keep H148.kept)) (h := fun w150 H150 k149 => ⟨Stab_nil, ?_⟩)
      refine Gp hok55 42 rfl rfl (fun _ => (Gives.not rfl)) (Gp hok55 43 rfl rfl (fun _ => Gives.pickF rfl rfl) ?_)
      refine FG_end hok55 (by kernel_rfl) ?_
      refine Qseq_normal (Cd rfl (fun hc153 => ?_) (fun hc153 => ?_))
      · exact absurd hc153 (by decide)
      refine FW_skip (Qblk_normal (Qseq_normal (FW_region (Mv ?_))))
      refine Vv (Gives.addI (c := ((i + 1 : Nat) : Int)) rfl rfl (by omega) (by omega)) (Am ?_)
      refine FL_nil ?_
      exact Qround_normal (i + 1) ⟨rfl, rfl, trivial⟩ ⟨by omega, ((H150.drop0.drop0.drop0).drop0.drop0).drop0⟩ (by omega)
    refine step_buildSlice hok55 6 [] H57 (xs := [.tmp 60]) (out := [(⟨1, z, []⟩ : StepM)].flatMap stepCells) (Elems.many rfl rfl Elems.nil) (h := fun bs w160 H160 => ⟨Stab_nil, ?_⟩)
    refine FGcallN hok55 0 [] H160 (columns_ok false) (h := fun xC w162 _ H162 k161 => ?_)
    obtain ⟨BC, cC, rfl, hcC, _⟩ := Sep.formD H162 At0
    refine ⟨Stab_nil, ?_⟩
    refine FGcallN hok55 7 [] H162 (rowOf_ok (l := []) (rowIn_nil _ intCells 1) (fun _ h => absurd h List.not_mem_nil)) (h := fun xR w164 _ H164 k163 => ?_)
    obtain ⟨BR, cR, rfl, hcR, _⟩ := Sep.formD H164 At0
    refine ⟨Stab_nil, ?_⟩
    refine FGcallQ hok55 8 [] H164 (exprEvals_ok (cols := colsS false) (l := [⟨1, z, []⟩]) (r := rowS []) (by first | exact rowIn_own H164 At0 hcC | exact rowIn_own H164 At1 hcC | exact rowIn_own H164 At2 hcC) (by first | exact rowIn_blkX H164 At0 rfl (Nat.le_of_ble_eq_true rfl) | exact rowIn_blkX H164 At1 rfl (Nat.le_of_ble_eq_true rfl) | exact rowIn_blkX H164 At2 rfl (Nat.le_of_ble_eq_true rfl)) (by first | exact rowIn_own H164 At0 hcR | exact rowIn_own H164 At1 hcR | exact rowIn_own H164 At2 hcR) (one_fits hzf) hrs0.fit (hT.keep H164.kept)) (h := fun w166 H166 k165 => ⟨Stab_nil, ?_⟩)
    refine Gp hok55 9 rfl rfl (fun _ => (Gives.not rfl)) (Gm hok55 10 ?_)
    refine FG_split (t := 65) rfl (fun hs168 => ?_) (fun hs168 => ?_)
    · exact absurd hs168 (by decide)
    refine Gm hok55 11 ?_
    refine Gm hok55 12 ?_
    refine Gp hok55 13 rfl rfl (fun _ => Gives.idxR (l := endsL) (enc := intCells) rfl rfl hRe hlt) (Gl hok55 14 rfl rfl (Gives.loadW (enc := intCells) (l := endsL) (f := 0) rfl (rdB H166 At3) hz rfl) ?_)
    refine Gm hok55 15 ?_
    refine Gm hok55 16 ?_
    refine Gp hok55 17 rfl rfl (fun _ => Gives.idxR (l := endsL) (enc := intCells) rfl rfl hRe hlt) (Gl hok55 18 rfl rfl (Gives.loadW (enc := intCells) (l := endsL) (f := 0) rfl (rdB H166 At3) hz rfl) ?_)
    refine Gp hok55 19 rfl rfl (fun _ => Gives.build (out := stepCells ⟨z, z, []⟩) (Fills.one rfl rfl rfl (by simp) rfl (Fills.one rfl rfl rfl (by simp) rfl Fills.nil))) (FGbuildSlice hok55 20 [] H166 (xs := [.tmp 74]) (out := [(⟨z, z, []⟩ : StepM)].flatMap stepCells) (Elems.many rfl rfl Elems.nil) (h := fun bs w176 H176 => ⟨Stab_nil, ?_⟩))
    refine FGcallQ hok55 21 [] H176 (exprTexts_ok [] (rowIn_blkX H176 At0 rfl (Nat.le_of_ble_eq_true rfl)) (one_fits hzf) (hT.keep H176.kept)) (h := fun w178 H178 k177 => ⟨Stab_nil, ?_⟩)
    refine Gp hok55 22 rfl rfl (fun _ => (Gives.not rfl)) (Gp hok55 23 rfl rfl (fun _ => Gives.pickF rfl rfl) ?_)
    refine Gm hok55 24 ?_
    refine FG_split (t := 79) rfl (fun hs181 => ?_) (fun hs181 => ?_)
    · exact absurd hs181 (by decide)
    refine Gm hok55 25 ?_
    refine Gm hok55 26 ?_
    refine Gp hok55 27 rfl rfl (fun _ => Gives.idxR (l := endsL) (enc := intCells) rfl rfl hRe hlt) (Gl hok55 28 rfl rfl (Gives.loadW (enc := intCells) (l := endsL) (f := 0) rfl (rdB H178 At4) hz rfl) ?_)
    refine Gp hok55 29 rfl rfl (fun _ => Gives.build (out := stepCells ⟨1, z, []⟩) (Fills.one rfl rfl rfl (by simp) rfl (Fills.one rfl rfl rfl (by simp) rfl Fills.nil))) (FGbuildSlice hok55 30 [] H178 (xs := [.tmp 84]) (out := [(⟨1, z, []⟩ : StepM)].flatMap stepCells) (Elems.many rfl rfl Elems.nil) (h := fun bs w187 H187 => ⟨Stab_nil, ?_⟩))
    refine FGcallQ hok55 31 [] H187 (exprTexts_ok [] (rowIn_blkX H187 At0 rfl (Nat.le_of_ble_eq_true rfl)) (one_fits hzf) (hT.keep H187.kept)) (h := fun w189 H189 k188 => ⟨Stab_nil, ?_⟩)
    refine Gp hok55 32 rfl rfl (fun _ => (Gives.not rfl)) (Gp hok55 33 rfl rfl (fun _ => Gives.pickF rfl rfl) ?_)
    refine Gm hok55 34 ?_
    refine FG_split (t := 89) rfl (fun hs192 => ?_) (fun hs192 => ?_)
    · exact absurd hs192 (by decide)
    refine Gm hok55 35 ?_
    refine Gm hok55 36 ?_
    refine Gp hok55 37 rfl rfl (fun _ => Gives.idxR (l := endsL) (enc := intCells) rfl rfl hRe hlt) (Gl hok55 38 rfl rfl (Gives.loadW (enc := intCells) (l := endsL) (f := 0) rfl (rdB H189 At5) hz rfl) ?_)
    refine Gp hok55 39 rfl rfl (fun _ => Gives.build (out := stepCells ⟨2, z, []⟩) (Fills.one rfl rfl rfl (by simp) rfl (Fills.one rfl rfl rfl (by simp) rfl Fills.nil))) (FGbuildSlice hok55 40 [] H189 (xs := [.tmp 94]) (out := [(⟨2, z, []⟩ : StepM)].flatMap stepCells) (Elems.many rfl rfl Elems.nil) (h := fun bs w198 H198 => ⟨Stab_nil, ?_⟩))
    refine FGcallQ hok55 41 [] H198 (exprTexts_ok [] (rowIn_blkX H198 At0 rfl (Nat.le_of_ble_eq_true rfl)) (one_fits hzf) (hT.keep H198.kept)) (h := fun w200 H200 k199 => ⟨Stab_nil, ?_⟩)
    refine Gp hok55 42 rfl rfl (fun _ => (Gives.not rfl)) (Gp hok55 43 rfl rfl (fun _ => Gives.pickF rfl rfl) ?_)
    refine FG_end hok55 (by kernel_rfl) ?_
    refine Qseq_normal (Cd rfl (fun hc203 => ?_) (fun hc203 => ?_))
    · exact absurd hc203 (by decide)
    refine FW_skip (Qblk_normal (Qseq_normal (FW_region (Mv ?_))))
    refine Vv (Gives.addI (c := ((i + 1 : Nat) : Int)) rfl rfl (by omega) (by omega)) (Am ?_)
    refine FL_nil ?_
    exact Qround_normal (i + 1) ⟨rfl, rfl, trivial⟩ ⟨by omega, ((H200.drop0.drop0.drop0).drop0.drop0).drop0⟩ (by omega)
  refine FW_exit (Qseq_exit (Qround_exit (Qblk_exit (Qseq_normal (Sr (FL_buildSlice H7 (xs := [_, _, _, _, _, _, _, _, _, _, _, _, _, _, _, _]) (out := leafTx.flatMap textCells) (Elems.one rfl rfl (Elems.one rfl rfl (Elems.one rfl rfl (Elems.one rfl rfl (Elems.one rfl rfl (Elems.one rfl rfl (Elems.one rfl rfl (Elems.one rfl rfl (Elems.one rfl rfl (Elems.one rfl rfl (Elems.one rfl rfl (Elems.one rfl rfl (Elems.one rfl rfl (Elems.one rfl rfl (Elems.one rfl rfl (Elems.one rfl rfl Elems.nil)))))))))))))))) rfl rfl rfl (fun bl w210 H210 k209 => ?_)))))))
  refine Am ?_
  refine Nx (FL_buildSlice H210 (xs := [_, _, _, _, _, _, _, _, _, _, _, _, _]) (out := stepTx.flatMap textCells) (Elems.one rfl rfl (Elems.one rfl rfl (Elems.one rfl rfl (Elems.one rfl rfl (Elems.one rfl rfl (Elems.one rfl rfl (Elems.one rfl rfl (Elems.one rfl rfl (Elems.one rfl rfl (Elems.one rfl rfl (Elems.one rfl rfl (Elems.one rfl rfl (Elems.one rfl rfl Elems.nil))))))))))))) rfl rfl rfl (fun bt w213 H213 k212 => ?_))
  refine Am ?_
  refine Qn (FW_seq (Sr (Am ?_)))
  refine Qn (FW_block (FW_loop' (fun i : Nat => [(5, .slice (some ⟨bl, 0, none⟩) 16 16), (6, .slice (some ⟨bt, 0, none⟩) 13 13), (7, I i)]) (fun i w' => i ≤ 16 ∧ Sep w noB [blk bt (stepTx.flatMap textCells) 9, blk bl (leafTx.flatMap textCells) 9] w') (fun i _ => 16 - i) 0 ⟨rfl, rfl, rfl, trivial⟩ ⟨Nat.zero_le _, H213.firsts (l := [_, _])⟩ (fun i τ w217 hI => ?_)))
  obtain ⟨hi, H217⟩ := hI
  try simp only [upds, like, upd_ds]
  refine FW_seq (Sr (Mv ?_))
  refine Mv ?_
  refine Vs ?_
  refine Vl ?_
  refine Qn (Cp rfl (fun hc222 => ?_) (fun hc222 => ?_))
  · have hlt : i < leafTx.length := by show i < 16; omega
    obtain ⟨a, ha⟩ := get_some hlt
    have hRl : Rd w217 (some ⟨bl, 0, none⟩) textCells 1 leafTx := rdB H217 At1
    have hRt : Rd w217 (some ⟨bt, 0, none⟩) textCells 1 stepTx := rdB H217 At0
    refine Sk (FW_seq (FW_block (Sr (Am ?_))))
    refine Qn (FW_block (FW_loop' (fun k : Nat => [(5, .slice (some ⟨bl, 0, none⟩) 16 16), (6, .slice (some ⟨bt, 0, none⟩) 13 13), (7, I i), (8, I k)]) (fun k w' => k ≤ 16 ∧ Sep w noB [blk bt (stepTx.flatMap textCells) 9, blk bl (leafTx.flatMap textCells) 9] w') (fun k _ => 16 - k) 0 ⟨rfl, rfl, rfl, rfl, trivial⟩ ⟨Nat.zero_le _, H217⟩ (fun k τ w226 hI => ?_)))
    obtain ⟨hk, H226⟩ := hI
    try simp only [upds, like, upd_ds]
    refine FW_seq (Sr (Mv ?_))
    refine Mv ?_
    refine Vs ?_
    refine Vl ?_
    refine Qn (Cp rfl (fun hc231 => ?_) (fun hc231 => ?_))
    · have hltk : k < leafTx.length := by show k < 16; omega
      obtain ⟨b, hb⟩ := get_some hltk
      refine Sk (FW_seq (FW_block (Sr (Am ?_))))
      refine Qn (FW_block (FW_loop' (fun j : Nat => [(5, .slice (some ⟨bl, 0, none⟩) 16 16), (6, .slice (some ⟨bt, 0, none⟩) 13 13), (7, I i), (8, I k), (9, I j)]) (fun j w' => j ≤ 13 ∧ Sep w noB [blk bt (stepTx.flatMap textCells) 9, blk bl (leafTx.flatMap textCells) 9] w') (fun j _ => 13 - j) 0 ⟨rfl, rfl, rfl, rfl, rfl, trivial⟩ ⟨Nat.zero_le _, H226⟩ (fun j τ w235 hI => ?_)))
      obtain ⟨hj, H235⟩ := hI
      try simp only [upds, like, upd_ds]
      refine FW_seq (Sr (Mv ?_))
      refine Mv ?_
      refine Vs ?_
      refine Vl ?_
      refine Qn (Cp rfl (fun hc240 => ?_) (fun hc240 => ?_))
      · have hltj : j < stepTx.length := by show j < 13; omega
        obtain ⟨c, hc⟩ := get_some hltj
        obtain ⟨htx, htl⟩ := parse_three (List.mem_of_getElem? ha) (List.mem_of_getElem? hb) (List.mem_of_getElem? hc)
        have ma := meant_fitsA a
        have mb := meant_fitsA b
        have mc := meant_fitsA c
        have hx3 : ∀ x ∈ [meantS a, meantS b, meantS c], fits x.n := by
          intro x hx
          simp only [List.mem_cons, List.not_mem_nil, or_false] at hx
          rcases hx with rfl | rfl | rfl <;> assumption
        have hx2 : ∀ x ∈ [meantS b, meantS c], fits x.n := fun x hx => hx3 x (List.mem_cons_of_mem _ hx)
        have hkf : ∀ x ∈ [((k : Nat) : Int)], fits x := fun x hx => by rw [List.mem_singleton.1 hx]; exact small_fits (by omega)
        have h012 : ∀ x ∈ ([0, 1, 2] : List Int), fits x := by unfold fits; decide
        have hrk := rowS_ok hkf
        have hr3 := rowS_ok h012
        have hca := (words_good a (List.mem_append_left _ (List.mem_of_getElem? ha))).2.2
        have hcb := (words_good b (List.mem_append_left _ (List.mem_of_getElem? hb))).2.2
        have hcc := (words_good c (List.mem_append_right _ (List.mem_of_getElem? hc))).2.2
        refine Sk (FW_seq (FW_block (FW_seq (FW_drawS rfl H235 (h := fun hok242 w244 H244 => ?_)))))
        refine Gm hok242 0 ?_
        refine Gm hok242 1 ?_
        refine Gp hok242 2 rfl rfl (fun _ => Gives.idxR (l := leafTx) (enc := textCells) rfl rfl hRl hlt) (Gl hok242 3 rfl rfl (Gives.loadW (enc := textCells) (l := leafTx) (f := 0) rfl (rdB H244 At1) ha rfl) ?_)
        refine Gp hok242 4 rfl rfl (fun _ => Gives.catT rfl rfl (by simp only [List.length_append, List.length_cons, List.length_nil]; omega)) ?_
        refine Gm hok242 5 ?_
        refine Gm hok242 6 ?_
        refine Gp hok242 7 rfl rfl (fun _ => Gives.idxR (l := leafTx) (enc := textCells) rfl rfl hRl hltk) (Gl hok242 8 rfl rfl (Gives.loadW (enc := textCells) (l := leafTx) (f := 0) rfl (rdB H244 At1) hb rfl) ?_)
        refine Gp hok242 9 rfl rfl (fun _ => Gives.catT rfl rfl (by simp only [List.length_append, List.length_cons, List.length_nil]; omega)) ?_
        refine Gp hok242 10 rfl rfl (fun _ => Gives.catT rfl rfl (by simp only [List.length_append, List.length_cons, List.length_nil]; omega)) ?_
        refine Gm hok242 11 ?_
        refine Gm hok242 12 ?_
        refine Gp hok242 13 rfl rfl (fun _ => Gives.idxR (l := stepTx) (enc := textCells) rfl rfl hRt hltj) (Gl hok242 14 rfl rfl (Gives.loadW (enc := textCells) (l := stepTx) (f := 0) rfl (rdB H244 At0) hc rfl) ?_)
        refine Gp hok242 15 rfl rfl (fun _ => Gives.catT rfl rfl (by simp only [List.length_append, List.length_cons, List.length_nil]; omega)) ?_
        refine FGcallN hok242 16 [] H244 (parseE_ok (a ++ [32] ++ b ++ [32] ++ c) (.inl (by omega)) (by omega) (hT.keep H244.kept)) (h := fun xl w256 _ H256 k255 => ?_)
        rw [htx] at H256 ⊢
        dsimp only at H256 ⊢
        obtain ⟨BL, cL, rfl, hcL, _⟩ := Sep.formD H256 At0
        have hcapL := Sep.capD H256 At0
        refine ⟨Stab_nil, ?_⟩
        refine Gm hok242 17 ?_
        refine Gp hok242 18 rfl rfl (fun _ => (Gives.extract rfl rfl)) (Gp hok242 19 rfl rfl (fun _ => (Gives.extract rfl rfl)) ?_)
        refine Gp hok242 20 rfl rfl (fun _ => Gives.assign rfl) (Gp hok242 21 rfl rfl (fun _ => Gives.assign rfl) ?_)
        refine FG_end hok242 (by kernel_rfl) ?_
        refine Qseq_normal (FW_seq (FW_drawS rfl H256 (h := fun hok261 w263 H263 => ?_)))
        refine Gm hok261 0 ?_
        refine Gp hok261 1 rfl rfl (fun _ => (Gives.neq rfl rfl)) (Gm hok261 2 ?_)
        refine FG_splitP (t := 141) rfl (fun hs265 => ?_) (fun hs265 => ?_)
        · exact (hs265 trivial).elim
        refine Gm hok261 3 ?_
        refine Gp hok261 4 rfl rfl (fun _ => (Gives.lenSlice rfl)) (Gp hok261 5 rfl rfl (fun _ => (Gives.neq rfl rfl)) ?_)
        refine Gp hok261 6 rfl rfl (fun _ => Gives.pickF rfl rfl) (Gm hok261 7 ?_)
        refine FG_splitP (t := 146) rfl (fun hs270 => ?_) (fun hs270 => ?_)
        · exact absurd rfl hs270
        refine Gm hok261 9 ?_
        refine Gm hok261 10 ?_
        refine FG_two hok261 (e1 := 8) (e2 := 11) (by kernel_rfl) ?_ ?_
        · refine step_callN hok261 8 [(10, true), (9, true)] H263 (columns_ok false) (h := fun xC w273 _ H273 k272 => ?_)
          obtain ⟨BC, cC, rfl, hcC, _⟩ := Sep.formD H273 At0
          refine ⟨Stab_pure (Stab_pure (Stab_nil)), ?_⟩
          refine FGbuildSlice hok261 11 [(9, true)] H273 (xs := [_]) (out := [((k : Nat) : Int)].flatMap intCells) (Elems.one rfl rfl Elems.nil) (h := fun bs w275 H275 => ⟨Stab_pure (Stab_nil), ?_⟩)
          refine FGcallN hok261 12 [(9, true)] H275 (rowOf_ok (l := [((k : Nat) : Int)]) (by first | exact rowIn_blkX H275 At0 rfl (Nat.le_of_ble_eq_true rfl) | exact rowIn_blkX H275 At1 rfl (Nat.le_of_ble_eq_true rfl) | exact rowIn_blkX H275 At2 rfl (Nat.le_of_ble_eq_true rfl)) hkf) (h := fun xR w277 _ H277 k276 => ?_)
          obtain ⟨BR, cR, rfl, hcR, _⟩ := Sep.formD H277 At0
          refine ⟨Stab_pure (Stab_nil), ?_⟩
          refine FGcallQ hok261 13 [] H277 (exprEvals_ok (cols := colsS false) (l := [meantS a, meantS b, meantS c]) (r := rowS [((k : Nat) : Int)]) (by first | exact rowIn_own H277 At0 hcC | exact rowIn_own H277 At1 hcC | exact rowIn_own H277 At2 hcC) (rowIn_own H277 At3 hcL) (by first | exact rowIn_own H277 At0 hcR | exact rowIn_own H277 At1 hcR | exact rowIn_own H277 At2 hcR) hx3 hrk.fit (hT.keep H277.kept)) (h := fun w279 H279 k278 => ⟨Stab_nil, ?_⟩)
          refine Gp hok261 14 rfl rfl (fun _ => (Gives.not rfl)) (Gp hok261 15 rfl rfl (fun _ => Gives.pickF rfl rfl) ?_)
          refine Gm hok261 16 ?_
          refine FG_split (t := 155) rfl (fun hs282 => ?_) (fun hs282 => ?_)
          · exact absurd hs282 (by decide)
          refine Gm hok261 18 ?_
          refine Gp hok261 19 rfl rfl (fun _ => Gives.sliceFrom (l := 1) rfl rfl (Nat.le_of_ble_eq_true rfl)) (FG_two hok261 (e1 := 17) (e2 := 20) (by kernel_rfl) ?_ ?_)
          · refine step_callN hok261 17 [(19, true), (18, true)] H279 (columns_ok true) (h := fun xD w286 _ H286 k285 => ?_)
            obtain ⟨BD, cD, rfl, hcD, _⟩ := Sep.formD H286 At0
            refine ⟨Stab_pure (Stab_pure (Stab_nil)), ?_⟩
            refine FGbuildSlice hok261 20 [(19, true), (18, true)] H286 (xs := [_, _, _]) (out := ([0, 1, 2] : List Int).flatMap intCells) (Elems.one rfl rfl (Elems.one rfl rfl (Elems.one rfl rfl Elems.nil))) (h := fun bs w288 H288 => ⟨Stab_pure (Stab_pure (Stab_nil)), ?_⟩)
            refine FGcallN hok261 21 [(19, true), (18, true)] H288 (rowOf_ok (l := [0, 1, 2]) (by first | exact rowIn_blkX (l := ([0, 1, 2] : List Int)) H288 At0 rfl (Nat.le_of_ble_eq_true rfl) | exact rowIn_blkX (l := ([0, 1, 2] : List Int)) H288 At1 rfl (Nat.le_of_ble_eq_true rfl) | exact rowIn_blkX (l := ([0, 1, 2] : List Int)) H288 At2 rfl (Nat.le_of_ble_eq_true rfl)) h012) (h := fun xS w290 _ H290 k289 => ?_)
            obtain ⟨BS, cS, rfl, hcS, _⟩ := Sep.formD H290 At0
            refine ⟨Stab_pure (Stab_pure (Stab_nil)), ?_⟩
            refine FGcallQ hok261 22 [] H290 (exprEvals_ok (cols := colsS true) (l := [meantS b, meantS c]) (r := rowS [0, 1, 2]) (by first | exact rowIn_own H290 At0 hcD | exact rowIn_own H290 At1 hcD | exact rowIn_own H290 At2 hcD) (row_from (j := 2) (l := [meantS a, meantS b, meantS c]) (Sep_rdD H290 At6) hcL hcapL (Nat.le_of_ble_eq_true rfl)) (by first | exact rowIn_own H290 At0 hcS | exact rowIn_own H290 At1 hcS | exact rowIn_own H290 At2 hcS) hx2 hr3.fit (hT.keep H290.kept)) (h := fun w292 H292 k291 => ⟨Stab_nil, ?_⟩)
            refine Gp hok261 23 rfl rfl (fun _ => (Gives.not rfl)) (Gp hok261 24 rfl rfl (fun _ => Gives.pickF rfl rfl) ?_)
            refine FG_end hok261 (by kernel_rfl) ?_
            refine Qseq_normal (Cd rfl (fun hc295 => ?_) (fun hc295 => ?_))
            · exact absurd hc295 (by decide)
            refine FW_skip (Qblk_normal (Qseq_normal (FW_region (Mv ?_))))
            refine Vv (Gives.addI (c := ((j + 1 : Nat) : Int)) rfl rfl (by omega) (by omega)) (Am ?_)
            refine FL_nil ?_
            exact Qround_normal (j + 1) ⟨rfl, rfl, rfl, rfl, rfl, trivial⟩ ⟨by omega, ((H292.drop0.drop0.drop0).drop0.drop0).drop0.drop0⟩ (by omega)
          refine step_buildSlice hok261 20 [(19, true), (18, true)] H279 (xs := [_, _, _]) (out := ([0, 1, 2] : List Int).flatMap intCells) (Elems.one rfl rfl (Elems.one rfl rfl (Elems.one rfl rfl Elems.nil))) (h := fun bs w302 H302 => ⟨Stab_pure (Stab_pure (Stab_nil)), ?_⟩)
          refine FGcallN hok261 17 [(19, true), (18, true)] H302 (columns_ok true) (h := fun xD w304 _ H304 k303 => ?_)
          obtain ⟨BD, cD, rfl, hcD, _⟩ := Sep.formD H304 At0
          refine ⟨Stab_pure (Stab_pure (Stab_nil)), ?_⟩
          refine FGcallN hok261 21 [(19, true), (18, true)] H304 (rowOf_ok (l := [0, 1, 2]) (by first | exact rowIn_blkX (l := ([0, 1, 2] : List Int)) H304 At0 rfl (Nat.le_of_ble_eq_true rfl) | exact rowIn_blkX (l := ([0, 1, 2] : List Int)) H304 At1 rfl (Nat.le_of_ble_eq_true rfl) | exact rowIn_blkX (l := ([0, 1, 2] : List Int)) H304 At2 rfl (Nat.le_of_ble_eq_true rfl)) h012) (h := fun xS w306 _ H306 k305 => ?_)
          obtain ⟨BS, cS, rfl, hcS, _⟩ := Sep.formD H306 At0
          refine ⟨Stab_pure (Stab_pure (Stab_nil)), ?_⟩
          refine FGcallQ hok261 22 [] H306 (exprEvals_ok (cols := colsS true) (l := [meantS b, meantS c]) (r := rowS [0, 1, 2]) (by first | exact rowIn_own H306 At0 hcD | exact rowIn_own H306 At1 hcD | exact rowIn_own H306 At2 hcD) (row_from (j := 2) (l := [meantS a, meantS b, meantS c]) (Sep_rdD H306 At6) hcL hcapL (Nat.le_of_ble_eq_true rfl)) (by first | exact rowIn_own H306 At0 hcS | exact rowIn_own H306 At1 hcS | exact rowIn_own H306 At2 hcS) hx2 hr3.fit (hT.keep H306.kept)) (h := fun w308 H308 k307 => ⟨Stab_nil, ?_⟩)
          refine Gp hok261 23 rfl rfl (fun _ => (Gives.not rfl)) (Gp hok261 24 rfl rfl (fun _ => Gives.pickF rfl rfl) ?_)
          refine FG_end hok261 (by kernel_rfl) ?_
          refine Qseq_normal (Cd rfl (fun hc311 => ?_) (fun hc311 => ?_))
          · exact absurd hc311 (by decide)
          refine FW_skip (Qblk_normal (Qseq_normal (FW_region (Mv ?_))))
          refine Vv (Gives.addI (c := ((j + 1 : Nat) : Int)) rfl rfl (by omega) (by omega)) (Am ?_)
          refine FL_nil ?_
          exact Qround_normal (j + 1) ⟨rfl, rfl, rfl, rfl, rfl, trivial⟩ ⟨by omega, ((H308.drop0.drop0.drop0).drop0.drop0).drop0.drop0⟩ (by omega)
        refine step_buildSlice hok261 11 [(9, true)] H263 (xs := [_]) (out := [((k : Nat) : Int)].flatMap intCells) (Elems.one rfl rfl Elems.nil) (h := fun bs w318 H318 => ⟨Stab_pure (Stab_nil), ?_⟩)
        refine FGcallN hok261 8 [(9, true)] H318 (columns_ok false) (h := fun xC w320 _ H320 k319 => ?_)
        obtain ⟨BC, cC, rfl, hcC, _⟩ := Sep.formD H320 At0
        refine ⟨Stab_pure (Stab_nil), ?_⟩
        refine FGcallN hok261 12 [(9, true)] H320 (rowOf_ok (l := [((k : Nat) : Int)]) (by first | exact rowIn_blkX H320 At0 rfl (Nat.le_of_ble_eq_true rfl) | exact rowIn_blkX H320 At1 rfl (Nat.le_of_ble_eq_true rfl) | exact rowIn_blkX H320 At2 rfl (Nat.le_of_ble_eq_true rfl)) hkf) (h := fun xR w322 _ H322 k321 => ?_)
        obtain ⟨BR, cR, rfl, hcR, _⟩ := Sep.formD H322 At0
        refine ⟨Stab_pure (Stab_nil), ?_⟩
        refine FGcallQ hok261 13 [] H322 (exprEvals_ok (cols := colsS false) (l := [meantS a, meantS b, meantS c]) (r := rowS [((k : Nat) : Int)]) (by first | exact rowIn_own H322 At0 hcC | exact rowIn_own H322 At1 hcC | exact rowIn_own H322 At2 hcC) (rowIn_own H322 At3 hcL) (by first | exact rowIn_own H322 At0 hcR | exact rowIn_own H322 At1 hcR | exact rowIn_own H322 At2 hcR) hx3 hrk.fit (hT.keep H322.kept)) (h := fun w324 H324 k323 => ⟨Stab_nil, ?_⟩)
        refine Gp hok261 14 rfl rfl (fun _ => (Gives.not rfl)) (Gp hok261 15 rfl rfl (fun _ => Gives.pickF rfl rfl) ?_)
        refine Gm hok261 16 ?_
        refine FG_split (t := 155) rfl (fun hs327 => ?_) (fun hs327 => ?_)
        · exact absurd hs327 (by decide)
        refine Gm hok261 18 ?_
        refine Gp hok261 19 rfl rfl (fun _ => Gives.sliceFrom (l := 1) rfl rfl (Nat.le_of_ble_eq_true rfl)) (FG_two hok261 (e1 := 17) (e2 := 20) (by kernel_rfl) ?_ ?_)
        · refine step_callN hok261 17 [(19, true), (18, true)] H324 (columns_ok true) (h := fun xD w331 _ H331 k330 => ?_)
          obtain ⟨BD, cD, rfl, hcD, _⟩ := Sep.formD H331 At0
          refine ⟨Stab_pure (Stab_pure (Stab_nil)), ?_⟩
          refine FGbuildSlice hok261 20 [(19, true), (18, true)] H331 (xs := [_, _, _]) (out := ([0, 1, 2] : List Int).flatMap intCells) (Elems.one rfl rfl (Elems.one rfl rfl (Elems.one rfl rfl Elems.nil))) (h := fun bs w333 H333 => ⟨Stab_pure (Stab_pure (Stab_nil)), ?_⟩)
          refine FGcallN hok261 21 [(19, true), (18, true)] H333 (rowOf_ok (l := [0, 1, 2]) (by first | exact rowIn_blkX (l := ([0, 1, 2] : List Int)) H333 At0 rfl (Nat.le_of_ble_eq_true rfl) | exact rowIn_blkX (l := ([0, 1, 2] : List Int)) H333 At1 rfl (Nat.le_of_ble_eq_true rfl) | exact rowIn_blkX (l := ([0, 1, 2] : List Int)) H333 At2 rfl (Nat.le_of_ble_eq_true rfl)) h012) (h := fun xS w335 _ H335 k334 => ?_)
          obtain ⟨BS, cS, rfl, hcS, _⟩ := Sep.formD H335 At0
          refine ⟨Stab_pure (Stab_pure (Stab_nil)), ?_⟩
          refine FGcallQ hok261 22 [] H335 (exprEvals_ok (cols := colsS true) (l := [meantS b, meantS c]) (r := rowS [0, 1, 2]) (by first | exact rowIn_own H335 At0 hcD | exact rowIn_own H335 At1 hcD | exact rowIn_own H335 At2 hcD) (row_from (j := 2) (l := [meantS a, meantS b, meantS c]) (Sep_rdD H335 At6) hcL hcapL (Nat.le_of_ble_eq_true rfl)) (by first | exact rowIn_own H335 At0 hcS | exact rowIn_own H335 At1 hcS | exact rowIn_own H335 At2 hcS) hx2 hr3.fit (hT.keep H335.kept)) (h := fun w337 H337 k336 => ⟨Stab_nil, ?_⟩)
          refine Gp hok261 23 rfl rfl (fun _ => (Gives.not rfl)) (Gp hok261 24 rfl rfl (fun _ => Gives.pickF rfl rfl) ?_)
          refine FG_end hok261 (by kernel_rfl) ?_
          refine Qseq_normal (Cd rfl (fun hc340 => ?_) (fun hc340 => ?_))
          · exact absurd hc340 (by decide)
          refine FW_skip (Qblk_normal (Qseq_normal (FW_region (Mv ?_))))
          refine Vv (Gives.addI (c := ((j + 1 : Nat) : Int)) rfl rfl (by omega) (by omega)) (Am ?_)
          refine FL_nil ?_
          exact Qround_normal (j + 1) ⟨rfl, rfl, rfl, rfl, rfl, trivial⟩ ⟨by omega, ((H337.drop0.drop0.drop0).drop0.drop0).drop0.drop0⟩ (by omega)
        refine step_buildSlice hok261 20 [(19, true), (18, true)] H324 (xs := [_, _, _]) (out := ([0, 1, 2] : List Int).flatMap intCells) (Elems.one rfl rfl (Elems.one rfl rfl (Elems.one rfl rfl Elems.nil))) (h := fun bs w347 H347 => ⟨Stab_pure (Stab_pure (Stab_nil)), ?_⟩)
        refine FGcallN hok261 17 [(19, true), (18, true)] H347 (columns_ok true) (h := fun xD w349 _ H349 k348 => ?_)
        obtain ⟨BD, cD, rfl, hcD, _⟩ := Sep.formD H349 At0
        refine ⟨Stab_pure (Stab_pure (Stab_nil)), ?_⟩
        refine FGcallN hok261 21 [(19, true), (18, true)] H349 (rowOf_ok (l := [0, 1, 2]) (by first | exact rowIn_blkX (l := ([0, 1, 2] : List Int)) H349 At0 rfl (Nat.le_of_ble_eq_true rfl) | exact rowIn_blkX (l := ([0, 1, 2] : List Int)) H349 At1 rfl (Nat.le_of_ble_eq_true rfl) | exact rowIn_blkX (l := ([0, 1, 2] : List Int)) H349 At2 rfl (Nat.le_of_ble_eq_true rfl)) h012) (h := fun xS w351 _ H351 k350 => ?_)
        obtain ⟨BS, cS, rfl, hcS, _⟩ := Sep.formD H351 At0
        refine ⟨Stab_pure (Stab_pure (Stab_nil)), ?_⟩
        refine FGcallQ hok261 22 [] H351 (exprEvals_ok (cols := colsS true) (l := [meantS b, meantS c]) (r := rowS [0, 1, 2]) (by first | exact rowIn_own H351 At0 hcD | exact rowIn_own H351 At1 hcD | exact rowIn_own H351 At2 hcD) (row_from (j := 2) (l := [meantS a, meantS b, meantS c]) (Sep_rdD H351 At6) hcL hcapL (Nat.le_of_ble_eq_true rfl)) (by first | exact rowIn_own H351 At0 hcS | exact rowIn_own H351 At1 hcS | exact rowIn_own H351 At2 hcS) hx2 hr3.fit (hT.keep H351.kept)) (h := fun w353 H353 k352 => ⟨Stab_nil, ?_⟩)
        refine Gp hok261 23 rfl rfl (fun _ => (Gives.not rfl)) (Gp hok261 24 rfl rfl (fun _ => Gives.pickF rfl rfl) ?_)
        refine FG_end hok261 (by kernel_rfl) ?_
        refine Qseq_normal (Cd rfl (fun hc356 => ?_) (fun hc356 => ?_))
        · exact absurd hc356 (by decide)
        refine FW_skip (Qblk_normal (Qseq_normal (FW_region (Mv ?_))))
        refine Vv (Gives.addI (c := ((j + 1 : Nat) : Int)) rfl rfl (by omega) (by omega)) (Am ?_)
        refine FL_nil ?_
        exact Qround_normal (j + 1) ⟨rfl, rfl, rfl, rfl, rfl, trivial⟩ ⟨by omega, ((H353.drop0.drop0.drop0).drop0.drop0).drop0.drop0⟩ (by omega)
      refine FW_exit (Qseq_exit (Qround_exit (Qblk_exit (Qblk_normal (Qseq_normal (FW_region (Mv ?_)))))))
      refine Vv (Gives.addI (c := ((k + 1 : Nat) : Int)) rfl rfl (by omega) (by omega)) (Am ?_)
      refine FL_nil ?_
      exact Qround_normal (k + 1) ⟨rfl, rfl, rfl, rfl, trivial⟩ ⟨by omega, H235⟩ (by omega)
    refine FW_exit (Qseq_exit (Qround_exit (Qblk_exit (Qblk_normal (Qseq_normal (FW_region (Mv ?_)))))))
    refine Vv (Gives.addI (c := ((i + 1 : Nat) : Int)) rfl rfl (by omega) (by omega)) (Am ?_)
    refine FL_nil ?_
    exact Qround_normal (i + 1) ⟨rfl, rfl, rfl, trivial⟩ ⟨by omega, H226⟩ (by omega)
  refine FW_exit (Qseq_exit (Qround_exit (Qblk_exit (Qseq_normal (FW_seq (Sr (Am ?_)))))))
  refine Qn (FW_block (FW_loop' (fun c : Nat => [(12, I c)]) (fun c w' => c ≤ 256 ∧ Sep w noB [] w') (fun c _ => 256 - c) 0 ⟨rfl, trivial⟩ ⟨Nat.zero_le _, H217.firsts (l := [])⟩ (fun c τ w372 hI => ?_)))
  obtain ⟨hc, H372⟩ := hI
  try simp only [upds, like, upd_ds]
  refine FW_seq (Sr (Mv ?_))
  refine Vl ?_
  refine Qn (Cp rfl (fun hc375 => ?_) (fun hc375 => ?_))
  · obtain ⟨cb, rfl⟩ : ∃ cb : UInt8, c = cb.toNat := ⟨UInt8.ofNat c, by rw [UInt8.toNat_ofNat']; omega⟩
    have hcf : fits ((cb.toNat : Nat) : Int) := small_fits (by omega)
    refine Sk (FW_seq (FW_block (Sr (Mv ?_))))
    refine Vv (Gives.conv rfl) ?_
    rw [show IntKind.u8.wrap ((cb.toNat : Nat) : Int) = ((cb.toNat : Nat) : Int) from by rw [IntKind.wrap_u8]; omega]
    refine FL_buildSlice H372 (xs := [.tmp 169]) (out := [B cb]) (Elems.one rfl rfl Elems.nil) rfl rfl rfl (fun bb w380 H380 k379 => ?_)
    refine Vv (Gives.bytesT (l := [cb]) rfl (Sep.blkRow (m := 1) (s := 1) H380 At0 rfl)) (Am ?_)
    refine Nx (Mv ?_)
    refine Vv (Gives.build (out := stepCells ⟨((cb.toNat : Nat) : Int), 1, []⟩) (Fills.one rfl rfl rfl (by simp) rfl (Fills.one rfl rfl rfl (by simp) rfl Fills.nil))) (Mv ?_)
    refine Vv (Gives.build (out := stepCells ⟨4, 0, [cb]⟩) (Fills.one rfl rfl rfl (by simp) rfl (Fills.one rfl rfl rfl (by simp) rfl Fills.nil))) (Mv ?_)
    refine Vv (Gives.build (out := stepCells ⟨5, 0, [cb]⟩) (Fills.one rfl rfl rfl (by simp) rfl (Fills.one rfl rfl rfl (by simp) rfl Fills.nil))) (FL_buildSlice H380 (xs := [.tmp 173, .tmp 175, .tmp 177]) (out := [(⟨((cb.toNat : Nat) : Int), 1, []⟩ : StepM), ⟨4, 0, [cb]⟩, ⟨5, 0, [cb]⟩].flatMap stepCells) (Elems.many rfl rfl (Elems.many rfl rfl (Elems.many rfl rfl Elems.nil))) rfl rfl rfl (fun bs w390 H390 k389 => ?_))
    refine Mv ?_
    refine FL_callQ H390 (exprTexts_ok [cb] (rowIn_blkX H390 At0 rfl (Nat.le_of_ble_eq_true rfl)) (by intro x hx; simp only [List.mem_cons, List.not_mem_nil, or_false] at hx; rcases hx with rfl | rfl | rfl <;> unfold fits <;> dsimp only <;> omega) (hT.keep H390.kept)) (h := fun w393 H393 k392 => ?_)
    refine Vv (Gives.not rfl) (Mv ?_)
    refine FL_split (t := 182) rfl (fun hs396 => ?_) (fun hs396 => ?_)
    · exact absurd hs396 (by decide)
    refine On (Mv ?_)
    refine On (Vv (Gives.catT rfl rfl (by first | omega | (simp; done) | (simp; omega))) ?_)
    refine On (Vv (Gives.build (out := stepCells ⟨4, 0, [cb] ++ [164]⟩) (Fills.one rfl rfl rfl (by simp) rfl (Fills.one rfl rfl rfl (by simp) rfl Fills.nil))) (On ?_))
    refine Mv ?_
    refine On (Vv (Gives.build (out := stepCells ⟨6, ((cb.toNat : Nat) : Int), []⟩) (Fills.one rfl rfl rfl (by simp) rfl (Fills.one rfl rfl rfl (by simp) rfl Fills.nil))) (On ?_))
    refine FL_buildSlice H393 (xs := [.tmp 185, .tmp 187]) (out := [(⟨4, 0, [cb] ++ [164]⟩ : StepM), ⟨6, ((cb.toNat : Nat) : Int), []⟩].flatMap stepCells) (Elems.many rfl rfl (Elems.many rfl rfl Elems.nil)) rfl rfl rfl (fun bs w404 H404 k403 => ?_)
    refine On (Mv ?_)
    refine On (Vv (Gives.catT rfl rfl (by first | omega | (simp; done) | (simp; omega))) ?_)
    refine On (FL_callQ H404 (exprTexts_ok _ (rowIn_blkX H404 At0 rfl (Nat.le_of_ble_eq_true rfl)) (by intro x hx; simp only [List.mem_cons, List.not_mem_nil, or_false] at hx; rcases hx with rfl | rfl <;> unfold fits <;> dsimp only <;> omega) (hT.keep H404.kept)) (h := fun w408 H408 k407 => ?_))
    refine On (Vv (Gives.not rfl) (Pf ?_))
    refine Mv ?_
    refine FL_split (t := 194) rfl (fun hs412 => ?_) (fun hs412 => ?_)
    · exact absurd hs412 (by decide)
    refine On (Mv ?_)
    refine On (Vv (Gives.build (out := stepCells ⟨((cb.toNat : Nat) : Int), 0, []⟩) (Fills.one rfl rfl rfl (by simp) rfl Fills.nil)) (On ?_))
    refine FL_buildSlice H408 (xs := [.tmp 196]) (out := [(⟨((cb.toNat : Nat) : Int), 0, []⟩ : StepM)].flatMap stepCells) (Elems.many rfl rfl Elems.nil) rfl rfl rfl (fun bs w417 H417 k416 => ?_)
    refine On (Mv ?_)
    refine On (Vv (Gives.catT rfl rfl (by first | omega | (simp; done) | (simp; omega))) ?_)
    refine On (Vv (Gives.catT rfl rfl (by first | omega | (simp; done) | (simp; omega))) ?_)
    refine On (Mv ?_)
    refine On (Vv (Gives.catT rfl rfl (by first | omega | (simp; done) | (simp; omega))) ?_)
    refine On (Vv (Gives.catT rfl rfl (by first | omega | (simp; done) | (simp; omega))) ?_)
    refine On (FL_callQ H417 (exprTexts_ok _ (rowIn_blkX H417 At0 rfl (Nat.le_of_ble_eq_true rfl)) (one_fits (by unfold fits; dsimp only; omega)) (hT.keep H417.kept)) (h := fun w425 H425 k424 => ?_))
    refine On (Vv (Gives.not rfl) (Pf ?_))
    refine Mv ?_
    refine FL_split (t := 207) rfl (fun hs429 => ?_) (fun hs429 => ?_)
    · exact absurd hs429 (by decide)
    refine On (Mv ?_)
    refine On (Vv (Gives.build (out := stepCells ⟨3, ((cb.toNat : Nat) : Int), []⟩) (Fills.one rfl rfl rfl (by simp) rfl (Fills.one rfl rfl rfl (by simp) rfl Fills.nil))) (On ?_))
    refine FL_buildSlice H425 (xs := [.tmp 209]) (out := [(⟨3, ((cb.toNat : Nat) : Int), []⟩ : StepM)].flatMap stepCells) (Elems.many rfl rfl Elems.nil) rfl rfl rfl (fun bs w434 H434 k433 => ?_)
    refine On (Mv ?_)
    refine On (Vv (Gives.catT rfl rfl (by first | omega | (simp; done) | (simp; omega))) ?_)
    refine On (Vv (Gives.catT rfl rfl (by first | omega | (simp; done) | (simp; omega))) ?_)
    refine On (Mv ?_)
    refine On (Vv (Gives.catT rfl rfl (by first | omega | (simp; done) | (simp; omega))) ?_)
    refine On (FL_callQ H434 (exprTexts_ok _ (rowIn_blkX H434 At0 rfl (Nat.le_of_ble_eq_true rfl)) (one_fits (by unfold fits; dsimp only; omega)) (hT.keep H434.kept)) (h := fun w441 H441 k440 => ?_))
    refine On (Vv (Gives.not rfl) (Pf ?_))
    refine Mv ?_
    refine FL_split (t := 219) rfl (fun hs445 => ?_) (fun hs445 => ?_)
    · exact absurd hs445 (by decide)
    refine On (FL_callN H441 (columns_ok false) (h := fun xC w448 _ H448 k447 => ?_))
    obtain ⟨BC, cC, rfl, hcC, _⟩ := Sep.formD H448 At0
    refine On (Mv ?_)
    refine On (Vv (Gives.build (out := stepCells ⟨((cb.toNat : Nat) : Int), 1, []⟩) (Fills.one rfl rfl rfl (by simp) rfl (Fills.one rfl rfl rfl (by simp) rfl Fills.nil))) (On ?_))
    refine FL_buildSlice H448 (xs := [.tmp 222]) (out := [(⟨((cb.toNat : Nat) : Int), 1, []⟩ : StepM)].flatMap stepCells) (Elems.many rfl rfl Elems.nil) rfl rfl rfl (fun bs w452 H452 k451 => ?_)
    refine On (FL_callN H452 (rowOf_ok (l := []) (rowIn_nil _ intCells 1) (fun _ h => absurd h List.not_mem_nil)) (h := fun xR w454 _ H454 k453 => ?_))
    obtain ⟨BR, cR, rfl, hcR, _⟩ := Sep.formD H454 At0
    refine On (FL_callQ H454 (exprEvals_ok (rowIn_own H454 At2 hcC) (rowIn_blkX H454 At1 rfl (Nat.le_of_ble_eq_true rfl)) (rowIn_own H454 At0 hcR) (one_fits (by unfold fits; dsimp only; omega)) hrs0.fit (hT.keep H454.kept)) (h := fun w456 H456 k455 => ?_))
    refine On (Vv (Gives.not rfl) (Pf ?_))
    refine Qn (Cd rfl (fun hc459 => ?_) (fun hc459 => ?_))
    · exact absurd hc459 (by decide)
    refine FW_skip (Qblk_normal (Qseq_normal (FW_region (Mv ?_))))
    refine Vv (Gives.addI (c := ((cb.toNat + 1 : Nat) : Int)) rfl rfl (by omega) (by omega)) (Am ?_)
    refine FL_nil ?_
    exact Qround_normal (cb.toNat + 1) ⟨rfl, trivial⟩ ⟨by omega, H456.firsts (l := [])⟩ (by omega)
  refine FW_exit (Qseq_exit (Qround_exit (Qblk_exit (Qseq_normal (Sr (FL_callQ H372 (repeat_ok _ [97] 1024 (by decide) (by decide)) (h := fun w466 H466 k465 => ?_)))))))
  refine Am ?_
  refine Nx ?_
  obtain ⟨long, hlong⟩ : ∃ l, l = rep [97] 1024 := ⟨_, rfl⟩
  have hll : long.length = 1024 := by rw [hlong, rep_len]; rfl
  rw [← hlong]
  refine FL_makeZ H466 (k := 65) (cs := (List.replicate 65 step0).flatMap stepCells) (by kernel_rfl) (by decide) (by decide) (h := fun bm w469 H469 k468 => ?_)
  have H469 : Sep w noB (rowD 57 3 stepCells (.slice (some ⟨bm, 0, none⟩) 65 65) (List.replicate 65 step0) :: _) _ := Sep.asRow (n := 65) H469 At0 (flat_len (k := 3) (fun _ => rfl) _) (by decide)
  refine Am ?_
  refine Qn (FW_seq (Sr (Am ?_)))
  refine Qn (FW_block (FW_loop' (fun x : Nat × List StepM => [(14, str long), (15, .slice (some ⟨bm, 0, none⟩) 65 65), (16, I x.1)]) (fun x w' => (x.1 ≤ 65 ∧ 65 = x.2.length ∧ ∀ y ∈ x.2, fits y.n) ∧ Sep w noB [rowD 57 3 stepCells (.slice (some ⟨bm, 0, none⟩) 65 65) x.2] w') (fun x _ => 65 - x.1) (0, List.replicate 65 step0) ⟨rfl, rfl, rfl, trivial⟩ ⟨⟨Nat.zero_le _, by simp, fun y hy => by rw [List.eq_of_mem_replicate hy]; exact ⟨by decide, by decide⟩⟩, H469.first⟩ (fun x τ w473 hI => ?_)))
  obtain ⟨i, l⟩ := x
  obtain ⟨⟨hi, h65, hlf⟩, H473⟩ := hI
  dsimp only at hi h65 hlf H473
  try simp only [upds, like, upd_ds]
  refine FW_seq (Sr (Mv ?_))
  refine Vl ?_
  refine Qn (Cp rfl (fun hc476 => ?_) (fun hc476 => ?_))
  · have hlt : i < l.length := by omega
    refine Sk (FW_seq (FW_block (FW_region (Mv ?_))))
    refine Mv ?_
    refine Vv (Gives.build (out := stepCells ⟨10, 0, []⟩) (Fills.one rfl rfl rfl (by simp) rfl Fills.nil)) (Vv (Gives.idxN (l := l) h65 rfl rfl (Sep_rdN h65 H473 At0) hlt) ?_)
    refine FL_storeDN (⟨10, 0, []⟩ : StepM) h65 H473 At0 hlt rfl (h := fun w483 H483 => ?_)
    refine FL_nil (Qblk_normal (Qseq_normal (FW_region (Mv ?_))))
    refine Vv (Gives.addI (c := ((i + 1 : Nat) : Int)) rfl rfl (by omega) (by omega)) (Am ?_)
    refine FL_nil ?_
    exact Qround_normal (i + 1, l.set i ⟨10, 0, []⟩) ⟨rfl, rfl, rfl, trivial⟩ ⟨⟨by dsimp only; omega, by rw [List.length_set]; exact h65, fun y hy => (List.mem_or_eq_of_mem_set hy).elim (hlf y) (fun h => by rw [h]; exact ⟨by decide, by decide⟩)⟩, H483⟩ (by dsimp only; omega)
  refine FW_exit (Qseq_exit (Qround_exit (Qblk_exit (Qseq_normal (Sr (Mv ?_))))))
  refine Vv (Gives.build (out := stepCells ⟨2, 3, []⟩) (Fills.one rfl rfl rfl (by simp) rfl (Fills.one rfl rfl rfl (by simp) rfl Fills.nil))) (Vv (Gives.idxN (i := 0) (l := l) h65 rfl rfl (Sep_rdN h65 H473 At0) (by omega)) ?_)
  refine FL_storeDN (i := 0) (⟨2, 3, []⟩ : StepM) h65 H473 At0 (by omega) rfl (h := fun w492 H492 => ?_)
  obtain ⟨m, hm⟩ : ∃ m, m = l.set 0 (⟨2, 3, []⟩ : StepM) := ⟨_, rfl⟩
  have hm65 : 65 = m.length := by rw [hm, List.length_set]; exact h65
  have hmf : ∀ y ∈ m, fits y.n := fun y hy => by
    rw [hm] at hy
    exact (List.mem_or_eq_of_mem_set hy).elim (hlf y) (fun h => by rw [h]; exact ⟨by decide, by decide⟩)
  rw [← hm] at H492
  refine Nx (FL_callQ H492 (repeat_ok _ [110, 101, 103, 32] 63 (by decide) (by decide)) (h := fun w494 H494 k493 => ?_))
  refine Vv (Gives.catT (b := [110, 101, 103]) rfl rfl (by rw [rep_len]; decide)) ?_
  refine FL_callN H494 (parseE_ok (rep [110, 101, 103, 32] 63 ++ [110, 101, 103]) (.inl (by rw [List.length_append, rep_len]; decide)) (by rw [List.length_append, rep_len]; decide) (hT.keep H494.kept)) (h := fun xp w497 _ H497 k496 => ?_)
  rw [neg63]
  have H497 := H497.drop0
  refine Mv ?_
  refine Vx ?_
  refine Vx ?_
  refine Am ?_
  refine Am ?_
  refine Nx (FL_callQ H497 (repeat_ok _ [110, 101, 103, 32] 64 (by decide) (by decide)) (h := fun w504 H504 k503 => ?_))
  refine Vv (Gives.catT (b := [110, 101, 103]) rfl rfl (by rw [rep_len]; decide)) ?_
  refine FL_callN H504 (parseE_ok (rep [110, 101, 103, 32] 64 ++ [110, 101, 103]) (.inl (by rw [List.length_append, rep_len]; decide)) (by rw [List.length_append, rep_len]; decide) (hT.keep H504.kept)) (h := fun xp w507 _ H507 k506 => ?_)
  rw [neg64]
  have H507 := H507.drop0
  refine Mv ?_
  refine Vx ?_
  refine Vx ?_
  refine Am ?_
  refine Am ?_
  refine Nx (FL_callQ H507 (repeat_ok _ [35] 1048577 (by decide) (by decide)) (h := fun w514 H514 k513 => ?_))
  refine FL_callN H514 (parseE_ok (rep [35] 1048577) (.inr (by rw [rep_len]; decide)) (by rw [rep_len]; decide) (hT.keep H514.kept)) (h := fun xp w516 _ H516 k515 => ?_)
  rw [longHash]
  have H516 := H516.drop0
  refine Mv ?_
  refine Vx ?_
  refine Vx ?_
  refine Am ?_
  refine Am ?_
  refine Nx (Mv ?_)
  refine On (FL_callQ H516 (works_ok (hT.keep H516.kept)) (h := fun w524 H524 k523 => ?_))
  refine Pt ?_
  refine Mv ?_
  refine FL_split (t := 261) rfl (fun hs527 => ?_) (fun hs527 => ?_)
  · refine On (Mv ?_)
    refine On (Vv (Gives.build (out := stepCells ⟨4, 0, long⟩) (Fills.one rfl rfl rfl (by simp) rfl (Fills.one rfl rfl rfl (by simp) rfl Fills.nil))) (On ?_))
    refine Mv ?_
    refine On (Vv (Gives.build (out := stepCells ⟨5, 0, long⟩) (Fills.one rfl rfl rfl (by simp) rfl (Fills.one rfl rfl rfl (by simp) rfl Fills.nil))) (On ?_))
    refine FL_buildSlice H524 (xs := [.tmp 263, .tmp 265]) (out := [(⟨4, 0, long⟩ : StepM), ⟨5, 0, long⟩].flatMap stepCells) (Elems.many rfl rfl (Elems.many rfl rfl Elems.nil)) rfl rfl rfl (fun bs w533 H533 k532 => ?_)
    refine On (FL_callQ H533 (exprTexts_ok [] (rowIn_blkX H533 At0 rfl (Nat.le_of_ble_eq_true rfl)) (by intro x hx; simp only [List.mem_cons, List.not_mem_nil, or_false] at hx; rcases hx with rfl | rfl <;> unfold fits <;> dsimp only <;> omega) (hT.keep H533.kept)) (h := fun w535 H535 k534 => ?_))
    refine Pt ?_
    refine Mv ?_
    refine FL_split (t := 269) rfl (fun hs538 => ?_) (fun hs538 => ?_)
    · refine On (Mv ?_)
      refine On (Vv (Gives.catT (b := [97]) rfl rfl (by rw [hll]; decide)) ?_)
      refine On (Vv (Gives.build (out := stepCells ⟨4, 0, long ++ [97]⟩) (Fills.one rfl rfl rfl (by simp) rfl (Fills.one rfl rfl rfl (by simp) rfl Fills.nil))) (On ?_))
      refine FL_buildSlice H535 (xs := [.tmp 272]) (out := [(⟨4, 0, long ++ [97]⟩ : StepM)].flatMap stepCells) (Elems.many rfl rfl Elems.nil) rfl rfl rfl (fun bs w543 H543 k542 => ?_)
      refine On (FL_callQ H543 (exprTexts_ok [] (rowIn_blkX H543 At0 rfl (Nat.le_of_ble_eq_true rfl)) (one_fits (by unfold fits; dsimp only; omega)) (hT.keep H543.kept)) (h := fun w545 H545 k544 => ?_))
      refine Pt ?_
      refine Mv ?_
      refine FL_split (t := 276) rfl (fun hs548 => ?_) (fun hs548 => ?_)
      · refine On (Mv ?_)
        refine On (Vv (Gives.catT (b := [97]) rfl rfl (by rw [hll]; decide)) ?_)
        refine On (Vv (Gives.build (out := stepCells ⟨5, 0, long ++ [97]⟩) (Fills.one rfl rfl rfl (by simp) rfl (Fills.one rfl rfl rfl (by simp) rfl Fills.nil))) (On ?_))
        refine FL_buildSlice H545 (xs := [.tmp 279]) (out := [(⟨5, 0, long ++ [97]⟩ : StepM)].flatMap stepCells) (Elems.many rfl rfl Elems.nil) rfl rfl rfl (fun bs w553 H553 k552 => ?_)
        refine On (FL_callQ H553 (exprTexts_ok [] (rowIn_blkX H553 At0 rfl (Nat.le_of_ble_eq_true rfl)) (one_fits (by unfold fits; dsimp only; omega)) (hT.keep H553.kept)) (h := fun w555 H555 k554 => ?_))
        refine Pt ?_
        refine Mv ?_
        refine FL_split (t := 283) rfl (fun hs558 => ?_) (fun hs558 => ?_)
        · refine On (Mv ?_)
          refine On (Vv (Gives.sliceTo (h := 64) rfl rfl (by decide)) (On ?_))
          refine FL_callQ H555 (exprEvals_ok (l := m.take 64) (rowIn_nil _ colCells 7) ⟨some ⟨bm, 0, none⟩, 65, by rw [List.length_take, ← hm65], ⟨by rw [List.length_take]; omega, by decide⟩, (Sep_rdN hm65 H555 At3).cut 64⟩ (rowIn_nil _ cellCells 3) (fun x hx => hmf x (List.mem_of_mem_take hx)) hrf0 (hT.keep H555.kept)) (h := fun w562 H562 k561 => ?_)
          refine Pt ?_
          refine Mv ?_
          refine FL_split (t := 288) rfl (fun hs565 => ?_) (fun hs565 => ?_)
          · refine On (Mv ?_)
            refine On (FL_callQ H562 (exprEvals_ok (l := m) (rowIn_nil _ colCells 7) ⟨some ⟨bm, 0, none⟩, 65, by rw [← hm65], ⟨by omega, by decide⟩, Sep_rdN hm65 H562 At3⟩ (rowIn_nil _ cellCells 3) hmf hrf0 (hT.keep H562.kept)) (h := fun w568 H568 k567 => ?_))
            refine Pt ?_
            refine Mv ?_
            refine FL_split (t := 292) rfl (fun hs571 => ?_) (fun hs571 => ?_)
            · refine On (Mv ?_)
              refine On (FL_callQ H568 (exprTexts_ok [] (l := m) ⟨some ⟨bm, 0, none⟩, 65, by rw [← hm65], ⟨by omega, by decide⟩, Sep_rdN hm65 H568 At3⟩ hmf (hT.keep H568.kept)) (h := fun w574 H574 k573 => ?_))
              refine Pt ?_
              refine Mv ?_
              refine FL_split (t := 296) rfl (fun hs577 => ?_) (fun hs577 => ?_)
              · refine On (Mv ?_)
                refine On (Ve ?_)
                refine Pt ?_
                refine Mv ?_
                refine FL_splitP (t := 300) rfl (fun hs582 => ?_) (fun hs582 => ?_)
                · refine On (Mv ?_)
                  refine On (Ve ?_)
                  refine Pt ?_
                  refine Mv ?_
                  refine FL_splitP (t := 304) rfl (fun hs587 => ?_) (fun hs587 => ?_)
                  · refine On (Mv ?_)
                    refine On (Ve ?_)
                    refine Pt ?_
                    refine Mv ?_
                    refine FL_splitP (t := 308) rfl (fun hs592 => ?_) (fun hs592 => ?_)
                    · refine On (Vv (Gives.build (out := typeCells ⟨9, false⟩) (Fills.one rfl rfl rfl (by simp) rfl Fills.nil)) (On ?_))
                      refine Vv (Gives.build (out := colCells ⟨1, [], ⟨9, false⟩, cell0⟩) (Fills.one rfl rfl rfl (by simp) rfl (Fills.many (us := typeCells ⟨9, false⟩) rfl rfl (Nat.le_of_ble_eq_true rfl) rfl Fills.nil))) (On ?_)
                      refine Vv (Gives.build (out := typeCells ⟨1, false⟩) (Fills.one rfl rfl rfl (by simp) rfl Fills.nil)) (On ?_)
                      refine Vv (Gives.build (out := colCells ⟨1, [], ⟨1, false⟩, cell0⟩) (Fills.one rfl rfl rfl (by simp) rfl (Fills.many (us := typeCells ⟨1, false⟩) rfl rfl (Nat.le_of_ble_eq_true rfl) rfl Fills.nil))) (On ?_)
                      refine FL_buildSlice H574 (xs := [.tmp 310, .tmp 312]) (out := [(⟨1, [], ⟨9, false⟩, cell0⟩ : ColM), ⟨1, [], ⟨1, false⟩, cell0⟩].flatMap colCells) (Elems.many rfl rfl (Elems.many rfl rfl Elems.nil)) rfl rfl rfl (fun bc w598 H598 k597 => ?_)
                      refine On (Vv (Gives.build (out := stepCells ⟨1, 1, []⟩) (Fills.one rfl rfl rfl (by simp) rfl (Fills.one rfl rfl rfl (by simp) rfl Fills.nil))) (On ?_))
                      refine FL_buildSlice H598 (xs := [.tmp 314]) (out := [(⟨1, 1, []⟩ : StepM)].flatMap stepCells) (Elems.many rfl rfl Elems.nil) rfl rfl rfl (fun bs w601 H601 k600 => ?_)
                      refine On (FL_callQ H601 (exprEvals_ok (rowIn_blkX H601 At1 rfl (Nat.le_of_ble_eq_true rfl)) (rowIn_blkX H601 At0 rfl (Nat.le_of_ble_eq_true rfl)) (rowIn_nil _ cellCells 3) (one_fits (by unfold fits; dsimp only; omega)) hrf0 (hT.keep H601.kept)) (h := fun w603 H603 k602 => ?_))
                      refine Pt ?_
                      refine Am ?_
                      refine Qn (FW_ret (Qfn_ret (hR := ?_)))
                      exact ⟨rfl, H603.kept⟩
                    exact (hs592 trivial).elim
                  exact (hs587 trivial).elim
                exact (hs582 trivial).elim
              exact absurd hs577 (by decide)
            exact absurd hs571 (by decide)
          exact absurd hs565 (by decide)
        exact absurd hs558 (by decide)
      exact absurd hs548 (by decide)
    exact absurd hs538 (by decide)
  exact absurd hs527 (by decide)
end
end Go.Proofs.YtmkaahkbhdlniaaGreatDoor
