/-
 The program's Parse of an expression, walked.
-/
import Derived.Test.YtolaedhdjcnijaaGreatDoorKt20
import Derived.Test.YtolaedhdjcnijaaGreatDoorKt11
import Derived.Test.YtolaedhdjcnijaaGreatDoorKt10
import Derived.Test.YtolaedhdjcnijaaGreatDoorKt9
import Derived.Test.YtolaedhdjcnijaaGreatDoorKt3
import Derived.Test.YtolaedhdjcnijaaGreatDoorKt4
import Derived.Laws.Externs
import Derived.MapKept
set_option linter.unusedVariables false
set_option linter.unusedSimpArgs false
namespace Go.Mw
open Go.RowKit
theorem load_one {P : Program} {T : TypeId} [h1 : OneCell P T] {w : World} {b : Nat} {v : Value} {E : TypeId} (hb : w.heap[b]? = some (.cells [v].toArray E (0, 0))) : (loadVar T ⟨b, 0, none⟩).run P w = .ok v w := by
 have hc : w.cell? ⟨b, 0, none⟩ = some v := cell_blk hb 0
 simp [loadVar, h1.agg, hc]
theorem resCC {P : Program} {T U : TypeId} [OneCell P T] [OneCell P U] {σ : St} {w : World} {a b x y : Nat} {v u : Value} {E F : TypeId} (hx : w.heap[x]? = some (.cells [v].toArray E (0, 0))) (hy : w.heap[y]? = some (.cells [u].toArray F (0, 0)))
    (ha : σ a = .pointer (some ⟨x, 0, none⟩) := by exact rfl) (hb : σ b = .pointer (some ⟨y, 0, none⟩) := by exact rfl) : ResAll P σ w [.cell a T, .cell b U] [v, u] :=
  ⟨v, [u], ⟨x, 0, none⟩, rfl, ha, load_one hx, u, [], ⟨y, 0, none⟩, rfl, hb, load_one hy, rfl⟩
end Go.Mw
namespace Go.Proofs.YtolaedhdjcnijaaGreatDoor
open Go Go.Mw Go.Lib
set_option maxRecDepth 4000
theorem split_le : ∀ (l : List UInt8), ∀ w ∈ splitW 32 l, w.length ≤ l.length
 | [], w, h => by
  have : w = [] := by simpa [splitW] using h
  rw [this]; simp
 | c :: l, w, h => by
  have ih := split_le l
  by_cases hc : c = 32
  ·rw [splitW, if_pos hc] at h
   rcases List.mem_cons.1 h with rfl | h
   ·simp
   have := ih w h; simp only [List.length_cons]; omega
  obtain ⟨w1, ws, e1, e2⟩ := split_cons (sep := 32) (l := l) hc
  rw [e2] at h
  rw [e1] at ih
  rcases List.mem_cons.1 h with rfl | h
  ·have := ih w1 (by simp)
   simp only [List.length_cons]; omega
  have := ih w (List.mem_cons_of_mem _ h)
  simp only [List.length_cons]; omega
theorem meant_fitsA (w : List UInt8) : fits (meantS w).n := by
 unfold meantS fits
 split
 ·dsimp only; omega
 split
 ·rename_i k hk
  have := List.mem_of_find?_eq_some hk
  simp at this
  dsimp only
  omega
 repeat' split
 all_goals first | exact parseN_fits _ | (dsimp only; omega)
theorem readAll_all : ∀ {ws : List (List UInt8)}, (∀ y ∈ ws, goodW (meantS y) y = true) → readAll ws = some (ws.map meantS)
 | [], _ => rfl
 | w :: ws, h => by
  rw [readAll, if_pos (h w (by simp)), readAll_all fun y hy => h y (List.mem_cons_of_mem _ hy)]
  rfl
theorem readAll_bad : ∀ {ws : List (List UInt8)} {x : List UInt8}, x ∈ ws → goodW (meantS x) x = false → readAll ws = none
 | w :: ws, x, hm, hb => by
  rw [readAll]
  split
  ·rename_i hg
   rcases List.mem_cons.1 hm with rfl | hm
   ·rw [hb] at hg; cases hg
   rw [readAll_bad hm hb]; rfl
  rfl
def rowCellH (b : Nat) (l : List StepM) : HP := exH fun v => star (blk b [v] 22) (rowD 60 3 stepCells v l)
def parJ (b2 b3 b4 : Nat) (pre : List (List UInt8)) : HP := starL [pureH (∀ y ∈ pre, goodW (meantS y) y = true), blk b2 [.slice none 0 0] 22, blk b3 [I 0] 27, rowCellH b4 (pre.map meantS)]
def parL (b2 b3 : Nat) (_ : List (List UInt8)) (x : List UInt8) : HP := starL [pureH (goodW (meantS x) x = false), blk b2 [.slice none 0 0] 22, blk b3 [I 4] 27]
section
variable {w : World}
theorem splitSeq_ok (s : List UInt8) : Rets Tryz.prog 143 [str s, str [32], I 0] w fun v w' => ∃ x : Nat × Nat × Nat, v = .func (.func 200) #[] #[selfP x.1, selfP x.2.1, selfP x.2.2] ∧ True ∧ Turn noB (star (blk x.1 [str [32]] 9) (star (blk x.2.1 [str s] 9) (blk x.2.2 [I 0] 3))) w w' := by
 have H := Sep.start0 w
 refine rets3 Tryz.func143 rfl rfl rfl rfl ?_
 refine Sr (FL_box H (h := fun b1 w2 H2 k1 => ?_))
 refine FL_box H2 (h := fun b3 w4 H4 k3 => ?_)
 refine FL_box H4 (h := fun b5 w6 H6 k5 => ?_)
 refine Am ?_
 refine Nx (Vv (Gives.makeFunc (fs := []) (us := []) (cs := [.tmp 4, .tmp 3, .tmp 5]) rfl rfl) (Am ?_))
 refine Qn (FW_ret (Qfn_ret (hR := ?_)))
 exact ⟨(b3, b1, b5), rfl, trivial, (Sep.join0 (Sep.front1 (Sep.join0 H6.front2))).turn⟩
theorem SplitSeq_ok (s : List UInt8) : Rets Tryz.prog 99 [str s, str [32]] w fun v w' => ∃ x : Nat × Nat × Nat, v = .func (.func 200) #[] #[selfP x.1, selfP x.2.1, selfP x.2.2] ∧ True ∧ Turn noB (star (blk x.1 [str [32]] 9) (star (blk x.2.1 [str s] 9) (blk x.2.2 [I 0] 3))) w w' := by
 have H := Sep.start0 w
 refine rets2 Tryz.func99 rfl rfl rfl rfl ?_
 refine Sr (Am ?_)
 refine Nx (Mv ?_)
 refine Mv ?_
 refine FL_call (splitSeq_ok s) rfl rfl (fun v' w5 hv => ?_)
 obtain ⟨x, rfl, _, hkk, F1, hq, hsub⟩ := hv
 have H5 := H.new hkk hq (fun b hb => (hsub b hb).resolve_left id)
 refine Am ?_
 refine Qn (FW_ret (Qfn_ret (hR := ?_)))
 exact ⟨x, rfl, trivial, H5.turn⟩
theorem countOne_ok (l : List UInt8) : Rets Tryz.prog 21 [str l, str [32]] w fun v w' => v = I ((l.count 32 : Nat) : Int) ∧ w = w' :=
 rets_same (Tryz.strings_Count_one ⟨l.toArray⟩ 32 w)
theorem parseE_ok (s : List UInt8) (hl : s.length ≤ 1000000 ∨ 1048576 < s.length) (hmx : s.length ≤ 1000000000) (hT : TabsX w) : Rets Tryz.prog 55 [str s] w fun v w' => ∃ x, v = .tuple #[x, I (parseS s).2] ∧ True ∧ Turn noB (rowD 60 3 stepCells x (parseS s).1) w w' := by
  have H := Sep.start0 w
  obtain ⟨res, hres⟩ : ∃ res, res = parseS s := ⟨_, rfl⟩
  rw [← hres]
  unfold parseS at hres
  refine retsD1 Tryz.func55 rfl rfl rfl rfl ?_
  refine Sr (FL_alloc H (h := fun b1 w2 H2 k1 => ?_))
  refine FL_alloc H2 (h := fun b3 w4 H4 k3 => ?_)
  refine Qn (FW_seq (Sr (Mv ?_)))
  refine Vt ?_
  refine Vg ?_
  refine Mv ?_
  refine FL_splitP (t := 10) rfl (fun hs9 => ?_) (fun hs9 => ?_)
  · rw [if_pos (.inl (by omega))] at hres
    refine Of (Of (Of (Pt ?_)))
    refine Qn (FW_cond_true rfl ?_)
    refine Sr (FL_store H4 (h := fun w13 H13 => ?_))
    refine FL_store H13 (h := fun w15 H15 => ?_)
    refine Qn (Rs (QfnD_ret (h := ?_)))
    exact ⟨[.slice none 0 0, I 5], resCC (H15.obj At1) (H15.obj At0), .slice none 0 0, by rw [hres]; rfl, trivial, by rw [hres]; exact (Sep.nilD H15 60 3 stepCells).first.turn⟩
  have hle : s.length ≤ 1000000 := by omega
  have hcl := count_le_len s 32
  refine On (Mv ?_)
  refine On (FL_callS (countOne_ok s) (h := ?_))
  refine On (Vv (Gives.geq rfl rfl) (Pf ?_))
  refine Qn (Cp rfl (fun hc22 => ?_) (fun hc22 => ?_))
  · rw [if_pos (.inr (by omega))] at hres
    refine Sr (FL_store H4 (h := fun w25 H25 => ?_))
    refine FL_store H25 (h := fun w27 H27 => ?_)
    refine Qn (Rs (QfnD_ret (h := ?_)))
    exact ⟨[.slice none 0 0, I 5], resCC (H27.obj At1) (H27.obj At0), .slice none 0 0, by rw [hres]; rfl, trivial, by rw [hres]; exact (Sep.nilD H27 60 3 stepCells).first.turn⟩
  have hc64 : s.count 32 < 64 := by omega
  rw [if_neg (by omega)] at hres
  refine Sk (FW_seq (Sr (Mv ?_)))
  refine Vv (Gives.eqlT rfl rfl) (Qn ?_)
  refine Cp rfl (fun hc32 => ?_) (fun hc32 => ?_)
  · rw [if_pos hc32] at hres
    refine Sr (FL_store H4 (h := fun w35 H35 => ?_))
    refine FL_store H35 (h := fun w37 H37 => ?_)
    refine Qn (Rs (QfnD_ret (h := ?_)))
    exact ⟨[.slice none 0 0, I 0], resCC (H37.obj At1) (H37.obj At0), .slice none 0 0, by rw [hres]; rfl, trivial, by rw [hres]; exact (Sep.nilD H37 60 3 stepCells).first.turn⟩
  rw [if_neg hc32] at hres
  refine Sk (Sr (FL_alloc H4 (h := fun b4 w41 H41 k40 => ?_)))
  refine Qn (FW_seq (Sr (Mv ?_)))
  refine FL_call (SplitSeq_ok s) rfl rfl (fun v' w44 hv => ?_)
  obtain ⟨⟨bP, bS, bV⟩, rfl, _, hkk, F1, hq, hsub⟩ := hv
  dsimp only at hq
  have H44 := H41.new hkk hq (fun b hb => (hsub b hb).resolve_left id)
  refine Qn (FW_block ?_)
  have hcs := count_split 32 s
  have HJ : Mw.Sep w noB (parJ b1 b3 b4 [] :: [blk bP [str [32]] 9, blk bS [str s] 9, blk bV [I 0] 3]) w44 := by
    have h1 := (Sep.nilD H44 60 3 stepCells).front2
    have h4 := Sep.pack0 (p := fun v => star (blk b4 [v] 22) (rowD 60 3 stepCells v [])) (.slice none 0 0) (Sep.join0 h1)
    have h7 := Sep.bundle (l := [pureH (∀ y ∈ ([] : List (List UInt8)), goodW (meantS y) y = true), _, _, _]) (rs := [_]) (Sep.addPure (fun y hy => absurd hy List.not_mem_nil) h4.front2.front3)
    exact h7.front1.star0.front1.star0.front3.front3.back1
  refine FW_rangeF (gf := 200) (lb := [selfP bP, selfP bS, selfP bV]) str (splitW 32 s) (parJ b1 b3 b4) (parL b1 b3) _ HJ rfl rfl ?_ ?_ ?_ ?_
  · intro l D ro rb pre x Fr W hpre HW
    have hxm : x ∈ splitW 32 s := hpre.subset (List.mem_append_right pre (List.mem_singleton.2 rfl))
    have hxl : x.length ≤ 1000000 := Nat.le_trans (split_le s x hxm) hle
    have hpl : pre.length + 1 ≤ 64 := by have := hpre.length_le; rw [List.length_append, List.length_singleton] at this; omega
    have hml : (pre.map meantS).length = pre.length := List.length_map _
    have hmp : (pre ++ [x]).map meantS = pre.map meantS ++ [meantS x] := by rw [List.map_append]; rfl
    refine FW_region (Am ?_)
    refine FL_nil (Qassign_normal ?_)
    refine ⟨[], HW, fun WB HB => ?_⟩
    have HB2 : Mw.Sep w noB (obj l rb :: obj D (.deferred (some [])) :: parJ b1 b3 b4 pre :: Fr) WB := HB
    replace HB2 := (HB2.front2).parts
    obtain ⟨hgood, HB3⟩ := HB2.pure0
    obtain ⟨v4, HB4⟩ := (Sep.front2 HB3).ex0
    replace HB := HB4.star0
    obtain ⟨B4, cb, rfl, hcb, hB4⟩ := Sep.formD HB At1
    refine FW_block (Sr (Mv ?_))
    refine FL_callQ HB (meantE_ok x hxl (hT.keep HB.kept)) (h := fun w52 H52 k51 => ?_)
    refine FL_alloc H52 (h := fun b6 w54 H54 k53 => ?_)
    refine FL_storeAll H54 (h := fun w56 H56 => ?_)
    refine Qn (FW_seq (Sr (FL_loadAll H56 (h := ?_))))
    refine FL_callQ H56 (may_ok (meantS x) (meant_fitsA x) (hT.keep H56.kept).utf) (h := fun w59 H59 k58 => ?_)
    refine Vv (Gives.not rfl) (Mv ?_)
    refine FL_split (t := 25) rfl (fun hs62 => ?_) (fun hs62 => ?_)
    · have hbad : goodW (meantS x) x = false := by
        have h1 := hs62
        unfold goodW
        revert h1
        cases mayS (meantS x) <;> simp
      refine Of (Of (Of (Of (Pt ?_))))
      refine Qn (FW_cond_true rfl ?_)
      refine Sr (FL_store H59 (h := fun w66 H66 => ?_))
      refine FL_store H66 (h := fun w68 H68 => ?_)
      refine Qn (Rs (Qblk_ret (Qleave_ret ?_)))
      exact (Sep.bundle (l := [pureH (goodW (meantS x) x = false), _, _]) (rs := [_, _]) (Sep.addPure hbad ((H68.front6.front6.front6.front6).firsts (l := [_, _, _, _])))).back2
    have hmx : mayS (meantS x) = true := by have h1 := hs62; revert h1; cases mayS (meantS x) <;> simp
    refine On (FL_loadAll H59 (h := ?_))
    refine On (FL_callQ H59 (wordE_ok (meantS x) hmx (meant_fitsA x) (hT.keep H59.kept)) (h := fun w73 H73 k72 => ?_))
    refine On (Mv ?_)
    refine On (Vv (Gives.neqT rfl rfl) (Pf ?_))
    refine Qn (Cp rfl (fun hc77 => ?_) (fun hc77 => ?_))
    · have hbad : goodW (meantS x) x = false := by
        unfold goodW
        rw [hmx, decide_eq_false (show ¬ wordS (meantS x) = x from hc77)]; rfl
      refine Sr (FL_store H73 (h := fun w80 H80 => ?_))
      refine FL_store H80 (h := fun w82 H82 => ?_)
      refine Qn (Rs (Qblk_ret (Qleave_ret ?_)))
      exact (Sep.bundle (l := [pureH (goodW (meantS x) x = false), _, _]) (rs := [_, _]) (Sep.addPure hbad ((H82.front6.front6.front6.front6).firsts (l := [_, _, _, _])))).back2
    have hgx : goodW (meantS x) x = true := goodW_iff.2 ⟨hmx, Classical.not_not.1 hc77⟩
    refine Sk (FW_region (Ld H73 ?_))
    refine FL_loadAll H73 (h := ?_)
    refine FL_buildSlice H73 (xs := [.tmp 32]) (out := [meantS x].flatMap stepCells) (Elems.many rfl rfl Elems.nil) rfl rfl rfl (fun bs w88 H88 k87 => ?_)
    refine FL_appendD H88 (news := [meantS x]) At2 (by rw [hml]; unfold maxLen; simp; omega) (by rw [hml]; show (pre.length + 1) * 32 ≤ _; omega) (by intro u hu; simp only [List.flatMap_cons, List.flatMap_nil, stepCells, List.append_nil, List.mem_cons, List.not_mem_nil, or_false] at hu; rcases hu with rfl | rfl | rfl <;> rfl) (h := ?_)
    intro v2 w90 H90
    rw [← hmp] at H90
    obtain ⟨B2, c2, rfl, hc2, hB2⟩ := Sep.formD H90 At2
    refine FL_store H90 (h := fun w92 H92 => ?_)
    refine FL_nil (Qblk_normal (Qleave_normal ?_))
    have h2 := Sep.pack0 (p := fun v => star (blk b4 [v] 22) (rowD 60 3 stepCells v ((pre ++ [x]).map meantS))) _ (Sep.join0 H92.drop0)
    have hg2 : ∀ y ∈ pre ++ [x], goodW (meantS y) y = true := by
      intro y hy
      rcases List.mem_append.1 hy with h | h
      · exact hgood y h
      rw [List.mem_singleton.1 h]; exact hgx
    exact (Sep.bundle (l := [pureH (∀ y ∈ pre ++ [x], goodW (meantS y) y = true), _, _, _]) (Sep.addPure hg2 h2.back2)).back2
  · intro l D ro rj W HW hy
    exact split_iter hle HW hy
  rotate_left 1
  · intro D W pre x hpre HD
    obtain ⟨hbad, HD2⟩ := ((HD.front1).parts).pure0
    have hr := readAll_bad (hpre.subset (List.mem_append_right pre (List.mem_singleton.2 rfl))) hbad
    rw [hr] at hres
    exact Qblk_ret (Qseq_ret (QfnD_one HD2 At2 (fun w1 H1 => ⟨[.slice none 0 0, I 4], resCC (H1.obj At0) (H1.obj At1), .slice none 0 0, by rw [hres]; rfl, trivial, by rw [hres]; exact (Sep.nilD H1 60 3 stepCells).first.turn⟩)))
  intro D w95 H95
  have H95 := (H95.front1).parts
  obtain ⟨hgood, H95⟩ := H95.pure0
  obtain ⟨v4, H95⟩ := (Sep.front2 H95).ex0
  have H95 := H95.star0
  obtain ⟨B4, cb, rfl, hcb, hB4⟩ := Sep.formD H95 At1
  rw [readAll_all hgood] at hres --on
  refine Qblk_normal (Qseq_normal (Sr (Ld H95 ?_)))
  refine FL_store H95 (h := fun w98 H98 => ?_)
  refine FL_store H98 (h := fun w100 H100 => ?_)
  refine Qn (FW_ret (QfnD_one H100 At4 (hR := fun w102 H102 => ?_)))
  exact ⟨[_, I 0], resCC (H102.obj At2) (H102.obj At3), _, by rw [hres]; rfl, trivial, by rw [hres]; exact H102.front1.first.turn⟩
end
end Go.Proofs.YtolaedhdjcnijaaGreatDoor
namespace Go.Proofs.YtolaedhdjcnijaaGreatDoor
open Go Go.Lib
set_option maxRecDepth 4000
def decF : Nat → Nat → List UInt8
 | 0, _ => []
 | f + 1, u => if u < 10 then [UInt8.ofNat (48 + u)] else decF f (u / 10) ++ [UInt8.ofNat (48 + u % 10)]
theorem decF_eq : ∀ (f u : Nat), u < 10 ^ f → 0 < f → decF f u = decDigits u
 | 0, u, _, h0 => absurd h0 (by decide)
 | f + 1, u, h, _ => by
  rw [decF, decDigits]
  by_cases hu : u < 10
  ·rw [if_pos hu, dif_pos hu]
  rw [if_neg hu, dif_neg hu]
  have h1 : u / 10 < 10 ^ f := by rw [Nat.pow_succ] at h; omega
  have h2 : 0 < f := by
   cases f with
   | zero => simp at h1; omega
   | succ f => exact Nat.succ_pos f
  rw [decF_eq f (u / 10) h1 h2]
def itoaF (n : Int) : List UInt8 := if n < 0 then 45 :: decF 20 n.natAbs else decF 20 n.toNat
theorem itoaF_eq {n : Int} (h : fits n) : itoaF n = itoa n := by
 unfold fits at h
 unfold itoaF itoa
 rw [decF_eq 20 n.natAbs (by omega) (by decide), decF_eq 20 n.toNat (by omega) (by decide)]
def wordF (x : StepM) : List UInt8 :=
 if x.kind = 1 then 35 :: itoaF x.n
 else if x.kind = 2 then itoaF x.n
 else if x.kind = 3 then (if x.n = 1 then [116, 114, 117, 101] else [102, 97, 108, 115, 101])
 else if x.kind = 4 then textW x.s
 else if x.kind = 5 then 120 :: hexL x.s
 else if x.kind = 6 then nullW x.n
 else signsW.getD (x.kind - 7).toNat []
theorem wordF_eq {x : StepM} (h : fits x.n) : wordF x = wordS x := by
 unfold wordF wordS
 rw [itoaF_eq h]
def readF : List (List UInt8) → Option (List StepM)
 | [] => some []
 | w :: l => if (mayS (meantS w) && decide (wordF (meantS w) = w)) = true then (readF l).map (meantS w :: ·) else none
theorem readF_eq : ∀ l, readF l = readAll l
 | [] => rfl
 | w :: l => by
  rw [readF, readAll, wordF_eq (meant_fitsA w), readF_eq l]
  rfl
def parseF (s : List UInt8) : List StepM × Int :=
 if 1048576 < s.length ∨ 64 ≤ s.count 32 then ([], 5) else if s = [] then ([], 0) else match readF (splitW 32 s) with
  | some l => (l, 0)
  | none => ([], 4)
theorem parseF_eq (s : List UInt8) : parseF s = parseS s := by
 unfold parseF parseS
 rw [readF_eq]
 cases readAll (splitW 32 s) <;> rfl
end Go.Proofs.YtolaedhdjcnijaaGreatDoor
namespace Go.Proofs.YtolaedhdjcnijaaGreatDoor
open Go Go.Mw Go.Lib
set_option maxRecDepth 4000
theorem parse_fits (s : List UInt8) : ∀ x ∈ (parseS s).1, fits x.n := by
 have key : ∀ (ws : List (List UInt8)) (l : List StepM), readAll ws = some l → ∀ x ∈ l, fits x.n := by
  intro ws
  induction ws with
  | nil => intro l h x hx; injection h with h; subst h; cases hx
  | cons w ws ih =>
   intro l h x hx
   rw [readAll] at h
   split at h
   ·obtain ⟨l', h1, h2⟩ := Option.map_eq_some_iff.1 h
    subst h2
    rcases List.mem_cons.1 hx with rfl | hx
    ·exact meant_fitsA w
    exact ih l' h1 x hx
   cases h
 intro x hx
 unfold parseS at hx
 split at hx
 ·cases hx
 split at hx
 ·cases hx
 split at hx
 ·rename_i l h; exact key _ l h x hx
 cases hx
section
variable {w : World}
end
section
variable {w : World}
end
end Go.Proofs.YtolaedhdjcnijaaGreatDoor
namespace Go.Mw
open Go.RowKit
section
variable {P : Program} {r : Option Nat} {n : Nat} {ops : Array Oper} {Q : Post} {rest : List Oper} {σ : St} {w w₀ : World} {S : Nat → Prop} {rs : List HP} {put : HP → List HP} {ty : TypeId} {pos : String} {after : Array Edge}
variable {α : Type} {enc : α → List Value} {k e c : Nat} {l : List α} {A : Option Addr}
theorem flat_set (hk : ∀ x, (enc x).length = k) : ∀ {l : List α} {i f : Nat} {a a' : α} {v : Value}, l[i]? = some a → f < k → enc a' = (enc a).set f v → (l.flatMap enc).set (i * k + f) v = (l.set i a').flatMap enc
 | [], _, _, _, _, _, h, _, _ => by simp at h
 | x :: l, 0, f, a, a', v, h, hf, he => by
  simp only [List.getElem?_cons_zero, Option.some.injEq] at h
  subst h
  rw [List.flatMap_cons, Nat.zero_mul, Nat.zero_add, List.set_append_left _ _ (by rw [hk]; exact hf), List.set_cons_zero, List.flatMap_cons, he]
 | x :: l, i + 1, f, a, a', v, h, hf, he => by
  simp only [List.getElem?_cons_succ] at h
  rw [List.flatMap_cons, List.set_append_right _ _ (by rw [hk, Nat.succ_mul]; omega), hk, Nat.succ_mul, show i * k + k + f - k = i * k + f by omega, flat_set hk h hf he, List.set_cons_succ, List.flatMap_cons]
theorem acts_storeD {x y : Operand} {T : TypeId} [h1 : OneCell P T] [hk : EncK enc k] {i f : Nat} {a : α} (a' : α) {v : Value} {m : Nat} (hm : m = l.length) (H : Sep w₀ S rs w) (hat : At rs (rowD e k enc (.slice A m c) l) put) (hi : l[i]? = some a) (hf : f < k) (he : enc a' = (enc a).set f v) (hx : evF σ x = adr A (i * k + f)) (hy : evF σ y = v) (hv : v.oneCell' = true) :
    ∃ w', Acts P (evF σ) (.store T x y) ty w w' ∧ Sep w₀ S (put (rowD e k enc (.slice A m c) (l.set i a'))) w' := by
  subst hm
  have hlt : i < l.length := (List.getElem?_eq_some_iff.1 hi).1
  obtain ⟨F, hp, hS, hput⟩ := H.focus hat
  have H0 := Sep.start1 hp
  obtain ⟨g, c', rest, hvv, hlen, hxl, hle, hmx, H1⟩ := H0.rowOpen At0 (by omega)
  injection hvv with hA _ hc
  subst hA; subst hc
  have hb := H1.obj At0
  have hfl := flat_len hk.len l
  have hle2 : (i + 1) * k ≤ l.length * k := Nat.mul_le_mul_right k hlt
  rw [Nat.succ_mul] at hle2
  have hplt : i * k + f < (l.flatMap enc ++ rest).length := by rw [List.length_append, hfl]; omega
  obtain ⟨hkk, ho'⟩ := stored_blk (v := v) hb hplt
  have H2 := H1.setObj (At0 (p := blk g (l.flatMap enc ++ rest) e) (l := [])) hkk ho'
  rw [set_front (by rw [hfl]; omega), flat_set hk.len hi hf he] at H2
  have H3 : Sep w F [blk g ((l.set i a').flatMap enc ++ rest) e] (w.setCell ⟨g, i * k + f, none⟩ v) := H2
  have hfl2 := flat_len hk.len (l.set i a')
  rw [List.length_set] at hfl2
  have H4 := H3.rowShut (n := l.length) (c := c) At0 (by rw [List.length_append, hfl2]; rw [List.length_append, hfl] at hlen; exact hlen) hfl2 hle hmx
  refine ⟨w.setCell ⟨g, i * k + f, none⟩ v, fun _ _ _ _ => ?_, ?_⟩
  · have hst : (store (⟨g, i * k + f, none⟩ : Addr) v).run P w = .ok () (w.setCell ⟨g, i * k + f, none⟩ v) := by
      rw [run_store P w _ v _ hv, cell_blk hb, List.getElem?_eq_getElem hplt]
      simp [World.frozen?, hb]
    have hcs : v.cells = #[v] := by cases v <;> first | rfl | cases hv
    have hx' : evF σ x = .pointer (some ⟨g, i * k + f, none⟩) := by rw [hx]; show Value.pointer (some (Addr.add ⟨g, 0, none⟩ (i * k + f))) = _; rw [Addr.add_lit, Nat.zero_add]
    simp [execOp, hx', hy, Instr.storeAt, Instr.sureAddr, storeVar, h1.size, hcs, storeCells, hst, Addr.add_zero']
  obtain ⟨h5, F5, h6, h7⟩ := H4
  refine hput _ F5 _ h5 ?_ fun b hb => h7 b hb
  have h8 := starL_one.1 h6
  show (rowH e k (.slice (some ⟨g, 0, none⟩) l.length c) (l.set i a').length ((l.set i a').flatMap enc)).ok F5 _
  rw [List.length_set]
  exact h8
theorem FL_storeD {x y : Operand} {T : TypeId} [h1 : OneCell P T] [hk : EncK enc k] {i f : Nat} {a : α} (a' : α) {v : Value} {m : Nat} (hm : m = l.length) (H : Sep w₀ S rs w) (hat : At rs (rowD e k enc (.slice A m c) l) put) (hi : l[i]? = some a) (hf : f < k) (he : enc a' = (enc a).set f v) (hx : evF σ x = adr A (i * k + f)) (hy : evF σ y = v) (hv : v.oneCell' = true)
    (h : ∀ w', Sep w₀ S (put (rowD e k enc (.slice A m c) (l.set i a'))) w' → FL P r n ops Q rest σ w') :
    FL P r n ops Q ({ dst := none, op := .store T x y, type := ty, pos := pos, after := after, guard := none } :: rest) σ w := by
  obtain ⟨w', ha, hs⟩ := acts_storeD (P := P) (ty := ty) (T := T) a' hm H hat hi hf he hx hy hv
  exact FL_act ha rfl (h w' hs)
theorem Gives.idxN {ρ : Operand → Value} {x y : Operand} {t e : TypeId} [ht : IsSlice P t e] {bytes : Nat} [hc : Cells P e k bytes] {m i : Nat} {j : IntKind} (hm : m = l.length) (hx : ρ x = .slice A m c) (hy : ρ y = .int j i) (hr : Rd w₀ A enc k l) (hlt : i < l.length) : Gives P ρ (.indexAddr t x y) ty w (adr A (i * k)) w := by
 subst hm; exact Gives.idxR hx hy hr hlt
theorem Sep_rdN {m : Nat} (hm : m = l.length) (H : Sep w₀ S rs w) (hat : At rs (rowD e k enc (.slice A m c) l) put) : Rd w A enc k l := by
 subst hm; exact Sep.rowAt H hat
theorem Gives.minE {ρ : Operand → Value} {x y : Operand} {kd : IntKind} {a b m : Int} {ts : Array TypeId} (hx : ρ x = .int kd a) (hy : ρ y = .int kd b) (he : Min.min a b = m) : Gives P ρ (.call { callee := .builtin .min, args := #[x, y], argTypes := ts }) ty w (.int kd m) w := by subst he; exact Gives.min hx hy
end
end Go.Mw
namespace Go.Proofs.YtolaedhdjcnijaaGreatDoor
open Go Go.Mw Go.Lib
set_option maxRecDepth 4000
def cutStep (x : StepM) : StepM := ⟨x.kind, x.n, x.s.take 1100⟩
theorem min_take (s : List UInt8) (k : Nat) : Min.min ((s.length : Nat) : Int) (k : Int) = (((s.take k).length : Nat) : Int) := by
 rw [List.length_take]
 omega
theorem take_take' (s : List UInt8) (k : Nat) : s.take (s.take k).length = s.take k := by
 rw [List.length_take]
 by_cases h : k ≤ s.length
 ·rw [Nat.min_eq_left h]
 rw [Nat.min_eq_right (by omega), List.take_length, List.take_of_length_le (by omega)]
section
variable {w : World}
end
section
variable {w : World}
end
section
variable {w : World}
end
def wholeK (b : Bool) : Int := if b then 3 else 2
def kindsS (b : Bool) : List Int := [wholeK b, 1, 4, 5, 3]
def kindAt (b : Bool) (i : Nat) : Int := (kindsS b).getD (i % 5) 0
def colAt (b : Bool) (i : Nat) : ColM := ⟨((i + 1 : Nat) : Int), [], ⟨kindAt b i, decide ((4 : Int) < i)⟩, cell0⟩
def colsS (b : Bool) : List ColM := (List.range 10).map (colAt b)
structure GoodE (k : Int) (n : Bool) (l : List StepM) : Prop where
 may : ∀ x ∈ l, mayS x = true ∧ fits x.n
 run : ∀ b st, runT (colsS b) st l = some (st ++ [⟨k, n⟩])
structure RowTo (m : Nat) (r : List CellM) : Prop where
 len : r.length = m
 fit : RowFits r
 ok : ∀ b (i : Nat) c, r[i]? = some c → okC (colAt b i).type c
theorem RowTo.nil : RowTo 0 [] := ⟨rfl, fun _ h => absurd h List.not_mem_nil, fun _ i c h => by simp at h⟩
theorem RowTo.push {i : Nat} {r : List CellM} {c : CellM} (h : RowTo i r) (hc : fits c.n ∧ ∀ b, okC (colAt b i).type c) : RowTo (i + 1) (r ++ [c]) := by
 refine ⟨by rw [List.length_append, h.len]; rfl, fun y hy => ?_, fun b j d hd => ?_⟩
 ·rcases List.mem_append.1 hy with h1 | h1
  ·exact h.fit y h1
  rw [List.mem_singleton.1 h1]; exact hc.1
 rcases Nat.lt_or_ge j r.length with hj | hj
 ·rw [List.getElem?_append_left hj] at hd; exact h.ok b j d hd
 rw [List.getElem?_append_right hj] at hd
 cases hk : j - r.length with
 | zero =>
  rw [hk] at hd
  have e : j = i := by have := h.len; omega
  simp only [List.getElem?_cons_zero, Option.some.injEq] at hd
  rw [e, ← hd]; exact hc.2 b
 | succ m => rw [hk] at hd; simp at hd
/-! Wider columns, and cells that are not used. -/
/-! Expressions one behind the other. -/
/-! What is drawn: of a kind, and so deep. -/
end Go.Proofs.YtolaedhdjcnijaaGreatDoor
namespace Go.Proofs.YtolaedhdjcnijaaGreatDoor
open Go Go.Lib Go.Mw
set_option maxRecDepth 4000
structure OutM where
 name : List UInt8
 steps : List StepM
structure PlanM where
 wh : List StepM
 cols : List OutM
 group : Int
theorem OutM.ext' {a b : OutM} (h1 : a.name = b.name) (h2 : a.steps = b.steps) : a = b := by cases a; cases b; simp_all
theorem PlanM.ext' {a b : PlanM} (h1 : a.wh = b.wh) (h2 : a.cols = b.cols) (h3 : a.group = b.group) : a = b := by cases a; cases b; simp_all
instance : DecidableEq OutM := fun a b => decidable_of_iff (a.name = b.name ∧ a.steps = b.steps) ⟨fun h => OutM.ext' h.1 h.2, fun h => by subst h; exact ⟨rfl, rfl⟩⟩
instance : DecidableEq PlanM := fun a b => decidable_of_iff (a.wh = b.wh ∧ a.cols = b.cols ∧ a.group = b.group) ⟨fun h => PlanM.ext' h.1 h.2.1 h.2.2, fun h => by subst h; exact ⟨rfl, rfl, rfl⟩⟩
def plan0 : PlanM := ⟨[], [], 0⟩
def lowB (c : UInt8) : Bool := decide (97 ≤ c.toNat ∧ c.toNat ≤ 122)
def nameB (c : UInt8) : Bool := lowB c || decide (c = 95) || isDig c
def isNameS (s : List UInt8) : Bool := decide (1 ≤ s.length ∧ s.length ≤ 32) && lowB (s.getD 0 0) && s.all nameB
def countW : List UInt8 := [99, 111, 117, 110, 116]
def noneW : List UInt8 := [110, 111, 110, 101]
def whereW : List UInt8 := [119, 104, 101, 114, 101, 32]
def outW : List UInt8 := [111, 117, 116, 32]
def groupW : List UInt8 := [103, 114, 111, 117, 112, 32]
def namedP (p : PlanM) : Bool :=
 decide (1 ≤ p.cols.length ∧ p.cols.length ≤ 16 ∧ -1 ≤ p.group ∧ p.group ≤ p.cols.length) && p.cols.all (fun o => isNameS o.name && !(decide (0 ≤ p.group) && decide (o.name = countW))) && decide ((p.cols.map (·.name)).Nodup)
def zeroC (t : TypeM) : CellM := ⟨mayT t && t.null, 0, []⟩
def colP (id : Int) (name : List UInt8) (t : TypeM) : ColM := ⟨id, name, t, zeroC t⟩
def wholeT : TypeM := ⟨3, false⟩
def outsP (cols : List ColM) (group : Int) : Nat → List OutM → List ColM → List ColM × Int
  | i, [], acc => (if group = i then acc ++ [colP (group + 1) countW wholeT] else acc, 0)
  | i, o :: l, acc =>
    if (typeS cols o.steps).2 ≠ 0 then ([], (typeS cols o.steps).2)
    else if 0 ≤ group ∧ group ≤ i then
      (if (typeS cols o.steps).1.kind ≠ 3 then ([], 230)
       else outsP cols group (i + 1) l ((if (i : Int) = group then acc ++ [colP (i + 1) countW wholeT] else acc) ++ [colP (i + 2) o.name wholeT]))
    else outsP cols group (i + 1) l (acc ++ [colP (i + 1) o.name (typeS cols o.steps).1])
def checkP (cols : List ColM) (p : PlanM) : List ColM × Int :=
 if namedP p = false then ([], 230)
 else if p.wh ≠ [] ∧ (typeS cols p.wh).2 ≠ 0 then ([], (typeS cols p.wh).2)
 else if p.wh ≠ [] ∧ (typeS cols p.wh).1.kind ≠ 1 then ([], 230)
 else outsP cols p.group 0 p.cols []
def usesP (p : PlanM) : List Int := usesS (p.wh ++ p.cols.flatMap (·.steps))
/-! Texts. -/
def lineO (o : OutM) : List UInt8 := outW ++ o.name ++ [32] ++ (textS o.steps).1
def badO (o : OutM) : Bool := decide ((textS o.steps).2 ≠ 0 ∨ (textS o.steps).1 = [])
def lineW (l : List StepM) : List UInt8 := whereW ++ (if l = [] then noneW else (textS l).1)
def lineG (g : Int) : List UInt8 := groupW ++ (if g < 0 then noneW else itoa g)
def linesP (p : PlanM) : List (List UInt8) := lineW p.wh :: (p.cols.map lineO ++ [lineG p.group])
def unlines (l : List (List UInt8)) : List UInt8 := l.flatMap (· ++ [10])
def mayP (p : PlanM) : Bool := namedP p && decide ((textS p.wh).2 = 0) && p.cols.all (fun o => !badO o)
def textP (p : PlanM) : List UInt8 × Int := if mayP p = false then ([], 2) else (unlines (linesP p), 0)
def linesL (s : List UInt8) : List (List UInt8) × Bool := if (splitW 10 s).getLast? = some [] then ((splitW 10 s).dropLast, true) else (splitW 10 s, false)
def aheadL (b s : List UInt8) : Option (List UInt8) := if s.take b.length = b then some (s.drop b.length) else none
def whereL (s : List UInt8) : Option (List StepM) := (aheadL whereW s).bind fun t => if t = [] then none else if t = noneW then some [] else if (parseS t).2 = 0 then some (parseS t).1 else none
def cutL (s : List UInt8) : Option (List UInt8 × List UInt8) := (s.idxOf? 32).map fun i => (s.take i, s.drop (i + 1))
def outL (s : List UInt8) : Option OutM := (aheadL outW s).bind fun t => (cutL t).bind fun x => if (parseS x.2).2 = 0 ∧ (parseS x.2).1 ≠ [] ∧ isNameS x.1 = true then some ⟨x.1, (parseS x.2).1⟩ else none
def groupN (t : List UInt8) : Option Nat := (digitsD t 0).bind fun n => if decDigits n = t ∧ n ≤ 1048576 then some n else none
def groupL (s : List UInt8) : Option Int := (aheadL groupW s).bind fun t => if t = noneW then some (-1) else (groupN t).map (fun n : Nat => ((n : Nat) : Int))
def colsL : List (List UInt8) → List OutM
 | [] => []
 | s :: l => match outL s with
  | some o => o :: colsL l
  | none => []
def parseP (s : List UInt8) : PlanM × Int × Int :=
 if 1048576 < s.length then (plan0, 0, 5)
 else
  let l := (linesL s).1
  let many := if (linesL s).2 = true then l.length else l.length - 1
  if many < 1 then (plan0, 0, 4)
  else match whereL (l.getD 0 []) with
   | none => (plan0, 0, 4)
   | some w =>
    let cs := colsL ((l.take many).drop 1)
    if many ≤ 1 + cs.length ∨ cs.length = 0 then (plan0, (1 + cs.length : Nat), 4)
    else match groupL (l.getD (1 + cs.length) []) with
     | none => (plan0, (1 + cs.length : Nat), 4)
     | some g =>
      if 1 + cs.length + 1 < l.length then (plan0, (1 + cs.length + 1 : Nat), 4)
      else if mayP ⟨w, cs, g⟩ = false then (plan0, 0, 2) else (⟨w, cs, g⟩, 0, 0)
end Go.Proofs.YtolaedhdjcnijaaGreatDoor
namespace Go.Proofs.YtolaedhdjcnijaaGreatDoor
open Go Go.Mw Go.Lib
set_option maxRecDepth 4000
def outCells (x : List UInt8 × Value) : List Value := [str x.1, x.2]
instance : EncK outCells 2 := ⟨fun _ => rfl⟩
def RawOf (w : World) (r : List (List UInt8 × Value)) (l : List OutM) : Prop := r.map (·.1) = l.map (·.name) ∧ ∀ (i : Nat) x o, r[i]? = some x → l[i]? = some o → RowIn w x.2 stepCells 3 o.steps
def OutsIn (w : World) (v : Value) (l : List OutM) : Prop := ∃ r, RowIn w v outCells 2 r ∧ RawOf w r l
def PlanIn (w : World) (v : Value) (p : PlanM) : Prop := ∃ vw vc, v = agg [vw, vc, I p.group] ∧ RowIn w vw stepCells 3 p.wh ∧ OutsIn w vc p.cols
section
variable {w w' : World} {v : Value} {r : List (List UInt8 × Value)} {l : List OutM} {p : PlanM}
theorem RawOf.len (h : RawOf w r l) : r.length = l.length := by
 have := congrArg List.length h.1
 simpa using this
theorem RawOf.keep (h : RawOf w r l) (hk : Kept noB w w') : RawOf w' r l := ⟨h.1, fun i x o hx ho => (h.2 i x o hx ho).keep hk⟩
theorem OutsIn.keep (h : OutsIn w v l) (hk : Kept noB w w') : OutsIn w' v l := by
 obtain ⟨r, h1, h2⟩ := h
 exact ⟨r, h1.keep hk, h2.keep hk⟩
theorem PlanIn.keep (h : PlanIn w v p) (hk : Kept noB w w') : PlanIn w' v p := by
 obtain ⟨vw, vc, e, h1, h2⟩ := h
 exact ⟨vw, vc, e, h1.keep hk, h2.keep hk⟩
theorem RawOf.nil : RawOf w [] [] := ⟨rfl, fun i x o hx => by simp at hx⟩
theorem RawOf.push {n : List UInt8} {x : Value} {s : List StepM} (h : RawOf w r l) (hx : RowIn w x stepCells 3 s) : RawOf w (r ++ [(n, x)]) (l ++ [⟨n, s⟩]) := by
 have hl := h.len
 refine ⟨by rw [List.map_append, List.map_append, h.1]; rfl, fun i y o hy ho => ?_⟩
 by_cases hi : i < r.length
 ·rw [List.getElem?_append_left hi] at hy
  rw [List.getElem?_append_left (by omega)] at ho
  exact h.2 i y o hy ho
 rw [List.getElem?_append_right (by omega)] at hy ho
 rw [← hl] at ho
 have h0 : i - r.length = 0 := by
  cases hj : i - r.length with
  | zero => rfl
  | succ j => rw [hj] at hy; simp at hy
 rw [h0] at hy ho
 injection hy with hy
 injection ho with ho
 subst hy; subst ho
 exact hx
theorem RawOf.at (h : RawOf w r l) {i : Nat} (hi : i < l.length) : ∃ x, r[i]? = some (l[i].name, x) ∧ RowIn w x stepCells 3 l[i].steps := by
 have hl := h.len
 have hr : r[i]? = some r[i] := List.getElem?_eq_getElem (by omega)
 have hn : r[i].1 = l[i].name := by
  have := congrArg (fun z => z[i]?) h.1
  simp only [List.getElem?_map] at this
  rw [hr, List.getElem?_eq_getElem hi] at this
  injection this
 exact ⟨r[i].2, by rw [hr, ← hn], h.2 i _ _ hr (List.getElem?_eq_getElem hi)⟩
end
end Go.Proofs.YtolaedhdjcnijaaGreatDoor
namespace Go.Mw
open Go.RowKit
theorem beq_data (a b : ByteArray) : (a == b) = (a.data == b.data) := by
 cases a; cases b; rfl
instance lawfulBytes : LawfulBEq ByteArray where
 eq_of_beq {a b} h := by
  rw [beq_data] at h
  exact ByteArray.ext (eq_of_beq h)
 rfl {a} := by rw [beq_data]; exact beq_self_eq_true _

def keyIsS (k : ByteArray) (e : MapEntry) : Bool := match e.key with
 | .string a => a == k
 | _ => false
def mgetS (es : List MapEntry) (k : ByteArray) : Option Value := (es.find? (keyIsS k)).map (·.val)
def intKeysS (es : List MapEntry) : Prop := ∀ e ∈ es, ∃ a, e.key = .string a
def mapIS (b : Nat) (f : ByteArray → Option Value) (n : Nat) : HP := exH fun x : Array MapEntry × Nat => star (obj b (.map x.1 x.2)) (pureH ((intKeysS x.1.toList ∧ x.1.size = n) ∧ ∀ k, mgetS x.1.toList k = f k))

section
variable {w₀ w w' : World} {S : Nat → Prop} {rs : List HP} {put : HP → List HP} {P : Program}
theorem mapI_okS {b n : Nat} {f : ByteArray → Option Value} {F : Nat → Prop} : (mapIS b f n).ok F w ↔ (∀ x, F x ↔ x = b) ∧ ∃ es clock, w.heap[b]? = some (.map es clock) ∧ (intKeysS es.toList ∧ es.size = n) ∧ ∀ k, mgetS es.toList k = f k := by
 constructor
 ·rintro ⟨⟨es, c⟩, F1, F2, hF, hd, ⟨h1, h2⟩, ⟨⟨h3, h4⟩, h5⟩⟩
  refine ⟨fun x => ?_, es, c, h2, h3, h4⟩
  rw [hF, h1]
  exact ⟨fun h => h.elim id fun h => (h5 x h).elim, .inl⟩
 rintro ⟨h1, es, c, h2, h3, h4⟩
 exact ⟨⟨es, c⟩, F, fun _ => False, fun x => by simp, fun _ _ h => h, ⟨h1, h2⟩, ⟨⟨h3, h4⟩, fun _ h => h⟩⟩
theorem Sep.mapAtS {b n : Nat} {f : ByteArray → Option Value} (h : Sep w₀ S rs w) (hat : At rs (mapIS b f n) put) : ∃ es clock, w.heap[b]? = some (.map es clock) ∧ (intKeysS es.toList ∧ es.size = n) ∧ ∀ k, mgetS es.toList k = f k := by
 obtain ⟨F, hp, _, _⟩ := h.focus hat
 exact (mapI_okS.1 hp).2
theorem Sep.mapNewS {b : Nat} (h : Sep w₀ S rs w) (hat : At rs (Mw.obj b (Obj.map #[] 0)) put) : Sep w₀ S (put (mapIS b (fun _ => none) 0)) w :=
 h.imp hat fun F hF => mapI_okS.2 ⟨hF.1, #[], 0, hF.2, ⟨by simp [intKeysS], rfl⟩, fun k => rfl⟩

theorem findNow_intS (k : ByteArray) : ∀ (es : List MapEntry) (i : Nat), intKeysS es → ∃ r, Instr.findNow .string (.string k) es i = some r ∧ r.map (·.2) = mgetS es k ∧
    (∀ j v, r = some (j, v) → ∃ m, j = i + m ∧ ∃ e, es[m]? = some e ∧ keyIsS k e = true ∧ es.find? (keyIsS k) = some e ∧ ∀ m' e', m' < m → es[m']? = some e' → keyIsS k e' = false) := by
  intro es
  induction es with
  | nil => intro i _; exact ⟨none, rfl, rfl, fun _ _ h => by cases h⟩
  | cons e es ih =>
    intro i hk
    obtain ⟨a, ha⟩ := hk e List.mem_cons_self
    obtain ⟨r, h1, h2, h3⟩ := ih (i + 1) fun x hx => hk x (List.mem_cons_of_mem _ hx)
    have hs : Instr.sameNow .string (.string k) e.key = some (k == a) := by rw [ha]; simp [Instr.sameNow]
    have hki : keyIsS k e = (a == k) := by unfold keyIsS; rw [ha]
    by_cases hka : k = a
    · subst hka
      have hkt : keyIsS k e = true := by rw [hki]; simp
      refine ⟨some (i, e.val), ?_, ?_, ?_⟩
      · unfold Instr.findNow; rw [hs]; simp
      · simp [mgetS, hkt]
      rintro j v hjv
      injection hjv with hjv
      injection hjv with h4 h5
      exact ⟨0, by omega, e, rfl, hkt, by simp [hkt], fun m' _ hm => by omega⟩
    have hkf : keyIsS k e = false := by rw [hki]; simpa using fun h : a = k => hka h.symm
    refine ⟨r, ?_, ?_, ?_⟩
    · unfold Instr.findNow; rw [hs, h1]
      have : (k == a) = false := by simpa using hka
      rw [this]
    · rw [h2]; simp [mgetS, hkf]
    rintro j v hjv
    obtain ⟨m, hm, e', he', hk', hf', hlt⟩ := h3 j v hjv
    refine ⟨m + 1, by omega, e', by simpa using he', hk', by simp [hkf, hf'], fun m' e'' hm' he'' => ?_⟩
    cases m' with
    | zero => simp at he''; rw [← he'']; exact hkf
    | succ m' => exact hlt m' e'' (by omega) (by simpa using he'')
theorem run_findKey_intS {kt : TypeId} (hu : P.underlying kt = some (.string)) (k : ByteArray) (es : List MapEntry) (hk : intKeysS es) :
    ∃ r, (Instr.findKey kt (.string k) es).run P w = .ok r w ∧ r.map (·.2) = mgetS es k ∧
    (∀ j v, r = some (j, v) → ∃ e, es[j]? = some e ∧ keyIsS k e = true ∧ ∀ m' e', m' < j → es[m']? = some e' → keyIsS k e' = false) := by
  obtain ⟨r, h1, h2, h3⟩ := findNow_intS k es 0 hk
  refine ⟨r, by simp [Instr.findKey, run_underlying hu, h1], h2, fun j v hjv => ?_⟩
  obtain ⟨m, hm, e, he, hke, _, hlt⟩ := h3 j v hjv
  have : j = m := by omega
  subst this
  exact ⟨e, he, hke, hlt⟩
theorem run_checkKey_intS {kt : TypeId} (hu : P.underlying kt = some (.string)) (b : Bool) (k : ByteArray) (d : Nat) : (Instr.checkKey b (d + 1) kt (.string k)).run P w = .ok () w := by
 simp [Instr.checkKey, run_underlying hu]
theorem run_getObj_mapS {b : Nat} {es : Array MapEntry} {c : Nat} (h : w.heap[b]? = some (.map es c)) : (getObj b).run P w = .ok (.map es c) w := by
 simp [getObj, Sem.run, h]
theorem gives_lookupBS {ρ : Operand → Value} {ty : TypeId} {x y : Operand} {T k e : TypeId} [hm : IsMap P T k e] [hk : IsStr P k] {z : Value} [hz : Zero P e z] {b : Nat} {f : ByteArray → Option Value} {i : ByteArray}
    {es : Array MapEntry} {c : Nat} (hb : w.heap[b]? = some (.map es c)) (hkeys : intKeysS es.toList) (hf : ∀ k, mgetS es.toList k = f k) (hx : ρ x = .map (some b)) (hy : ρ y = .string i) : Gives P ρ (.lookup T x y false) ty w ((f i).getD z) w := by
  obtain ⟨r, h1, h2, _⟩ := run_findKey_intS (P := P) (w := w) hk.und i es.toList hkeys
  intro _ _ _ _
  rw [← hf, ← h2]
  have hck := run_checkKey_intS (P := P) (w := w) hk.und es.isEmpty i 9999
  simp only [execOp, hx, hy, Instr.lookup, Sem.run_bind, run_underlying hm.und, Result.andThen_ok, run_getObj_mapS hb, Sem.run_pure]
  rw [hck]
  simp only [Result.andThen_ok, h1]
  cases r with
  | none => simp [hz.run]
  | some jv => obtain ⟨j, v⟩ := jv; simp
theorem gives_lookupS {ρ : Operand → Value} {ty : TypeId} {x y : Operand} {T k e : TypeId} [hm : IsMap P T k e] [hk : IsStr P k] {z : Value} [hz : Zero P e z] {b n : Nat} {f : ByteArray → Option Value} {i : ByteArray}
    (H : Sep w₀ S rs w) (hat : At rs (mapIS b f n) put) (hx : ρ x = .map (some b)) (hy : ρ y = .string i) : Gives P ρ (.lookup T x y false) ty w ((f i).getD z) w := by
  obtain ⟨es, c, hb, hkeys, hf⟩ := H.mapAtS hat
  exact gives_lookupBS hb hkeys.1 hf hx hy
theorem mget_pushS {es : List MapEntry} {i : ByteArray} {v : Value} {n : Nat} (k : ByteArray) (hn : mgetS es i = none) : mgetS (es ++ [{ key := .string i, val := v, born := n }]) k = if k = i then some v else mgetS es k := by
 unfold mgetS at *
 rw [List.find?_append]
 by_cases hki : k = i
 ·subst hki
  have h0 : es.find? (keyIsS k) = none := by simpa using hn
  rw [if_pos rfl, h0]
  simp [keyIsS]
 rw [if_neg hki]
 have : ([{ key := .string i, val := v, born := n }] : List MapEntry).find? (keyIsS k) = none := by
  have : keyIsS k { key := .string i, val := v, born := n } = false := by simp [keyIsS]; exact fun h => hki h.symm
  simp [this]
 rw [this]
 cases es.find? (keyIsS k) <;> rfl
theorem find_modifyS (k i : ByteArray) (v : Value) : ∀ (es : List MapEntry) (j : Nat) (e : MapEntry), es[j]? = some e → keyIsS i e = true → (∀ m' e', m' < j → es[m']? = some e' → keyIsS i e' = false) →
    mgetS (es.modify j fun e => { e with key := .string i, val := v }) k = if k = i then some v else mgetS es k := by
  intro es
  induction es with
  | nil => intro j e h; simp at h
  | cons x es ih =>
    intro j e hj hke hlt
    cases j with
    | zero =>
      simp at hj
      subst hj
      simp only [List.modify_zero_cons]
      unfold mgetS
      by_cases hki : k = i
      · subst hki
        rw [if_pos rfl]
        simp [keyIsS]
      rw [if_neg hki]
      have h1 : keyIsS k { x with key := .string i, val := v } = false := by simp [keyIsS]; exact fun h => hki h.symm
      have h2 : keyIsS k x = false := by
        unfold keyIsS at hke ⊢
        split at hke
        · rename_i a ha
          simp at hke
          simpa [hke] using fun h : i = k => hki h.symm
        cases hke
      simp [h1, h2]
    | succ j =>
      simp only [List.modify_succ_cons]
      have hx : keyIsS i x = false := hlt 0 x (by omega) rfl
      have ih' := ih j e (by simpa using hj) hke fun m' e' hm he => hlt (m' + 1) e' (by omega) (by simpa using he)
      unfold mgetS at ih' ⊢
      rw [List.find?_cons, List.find?_cons]
      cases hkx : keyIsS k x with
      | true =>
        have : k ≠ i := fun e => by rw [e, hx] at hkx; cases hkx
        simp [this]
      | false => simpa using ih'
theorem acts_mapUpdateS {ρ : Operand → Value} {ty : TypeId} {x y z : Operand} {T k e : TypeId} [hm : IsMap P T k e] [hk : IsStr P k] {b n : Nat} {f : ByteArray → Option Value} {i : ByteArray} {v : Value}
    (H : Sep w₀ S rs w) (hat : At rs (mapIS b f n) put) (hx : ρ x = .map (some b)) (hy : ρ y = .string i) (hz : ρ z = v) :
    ∃ w', Acts P ρ (.mapUpdate T x y z) ty w w' ∧ Sep w₀ S (put (mapIS b (fun k => if k = i then some v else f k) (if f i = none then n + 1 else n))) w' := by
  obtain ⟨F, hp, _, hput⟩ := H.focus hat
  obtain ⟨hF, es, c, hb, ⟨hkeys, hsz⟩, hf⟩ := mapI_okS.1 hp
  obtain ⟨r, h1, h2, h3⟩ := run_findKey_intS (P := P) (w := w) hk.und i es.toList hkeys
  have hck := run_checkKey_intS (P := P) (w := w) hk.und false i 9999
  have hblt := lt_of_get hb
  have hset : ∀ o : Obj, (setObj b o).run P w = .ok () { w with heap := w.heap.setIfInBounds b o } := fun o => by simp [Go.setObj, Sem.run, hb]
  have fin : ∀ (es' : Array MapEntry) (c' : Nat), intKeysS es'.toList → es'.size = (if f i = none then n + 1 else n) → (∀ k, mgetS es'.toList k = if k = i then some v else f k) →
      Sep w₀ S (put (mapIS b (fun k => if k = i then some v else f k) (if f i = none then n + 1 else n))) { w with heap := w.heap.setIfInBounds b (.map es' c') } := fun es' c' hk' hs' hf' =>
    hput _ F _ ⟨rfl, rfl, rfl, by simp, fun j hj hFj => by simp only [Array.getElem?_setIfInBounds]; rw [if_neg (fun e => hFj ((hF j).2 e.symm))]⟩
      (mapI_okS.2 ⟨hF, es', c', by simp [hblt], ⟨hk', hs'⟩, hf'⟩) fun b hb => .inl hb
  cases r with
  | none =>
    refine ⟨{ w with heap := w.heap.setIfInBounds b (.map (es.push { key := .string i, val := v, born := c }) (c + 1)) }, fun _ _ _ _ => ?_, fin _ _ ?_ ?_ ?_⟩
    · simp only [execOp, hx, hy, hz, Instr.mapUpdate, Sem.run_bind, run_underlying hm.und, Result.andThen_ok, run_getObj_mapS hb]
      rw [hck]
      simp only [Result.andThen_ok, h1, hset, Sem.run_pure]
    · intro e he
      simp at he
      rcases he with he | he
      · exact hkeys e (by simpa using he)
      exact ⟨i, by rw [he]⟩
    · have h0 : mgetS es.toList i = none := by rw [← h2]; rfl
      rw [if_pos (by rw [← hf]; exact h0), Array.size_push, hsz]
    intro k
    have h0 : mgetS es.toList i = none := by rw [← h2]; rfl
    simp only [Array.toList_push]
    rw [mget_pushS k h0, hf]
  | some jv =>
    obtain ⟨j, u⟩ := jv
    obtain ⟨e, he, hke, hlt⟩ := h3 j u rfl
    obtain ⟨a, ha⟩ := hkeys e (List.mem_of_getElem? he)
    have hai : a = i := by unfold keyIsS at hke; rw [ha] at hke; simpa using hke
    have hkey : (((es[j]?).map (·.key)).getD (.string i)) = .string i := by
      have : es[j]? = some e := by simpa using he
      rw [this]; simp [ha, hai]
    have hstay : (Instr.keyThatStays (.string i) (.string i)).run P w = .ok (.string i) w := by simp [Instr.keyThatStays, Instr.sameBits]
    refine ⟨{ w with heap := w.heap.setIfInBounds b (.map (es.modify j fun e => { e with key := .string i, val := v }) c) }, fun _ _ _ _ => ?_, fin _ _ ?_ ?_ ?_⟩
    · simp only [execOp, hx, hy, hz, Instr.mapUpdate, Sem.run_bind, run_underlying hm.und, Result.andThen_ok, run_getObj_mapS hb]
      rw [hck]
      simp only [Result.andThen_ok, h1, hkey, hstay, hset, Sem.run_bind, Sem.run_pure]
    · intro e' he'
      simp only [Array.toList_modify] at he'
      obtain ⟨m, hm', rfl⟩ := List.mem_iff_getElem.1 he'
      rw [List.getElem_modify]
      split
      · exact ⟨i, rfl⟩
      exact hkeys _ (List.getElem_mem _)
    · have h0 : mgetS es.toList i = some u := by rw [← h2]; rfl
      rw [if_neg (by rw [← hf, h0]; simp), Array.size_modify, hsz]
    intro k
    simp only [Array.toList_modify]
    rw [find_modifyS k i v es.toList j e he hke hlt, hf]
end
end Go.Mw
