/-
 The lines of a text with their ends, told plainly. No program stands here.
-/
import Derived.Test.YtolaedhdjcnijaaGreatDoorKt26
import Derived.Test.YtolaedhdjcnijaaGreatDoorKt21
import Derived.Test.YtolaedhdjcnijaaGreatDoorKt25
import Derived.Test.YtolaedhdjcnijaaGreatDoorKt10
import Derived.Test.YtolaedhdjcnijaaGreatDoorKt6
set_option linter.unusedVariables false
set_option linter.unusedSimpArgs false
namespace Go.Proofs.YtolaedhdjcnijaaGreatDoor
open Go Go.Mw Go.Lib
set_option maxRecDepth 4000
def endL (l : List UInt8) : List UInt8 := l ++ [10]
theorem endL_inj {a b : List UInt8} (h : endL a = endL b) : a = b := List.append_cancel_right h
theorem map_endL : ∀ {a b : List (List UInt8)}, a.map endL = b.map endL → a = b
 | [], [], _ => rfl
 | [], b :: l, h => by cases h
 | a :: l, [], h => by cases h
 | a :: l, b :: m, h => by
  injection h with h1 h2
  rw [endL_inj h1, map_endL h2]
def rawL (s : List UInt8) : List (List UInt8) := (splitW 10 s).dropLast.map endL ++ (if (splitW 10 s).getLast? = some [] then [] else [(splitW 10 s).getLastD []])
def fullL (s : List UInt8) : List (List UInt8) := if (linesL s).2 = true then (linesL s).1 else (linesL s).1.dropLast
theorem rawL_nil : rawL [] = [] := rfl
theorem split10_none {l : List UInt8} (h : Lib.indexByte l 10 = -1) : splitW 10 l = [l] :=
 split_word fun c hc e => by
  obtain ⟨k, hk⟩ := List.getElem?_of_mem hc
  exact Lib.indexByte_none h k (by rw [hk, e])
theorem split10_some {l : List UInt8} {o : Nat} (h : Lib.indexByte l 10 = o) : o < l.length ∧ l.take (o + 1) = endL (l.take o) ∧ splitW 10 l = l.take o :: splitW 10 (l.drop (o + 1)) := by
 obtain ⟨h1, h2⟩ := Lib.indexByte_some h
 have hlt := (List.getElem?_eq_some_iff.1 h1).1
 have e : l = l.take o ++ 10 :: l.drop (o + 1) := by
  have e1 : l.drop o = 10 :: l.drop (o + 1) := by
   rw [List.drop_eq_getElem_cons hlt]
   congr 1
   rw [List.getElem?_eq_getElem hlt] at h1
   injection h1
  conv => lhs; rw [← List.take_append_drop o l, e1]
 refine ⟨hlt, by rw [List.take_add_one, h1]; rfl, ?_⟩
 have := split_app (sep := 10) (w := l.take o) (l := l.drop (o + 1)) fun c hc e => by
  obtain ⟨k, hk⟩ := List.getElem?_of_mem hc
  rw [List.getElem?_take] at hk
  split at hk
  ·exact h2 k (by omega) (by rw [hk, e])
  cases hk
 rw [← this, ← e]
theorem rawL_none {l : List UInt8} (h : Lib.indexByte l 10 = -1) (hne : l ≠ []) : rawL l = [l] := by
 unfold rawL
 rw [split10_none h]
 simp [hne]
theorem rawL_some {l : List UInt8} {o : Nat} (h : Lib.indexByte l 10 = o) : rawL l = l.take (o + 1) :: rawL (l.drop (o + 1)) := by
 obtain ⟨_, h2, h3⟩ := split10_some h
 have hne := splitP_ne (l.drop (o + 1))
 unfold rawL
 rw [h3, h2]
 cases hs : splitW 10 (l.drop (o + 1)) with
 | nil => exact absurd hs hne
 | cons a r =>
  rw [List.dropLast_cons_of_ne_nil (by simp)]
  simp
theorem split_no10 {s : List UInt8} : ∀ w ∈ splitW 10 s, ∀ c ∈ w, c ≠ 10 := by
 induction s with
 | nil => intro w hw c hc; simp [splitW] at hw; subst hw; cases hc
 | cons x l ih =>
  intro w hw c hc
  by_cases hx : x = 10
  ·rw [splitW, if_pos hx] at hw
   rcases List.mem_cons.1 hw with rfl | hw
   ·cases hc
   exact ih w hw c hc
  obtain ⟨w1, ws, e1, e2⟩ := split_cons (sep := 10) (l := l) hx
  rw [e2] at hw
  rw [e1] at ih
  rcases List.mem_cons.1 hw with rfl | hw
  ·rcases List.mem_cons.1 hc with rfl | hc
   ·exact hx
   exact ih w1 (by simp) c hc
  exact ih w (List.mem_cons_of_mem _ hw) c hc
theorem raw_form (s : List UInt8) : ∃ T, rawL s = (fullL s).map endL ++ T ∧ ((T = [] ∧ (linesL s).2 = true) ∨ (∃ x, T = [x] ∧ (linesL s).2 = false ∧ ∀ c ∈ x, c ≠ 10)) := by
 have hne := splitP_ne s
 unfold rawL fullL linesL
 by_cases h : (splitW 10 s).getLast? = some []
 ·rw [if_pos h, if_pos h]
  exact ⟨[], by simp, .inl ⟨rfl, rfl⟩⟩
 rw [if_neg h, if_neg h]
 refine ⟨[(splitW 10 s).getLastD []], by simp, .inr ⟨_, rfl, rfl, ?_⟩⟩
 refine split_no10 (s := s) _ ?_
 rw [List.getLastD_eq_getLast?, List.getLast?_eq_some_getLast hne]
 exact List.getLast_mem hne
theorem raw_prefix {s : List UInt8} {ls : List (List UInt8)} {x : List UInt8} (h : ls.map endL ++ [x] <+: rawL s) : (∃ l rest, x = endL l ∧ fullL s = ls ++ l :: rest) ∨ ((linesL s).2 = false ∧ ls = fullL s ∧ ∀ c ∈ x, c ≠ 10) := by
 obtain ⟨T, hT, hc⟩ := raw_form s
 obtain ⟨t, ht⟩ := h
 rw [hT, List.append_assoc, List.singleton_append] at ht
 rcases List.append_eq_append_iff.1 ht with ⟨a, h1, h2⟩ | ⟨c, h1, h2⟩
 ·obtain ⟨l1, l2, e, e1, e2⟩ := List.map_eq_append_iff.1 h1
  have e1' := map_endL e1
  subst e1'
  cases l2 with
  | nil =>
   subst e2
   rw [List.map_nil, List.nil_append] at h2
   rcases hc with ⟨rfl, _⟩ | ⟨y, rfl, hw, hy⟩
   ·cases h2
   injection h2 with h2 _
   subst h2
   rw [List.append_nil] at e
   exact .inr ⟨hw, e.symm, hy⟩
  | cons l l2 =>
   subst e2
   injection h2 with h2 _
   exact .inl ⟨l, l2, h2, e⟩
 rcases hc with ⟨rfl, _⟩ | ⟨y, rfl, hw, hy⟩
 ·cases c <;> cases h2
 cases c with
 | nil =>
  rw [List.append_nil] at h1
  injection h2 with h2 _
  subst h2
  exact .inr ⟨hw, map_endL h1, hy⟩
 | cons z c => injection h2 with _ h2; cases c <;> cases h2
theorem raw_all {s : List UInt8} {ls : List (List UInt8)} (h : rawL s = ls.map endL) : (linesL s).2 = true ∧ (linesL s).1 = ls := by
 obtain ⟨T, hT, hc⟩ := raw_form s
 rw [hT] at h
 rcases hc with ⟨rfl, hw⟩ | ⟨y, rfl, hw, hy⟩
 ·rw [List.append_nil] at h
  have := map_endL h
  unfold fullL at this
  rw [if_pos hw] at this
  exact ⟨hw, this⟩
 obtain ⟨l1, l2, e, e1, e2⟩ := List.map_eq_append_iff.1 h.symm
 cases l2 with
 | nil => cases e2
 | cons l l2 =>
  injection e2 with e2 _
  exact absurd rfl (hy 10 (by rw [← e2]; unfold endL; simp))
theorem split_len10 (s : List UInt8) : ∀ w ∈ splitW 10 s, w.length ≤ s.length := by
  induction s with
  | nil => intro w h; have : w = [] := by simpa [splitW] using h
           rw [this]; simp
  | cons c l ih =>
    intro w h
    by_cases hc : c = 10
    · rw [splitW, if_pos hc] at h
      rcases List.mem_cons.1 h with rfl | h
      · simp
      have := ih w h; simp only [List.length_cons]; omega
    obtain ⟨w1, ws, e1, e2⟩ := split_cons (sep := 10) (l := l) hc
    rw [e2] at h
    rw [e1] at ih
    rcases List.mem_cons.1 h with rfl | h
    · have := ih w1 (by simp)
      simp only [List.length_cons]; omega
    have := ih w (List.mem_cons_of_mem _ h)
    simp only [List.length_cons]; omega
theorem raw_len {s x : List UInt8} (h : x ∈ rawL s) : x.length ≤ s.length + 1 := by
 unfold rawL at h
 rcases List.mem_append.1 h with h | h
 ·obtain ⟨y, hy, rfl⟩ := List.mem_map.1 h
  have := split_len10 s y ((List.dropLast_sublist _).subset hy)
  unfold endL
  rw [List.length_append, List.length_singleton]; omega
 split at h
 ·cases h
 rw [List.mem_singleton] at h
 subst h
 have hne := splitP_ne s
 have := split_len10 s _ (List.getLast_mem hne)
 rw [List.getLastD_eq_getLast?, List.getLast?_eq_some_getLast hne]
 show ((splitW 10 s).getLast hne).length ≤ _
 omega
theorem raw_many (s : List UInt8) : (rawL s).length ≤ s.length + 1 := by
 have h1 := split_count 10 s
 have h2 : s.count 10 ≤ s.length := List.count_le_length
 have h0 : 0 < (splitW 10 s).length := by omega
 unfold rawL
 rw [List.length_append, List.length_map, List.length_dropLast]
 split <;> simp only [List.length_nil, List.length_cons] <;> omega
theorem run_ind {J : List (List UInt8) → PlanM → Int → Prop} (h0 : J [] plan0 0) (hs : ∀ m x p t p' t', J m p t → lineT p t x = some (p', t') → J (m ++ [x]) p' t') : ∀ (ls : List (List UInt8)) {p : PlanM} {st : Int}, runG ls = some (p, st) → J ls p st := by
 intro ls
 have key : ∀ n (ls : List (List UInt8)), ls.length = n → ∀ {p : PlanM} {st : Int}, runG ls = some (p, st) → J ls p st := by
  intro n
  induction n with
  | zero =>
   intro l hl p st h
   have := List.eq_nil_of_length_eq_zero hl
   subst this
   injection h with h
   injection h with h1 h2
   subst h1; subst h2
   exact h0
  | succ n ih =>
   intro l hl p st h
   obtain ⟨m, x, rfl⟩ := snoc_of (show l ≠ [] by intro e; rw [e] at hl; cases hl)
   rw [run_snoc] at h
   obtain ⟨⟨p', t'⟩, h1, h2⟩ := Option.bind_eq_some_iff.1 h
   exact hs m x p' t' p st (ih m (by rw [List.length_append, List.length_singleton] at hl; omega) h1) h2
 exact fun {p st} h => key ls.length ls rfl h
theorem line_cases {p p' : PlanM} {t t' : Int} {x : List UInt8} (h : lineT p t x = some (p', t')) : (p'.wh = p.wh ∨ ∃ y, p'.wh = (parseS y).1) ∧ (p'.cols = p.cols ∨ ∃ n y, p'.cols = p.cols ++ [⟨n, (parseS y).1⟩]) ∧ (t' = 1 ∨ t' = 2 ∨ t' = 3) := by
 unfold lineT at h
 split at h
 ·split at h
  ·split at h
   ·injection h with h; injection h with e1 e2; subst e1; subst e2; exact ⟨.inl rfl, .inl rfl, .inl rfl⟩
   obtain ⟨y, hy, h⟩ := Option.map_eq_some_iff.1 h
   unfold stepsO at hy
   split at hy
   ·injection hy with hy
    injection h with e1 e2; subst e1; subst e2; exact ⟨.inr ⟨_, hy.symm⟩, .inl rfl, .inl rfl⟩
   cases hy
  cases h
 split at h
 ·obtain ⟨y, _, h⟩ := Option.map_eq_some_iff.1 h
  injection h with e1 e2; subst e1; subst e2; exact ⟨.inl rfl, .inl rfl, .inr (.inr rfl)⟩
 split at h
 ·obtain ⟨o, ho, h⟩ := Option.map_eq_some_iff.1 h
  unfold outC at ho
  split at ho
  ·obtain ⟨l, hl, ho⟩ := Option.map_eq_some_iff.1 ho
   unfold stepsO at hl
   split at hl
   ·injection hl with hl
    subst hl; subst ho
    injection h with e1 e2; subst e1; subst e2; exact ⟨.inl rfl, .inr ⟨_, _, rfl⟩, .inr (.inl rfl)⟩
   cases hl
  cases ho
 cases h
def AllFit (p : PlanM) : Prop := StepsFit p.wh ∧ ∀ o ∈ p.cols, StepsFit o.steps
theorem run_good (ls : List (List UInt8)) {p : PlanM} {st : Int} (h : runG ls = some (p, st)) : p.cols.length ≤ ls.length ∧ (st = 0 ∨ st = 1 ∨ st = 2 ∨ st = 3) ∧ AllFit p := by
 refine run_ind (J := fun ls p st => p.cols.length ≤ ls.length ∧ (st = 0 ∨ st = 1 ∨ st = 2 ∨ st = 3) ∧ AllFit p) ⟨Nat.le_refl _, .inl rfl, (fun x hx => absurd hx List.not_mem_nil), fun o ho => absurd ho List.not_mem_nil⟩ (fun m x p t p' t' hJ hl => ?_) ls h
 obtain ⟨h1, h2, h3, h4⟩ := hJ
 obtain ⟨c1, c2, c3⟩ := line_cases hl
 rw [List.length_append, List.length_singleton]
 refine ⟨?_, by omega, ?_, fun o ho => ?_⟩
 ·rcases c2 with e | ⟨n, y, e⟩
  ·rw [e]; omega
  rw [e, List.length_append, List.length_singleton]; omega
 ·rcases c1 with e | ⟨y, e⟩
  ·rw [e]; exact h3
  rw [e]; exact parse_fits y
 rcases c2 with e | ⟨n, y, e⟩
 ·rw [e] at ho; exact h4 o ho
 rw [e] at ho
 rcases List.mem_append.1 ho with ho | ho
 ·exact h4 o ho
 rw [List.mem_singleton] at ho
 subst ho
 exact parse_fits y
theorem trim_suf (x : List UInt8) : (∃ l, x = endL l ∧ Lib.trimSuffix x [10] = l ∧ Lib.hasSuffix x [10] = true) ∨ ((∀ l, x ≠ endL l) ∧ Lib.trimSuffix x [10] = x ∧ Lib.hasSuffix x [10] = false) := by
 by_cases h : Lib.hasSuffix x [10] = true
 ·have h' := h
  unfold Lib.hasSuffix at h'
  obtain ⟨l, hl⟩ := List.isSuffixOf_iff_suffix.1 h'
  refine .inl ⟨l, hl.symm, ?_, h⟩
  unfold Lib.trimSuffix
  rw [if_pos h, ← hl]
  simp
 refine .inr ⟨fun l e => h ?_, ?_, by simpa using h⟩
 ·unfold Lib.hasSuffix
  exact List.isSuffixOf_iff_suffix.2 ⟨l, e.symm⟩
 unfold Lib.trimSuffix
 rw [if_neg h]
def plJ (b2 b3 b4 b5 : Nat) (pre : List (List UInt8)) : HP := exH fun z : List (List UInt8) × PlanM × Int => starL [pureH (pre = z.1.map endL ∧ runG z.1 = some (z.2.1, z.2.2)), blk b2 [.slice none 0 0, .slice none 0 0, I 0] 25, blk b3 [I (pre.length : Nat)] 3, blk b4 [I 0] 27, readH b5 z.2.1 z.2.2]
def plL (b2 b3 b4 : Nat) (pre : List (List UInt8)) (x : List UInt8) : HP := starL [pureH (∃ ls p st, pre = ls.map endL ∧ runG ls = some (p, st) ∧ ((∃ l, x = endL l ∧ lineT p st l = none) ∨ ∀ l, x ≠ endL l)), blk b2 [.slice none 0 0, .slice none 0 0, I 0] 25, blk b3 [I (pre.length : Nat)] 3, blk b4 [I 4] 27]
theorem fail_line {s : List UInt8} {ls : List (List UInt8)} {x : List UInt8} {p : PlanM} {st : Int} (hs : s.length ≤ 1048576) (hp : ls.map endL ++ [x] <+: rawL s) (hr : runG ls = some (p, st)) (hx : (∃ l, x = endL l ∧ lineT p st l = none) ∨ ∀ l, x ≠ endL l) : parseP s = (plan0, (((ls.map endL).length : Nat) : Int), 4) := by
 rw [List.length_map]
 rcases raw_prefix hp with ⟨l, rest, e, hf⟩ | ⟨hw, hf, hno⟩
 ·rcases hx with ⟨l', e', hn⟩ | hx
  ·have : l = l' := endL_inj (e.symm.trans e')
   subst this
   exact parse_fail hs hf hr hn
  exact absurd e (hx l)
 unfold fullL at hf
 rw [hw, if_neg (by decide)] at hf
 rw [hf] at hr ⊢
 exact parse_part hs hw hr
section
variable {w : World}
theorem index10_ok (l : List UInt8) : Rets Tryz.prog 89 [str l, .int .u8 10] w fun v w' => v = I (Lib.indexByte l 10) ∧ w = w' :=
 rets_same (Tryz.strings_IndexByte ⟨l.toArray⟩ 10 w)
theorem Lines_ok (s : List UInt8) : Rets Tryz.prog 43 [str s] w fun v w' => ∃ x : Nat, v = .func (.func 88) #[] #[selfP x] ∧ True ∧ Turn noB (blk x [str s] 9) w w' := by
 have H := Sep.start0 w
 refine rets1 Tryz.func43 rfl rfl rfl rfl ?_
 refine Sr (FL_box H (cs := [str s]) rfl (h := fun b1 w2 H2 k1 => ?_))
 refine Am ?_
 refine Nx (Vv (Gives.makeFunc (fs := []) (us := []) (cs := [.tmp 1]) rfl rfl) (Am ?_))
 refine Qn (FW_ret (Qfn_ret (hR := ?_)))
 exact ⟨b1, rfl, trivial, H2.turn⟩
theorem cutSuffix_ok (x : List UInt8) (hl : x.length ≤ 10000000) : Rets Tryz.prog 44 [str x, str [10]] w fun v w' => v = .tuple #[str (Lib.trimSuffix x [10]), .bool (Lib.hasSuffix x [10])] ∧ w = w' :=
 rets_same (Tryz.strings_CutSuffix ⟨x.toArray⟩ ⟨#[10]⟩ w (by rw [Mw.size_mk]; omega))
theorem lines_iter {S : Nat → Prop} {w₀ : World} {J : List (List UInt8) → HP} {L : List (List UInt8) → List UInt8 → HP} {l D : Nat} {ro rj : Obj} {bS : Nat} {s : List UInt8} (hl : s.length ≤ 1048576)
    (HW : Sep w₀ S [obj l ro, obj D (.deferred (some [])), J [], blk bS [str s] 9] w)
    (hy : ∀ (pre : List (List UInt8)) (x : List UInt8) (Fr : List HP) (W : World), pre ++ [x] <+: rawL s → Sep w₀ S (obj l ro :: obj D (.deferred (some [])) :: J pre :: Fr) W → YieldB Tryz.prog l [str x] W fun b W' => if b = true then Sep w₀ S (obj l ro :: obj D (.deferred (some [])) :: J (pre ++ [x]) :: Fr) W' else Sep w₀ S [obj l rj, obj D (.deferred (some [])), L pre x] W') :
    Rets Tryz.prog 88 [.func (.yield l) #[] #[], selfP bS] w fun _ W' => Sep w₀ S [obj l ro, obj D (.deferred (some [])), J (rawL s)] W' ∨ ∃ pre x, pre ++ [x] <+: rawL s ∧ Sep w₀ S [obj l rj, obj D (.deferred (some [])), L pre x] W' := by
  have H := HW
  refine rets2 Tryz.func88 rfl rfl rfl rfl ?_
  refine FW_block (FW_loop' (fun _ : List (List UInt8) × List UInt8 => [(0, .func (.yield l) #[] #[]), (1, selfP bS)]) (fun x w' => (x.1 ++ rawL x.2 = rawL s ∧ x.2.length ≤ s.length) ∧ Sep w₀ S [obj l ro, obj D (.deferred (some [])), J x.1, blk bS [str x.2] 9] w') (fun x _ => x.2.length) ([], s) ⟨rfl, rfl, trivial⟩ ⟨⟨rfl, Nat.le_refl _⟩, H⟩ (fun x τ w2 hI => ?_))
  obtain ⟨pre, t⟩ := x
  obtain ⟨⟨hsp, htl⟩, H2⟩ := hI
  dsimp only at hsp htl H2
  try simp only [upds, like, upd_ds, und_ds]
  refine FW_seq (Sr (Ld H2 ?_))
  refine Vt ?_
  refine Vg ?_
  refine Qn (Cp rfl (fun hc6 => ?_) (fun hc6 => ?_))
  · have hne : t ≠ [] := fun e => by rw [e] at hc6; exact absurd hc6 (by decide)
    refine Sk (FW_block (Sr (Am ?_)))
    refine Qn (FW_seq (Sr (Ld H2 ?_)))
    refine FL_callS (index10_ok t) (h := ?_)
    refine Am ?_
    refine Nx (Mv ?_)
    refine Vv (Gives.geq rfl rfl) (Qn ?_)
    refine Cp rfl (fun hc14 => ?_) (fun hc14 => ?_)
    · obtain ⟨o, ho⟩ : ∃ o : Nat, Lib.indexByte t 10 = o := ⟨(Lib.indexByte t 10).toNat, by have h1 := hc14; omega⟩
      obtain ⟨holt, hot, _⟩ := split10_some ho
      have hrs := rawL_some ho
      have hpre : pre ++ [t.take (o + 1)] <+: rawL s := by
        rw [← hsp, hrs]
        exact ⟨rawL (t.drop (o + 1)), by simp⟩
      rw [ho]
      refine FW_drawS rfl H2 (h := fun hok16 w18 H18 => ?_)
      refine FGload hok16 0 H18 (h := ?_)
      refine Gm hok16 1 ?_
      refine Gp hok16 2 rfl rfl (fun _ => (Gives.addI (c := ((o + 1 : Nat) : Int)) rfl rfl (by show (o : Int) + 1 = _; omega) (by omega))) (Gp hok16 3 rfl rfl (fun _ => (Gives.sliceToT (i := o + 1) rfl rfl (by omega))) ?_)
      refine FGload hok16 4 H18 (h := ?_)
      refine Gm hok16 5 ?_
      refine Gp hok16 6 rfl rfl (fun _ => (Gives.addI (c := ((o + 1 : Nat) : Int)) rfl rfl (by show (o : Int) + 1 = _; omega) (by omega))) (Gp hok16 7 rfl rfl (fun _ => (Gives.sliceFromT (i := o + 1) rfl rfl (by omega))) ?_)
      refine Gp hok16 8 rfl rfl (fun _ => Gives.assign rfl) (FGstore hok16 9 [] H18 (h := fun w27 H27 => ⟨Stab_nil, ?_⟩))
      refine FG_end hok16 (by kernel_rfl) ?_
      refine Qseq_normal (Sr (Mv ?_))
      refine Mv ?_
      refine FL_yieldB rfl (hy pre (t.take (o + 1)) _ _ hpre H27) rfl rfl (fun b8 w31 hyv => ?_)
      refine Vv (Gives.not rfl) (Qn ?_)
      refine Cd rfl (fun hc33 => ?_) (fun hc33 => ?_)
      · have hb : b8 = false := by have h1 := hc33; revert h1; cases b8 <;> simp
        rw [hb, if_neg (by decide)] at hyv
        refine FW_ret (Qblk_ret (Qround_ret (Qblk_ret (Qfn_ret (hR := ?_)))))
        exact .inr ⟨pre, t.take (o + 1), hpre, hyv⟩
      have hb : b8 = true := by have h1 := hc33; revert h1; cases b8 <;> simp
      rw [hb, if_pos rfl] at hyv
      have H37 := hyv
      refine FW_skip (Qblk_normal ?_)
      exact Qround_normal (pre ++ [t.take (o + 1)], t.drop (o + 1)) ⟨rfl, rfl, trivial⟩ ⟨⟨by dsimp only; rw [← hsp, hrs]; simp, by dsimp only; rw [List.length_drop]; omega⟩, H37⟩ (by dsimp only; rw [List.length_drop]; omega)
    have hneg : Lib.indexByte t 10 = -1 := by have h1 := hc14; have h2 := Lib.indexByte_ge t 10; omega
    have hrs := rawL_none hneg hne
    have hpre : pre ++ [t] <+: rawL s := by rw [← hsp, hrs]; exact List.prefix_refl _
    refine FW_region (Ld H2 ?_)
    refine Am ?_
    refine FL_store H2 (h := fun w43 H43 => ?_)
    refine Nx (Mv ?_)
    refine Mv ?_
    refine FL_yieldB rfl (hy pre t _ _ hpre H43) rfl rfl (fun b8 w47 hyv => ?_)
    refine Vv (Gives.not rfl) (Qn ?_)
    refine Cd rfl (fun hc49 => ?_) (fun hc49 => ?_)
    · have hb : b8 = false := by have h1 := hc49; revert h1; cases b8 <;> simp
      rw [hb, if_neg (by decide)] at hyv
      refine FW_ret (Qblk_ret (Qround_ret (Qblk_ret (Qfn_ret (hR := ?_)))))
      exact .inr ⟨pre, t, hpre, hyv⟩
    have hb : b8 = true := by have h1 := hc49; revert h1; cases b8 <;> simp
    rw [hb, if_pos rfl] at hyv
    have H53 := hyv
    refine FW_skip (Qblk_normal ?_)
    exact Qround_normal (pre ++ [t], []) ⟨rfl, rfl, trivial⟩ ⟨⟨by dsimp only; rw [← hsp, hrs, rawL_nil, List.append_nil], by simp⟩, H53⟩ (by have := List.length_pos_iff.2 hne; dsimp only; simpa using this)
  have he : t = [] := List.eq_nil_of_length_eq_zero (by omega)
  subst he
  rw [rawL_nil, List.append_nil] at hsp
  refine FW_exit (Qseq_exit (Qround_exit (Qblk_exit (Qfn_normal (hR := ?_)))))
  exact .inl (by rw [← hsp]; exact H2.firsts (l := [_, _, _]))
end
end Go.Proofs.YtolaedhdjcnijaaGreatDoor
namespace Go.Mw
open Go.RowKit
theorem resACC {P : Program} {T U V : TypeId} {k : Nat} [Agg P T k] [OneCell P U] [OneCell P V] {σ : St} {w : World} {a b c x y z : Nat} {us : List Value} {v u : Value} {E F G : TypeId} (hx : w.heap[x]? = some (.cells us.toArray E (0, 0))) (hy : w.heap[y]? = some (.cells [v].toArray F (0, 0))) (hz : w.heap[z]? = some (.cells [u].toArray G (0, 0)))
    (hk : us.length = k := by exact rfl) (ha : σ a = .pointer (some ⟨x, 0, none⟩) := by exact rfl) (hb : σ b = .pointer (some ⟨y, 0, none⟩) := by exact rfl) (hc : σ c = .pointer (some ⟨z, 0, none⟩) := by exact rfl) : ResAll P σ w [.cell a T, .cell b U, .cell c V] [.agg us.toArray, v, u] :=
  ⟨_, [v, u], ⟨x, 0, none⟩, rfl, ha, loadVar_blkN (k := k) hx (us := us) (by rw [List.drop_zero, ← hk, List.take_length]) hk, v, [u], ⟨y, 0, none⟩, rfl, hb, load_one hy, u, [], ⟨z, 0, none⟩, rfl, hc, load_one hz, rfl⟩
end Go.Mw
namespace Go.Proofs.YtolaedhdjcnijaaGreatDoor
open Go Go.Mw Go.Lib
set_option maxRecDepth 4000
theorem rowIn_none {α : Type} {w : World} {enc : α → List Value} {k : Nat} : RowIn w (.slice none 0 0) enc k [] := ⟨none, 0, rfl, ⟨Nat.le_refl _, by decide⟩, RowAt.nil _ _ _⟩
theorem plan0_in (w : World) : PlanIn w (agg [.slice none 0 0, .slice none 0 0, I 0]) plan0 := ⟨_, _, rfl, rowIn_none, [], rowIn_none, RawOf.nil⟩
section
variable {w w₀ : World} {S : Nat → Prop} {rs : List HP}
theorem Sep_plan0 {F : Nat → Prop} (H : Mw.Sep w₀ F rs w) : Turn F (planH (agg [.slice none 0 0, .slice none 0 0, I 0]) plan0) w₀ w := (Sep.lookNew H plan0_in).first.turn
theorem Sep_readPlan {b : Nat} {p : PlanM} {st : Int} {vw vc : Value} {r : List (List UInt8 × Value)} (H : Mw.Sep w₀ S (blk b [vw, vc, I p.group, I st] 74 :: seeH vw stepCells 3 p.wh :: rowD 53 2 outCells vc r :: rawsH r p.cols :: rs) w) : PlanIn w (agg [vw, vc, I p.group]) p :=
 ⟨vw, vc, rfl, Sep.sees H At1, r, Sep_in H At2, Sep.sees H At3⟩
theorem parsePE_ok (s : List UInt8) (hl : s.length ≤ 900000 ∨ 1048576 < s.length) (hmx : s.length ≤ 1000000000) (hT : TabsX w) : Rets Tryz.prog 15 [str s] w fun v w' => ∃ x, v = .tuple #[x, I (parseP s).2.1, I (parseP s).2.2] ∧ True ∧ Turn noB (planH x (parseP s).1) w w' := by
  have H := Sep.start0 w
  obtain ⟨res, hres⟩ : ∃ res, res = parseP s := ⟨_, rfl⟩
  rw [← hres]
  refine retsD1 Tryz.func15 rfl rfl rfl rfl ?_
  refine Sr (FL_alloc H (h := fun b2 w2 H2 k1 => ?_))
  refine FL_alloc H2 (h := fun b3 w4 H4 k3 => ?_)
  refine FL_alloc H4 (h := fun b4 w6 H6 k5 => ?_)
  refine Qn (FW_seq (Sr (Mv ?_)))
  refine Vt ?_
  refine Vg ?_
  refine Qn (Cp rfl (fun hc10 => ?_) (fun hc10 => ?_))
  · unfold parseP at hres
    rw [if_pos (by omega)] at hres
    refine Sr (Vv (Gives.build (out := [.slice none 0 0, .slice none 0 0, I 0]) Fills.nil) (FL_storeAll H6 (h := fun w14 H14 => ?_)))
    refine FL_store H14 (h := fun w16 H16 => ?_)
    refine FL_store H16 (h := fun w18 H18 => ?_)
    refine Qn (Rs (QfnD_ret (h := ?_)))
    exact ⟨[_, I 0, I 5], resACC (H18.obj At2) (H18.obj At1) (H18.obj At0), _, by rw [hres]; rfl, trivial, by rw [hres]; exact Sep_plan0 H18⟩
  have hle : s.length ≤ 900000 := by omega
  have hsl : s.length ≤ 1048576 := by omega
  refine Sk (Sr (FL_alloc H6 (h := fun b5 w22 H22 k21 => ?_)))
  refine Qn (FW_seq (Sr (Mv ?_)))
  refine FL_call (Lines_ok s) rfl rfl (fun v' w25 hv => ?_)
  obtain ⟨bS, rfl, _, hkk, F1, hq, hsub⟩ := hv
  have H25 := H22.new hkk hq (fun b hb => (hsub b hb).resolve_left id)
  refine Qn (FW_block ?_)
  have hmany := raw_many s
  have HJ : Mw.Sep w noB (plJ b2 b3 b4 b5 [] :: [blk bS [str s] 9]) w25 := by
    have h0 : Mw.Sep w noB (seeH (.slice none 0 0) stepCells 3 [] :: _) w25 := Sep.lookNew H25 fun _ => rowIn_none
    have h1 := ((Sep_rawNil (Sep.nilD h0 53 2 outCells)).front1.front2).front4
    have h2 := ((Sep_readH (p := plan0) h1).front2.front3).front4
    exact Sep.pack0 (p := fun z : List (List UInt8) × PlanM × Int => starL [pureH (([] : List (List UInt8)) = z.1.map endL ∧ runG z.1 = some (z.2.1, z.2.2)), blk b2 [.slice none 0 0, .slice none 0 0, I 0] 25, blk b3 [I (([] : List (List UInt8)).length : Nat)] 3, blk b4 [I 0] 27, readH b5 z.2.1 z.2.2]) ([], plan0, 0) (Sep.bundle (l := [pureH (([] : List (List UInt8)) = ([] : List (List UInt8)).map endL ∧ runG [] = some (plan0, 0)), _, _, _, _]) (Sep.addPure ⟨rfl, rfl⟩ h2))
  refine FW_rangeF (gf := 88) (lb := [selfP bS]) str (rawL s) (plJ b2 b3 b4 b5) (plL b2 b3 b4) _ HJ rfl rfl ?_ ?_ ?_ ?_
  · intro l D ro rb pre x Fr W hpre HW
    have hxm : x ∈ rawL s := hpre.subset (List.mem_append_right pre (List.mem_singleton.2 rfl))
    have hxl := raw_len hxm
    have hpl : pre.length + 1 ≤ s.length + 1 := by have := hpre.length_le; rw [List.length_append, List.length_singleton] at this; omega
    refine FW_region (Am ?_)
    refine FL_nil (Qassign_normal ?_)
    refine ⟨[], HW, fun WB HB => ?_⟩
    have HB2 : Mw.Sep w noB (obj l rb :: obj D (.deferred (some [])) :: plJ b2 b3 b4 b5 pre :: Fr) WB := HB
    replace HB2 := HB2.front2
    unfold plJ at HB2
    obtain ⟨⟨ls, p, st⟩, HB2⟩ := HB2.ex0
    obtain ⟨⟨hpm, hrun⟩, HB3⟩ := (HB2.parts).pure0
    dsimp only at hpm hrun HB3
    obtain ⟨hpc, hst, hfit⟩ := run_good ls hrun
    replace HB := HB3
    refine FW_block (Sr (Mv ?_))
    refine FL_callS (cutSuffix_ok x (by omega)) (h := ?_)
    refine Mv ?_
    refine Vx ?_
    refine Vx ?_
    refine Am ?_
    refine Am ?_
    refine Qn (FW_seq (Sr (Mv ?_)))
    refine Vv (Gives.not rfl) (Mv ?_)
    refine FL_split (t := 25) rfl (fun hs41 => ?_) (fun hs41 => ?_)
    · have hsuf : Lib.hasSuffix x [10] = false := by simpa using hs41
      have hno : ∀ l, x ≠ endL l := by
        rcases trim_suf x with ⟨_, _, _, h⟩ | ⟨h, _⟩
        · rw [hsuf] at h; cases h
        exact h
      have hbad : ∃ ls p st, pre = ls.map endL ∧ runG ls = some (p, st) ∧ ((∃ l, x = endL l ∧ lineT p st l = none) ∨ ∀ l, x ≠ endL l) := ⟨ls, p, st, hpm, hrun, .inr hno⟩
      refine Of (Of (Of (Pt ?_)))
      refine Qn (FW_cond_true rfl ?_)
      refine FW_seq (FW_drawS rfl HB (h := fun hok44 w46 H46 => ?_))
      refine Gp hok44 0 rfl rfl (fun _ => (Gives.build (out := [.slice none 0 0, .slice none 0 0, I 0]) Fills.nil)) (FGload hok44 1 H46 (h := ?_))
      refine FGstoreAll hok44 2 [(1, false)] H46 (h := fun w50 H50 => ⟨Stab_load H50 (h := Stab_nil), ?_⟩)
      refine FGstore hok44 3 [] H50 (h := fun w52 H52 => ⟨Stab_nil, ?_⟩)
      refine FGstore hok44 4 [] H52 (h := fun w54 H54 => ⟨Stab_nil, ?_⟩)
      refine FG_end hok44 (by kernel_rfl) ?_
      refine Qseq_normal (Rs (Qblk_ret (Qleave_ret ?_)))
      exact (Sep.bundle (l := [pureH (∃ ls p st, pre = ls.map endL ∧ runG ls = some (p, st) ∧ ((∃ l, x = endL l ∧ lineT p st l = none) ∨ ∀ l, x ≠ endL l)), _, _, _]) (rs := [_, _]) (Sep.addPure hbad ((H54.front3).drop0.firsts (l := [_, _, _, _, _])))).back2
    have hsuf : Lib.hasSuffix x [10] = true := by simpa using hs41
    obtain ⟨l0, hx0, htrim⟩ : ∃ l0, x = endL l0 ∧ Lib.trimSuffix x [10] = l0 := by
      rcases trim_suf x with ⟨l0, h1, h2, _⟩ | ⟨_, _, h⟩
      · exact ⟨l0, h1, h2⟩
      rw [hsuf] at h; cases h
    have hl0 : l0.length ≤ s.length + 1 := by have h1 := hxl; rw [hx0] at h1; unfold endL at h1; rw [List.length_append, List.length_singleton] at h1; omega
    have hpl2 : ls.length = pre.length := by rw [hpm, List.length_map]
    rw [htrim]
    refine On (Mv ?_)
    refine On ?_
    obtain ⟨F0, hp0, hS0, hput0⟩ := HB.focus At3
    refine FL_call (line_ok l0 hp0 hst (by omega) (by omega) fun w' hk => hT.keep (HB.kept.trans hk hS0)) rfl rfl (fun v' w59 hv => ?_)
    obtain ⟨rfl, hkk, F1, hq, hsub⟩ := hv
    have H59 := hput0 _ F1 _ hkk hq hsub
    refine On (Vv (Gives.not rfl) (Pf ?_))
    refine Qn (Cd rfl (fun hc62 => ?_) (fun hc62 => ?_))
    · have hnone : lineT p st l0 = none := by
        have h1 := hc62
        cases hq : lineT p st l0 with
        | none => rfl
        | some y => rw [hq] at h1; cases h1
      have hbad : ∃ ls p st, pre = ls.map endL ∧ runG ls = some (p, st) ∧ ((∃ l, x = endL l ∧ lineT p st l = none) ∨ ∀ l, x ≠ endL l) := ⟨ls, p, st, hpm, hrun, .inl ⟨l0, hx0, hnone⟩⟩
      refine FW_seq (FW_drawS rfl H59 (h := fun hok64 w66 H66 => ?_))
      refine Gp hok64 0 rfl rfl (fun _ => (Gives.build (out := [.slice none 0 0, .slice none 0 0, I 0]) Fills.nil)) (FGload hok64 1 H66 (h := ?_))
      refine FGstoreAll hok64 2 [(1, false)] H66 (h := fun w70 H70 => ⟨Stab_load H70 (h := Stab_nil), ?_⟩)
      refine FGstore hok64 3 [] H70 (h := fun w72 H72 => ⟨Stab_nil, ?_⟩)
      refine FGstore hok64 4 [] H72 (h := fun w74 H74 => ⟨Stab_nil, ?_⟩)
      refine FG_end hok64 (by kernel_rfl) ?_
      refine Qseq_normal (Rs (Qblk_ret (Qleave_ret ?_)))
      exact (Sep.bundle (l := [pureH (∃ ls p st, pre = ls.map endL ∧ runG ls = some (p, st) ∧ ((∃ l, x = endL l ∧ lineT p st l = none) ∨ ∀ l, x ≠ endL l)), _, _, _]) (rs := [_, _]) (Sep.addPure hbad ((H74.front3).drop0.firsts (l := [_, _, _, _, _])))).back2
    obtain ⟨⟨p', st'⟩, hl1⟩ : ∃ y, lineT p st l0 = some y := by
      have h1 := hc62
      cases hq : lineT p st l0 with
      | none => rw [hq] at h1; cases h1
      | some y => exact ⟨y, rfl⟩
    rw [hl1] at H59
    have hpm2 : pre ++ [x] = (ls ++ [l0]).map endL := by rw [List.map_append, hpm, hx0]; rfl
    have hrun2 : runG (ls ++ [l0]) = some (p', st') := by rw [run_snoc, hrun]; exact hl1
    refine Sk (FW_region (Ld H59 ?_))
    refine Vv (Gives.addI (c := (((pre ++ [x]).length : Nat) : Int)) rfl rfl (by rw [List.length_append, List.length_singleton]; omega) (by rw [List.length_append, List.length_singleton]; omega)) ?_
    refine FL_store H59 (h := fun w80 H80 => ?_)
    refine FL_nil (Qblk_normal (Qleave_normal ?_))
    exact (Sep.pack0 (p := fun z : List (List UInt8) × PlanM × Int => starL [pureH (pre ++ [x] = z.1.map endL ∧ runG z.1 = some (z.2.1, z.2.2)), blk b2 [.slice none 0 0, .slice none 0 0, I 0] 25, blk b3 [I ((pre ++ [x]).length : Nat)] 3, blk b4 [I 0] 27, readH b5 z.2.1 z.2.2]) (ls ++ [l0], p', st') (Sep.bundle (l := [pureH (pre ++ [x] = (ls ++ [l0]).map endL ∧ runG (ls ++ [l0]) = some (p', st')), _, _, _, _]) (Sep.addPure ⟨hpm2, hrun2⟩ H80))).back2
  · intro l D ro rj W HW hy
    exact lines_iter hsl HW hy
  rotate_left 1
  · intro D W pre x hpre HD
    obtain ⟨⟨ls, p, st, hpm, hrun, hbad⟩, HD2⟩ := ((HD.front1).parts).pure0
    subst hpm
    rw [fail_line hsl hpre hrun hbad] at hres
    exact Qblk_ret (Qseq_ret (QfnD_one HD2 At3 (fun w1 H1 => ⟨[_, _, I 4], resACC (H1.obj At0) (H1.obj At1) (H1.obj At2), _, by rw [hres]; rfl, trivial, by rw [hres]; exact Sep_plan0 H1⟩)))
  intro D w83 H83
  have H83 := H83.front1
  unfold plJ at H83
  obtain ⟨⟨ls, p, st⟩, H83⟩ := H83.ex0
  obtain ⟨⟨hpm, hrun⟩, H83⟩ := (H83.parts).pure0
  dsimp only at hpm hrun H83
  obtain ⟨hpc, hst, hfit⟩ := run_good ls hrun
  obtain ⟨hwhole, hls⟩ := raw_all hpm
  have hfin := parse_done hsl hwhole (by rw [hls]; exact hrun)
  rw [← hres, hls] at hfin
  have hlen : (rawL s).length = ls.length := by rw [hpm, List.length_map]
  rw [hlen] at H83
  obtain ⟨vw, vc, r, H83⟩ := Sep_unread (H83.front3)
  obtain ⟨Aw, cw, rfl, _⟩ := (Sep.sees H83 At1 : RowIn _ vw stepCells 3 p.wh)
  obtain ⟨Ac, cc, rfl, hcc, hRc⟩ := Sep.formD H83 At2 --on
  refine Qblk_normal (Qseq_normal (FW_seq (Sr (Vf ?_))))
  refine Ld H83 ?_
  refine Vn ?_
  refine Qn (Cp rfl (fun hc87 => ?_) (fun hc87 => ?_))
  · rw [if_pos hc87] at hfin
    refine FW_seq (FW_drawS rfl H83 (h := fun hok89 w91 H91 => ?_))
    refine Gp hok89 0 rfl rfl (fun _ => (Gives.build (out := [.slice none 0 0, .slice none 0 0, I 0]) Fills.nil)) (FGload hok89 1 H91 (h := ?_))
    refine FGstoreAll hok89 2 [(1, false)] H91 (h := fun w95 H95 => ⟨Stab_load H95 (h := Stab_nil), ?_⟩)
    refine FGstore hok89 3 [] H95 (h := fun w97 H97 => ⟨Stab_nil, ?_⟩)
    refine FGstore hok89 4 [] H97 (h := fun w99 H99 => ⟨Stab_nil, ?_⟩)
    refine FG_end hok89 (by kernel_rfl) ?_
    refine Qseq_normal (Rs (QfnD_one H99 At7 (hR := fun w101 H101 => ?_)))
    exact ⟨[_, _, I 4], resACC (H101.obj At4) (H101.obj At5) (H101.obj At6), _, by rw [hfin]; rfl, trivial, by rw [hfin]; exact Sep_plan0 H101⟩
  rw [if_neg hc87] at hfin
  refine Sk (FW_seq (Sr (Vf ?_)))
  refine FL_loadN H83 (us := [.slice Aw p.wh.length cw, .slice Ac r.length cc, I p.group]) (hu := rfl) (hk := rfl) (h := ?_)
  have hpl := Sep_readPlan H83
  refine FL_callQ H83 (textPE_ok hpl hfit.1 hfit.2 (by omega) (hT.keep H83.kept)) (h := fun w107 H107 k106 => ?_)
  refine Mv ?_
  refine Vx ?_
  refine Vx ?_
  refine Am ?_
  refine Am ?_
  refine Nx (Mv ?_)
  refine Vn ?_
  refine Qn (Cp rfl (fun hc115 => ?_) (fun hc115 => ?_))
  · have hmay : mayP p = false := by
      cases hq : mayP p with
      | false => rfl
      | true => have h1 := hc115; unfold textP at h1; rw [hq, if_neg (by decide)] at h1; exact absurd rfl h1
    have ht2 : (textP p).2 = 2 := by unfold textP; rw [if_pos hmay]
    rw [if_pos hmay] at hfin
    refine Sr (Vv (Gives.build (out := [.slice none 0 0, .slice none 0 0, I 0]) Fills.nil) (Mv ?_))
    refine FL_storeAll H107 (h := fun w120 H120 => ?_)
    refine FL_store H120 (h := fun w122 H122 => ?_)
    refine FL_store H122 (h := fun w124 H124 => ?_)
    refine Qn (Rs (QfnD_one H124 At7 (hR := fun w126 H126 => ?_)))
    exact ⟨[_, I 0, _], resACC (H126.obj At4) (H126.obj At5) (H126.obj At6), _, by rw [hfin, ht2]; rfl, trivial, by rw [hfin]; exact Sep_plan0 H126⟩
  have hmay : mayP p = true := by
    cases hq : mayP p with
    | true => rfl
    | false => have h1 := hc115; unfold textP at h1; rw [if_pos hq] at h1; exact absurd (by decide) h1
  rw [if_neg (by rw [hmay]; decide)] at hfin
  refine Sk (Sr (Vf ?_))
  refine FL_loadN H107 (us := [.slice Aw p.wh.length cw, .slice Ac r.length cc, I p.group]) (hu := rfl) (hk := rfl) (h := ?_)
  refine FL_storeAll H107 (h := fun w132 H132 => ?_)
  refine FL_store H132 (h := fun w134 H134 => ?_)
  refine FL_store H134 (h := fun w136 H136 => ?_)
  refine Qn (FW_ret (QfnD_one H136 At7 (hR := fun w138 H138 => ?_)))
  exact ⟨[_, I 0, I 0], resACC (H138.obj At4) (H138.obj At5) (H138.obj At6), _, by rw [hfin]; rfl, trivial, by rw [hfin]; exact (Sep_plan (g := p.group) H138.drop0).first.turn⟩
end
theorem where_fit {s : List UInt8} {w : List StepM} (h : whereL s = some w) : StepsFit w := by
 unfold whereL at h
 obtain ⟨t, _, h⟩ := Option.bind_eq_some_iff.1 h
 split at h
 ·cases h
 split at h
 ·injection h with h; subst h; exact fun x hx => absurd hx List.not_mem_nil
 split at h
 ·injection h with h; subst h; exact parse_fits t
 cases h
theorem out_fit {s : List UInt8} {o : OutM} (h : outL s = some o) : StepsFit o.steps := by
 unfold outL at h
 obtain ⟨t, _, h⟩ := Option.bind_eq_some_iff.1 h
 obtain ⟨x, _, h⟩ := Option.bind_eq_some_iff.1 h
 split at h
 ·injection h with h; subst h; exact parse_fits _
 cases h
theorem cols_fit : ∀ ls : List (List UInt8), ∀ o ∈ colsL ls, StepsFit o.steps
 | [], o, ho => absurd ho List.not_mem_nil
 | s :: l, o, ho => by
  rw [colsL] at ho
  cases hs : outL s with
  | none => rw [hs] at ho; exact absurd ho List.not_mem_nil
  | some x =>
   rw [hs] at ho
   rcases List.mem_cons.1 ho with rfl | ho
   ·exact out_fit hs
   exact cols_fit l o ho
theorem fit0 : AllFit plan0 ∧ plan0.cols.length ≤ 16 := ⟨⟨fun x hx => absurd hx List.not_mem_nil, fun o ho => absurd ho List.not_mem_nil⟩, by decide⟩
theorem parse_small (s : List UInt8) : AllFit (parseP s).1 ∧ (parseP s).1.cols.length ≤ 16 := by
 unfold parseP
 split
 ·exact fit0
 dsimp only
 obtain ⟨many, hmany⟩ : ∃ m, m = if (linesL s).2 = true then (linesL s).1.length else (linesL s).1.length - 1 := ⟨_, rfl⟩
 rw [← hmany]
 split
 ·exact fit0
 split
 ·exact fit0
 rename_i wv hw
 split
 ·exact fit0
 split
 ·exact fit0
 split
 ·exact fit0
 split
 ·exact fit0
 rename_i hm
 have hm' := (may_parts.1 (eq_true_of_ne_false hm)).1
 exact ⟨⟨where_fit hw, cols_fit _⟩, (named_cols hm').1.2.1⟩
def slash (l : List UInt8) : List UInt8 := l.flatMap fun c => if c = 47 then [10] else [c]
theorem slash_len (l : List UInt8) : (slash l).length = l.length := by
 unfold slash
 induction l with
 | nil => rfl
 | cons c l ih => rw [List.flatMap_cons, List.length_append, ih, List.length_cons]; split <;> simp <;> omega
def back (l : List UInt8) : List UInt8 := l.map fun c => if c = 10 then 47 else c
def slTx : List (List UInt8) := exTx.map back
def slNo : List (List UInt8) := noTx.map fun x => back x.1
theorem sl_ex : slTx.map slash = exTx ∧ slNo.map slash = noTx.map (·.1) := by decide +kernel
theorem ex_parse (i : Nat) {s : List UInt8} {p : PlanM} (hs : slTx[i]? = some s) (hp : exPl[i]? = some p) : parseP (slash s) = (p, 0, 0) := by
 have h1 : (exTx)[i]? = some (slash s) := by rw [← sl_ex.1, List.getElem?_map, hs]; rfl
 rw [← ex_may.2, List.getElem?_map, hp] at h1
 injection h1 with h1
 have hm := List.all_eq_true.1 ex_may.1 p (List.mem_of_getElem? hp)
 have hf : AllFit p := by
  have key : ∀ q ∈ exPl, AllFit q := by
   unfold exPl
   intro q hq
   simp only [List.mem_cons, List.not_mem_nil, or_false] at hq
   rcases hq with rfl | rfl | rfl | rfl | rfl <;>
   ·refine ⟨fun x hx => ?_, fun o ho x hx => ?_⟩
    ·simp at hx
     try (rcases hx with rfl | rfl | rfl)
     all_goals (first | (subst hx; unfold fits; decide) | (unfold fits; decide))
    simp at ho
    first
    | (rcases ho with rfl | rfl <;> simp at hx <;> (first | (subst hx; unfold fits; decide) | (rcases hx with rfl | rfl <;> (unfold fits; decide)) | (rcases hx with rfl | rfl | rfl <;> (unfold fits; decide))))
    | (subst ho; simp at hx; subst hx; unfold fits; decide)
  exact key p (List.mem_of_getElem? hp)
 rw [← h1]
 refine plan_back hm hf.1 hf.2 ?_
 have hl : ∀ q ∈ exPl, (unlines (linesP q)).length ≤ 100 := by decide +kernel
 have := hl p (List.mem_of_getElem? hp)
 omega
theorem no_parse (i : Nat) {s x : List UInt8} {n e : Int} (hs : slNo[i]? = some s) (hx : noTx[i]? = some (x, n, e)) : parseP (slash s) = (plan0, n, e) := by
 have h1 : (noTx.map (·.1))[i]? = some (slash s) := by rw [← sl_ex.2, List.getElem?_map, hs]; rfl
 rw [List.getElem?_map, hx] at h1
 injection h1 with h1
 have := ex_none _ (List.mem_of_getElem? hx)
 rw [← h1]
 exact this
end Go.Proofs.YtolaedhdjcnijaaGreatDoor
namespace Go.Mw
open Go.RowKit
end Go.Mw
namespace Go.Proofs.YtolaedhdjcnijaaGreatDoor
open Go Go.Mw Go.Lib
set_option maxRecDepth 4000
section
variable {w : World}
end
end Go.Proofs.YtolaedhdjcnijaaGreatDoor
namespace Go.Mw
open Go.RowKit
section
variable {P : Program} {r : Option Nat} {n : Nat} {ops : Array Oper} {Q : Post} {rest : List Oper} {σ : St} {w w₀ : World} {S : Nat → Prop} {rs : List HP} {put : HP → List HP} {ty : TypeId} {pos : String} {after : Array Edge} {lv : List Bool} {pd : List (Nat × Bool)} {guard : Option (Nat × Bool)}
theorem step_callN (hok : okOps n ops = true) (e : Nat) (pd' : List (Nat × Bool)) {d : Nat} {f : FuncId} {xs : List Operand} {ats : Array TypeId} {vals : List Value} {α : Type} {val : α → Value} {φ : α → Prop} {q : α → HP} [he : Enters P f] (H : Sep w₀ S rs w)
    (hc : Rets P f vals w fun v w' => ∃ x, v = val x ∧ φ x ∧ Turn noB (q x) w w')
    (ho : ops[e]? = some { dst := some d, op := .call { callee := .value (.func f), args := xs.toArray, argTypes := ats }, type := ty, pos := pos, after := after, guard := guard } := by exact rfl)
    (hw : Region.wanted { dst := some d, op := .call { callee := .value (.func f), args := xs.toArray, argTypes := ats }, type := ty, pos := pos, after := after, guard := guard } (yieldF ops σ) = true := by kernel_rfl) (hv : xs.map (evF σ) = vals := by exact rfl) (hck : effectIn ops lv (pd.map (·.1)) e = true := by kernel_rfl)
    (hpd : pd.filter (fun p => !((above ops e).contains p.1)) = pd' := by kernel_rfl) (h : ∀ x w', φ x → Sep w₀ S (q x :: rs) w' → Kept noB w w' → Stab P ops (upd σ d (val x)) w' pd' ∧ FG P r n ops Q (lv.set e true) pd' (upd σ d (val x)) w') : EffStep P r n ops Q lv pd σ w e := by
  refine step_call hok e pd' ho hw hc hv hck hpd fun v' w' ⟨x, h1, hφ, hk, F', hq, hs⟩ => ?_
  subst h1
  exact h x w' hφ (H.new hk hq fun b hb => (hs b hb).resolve_left id) hk
end
end Go.Mw
