/-
 Structs are written into rows that are owned; the law ExprUnused, walked.
-/
import Derived.Test.YtmkaahkbhdlniaaGreatDoorUn24
import Derived.Test.YtmkaahkbhdlniaaGreatDoorUn6
import Derived.ProofKit
import Derived.Carry
import Derived.ChangeSame
import Derived.Deep.Slices
import Derived.Deep.Fields
import Derived.Test.YtmkaahkbhdlniaaGreatDoorUn17
import Derived.Test.YtmkaahkbhdlniaaGreatDoorRows
import Derived.PinnedBridge
import Derived.Lib.LaidU8
import Derived.Stop.LaidErr
import Derived.Deep.DeepHandedRow
import Derived.Lay
import Derived.MakeChecks
import Derived.Test.YtmkaahkbhdlniaaGreatDoorUn16
import Derived.ChangeMaps5
import Derived.Test.YtmkaahkbhdlniaaGreatDoorUn23
import Derived.OpenShut
import Derived.JoinedOf
set_option linter.unusedVariables false
set_option linter.unusedSimpArgs false
namespace Go.Mw
open Go.RowKit
section
variable {P : Program} {r : Option Nat} {n : Nat} {ops : Array Oper} {Q : Post} {rest : List Oper} {σ : St} {w w₀ : World} {S : Nat → Prop} {rs : List HP} {put : HP → List HP} {ty : TypeId} {pos : String} {after : Array Edge} {lv : List Bool} {pd : List (Nat × Bool)} {guard : Option (Nat × Bool)}
variable {α : Type} {enc : α → List Value} {k e c : Nat} {l : List α} {A : Option Addr}
theorem flat_setN (hk : ∀ x, (enc x).length = k) (a' : α) : ∀ {l : List α} {i : Nat}, i < l.length → (l.flatMap enc).take (i * k) ++ enc a' ++ (l.flatMap enc).drop (i * k + k) = (l.set i a').flatMap enc
 | [], _, h => absurd h (by simp)
 | x :: l, 0, _ => by
  rw [Nat.zero_mul, List.take_zero, List.nil_append, Nat.zero_add, List.set_cons_zero, List.flatMap_cons, List.flatMap_cons, List.drop_left' (hk x)]
 | x :: l, i + 1, h => by
  have ih := flat_setN hk a' (l := l) (i := i) (by simpa using h)
  have hx := hk x
  rw [List.set_cons_succ, List.flatMap_cons, List.flatMap_cons, List.take_append, List.take_of_length_le (by rw [hx, Nat.succ_mul]; omega), List.drop_append, List.drop_of_length_le (by rw [hx, Nat.succ_mul]; omega), hx, show (i + 1) * k - k = i * k by rw [Nat.succ_mul]; omega, show (i + 1) * k + k - k = i * k + k by rw [Nat.succ_mul]; omega, List.nil_append, List.append_assoc, List.append_assoc, ← List.append_assoc ((l.flatMap enc).take (i * k)), ih]
theorem acts_storeDN {ρ : Operand → Value} {x y : Operand} {T : TypeId} [h1 : Agg P T k] [hk : EncK enc k] {i : Nat} (a' : α) {m : Nat} (hm : m = l.length) (H : Sep w₀ S rs w) (hat : At rs (rowD e k enc (.slice A m c) l) put) (hi : i < l.length) (hx : ρ x = adr A (i * k)) (hy : ρ y = .agg (enc a').toArray) (hv : (enc a').all Value.oneCell' = true) :
    ∃ w', Acts P ρ (.store T x y) ty w w' ∧ Sep w₀ S (put (rowD e k enc (.slice A m c) (l.set i a'))) w' := by
  subst hm
  obtain ⟨F, hp, hS, hput⟩ := H.focus hat
  have H0 := Sep.start1 hp
  obtain ⟨g, c', rest, hvv, hlen, hxl, hle, hmx, H1⟩ := H0.rowOpen At0 (by omega)
  injection hvv with hA _ hc
  subst hA; subst hc
  have hb := H1.obj At0
  have hfl := flat_len hk.len l
  have hu : (enc a').length = k := hk.len a'
  have hle2 : (i + 1) * k ≤ l.length * k := Nat.mul_le_mul_right k hi
  rw [Nat.succ_mul] at hle2
  have hst := run_storeCells_at P g (i * k) e (enc a') 0 (l.flatMap enc ++ rest).toArray w hb (by simp only [List.size_toArray, List.length_append, hfl, hu]; omega) (fun u hu => List.all_eq_true.1 hv u hu)
  have hs : (l.flatMap enc ++ rest).take (i * k) ++ enc a' ++ (l.flatMap enc ++ rest).drop (i * k + (enc a').length) = (l.set i a').flatMap enc ++ rest := by
    rw [hu, List.take_append_of_le_length (by rw [hfl]; omega), List.drop_append_of_le_length (by rw [hfl]; omega), ← flat_setN hk.len a' hi]
    simp only [List.append_assoc]
  have hkk : Kept (fun z => z = g) w (w.setRow g ((l.set i a').flatMap enc ++ rest).toArray) := ⟨rfl, rfl, rfl, by simp, fun j hj hS => by simp only [World.setRow, Array.getElem?_modify]; rw [if_neg (fun e => hS e.symm)]⟩
  have ho' : (w.setRow g ((l.set i a').flatMap enc ++ rest).toArray).heap[g]? = some (.cells ((l.set i a').flatMap enc ++ rest).toArray e (0, 0)) := by
    simp only [World.setRow, Array.getElem?_modify, if_true, hb, Option.map_some]
  have H3 : Sep w F [blk g ((l.set i a').flatMap enc ++ rest) e] _ := H1.setObj (At0 (p := blk g (l.flatMap enc ++ rest) e) (l := [])) hkk ho'
  have hfl2 := flat_len hk.len (l.set i a')
  rw [List.length_set] at hfl2
  have H4 := H3.rowShut (n := l.length) (c := c) At0 (by rw [List.length_append, hfl2]; rw [List.length_append, hfl] at hlen; exact hlen) hfl2 hle hmx
  refine ⟨w.setRow g ((l.set i a').flatMap enc ++ rest).toArray, fun _ _ _ _ => ?_, ?_⟩
  · have hx' : ρ x = .pointer (some ⟨g, i * k, none⟩) := by rw [hx]; show Value.pointer (some (Addr.add ⟨g, 0, none⟩ (i * k))) = _; rw [Addr.add_lit, Nat.zero_add]
    have hst2 := hst
    simp only [Nat.add_zero] at hst2
    rw [hs] at hst2
    simp [execOp, hx', hy, Instr.storeAt, Instr.sureAddr, storeVar, h1.size, Value.cells, hu]
    rw [hst2]
    simp
  · obtain ⟨h5, F5, h6, h7⟩ := H4
    refine hput _ F5 _ h5 ?_ fun b hb => h7 b hb
    have h8 := starL_one.1 h6
    show (rowH e k (.slice (some ⟨g, 0, none⟩) l.length c) (l.set i a').length ((l.set i a').flatMap enc)).ok F5 _
    rw [List.length_set]
    exact h8
theorem FGstoreDN (hok : okOps n ops = true) (o : Nat) (pd' : List (Nat × Bool)) {x y : Operand} {T : TypeId} [h1 : Agg P T k] [hk : EncK enc k] {i : Nat} (a' : α) {m : Nat} (hm : m = l.length) (H : Sep w₀ S rs w) (hat : At rs (rowD e k enc (.slice A m c) l) put) (hi : i < l.length) (hv : (enc a').all Value.oneCell' = true)
    (ho : ops[o]? = some { dst := none, op := .store T x y, type := ty, pos := pos, after := after, guard := guard } := by exact rfl)
    (hw : Region.wanted { dst := none, op := .store T x y, type := ty, pos := pos, after := after, guard := guard } (yieldF ops σ) = true := by kernel_rfl) (hx : evF σ x = adr A (i * k) := by exact rfl) (hy : evF σ y = .agg (enc a').toArray := by exact rfl)
    (hck : effectOk ops lv (pd.map (·.1)) o = true := by kernel_rfl) (hpd : pd.filter (fun p => !((above ops o).contains p.1)) = pd' := by kernel_rfl)
    (h : ∀ w', Sep w₀ S (put (rowD e k enc (.slice A m c) (l.set i a'))) w' → Stab P ops σ w' pd' ∧ FG P r n ops Q (lv.set o true) pd' σ w') : FG P r n ops Q lv pd σ w :=
  FGact hok o pd' ho hw (acts_storeDN a' hm H hat hi hx hy hv) hck hpd h
end
end Go.Mw
namespace Go.Proofs.YtmkaahkbhdlniaaGreatDoor
open Go Go.Mw Go.Lib
set_option maxRecDepth 4000
theorem run_find {cols : List ColM} : ∀ {l : List StepM} {st st' : List TypeM}, runT cols st l = some st' → ∀ x ∈ l, x.kind = 1 → ∃ i, findC cols x.n = some i
 | [], _, _, _, _, hx => absurd hx List.not_mem_nil
 | y :: l, st, st', h, x, hx => by
  rw [runT] at h
  obtain ⟨s1, e1, h⟩ := Option.bind_eq_some_iff.1 h
  intro hk
  rcases List.mem_cons.1 hx with rfl | hx
  ·exact step_find e1 hk
  ·exact run_find h x hx hk
theorem find_cols {b : Bool} {n : Int} {i : Nat} (h : findC (colsS b) n = some i) : i < 10 ∧ n = i + 1 := by
 unfold findC at h
 obtain ⟨hlt0, hp, _⟩ := List.findIdx?_eq_some_iff_getElem.1 h
 have hlt : i < 10 := by rw [colsS_len] at hlt0; exact hlt0
 have he : (colsS b)[i]? = some (colAt b i) := by unfold colsS; rw [List.getElem?_map, List.getElem?_range hlt]; rfl
 have hp := of_decide_eq_true hp
 rw [(List.getElem_eq_iff hlt0).2 he] at hp
 exact ⟨hlt, by rw [← hp]; show ((i + 1 : Nat) : Int) = i + 1; omega⟩
theorem uses_in {k : Int} {n : Bool} {l : List StepM} (h : GoodE k n l) (b : Bool) {u : Int} (hu : u ∈ usesS l) : ∃ q : Nat, u = q + 1 ∧ q < 10 ∧ findC (colsS b) u = some q := by
 obtain ⟨x, hx, hk, rfl⟩ := usesS_mem.1 hu
 obtain ⟨i, hi⟩ := run_find (h.run b []) x hx hk
 obtain ⟨h1, h2⟩ := find_cols hi
 exact ⟨i, h2, h1, hi⟩
theorem unused_same {k : Int} {n b : Bool} {l : List StepM} {r r' : List CellM} (h : GoodE k n l) (hl : l.length ≤ 64) (hr : RowS r) (hr' : RowS r') (hs : ∀ q : Nat, ((q : Int) + 1) ∈ usesS l → r'[q]? = r[q]?) : evalS (colsS b) l r' = evalS (colsS b) l r := by
 have e : gotE b r' l = gotE b r l := by
  unfold gotE
  rw [runE_same l [] fun x hx hk => ?_]
  have hm : x.n ∈ usesS l := usesS_mem.2 ⟨x, hx, hk, rfl⟩
  obtain ⟨q, hq, _, hf⟩ := uses_in h b hm
  rw [hf, Option.getD_some, List.getD_eq_getElem?_getD, List.getD_eq_getElem?_getD, hs q (by rw [← hq]; exact hm)]
 rw [evalS_good h hl hr', evalS_good h hl hr, e]
theorem RowTo.set {m i : Nat} {r : List CellM} {c : CellM} (h : RowTo m r) (hc : fits c.n ∧ ∀ b, okC (colAt b i).type c) : RowTo m (r.set i c) := by
 refine ⟨by rw [List.length_set]; exact h.len, fun y hy => ?_, fun b j d hd => ?_⟩
 ·rcases List.mem_or_eq_of_mem_set hy with h1 | h1
  ·exact h.fit y h1
  ·rw [h1]; exact hc.1
 ·by_cases hj : i = j
  ·subst hj
   rw [List.getElem?_set_self' ] at hd
   cases hg : r[i]? with
   | none => rw [hg] at hd; cases hd
   | some z => rw [hg] at hd; simp at hd; rw [← hd]; exact hc.2 b
  ·rw [List.getElem?_set_ne hj] at hd; exact h.ok b j d hd
theorem rowS_get (l : List Int) {i : Nat} (h : i < 10) : (rowS l)[i]? = some (cellAt l i) := by unfold rowS; rw [List.getElem?_map, List.getElem?_range h]; rfl
theorem rowS_len (l : List Int) : (rowS l).length = 10 := by unfold rowS; rw [List.length_map, List.length_range]
section
variable {w : World}
theorem exprUnused_ok {vn vr vs : Value} {ns rn sn : List Int} (hn : RowIn w vn intCells 1 ns) (hr : RowIn w vr intCells 1 rn) (hrf : ∀ x ∈ rn, fits x) (hs : RowIn w vs intCells 1 sn) (hsf : ∀ x ∈ sn, fits x) (hT : TabsX w) :
    Rets Tryz.prog 6 [agg [vn], vr, vs] w fun v w' => v = .bool true ∧ Kept noB w w' := by
  have H := Sep.start0 w
  have hra := rowS_ok hrf
  have hrb := rowS_ok hsf
  have hr0 := hr
  obtain ⟨Ar, cr, rfl, _, _⟩ := hr0
  refine rets3 Tryz.func6 rfl rfl rfl rfl ?_
  refine Sr ?_
  refine FL_box H (cs := [vn]) rfl (h := ?_)
  intro b0 w2 H2 k1
  refine Am ?_
  refine Nx ?_
  refine FL_loadAll H2 (h := ?_)
  refine Mv ?_
  refine Vs ?_
  refine FL_callN H2 (drawn_ok (k := ((rn.length : Nat) : Int)) (hn.keep H2.kept)) (h := fun x w8 hx H8 k7 => ?_)
  obtain ⟨vl, l⟩ := x
  obtain ⟨⟨nn, hg⟩, _, hlen⟩ := hx
  dsimp only at hg hlen H8 ⊢
  have hl64 : l.length ≤ 64 := by have : (2 : Nat) ^ (5 - 0) = 32 := rfl; omega
  have hlf := eval_fits hg
  obtain ⟨B1, c1, rfl, hc1, hB1⟩ := Sep.formD H8 At0
  obtain ⟨kk, hkk⟩ : ∃ kk, kk = kindOf ((rn.length : Nat) : Int) := ⟨_, rfl⟩
  rw [← hkk] at hg ⊢
  refine Mv ?_
  refine Vx ?_
  refine Vx ?_
  refine Am ?_
  refine Am ?_
  refine Nx ?_
  refine Mv ?_
  refine FL_callN H8 (rowOf_ok (hr.keep H8.kept) hrf) (h := fun x2 w16 _ H16 k15 => ?_)
  obtain ⟨B2, c2, rfl, hc2, hB2⟩ := Sep.formD H16 At0
  refine Mv ?_
  refine FL_callN H16 (rowOf_ok (hs.keep H16.kept) hsf) (h := fun x3 w19 _ H19 k18 => ?_)
  obtain ⟨B3, c3, rfl, hc3, hB3⟩ := Sep.formD H19 At0
  refine Am ?_
  refine Am ?_
  refine Nx ?_
  refine Mv ?_
  refine FL_callN H19 (usesE_ok (rowIn_own H19 At2 hc1) (by omega)) (h := fun x4 w24 _ H24 k23 => ?_)
  obtain ⟨B4, c4, rfl, hc4, hB4⟩ := Sep.formD H24 At0
  have hcapU := Sep.capD H24 At0
  refine Am ?_
  refine Qn ?_
  refine FW_seq ?_
  refine Sr ?_
  refine Am ?_
  refine Qn ?_
  refine FW_block ?_
  refine FW_loop' (fun x : Nat × List CellM => [(6, .bool false), (7, .slice B1 l.length c1), (9, .slice B2 (rowS rn).length c2), (10, .slice B3 (rowS sn).length c3), (11, .slice B4 (usesS l).length c4), (12, I x.1)]) (fun x w' => (x.1 ≤ (usesS l).length ∧ RowS x.2 ∧ ∀ j q : Nat, j < x.1 → (usesS l)[j]? = some ((q : Int) + 1) → x.2[q]? = (rowS rn)[q]?) ∧ Sep w noB [rowD 3 1 intCells (.slice B4 (usesS l).length c4) (usesS l), rowD 34 3 cellCells (.slice B3 (rowS sn).length c3) x.2, rowD 34 3 cellCells (.slice B2 (rowS rn).length c2) (rowS rn), rowD 57 3 stepCells (.slice B1 l.length c1) l] w') (fun x _ => (usesS l).length - x.1) (0, rowS sn) ⟨rfl, rfl, rfl, rfl, rfl, rfl, trivial⟩ ⟨⟨Nat.zero_le _, hrb, fun j q h => by omega⟩, H24.firsts (l := [_, _, _, _])⟩ (fun x τ w28 hI => ?_)
  obtain ⟨i, bc⟩ := x
  obtain ⟨⟨hi, hbc, hsame⟩, H28⟩ := hI
  dsimp only at hi hbc hsame H28
  have hbl : (rowS sn).length = bc.length := by rw [rowS_len, hbc.len]
  try simp only [upds, like, upd_ds, und_ds]
  refine FW_seq ?_
  refine Sr ?_
  refine Mv ?_
  refine Mv ?_
  refine Vs ?_
  refine Vl ?_
  refine Qn ?_
  refine FW_condP rfl (fun hc33 => ?_) (fun hc33 => ?_)
  · have hlt : i < (usesS l).length := by omega
    obtain ⟨u, hu⟩ := get_some hlt
    obtain ⟨q, rfl, hq10, _⟩ := uses_in hg false (List.mem_of_getElem? hu)
    have hU : Rd w28 B4 intCells 1 (usesS l) := Sep_rdD H28 At0
    have hA : Rd w28 B2 cellCells 3 (rowS rn) := Sep_rdD H28 At2
    have hB : Rd w28 B3 cellCells 3 bc := Sep_rdN hbl H28 At1
    have hca := rowS_get rn hq10
    refine Sk ?_
    refine FW_seq ?_
    refine FW_block ?_
    refine FW_seq ?_
    refine Sr ?_
    refine Mv ?_
    refine Mv ?_
    refine FL_val (Gives.idxR (l := usesS l) (enc := intCells) rfl rfl hU hlt) rfl ?_
    refine FL_val (Gives.loadW (f := 0) rfl hU hu rfl) rfl ?_
    refine Vl ?_
    refine Mv ?_
    refine FL_splitP (t := 41) rfl (fun hs41 => ?_) (fun hs41 => ?_)
    · omega
    · refine On ?_
      refine Mv ?_
      refine On ?_
      refine Mv ?_
      refine On ?_
      refine FL_val (Gives.idxR (l := usesS l) (enc := intCells) rfl rfl hU hlt) rfl ?_
      refine On ?_
      refine FL_val (Gives.loadW (f := 0) rfl hU hu rfl) rfl ?_
      refine On ?_
      refine Vg ?_
      refine Pf ?_
      refine Qn ?_
      refine FW_condP rfl (fun hc49 => ?_) (fun hc49 => ?_)
      · omega
      · refine Sk ?_
        refine FW_drawS rfl H28 (h := fun hok51 w53 H53 => ?_)
        refine FGmove hok51 0 (h := ?_)
        refine FGmove hok51 1 (h := ?_)
        refine FGmove hok51 2 (h := ?_)
        refine FGp hok51 3 rfl rfl (fun _ => Gives.idxR (l := usesS l) (enc := intCells) rfl rfl hU hlt) (by kernel_rfl) ?_
        refine FGl hok51 4 rfl rfl (Gives.loadW (f := 0) rfl (Sep_rdD H53 At0) hu rfl) (by kernel_rfl) ?_
        refine FGp hok51 5 rfl rfl (fun _ => Gives.subI (c := (q : Int)) rfl rfl (by omega) (by omega)) (by kernel_rfl) ?_
        refine FGmove hok51 6 (h := ?_)
        refine FGmove hok51 7 (h := ?_)
        refine FGmove hok51 8 (h := ?_)
        refine FGp hok51 9 rfl rfl (fun _ => Gives.idxR (l := usesS l) (enc := intCells) rfl rfl hU hlt) (by kernel_rfl) ?_
        refine FGl hok51 10 rfl rfl (Gives.loadW (f := 0) rfl (Sep_rdD H53 At0) hu rfl) (by kernel_rfl) ?_
        refine FGp hok51 11 rfl rfl (fun _ => Gives.subI (c := (q : Int)) rfl rfl (by omega) (by omega)) (by kernel_rfl) ?_
        refine FGp hok51 12 rfl rfl (fun _ => Gives.idxR (l := rowS rn) (enc := cellCells) rfl rfl hA (by rw [rowS_len]; exact hq10)) (by kernel_rfl) ?_
        refine FGl hok51 13 rfl rfl (Gives.loadW0 rfl (Sep_rdD H53 At2) hca) (by kernel_rfl) ?_
        refine FGp hok51 14 rfl rfl (fun _ => Gives.idxN (l := bc) hbl rfl rfl hB (by rw [hbc.len]; exact hq10)) (by kernel_rfl) ?_
        refine FGstoreDN hok51 15 [] (cellAt rn q) hbl H53 At1 (i := q) (by rw [hbc.len]; exact hq10) rfl (h := fun w64 H64 => ⟨Stab_nil, ?_⟩)
        refine FG_end hok51 (by kernel_rfl) ?_
        refine Qblk_normal (Qseq_normal ?_)
        refine FW_region ?_
        refine Mv ?_
        refine FL_val (Gives.addI (c := ((i + 1 : Nat) : Int)) rfl rfl (by omega) (by omega)) rfl ?_
        refine Am ?_
        refine FL_nil ?_
        refine Qround_normal (i + 1, bc.set q (cellAt rn q)) ⟨rfl, rfl, rfl, rfl, rfl, rfl, trivial⟩ ⟨⟨by dsimp only; omega, hbc.set (cellAt_ok hrf (by omega)), fun j p hj hp => ?_⟩, H64⟩ (by dsimp only; omega)
        dsimp only at hj ⊢
        by_cases hqp : q = p
        · subst hqp; rw [List.getElem?_set_self (by rw [hbc.len]; exact hq10), hca]
        · rw [List.getElem?_set_ne hqp]
          refine hsame j p ?_ hp
          rcases Nat.lt_or_ge j i with h | h
          · exact h
          · have : j = i := by omega
            subst this
            rw [hu] at hp
            injection hp with hp
            omega
  · have hev : evalS (colsS false) l bc = evalS (colsS false) l (rowS rn) := unused_same hg hl64 hra hbc fun q hq => by
      obtain ⟨j, hj⟩ := List.mem_iff_getElem?.1 hq
      have := get_lt hj
      exact hsame j q (by omega) hj
    refine FW_exit (Qseq_exit (Qround_exit (Qblk_exit (Qseq_normal ?_))))
    refine Sr ?_
    refine FL_callN H28 (columns_ok false) (h := fun x5 w71 _ H71 k70 => ?_)
    obtain ⟨B5, c5, rfl, hc5, hB5⟩ := Sep.formD H71 At0
    refine Mv ?_
    refine Mv ?_
    refine FL_callQ H71 (evalE_ok (rowIn_own H71 At0 hc5) (rowIn_own H71 At4 hc1) (rowIn_own H71 At3 hc2) hra.fit hlf (hT.keep H71.kept).utf) (h := fun w75 H75 k74 => ?_)
    obtain ⟨cx, ex, hev1, _⟩ := eval_cases false hg hl64 hra
    rw [hev1] at hev ⊢
    dsimp only
    have H75 := H75.drop0
    refine Mv ?_
    refine Vx ?_
    refine Vx ?_
    refine FL_alloc H75 (h := ?_)
    intro b79 w80 H80 k79
    refine FL_storeAll H80 (h := ?_)
    intro w82 H82
    refine Am ?_
    refine Nx ?_
    refine FL_callN H82 (columns_ok false) (h := fun x6 w85 _ H85 k84 => ?_)
    obtain ⟨B6, c6, rfl, hc6, hB6⟩ := Sep.formD H85 At0
    refine Mv ?_
    refine Mv ?_
    have hrow : RowIn w85 (.slice B3 (rowS sn).length c3) cellCells 3 bc := by
      rw [hbl] at hc3 H85 ⊢
      exact rowIn_own H85 At3 hc3
    refine FL_callQ H85 (evalE_ok (rowIn_own H85 At0 hc6) (rowIn_own H85 At5 hc1) hrow hbc.fit hlf (hT.keep H85.kept).utf) (h := fun w89 H89 k88 => ?_)
    rw [hev]
    dsimp only
    refine Mv ?_
    refine Vx ?_
    refine Vx ?_
    refine FL_alloc H89 (h := ?_)
    intro b93 w94 H94 k93
    refine FL_storeAll H94 (h := ?_)
    intro w96 H96
    refine Am ?_
    refine Nx ?_
    refine FL_loadAll H96 (h := ?_)
    refine FL_loadAll H96 (h := ?_)
    refine FL_val (Gives.eqlG (enc := cellCells) _ _ rfl rfl) rfl ?_
    refine Mv ?_
    refine FL_splitP (t := 80) rfl (fun hs102 => ?_) (fun hs102 => ?_)
    · refine On ?_
      refine Mv ?_
      refine On ?_
      refine Mv ?_
      refine On ?_
      refine Ve ?_
      refine Pt ?_
      refine Mv ?_
      refine FL_splitP (t := 85) rfl (fun hs108 => ?_) (fun hs108 => ?_)
      · refine On ?_
        refine FL_callQ H96 (works_ok (hT.keep H96.kept)) (h := fun w110 H110 k109 => ?_)
        refine Pt ?_
        refine Am ?_
        refine Qn ?_
        refine FW_ret (Qfn_ret (hR := ?_))
        exact ⟨rfl, H110.kept⟩
      · exact (hs108 trivial).elim
    · exact (hs102 trivial).elim
end
end Go.Proofs.YtmkaahkbhdlniaaGreatDoor
/-
 From a contract to a row: arguments read as rows; what a law's row asks behind the call. Nothing of a given program stands here.
-/
namespace Go.Mw
open Go.RowKit Go.ChangeShapes Go.WideShapes Go.Deep

section
variable {H : Type} {enc : TypeId × Value → H} {P : Program}
theorem trodAll_stays (hl : laidOutB P = true) {W W' : World} (hk : Kept noB W W') {sp : Nat → Bool} : ∀ {ts : List TypeId} {vs : List Value} {ds : List (DataW H)} {ps : List MemPlace}, (∀ t ∈ ts, P.readableRec t = true ∧ t < P.types.size) →
    DataW.TrodAll enc P W 0 (fun _ => true) true ts vs ds ps → (∀ x ∈ ps, x.block < W.heap.size) → (∀ x ∈ ps, sp x.block = true) → DataW.TrodAll enc P W' 0 sp true ts vs ds ps
  | [], [], [], _, _, h, _, _ => h
  | t :: ts, v :: vs, d :: ds, ps, ht, ⟨p, q, h1, h2, e⟩, hlt, hsp => by
    subst e
    exact ⟨p, q, WideElems.Trod_stays hl (ht t List.mem_cons_self).1 (ht t List.mem_cons_self).2 h1 (fun x hx => hk.below.same (hlt x (List.mem_append_left _ hx))) (fun x hx => hsp x (List.mem_append_left _ hx)),
      trodAll_stays hl hk (fun u hu => ht u (List.mem_cons_of_mem _ hu)) h2 (fun x hx => hlt x (List.mem_append_right _ hx)) (fun x hx => hsp x (List.mem_append_right _ hx)), rfl⟩
  | [], [], _ :: _, _, _, h, _, _ => h.elim
  | [], _ :: _, _, _, _, h, _, _ => by cases ‹List (DataW H)› <;> exact h.elim
  | _ :: _, [], _, _, _, h, _, _ => h.elim
  | _ :: _, _ :: _, [], _, _, h, _, _ => h.elim
/-- What a row asks, where nothing that was there has turned and the answer is true. -/
theorem post_law {f : Func} {s : ChangeSpec} {apart fresh handsOn again : Bool} {W W' : World} {args : Array Value} {t : TypeId} {ds gs : List (DataW H)} {before : List MemPlace} (hl : laidOutB P = true)
    (hW : DataW.Whole enc P f.params.toList s.vars apart W args.toList ds gs before) (hvars : s.vars = []) (hr : f.resultTypes = #[t]) (hb : P.underlying t = some .bool) (hp0 : (f.params.toList.all fun t => P.readableRec t && decide (t < P.types.size)) = true)
    (hs : s.fn H (ds ++ gs) = { results := [.lit (.bool true)], args := ds }) (hk : Kept noB W W') (hok : Value.okWide P W' .any 0 t (.bool true)) : s.post enc P f apart fresh handsOn again W args (.bool true) W' := by
  have hp : ∀ t ∈ f.params.toList, P.readableRec t = true ∧ t < P.types.size := fun t ht => by
    have := List.all_eq_true.1 hp0 t ht
    simpa using this
  have hW' := hW
  obtain ⟨pa, pv, hA, hV, rfl, hz, hn⟩ := hW
  have hnil : gs = [] ∧ pv = [] := by
    rw [hvars] at hV
    exact trodVars_none hV
  obtain ⟨rfl, rfl⟩ := hnil
  have hlt : ∀ p ∈ pa, p.block < W.heap.size := fun p hp => hW'.lt p (List.mem_append_left _ hp)
  have hres : ∀ (b : Nat) (sp : Nat → Bool) (hd : Bool), DataW.TrodAll enc P W' b sp hd f.resultTypes.toList ((Value.bool true).resultList f.resultTypes.size) (s.fn H (ds ++ [])).results [] := by
    intro b sp hd
    rw [hs, hr]
    exact trodAll_mk1 (shut_bool hb true)
  have hargs : ∀ sp : Nat → Bool, (∀ p ∈ pa, sp p.block = true) → DataW.TrodAll enc P W' 0 sp true f.params.toList args.toList (s.fn H (ds ++ [])).args pa := by
    intro sp hsp
    rw [hs]
    exact trodAll_stays hl hk hp hA hlt hsp
  have hvs : ∀ sp : Nat → Bool, DataW.TrodVars enc P W' sp s.vars (s.fn H (ds ++ [])).vars [] := by
    intro sp
    rw [hvars, hs]
    exact rfl
  refine ⟨ds, [], pa ++ [], [], pa, [], hW', hres _ _ _, hargs _ (fun p hp => by simpa using hlt p hp), hvs _, World.keptBut_mono (fun p hp => ⟨hp, ?_⟩) (hk.below.frame (· ∈ pa ++ [])), fun _ => ?_⟩
  · simpa using hp
  · refine ⟨fun j t' r hj hv => ?_, _, _, ([] ++ pa) ++ [], ⟨[] ++ pa, [], trodAll_append (hargs _ (fun _ _ => rfl)) (hres _ _ _), hvs _, rfl, ?_, ?_⟩, ?_⟩
    · exact ok_one hr rfl hok j t' r hj hv
    · intro b off hp
      have hin : MemPlace.cell b off ∈ pa := by simpa using hp
      rw [hk.below.frozen (hlt _ hin)]
      exact hz b off (by simpa using hin)
    · intro ha
      have := hn ha
      simpa using this
    · intro p hp _
      simpa using hp
/-- So many things that exist make a list. -/
theorem exists_list {α : Type} {Q : Nat → α → Prop} : ∀ n : Nat, (∀ i, i < n → ∃ x, Q i x) → ∃ l : List α, l.length = n ∧ ∀ i x, l[i]? = some x → Q i x
 | 0, _ => ⟨[], rfl, fun i x h => by simp at h⟩
 | n + 1, h => by
  obtain ⟨l, h1, h2⟩ := exists_list n fun i hi => h i (by omega)
  obtain ⟨x, hx⟩ := h n (by omega)
  refine ⟨l ++ [x], by simp [h1], fun i y hy => ?_⟩
  rw [List.getElem?_append] at hy
  split at hy
  ·exact h2 i y hy
  ·rename_i hge
   have hi : i = n := by
    rcases Nat.lt_or_ge (i - l.length) 1 with h3 | h3
    ·omega
    ·rw [List.getElem?_eq_none (by simpa using h3)] at hy; cases hy
   subst hi
   rw [h1, Nat.sub_self] at hy
   injection hy with hy
   rw [← hy]; exact hx
/-- Cells of things one behind the other. -/
theorem flatMap_get {α : Type} {f : α → List Value} {s : Nat} (hf : ∀ x, (f x).length = s) : ∀ (l : List α) (k : Nat) (v : Value), (l.flatMap f)[k]? = some v → ∃ i j x, l[i]? = some x ∧ (f x)[j]? = some v ∧ k = i * s + j
 | [], k, v, h => by simp at h
 | x :: l, k, v, h => by
  rw [List.flatMap_cons, List.getElem?_append] at h
  split at h
  ·exact ⟨0, k, x, rfl, h, by omega⟩
  ·rename_i hge
   obtain ⟨i, j, y, h1, h2, h3⟩ := flatMap_get hf l _ v h
   rw [hf] at h3 hge
   exact ⟨i + 1, j, y, by simpa using h1, h2, by rw [Nat.add_mul]; omega⟩
theorem flatMap_len {α : Type} {f : α → List Value} {s : Nat} (hf : ∀ x, (f x).length = s) : ∀ l : List α, (l.flatMap f).length = l.length * s
 | [] => by simp
 | x :: l => by rw [List.flatMap_cons, List.length_append, hf, flatMap_len hf l, List.length_cons, Nat.add_mul]; omega
/-- A struct's reading, field by field. -/
theorem struct_fields {e : TypeId} {fs : Array Field} {W : World} {base n : Nat} {sp : Nat → Bool} {held : Bool} {cs : List Value} {y : DataW H × List MemPlace} (he : P.underlying e = some (.struct fs)) (hone : oneCellFields P fs = true) (h : DataW.trod enc P W base sp held n e cs = some y) (_hC : P.cellsOf e = fs.size) (hcl : cs.length = fs.size) :
    ∀ (j : Nat) (fd : Field), fs[j]? = some fd → ∃ v y' n', cs[j]? = some v ∧ DataW.trod enc P W base sp held n' fd.type [v] = some y' := by
  obtain ⟨ys, n', hn', hy, hlen, hyl, hf⟩ := DataW.trod_struct he h
  intro j fd hj
  obtain ⟨ho, hk⟩ := hone_of hone j fd hj
  have hjl : j < fs.size := (Array.getElem?_eq_some_iff.1 hj).1
  have h1 := hf j fd hj
  rw [ho, hk] at h1
  have hone' : (cs.drop j).take 1 = [cs[j]'(by omega)] := by
    rw [List.drop_eq_getElem_cons (by omega)]
    rfl
  rw [hone'] at h1
  have hys : ys[j]? = some (ys[j]'(by omega)) := List.getElem?_eq_getElem (by omega)
  exact ⟨_, _, _, List.getElem?_eq_getElem (by omega), h1.trans hys⟩
end
end Go.Mw
/-
 What the row lists of the library's variables, as the walks want it.
-/
namespace Go.Proofs.YtmkaahkbhdlniaaGreatDoor
open Go Go.Mw Go.Lib Go.RowKit
set_option maxRecDepth 100000
theorem ownIs : ownKnob Tryz.prog.godebug = none := by kernel_rfl
theorem laidIs : laidOutB Tryz.prog = true := by kernel_rfl
def laidL : List (String × DataW Unit) := [("math/bits.deBruijn32tab", Rows.laid_math_bits_deBruijn32tab), ("math/bits.deBruijn64tab", Rows.laid_math_bits_deBruijn64tab), ("internal/strconv.uint64pow10", Rows.laid_internal_strconv_uint64pow10), ("unicode/utf8.acceptRanges", Rows.laid_unicode_utf8_acceptRanges), ("strconv.ErrRange", Rows.laid_strconv_ErrRange), ("strconv.ErrSyntax", Rows.laid_strconv_ErrSyntax), ("unicode/utf8.first", Rows.laid_unicode_utf8_first)]
theorem u8extra : U8Extra Tryz.prog Tryz.lays260_ren := ⟨by kernel_rfl, by kernel_rfl, by kernel_rfl, by kernel_rfl, by kernel_rfl, by kernel_rfl, by kernel_rfl⟩
theorem first_eq : Rows.laid_unicode_utf8_first = firstData := Pinned.utf8First_eq
theorem accept_eq : (Rows.laid_unicode_utf8_acceptRanges : DataW Unit) = acceptData := by kernel_rfl
theorem pow_eq : (Rows.laid_internal_strconv_uint64pow10 : DataW Unit) = tabData .u64 pow10Tab := by kernel_rfl
theorem star_eq : "*" ++ "errors.errorString" = "*errors.errorString" := by decide
theorem errRow (u : TypeId) (h : Tryz.prog.typeName? 3 u = some "*errors.errorString") : u = 264 :=
 typeName_ptr_named (nm := "errors.errorString") (by rw [star_eq]; kernel_rfl) (by kernel_rfl) (by decide) u (by rw [star_eq]; exact h)
theorem cellsErr : Tryz.prog.cellsOf 266 = 1 := by kernel_rfl
theorem cellsStr : Tryz.prog.cellsOf 9 = 1 := by kernel_rfl
theorem tabsX_of {W : World} (h0 : laidMetH Tryz.prog laidL W) (hsh : W.ShapedOpen Tryz.prog) : TabsX W := by
 rw [MakeChecks.laidMetH_plain _ _ _ (by kernel_rfl)] at h0
 have h := h0
 refine ⟨?_, ?_, ?_, ?_, ?_⟩
 ·exact utf8Tabs_of_reads Tryz.lays260 u8extra (first_eq ▸ Lib.laidMet.reads h (by unfold laidL; simp)) (accept_eq ▸ Lib.laidMet.reads h (by unfold laidL; simp))
 ·obtain ⟨g, t, cs, fuel, p, hg, hty, hvar, hd⟩ := Lib.laidMet.reads (n := "internal/strconv.uint64pow10") h (by unfold laidL; exact .tail _ (.tail _ (.head _)))
  have hg' : Tryz.prog.globalNamed "internal/strconv.uint64pow10" = some 3 := by kernel_rfl
  obtain rfl := Option.some.inj (hg'.symm.trans hg)
  have hty' : (Tryz.prog.globals[3]?).map (·.type) = some 257 := by kernel_rfl
  obtain rfl := Option.some.inj (hty'.symm.trans hty)
  rw [pow_eq] at hd
  have hcs := cells_of_tab Tryz.underlying257 Tryz.underlying178 (by kernel_rfl) (by kernel_rfl) hd
  unfold Lib.TabIs
  rw [hvar, ← hcs]
 ·obtain ⟨a, s, hv, _⟩ := laid_sentinel (g := 4) (ti := 125) (tp := 264) (te := 266) (ts := 9) h.tail.tail.tail.tail.tail (by kernel_rfl) (by kernel_rfl) Tryz.underlying125 errRow Tryz.underlying264 Tryz.underlying266 rfl rfl Tryz.underlying9 cellsErr cellsStr
  exact ⟨_, _, hv⟩
 ·obtain ⟨a, s, hv, _⟩ := laid_sentinel (g := 5) (ti := 125) (tp := 264) (te := 266) (ts := 9) h.tail.tail.tail.tail (by kernel_rfl) (by kernel_rfl) Tryz.underlying125 errRow Tryz.underlying264 Tryz.underlying266 rfl rfl Tryz.underlying9 cellsErr cellsStr
  exact ⟨_, _, hv⟩
 ·exact Tryz.laysM219.s1_3 W hsh
end Go.Proofs.YtmkaahkbhdlniaaGreatDoor
/-
 The arguments of the statements on expressions, read as rows.
-/
namespace Go.Proofs.YtmkaahkbhdlniaaGreatDoor
open Go Go.Mw Go.ChangeShapes Go.WideShapes Go.RowKit
set_option maxRecDepth 4000
section
variable {H : Type} {enc : TypeId × Value → H} {W : World} {r : Reach} {base : Nat} {v : Value} {d : DataW H} {ps : List MemPlace}
theorem fits_of {n : Int} {k : IntKind} (hk : k = .i64) (h : (Lit.int k n).wf = true) : fits n := by
 subst hk
 simp [Lit.wf, IntKind.min, IntKind.max, IntKind.bits, IntKind.signed] at h
 unfold fits
 omega
theorem rowIn_of {α : Type} {f : α → List Value} {k c : Nat} {A : Option Addr} {l : List α} (hc : l.length ≤ c) (hm : c ≤ maxLen) (h : RowAt W A l.length k (l.flatMap f)) : RowIn W (.slice A l.length c) f k l :=
 ⟨A, c, rfl, ⟨hc, by unfold maxLen at hm; omega⟩, h⟩
end
end Go.Proofs.YtmkaahkbhdlniaaGreatDoor
/-
 Slices inside of what is read, as rows. Nothing of a given program stands here.
-/
namespace Go.Mw
open Go.RowKit Go.ChangeShapes Go.WideShapes Go.Deep

section
variable {H : Type} {enc : TypeId × Value → H} {P : Program}
theorem open_rows_in {α : Type} {f : α → List Value} {good : α → Prop} {s : Nat} {t e : TypeId} {W : World} {v : Value} {n0 : Nat} {y : DataW H × List MemPlace} (ht : P.underlying t = some (.slice e)) (hC : P.cellsOf e = s) (hf : ∀ x, (f x).length = s)
    (hel : ∀ n cs y, cs.length = s → DataW.trod enc P W 0 (fun _ => true) true n e cs = some y → ∃ x, cs = f x ∧ good x) (h : DataW.trod enc P W 0 (fun _ => true) true n0 t [v] = some y) :
    ∃ A c, ∃ l : List α, v = .slice A l.length c ∧ l.length ≤ c ∧ c ≤ maxLen ∧ RowAt W A l.length s (l.flatMap f) ∧ ∀ x ∈ l, good x := by
  rcases open_slice ht h with ⟨h0, _⟩ | ⟨a, len, cap, m, n, D, Pl, hcs, _, hl, hm, hmm, _, hi⟩
  · injection h0 with h0 _
    exact ⟨none, 0, [], h0, Nat.le_refl _, Nat.zero_le _, RowAt.nil _ _ _, fun _ h => by cases h⟩
  · injection hcs with hcs _
    have hm2 : m = cap := by simpa using hmm
    subst hm2
    obtain ⟨l, h1, h2⟩ := exists_list (α := α) (Q := fun i x => good x ∧ ∀ j u, (f x)[j]? = some u → W.cell? (a.add (i * s + j)) = some u) len (fun i hi' => by
      obtain ⟨cs', hc, ht'⟩ := hi i (by omega)
      rw [hC] at hc
      obtain ⟨_, hcl, hat⟩ := World.cells?_some hc
      obtain ⟨x, hx, hg⟩ := hel _ _ _ hcl ht'
      refine ⟨x, hg, fun j u hu => ?_⟩
      have hj : j < s := by rw [← hf x]; exact (List.getElem?_eq_some_iff.1 hu).1
      have hcell := hat j hj
      rw [← Go.Deep.add_add, hcell, hx]
      exact hu)
    subst h1
    refine ⟨some a, m, l, hcs, hl, hm, ⟨flatMap_len hf l, fun _ => ⟨a, rfl, fun k u hk => ?_⟩⟩, fun x hx => ?_⟩
    · obtain ⟨i, j, x, hi', hj, rfl⟩ := flatMap_get hf l k u hk
      exact (h2 i x hi').2 j u hj
    · obtain ⟨i, hi'⟩ := List.mem_iff_getElem?.1 hx
      exact (h2 i x hi').1
end
end Go.Mw
/-
 The arguments of the statements on drawn expressions, read.
-/
namespace Go.Proofs.YtmkaahkbhdlniaaGreatDoor
open Go Go.Mw Go.ChangeShapes Go.WideShapes Go.RowKit
set_option maxRecDepth 4000
section
variable {H : Type} {enc : TypeId × Value → H} {W : World} {r : Reach} {base : Nat} {v : Value} {d : DataW H} {ps : List MemPlace}
theorem intsX_in {n0 : Nat} {y : DataW H × List MemPlace} (h : DataW.trod enc Tryz.prog W 0 (fun _ => true) true n0 37 [v] = some y) : ∃ l : List Int, RowIn W v intCells 1 l ∧ ∀ x ∈ l, fits x := by
 obtain ⟨A, c, l, rfl, h2, h3, h4, h5⟩ := open_rows_in (f := intCells) (good := fits) (s := 1) Tryz.underlying37 (by kernel_rfl) (fun _ => rfl) (fun n cs y _ hc => by
  obtain ⟨k, hk, _, hw⟩ := DataW.trod_int Tryz.underlying3 hc
  exact ⟨k, hk, fits_of rfl hw⟩) h
 exact ⟨l, rowIn_of h2 h3 h4, h5⟩
theorem open_ints (hv : Value.okWide Tryz.prog W r base 37 v) (h : DataW.Trod enc Tryz.prog W 0 (fun _ => true) true 37 v d ps) : ∃ l : List Int, RowIn W v intCells 1 l ∧ ∀ x ∈ l, fits x := by
 obtain ⟨a0, len0, cap0, rfl⟩ := okWide_slice Tryz.underlying37 hv
 obtain ⟨fuel, hfu⟩ := h
 exact intsX_in hfu
theorem seed_in {n0 : Nat} {y : DataW H × List MemPlace} (h : DataW.trod enc Tryz.prog W 0 (fun _ => true) true n0 46 [v] = some y) : ∃ l : List Int, RowIn W v intCells 1 l := by
 have hf := struct_fields Tryz.underlying46 (by kernel_rfl) h (by kernel_rfl) rfl
 obtain ⟨v0, _, _, hv0, h0⟩ := hf 0 _ rfl
 simp only [List.getElem?_cons_zero, Option.some.injEq] at hv0
 subst hv0
 obtain ⟨l, hl, _⟩ := intsX_in h0
 exact ⟨l, hl⟩
theorem open_seed (hv : Value.okWide Tryz.prog W r base 46 v) (h : DataW.Trod enc Tryz.prog W 0 (fun _ => true) true 46 v d ps) : ∃ vn, v = agg [vn] ∧ ∃ l : List Int, RowIn W vn intCells 1 l := by
 obtain ⟨cs, rfl, hsz⟩ := okWide_struct Tryz.underlying46 hv
 have hc : Tryz.prog.cellsOf 46 = 1 := by kernel_rfl
 rw [hc] at hsz
 obtain ⟨fuel, hfu⟩ := h
 obtain ⟨l⟩ := cs
 match l, hsz with
 | [vn], _ => exact ⟨vn, rfl, seed_in hfu⟩
end
end Go.Proofs.YtmkaahkbhdlniaaGreatDoor
/-
 The closed facts of a row in two parts, so that each is checked by itself. No program stands here.
-/
namespace Go.Proofs.YtmkaahkbhdlniaaGreatDoor
open Go
def facts1 (P : Program) (f : FuncId) (fn : Func) (s : ChangeSpec) (c : OpenClaim) : Bool :=
 c.wf (OpenSpec.ofChange s) && laidOutB P && mapsRowed P &&
 fn.params.all (P.readableRec ·) && namedTie P c.named s.vars &&
 (c.stops == []) && (P.stops == []) && (c.knobs == []) && (P.stopKnobs == []) &&
 (c.inPlace == P.inPlace f) && (c.unfollowed == P.unfollowed f) && (c.recurses == P.recurses f) && (c.named == P.varsNamed f)
def facts2 (P : Program) (fn : Func) (s : ChangeSpec) (c : OpenClaim) : Bool :=
 (c.maps == (fn.params.toList ++ s.plain.varTypes P).any (P.mapsRec ·)) && (c.ifaces == (fn.params.toList ++ s.plain.varTypes P).any (P.ifacesRec ·)) && (c.mapsOut == P.mapsAmong fn.resultTypes.toList) &&
 (c.loops == (fn.params.toList ++ s.plain.varTypes P).any (P.loopsFrom ·)) && (c.wideKeys == (fn.params.toList ++ s.plain.varTypes P ++ fn.resultTypes.toList).any (P.wideKeysFrom ·)) &&
 s.vars.all (P.varReadable ·) && fn.resultTypes.all (fun t => P.readableRec t && decide (t < P.types.size)) && (c.ifacesOut == fn.resultTypes.toList.any (P.ifacesRec ·)) && (c.loopsOut == fn.resultTypes.toList.any (P.loopsFrom ·)) && (c.plainKeys == P.plainKeys) && c.shortTexts.isNone
def facts3 (P : Program) (fn : Func) (s : ChangeSpec) (c : OpenClaim) : Bool :=
 P.stopsHeard && P.mayEnter && (c.lifted == P.liftsFinal) && (P.make == some c.make) && (c.kinds == (if c.domain.isEmpty then [] else fn.params.toList.map fun t => match P.underlying t with | some (.int k) => some k | _ => none)) && (c.pinned == c.pinnedBy) &&
 (c.veiled == (fn.params.toList ++ s.plain.varTypes P ++ fn.resultTypes.toList).any (P.veiledRec ·)) && c.veiledFits P fn.params.toList (fn.params.toList ++ s.plain.varTypes P ++ fn.resultTypes.toList)
theorem joined_of {P : Program} {f : FuncId} {fn : Func} {s : ChangeSpec} {c : OpenClaim} (h1 : facts1 P f fn s c = true) (h2 : facts2 P fn s c = true) (h3 : facts3 P fn s c = true) : joinedFacts P f fn s c = true := by
 simp only [facts1, Bool.and_eq_true] at h1
 simp only [facts2, Bool.and_eq_true] at h2
 simp only [facts3, Bool.and_eq_true] at h3
 simp only [joinedFacts, Bool.and_eq_true]
 simp only [h1, h2, h3, and_self, and_true, true_and]
 exact h3.1.1.1.2
end Go.Proofs.YtmkaahkbhdlniaaGreatDoor
