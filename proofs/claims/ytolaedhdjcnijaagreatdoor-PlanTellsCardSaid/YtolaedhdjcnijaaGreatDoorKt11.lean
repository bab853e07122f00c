/-
 append onto a row that is full: the answer is new. Rows of numbers and of texts.
-/
import Derived.Test.YtolaedhdjcnijaaGreatDoorKt10
import Derived.ArgAppend
set_option linter.unusedVariables false
set_option linter.unusedSimpArgs false
namespace Go.Mw
open Go.RowKit
section
variable {α : Type} {enc : α → List Value} {k e : Nat} {l news : List α} {A B : Option Addr} {w w' w₀ : World} {S : Nat → Prop} {rs : List HP}
theorem own_base {w : World} {b e s n : Nat} {v : Value} {xs : List Value} (h : w.ownsRow b e s v n xs) : w.ownsRow 0 e s v n xs := by
 refine ⟨h.1, ?_⟩
 rcases h.2 with h2 | ⟨g, cap, cur, hv, _, r⟩
 ·exact .inl h2
 exact .inr ⟨g, cap, cur, hv, Nat.zero_le _, r⟩
theorem kept_grown {w w' : World} (h : w.grownBy w' none) : Kept noB w w' := ⟨h.os, h.tape, h.output, h.size, fun k hk _ => h.block k hk fun e => by cases e⟩
theorem gives_appendF {P : Program} {ρ : Operand → Value} {ty : TypeId} {x y : Operand} {t c bytes : Nat} [hs : IsSlice P t e] [hc : Cells P e k bytes] {z : Value} [hz : Zero P e z] [hk : EncK enc k]
    (H : Sep w₀ S rs w) (hx : ρ x = .slice A l.length l.length) (hr : Rd w A enc k l) (hy : ρ y = .slice B news.length c) (hrb : Rd w B enc k news) (hone : ∀ u ∈ news.flatMap enc, u.oneCell' = true)
    (hk0 : 0 < k) (hzs : z.cells.size = k) (hne : 0 < news.length) (h63 : l.length + news.length ≤ maxLen) (hbytes : (l.length + news.length) * bytes ≤ 140737488355328) :
    ∃ v' w', Gives P ρ (.call { callee := .builtin .append, args := #[x, y], argTypes := #[t, t] }) ty w v' w' ∧ Sep w₀ S (rowD e k enc v' (l ++ news) :: rs) w' ∧ Kept noB w w' := by
  have fin : ∀ v' w', (Builtin.append_ #[t, t] ty #[.slice A l.length l.length, .slice B news.length c]).run P w = .ok v' w' → w'.ownsRow 0 e k v' (l.length + news.length) (l.flatMap enc ++ news.flatMap enc) → Kept noB w w' → (∀ b, v'.ownBlock = some b → w.heap.size ≤ b) →
      ∃ v' w', Gives P ρ (.call { callee := .builtin .append, args := #[x, y], argTypes := #[t, t] }) ty w v' w' ∧ Sep w₀ S (rowD e k enc v' (l ++ news) :: rs) w' ∧ Kept noB w w' := by
    intro v' w' hrun hown hkk hb
    refine ⟨v', w', fun _ _ _ _ => ?_, H.new (F' := fun b => v'.ownBlock = some b) hkk ⟨?_, fun b => Iff.rfl⟩ hb, hkk⟩
    · simp only [execOp, resolve, invoke, builtin, Sem.run_bind, Sem.run_pure, Result.andThen_ok, List.map_toArray, List.map_cons, List.map_nil, hx, hy, hrun]
    show w'.ownsRow 0 e k v' (l ++ news).length ((l ++ news).flatMap enc)
    rw [List.length_append, List.flatMap_append]; exact hown
  cases A with
  | none =>
    have hl : l = [] := by
      rcases Nat.eq_zero_or_pos l.length with h | h
      · exact List.eq_nil_of_length_eq_zero h
      obtain ⟨ad, h1⟩ := hr.addr h; cases h1
    subst hl
    obtain ⟨v', w', hrun, hown, hg, hb⟩ := run_append (P := P) (ty := ty) t e hk0 hzs (.slice none 0 0) 0 [] (World.ownsRow_nil w 0 e k) B news.length c (news.flatMap enc) hrb hone h63 hbytes
    refine fin v' w' hrun hown (kept_grown hg) fun b hb' => ?_
    rcases hb with h | h
    · rw [h] at hb'; cases hb'
    rw [h] at hb'; injection hb' with hb'; omega
  | some ad =>
    obtain ⟨i, hi, hsb⟩ := Option.map_eq_some_iff.1 hc.size
    simp only [Prod.mk.injEq] at hsb
    have hzero : i.zero = some z := by
      have := hz.run w
      simp [zeroValue, typeInfo, hi] at this
      cases hq : i.zero with
      | none => simp [hq] at this
      | some u => simp [hq] at this; rw [this]
    obtain ⟨bd, hB, hcb⟩ := hrb.at_ hne
    subst hB
    have hca : ∀ j u, (l.flatMap enc)[j]? = some u → w.cell? (ad.add j) = some u := by
      intro j u hu
      rcases Nat.eq_zero_or_pos l.length with h | h
      · have hn := List.eq_nil_of_length_eq_zero h
        subst hn
        simp at hu
      obtain ⟨ad', h1, h2⟩ := hr.at_ h
      injection h1 with h1
      subst h1
      exact h2 j u hu
    obtain ⟨v', w', hrun, hown, hg⟩ := run_append_arg_grows (P := P) w t ty e i z k bytes hs.und hi hzero hsb.1 hsb.2 hzs hk0 ad l.length l.length (l.flatMap enc) hr.len hca bd news.length c (news.flatMap enc) hrb.len hcb (by omega) h63 hbytes
    exact fin v' w' hrun (own_base hown) (kept_grown hg) fun b hb => (hown.lt b hb).1
end
section
variable {P : Program} {r : Option Nat} {n : Nat} {ops : Array Oper} {Q : Post} {rest : List Oper} {σ : St} {w w' w₀ : World} {S : Nat → Prop} {rs : List HP} {put : HP → List HP} {ty : TypeId} {pos : String} {after : Array Edge} {guard : Option (Nat × Bool)} {lv : List Bool} {pd : List (Nat × Bool)} {α : Type} {enc : α → List Value} {k e : Nat} {l news : List α} {A B : Option Addr}
theorem FL_appendF {d : Nat} {x y : Operand} {t c bytes : Nat} [hs : IsSlice P t e] [hc : Cells P e k bytes] {z : Value} [hz : Zero P e z] [hk : EncK enc k]
    (H : Sep w₀ S rs w) (hr : Rd w A enc k l) (hrb : Rd w B enc k news) (hne : 0 < news.length) (h63 : l.length + news.length ≤ maxLen) (hbytes : (l.length + news.length) * bytes ≤ 140737488355328) (hone : ∀ u ∈ news.flatMap enc, u.oneCell' = true)
    (hx : evF σ x = .slice A l.length l.length := by exact rfl) (hy : evF σ y = .slice B news.length c := by exact rfl) (hk0 : 0 < k := by decide) (hzs : z.cells.size = k := by exact rfl) (hd : Nat.blt d n = true := by exact rfl)
    (h : ∀ v' w', Sep w₀ S (rowD e k enc v' (l ++ news) :: rs) w' → Kept noB w w' → FL P r n ops Q rest (upd σ d v') w') :
    FL P r n ops Q ({ dst := some d, op := .call { callee := .builtin .append, args := #[x, y], argTypes := #[t, t] }, type := ty, pos := pos, after := after, guard := none } :: rest) σ w := by
  obtain ⟨v', w', hg, hs', hkk⟩ := gives_appendF (P := P) (t := t) (ty := ty) H hx hr hy hrb hone hk0 hzs hne h63 hbytes
  exact FL_val hg hd (h v' w' hs' hkk)
theorem gives_appendO {P : Program} {ρ : Operand → Value} {ty : TypeId} {x y : Operand} {t c bytes : Nat} {v : Value} [hs : IsSlice P t e] [hc : Cells P e k bytes] {z : Value} [hz : Zero P e z] [hk : EncK enc k]
    (H : Sep w₀ S rs w) (hx : ρ x = v) (hy : ρ y = .slice B news.length c) (hrb : Rd w B enc k news) (hat : At rs (rowD e k enc v l) put) (hone : ∀ u ∈ news.flatMap enc, u.oneCell' = true)
    (hk0 : 0 < k) (hzs : z.cells.size = k) (h63 : l.length + news.length ≤ maxLen) (hbytes : (l.length + news.length) * bytes ≤ 140737488355328) :
    ∃ v' w', Gives P ρ (.call { callee := .builtin .append, args := #[x, y], argTypes := #[t, t] }) ty w v' w' ∧ Sep w₀ S (put (rowD e k enc v' (l ++ news))) w' := by
  obtain ⟨v', w', hg, h2⟩ := gives_append (P := P) (t := t) (ty := ty) H hx hy hat hrb hone hk0 hzs h63 hbytes
  refine ⟨v', w', hg, ?_⟩
  have e : rowD e k enc v' (l ++ news) = rowH e k v' (l.length + news.length) (l.flatMap enc ++ news.flatMap enc) := by unfold rowD; rw [List.length_append, List.flatMap_append]
  rw [e]; exact h2
theorem FL_appendO {d : Nat} {x y : Operand} {t c bytes : Nat} {v : Value} [hs : IsSlice P t e] [hc : Cells P e k bytes] {z : Value} [hz : Zero P e z] [hk : EncK enc k]
    (H : Sep w₀ S rs w) (hat : At rs (rowD e k enc v l) put) (hrb : Rd w B enc k news) (h63 : l.length + news.length ≤ maxLen) (hbytes : (l.length + news.length) * bytes ≤ 140737488355328) (hone : ∀ u ∈ news.flatMap enc, u.oneCell' = true)
    (hx : evF σ x = v := by exact rfl) (hy : evF σ y = .slice B news.length c := by exact rfl) (hk0 : 0 < k := by decide) (hzs : z.cells.size = k := by exact rfl) (hd : Nat.blt d n = true := by exact rfl)
    (h : ∀ v' w', Sep w₀ S (put (rowD e k enc v' (l ++ news))) w' → FL P r n ops Q rest (upd σ d v') w') :
    FL P r n ops Q ({ dst := some d, op := .call { callee := .builtin .append, args := #[x, y], argTypes := #[t, t] }, type := ty, pos := pos, after := after, guard := none } :: rest) σ w := by
  obtain ⟨v', w', hg, hs'⟩ := gives_appendO (P := P) (t := t) (ty := ty) H hx hy hrb hat hone hk0 hzs h63 hbytes
  exact FL_val hg hd (h v' w' hs')
theorem FGappendO (hok : okOps n ops = true) (i : Nat) (pd' : List (Nat × Bool)) {d : Nat} {x y : Operand} {t c bytes : Nat} {v : Value} [hs : IsSlice P t e] [hc : Cells P e k bytes] {z : Value} [hz : Zero P e z] [hk : EncK enc k]
    (H : Sep w₀ S rs w) (hat : At rs (rowD e k enc v l) put) (hrb : Rd w B enc k news) (h63 : l.length + news.length ≤ maxLen) (hbytes : (l.length + news.length) * bytes ≤ 140737488355328) (hone : ∀ u ∈ news.flatMap enc, u.oneCell' = true)
    (ho : ops[i]? = some { dst := some d, op := .call { callee := .builtin .append, args := #[x, y], argTypes := #[t, t] }, type := ty, pos := pos, after := after, guard := guard } := by exact rfl)
    (hw : Region.wanted { dst := some d, op := .call { callee := .builtin .append, args := #[x, y], argTypes := #[t, t] }, type := ty, pos := pos, after := after, guard := guard } (yieldF ops σ) = true := by kernel_rfl)
    (hx : evF σ x = v := by exact rfl) (hy : evF σ y = .slice B news.length c := by exact rfl) (hk0 : 0 < k := by decide) (hzs : z.cells.size = k := by exact rfl)
    (hck : effectOk ops lv (pd.map (·.1)) i = true := by kernel_rfl) (hpd : pd.filter (fun p => !((above ops i).contains p.1)) = pd' := by kernel_rfl)
    (h : ∀ v' w', Sep w₀ S (put (rowD e k enc v' (l ++ news))) w' → Stab P ops (upd σ d v') w' pd' ∧ FG P r n ops Q (lv.set i true) pd' (upd σ d v') w') : FG P r n ops Q lv pd σ w :=
  FGval hok i pd' ho hw (gives_appendO (P := P) (t := t) (ty := ty) H hx hy hrb hat hone hk0 hzs h63 hbytes) hck hpd h
end
section
/-! The same, whatever else is ready. -/
variable {P : Program} {r : Option Nat} {n : Nat} {ops : Array Oper} {Q : Post} {rest : List Oper} {σ : St} {w w' w₀ : World} {S : Nat → Prop} {rs : List HP} {put : HP → List HP} {ty : TypeId} {pos : String} {after : Array Edge} {guard : Option (Nat × Bool)} {lv : List Bool} {pd : List (Nat × Bool)} {α : Type} {enc : α → List Value} {k e : Nat} {l news : List α} {A B : Option Addr} {v : Value}
theorem step_buildSlice (hok : okOps n ops = true) (i : Nat) (pd' : List (Nat × Bool)) {d : Nat} {t e : TypeId} {xs : List Operand} {parts : List (Nat × Operand)} {out : List Value} {size bytes : Nat} [hs : IsSlice P t e] [hc : Cells P e size bytes] {z : Value} [hz : Zero P e z] (H : Sep w₀ S rs w) (hE : Elems (evF σ) size xs out)
    (ho : ops[i]? = some { dst := some d, op := .buildSlice t xs.length parts.toArray, type := ty, pos := pos, after := after, guard := guard } := by exact rfl)
    (hw : Region.wanted { dst := some d, op := .buildSlice t xs.length parts.toArray, type := ty, pos := pos, after := after, guard := guard } (yieldF ops σ) = true := by kernel_rfl)
    (hp : parts = (xs.zipIdx 0).map fun p => (p.2, p.1) := by exact rfl) (hlen : Nat.ble (xs.length * size) 16777216 = true := by exact rfl)
    (hck : effectIn ops lv (pd.map (·.1)) i = true := by kernel_rfl) (hpd : pd.filter (fun p => !((above ops i).contains p.1)) = pd' := by kernel_rfl)
    (h : ∀ b w', Sep w₀ S (blk b out e :: rs) w' → Stab P ops (upd σ d (.slice (some ⟨b, 0, none⟩) xs.length xs.length)) w' pd' ∧ FG P r n ops Q (lv.set i true) pd' (upd σ d (.slice (some ⟨b, 0, none⟩) xs.length xs.length)) w') : EffStep P r n ops Q lv pd σ w i :=
  step_val hok i pd' (C := fun v w' => ∃ b, v = .slice (some ⟨b, 0, none⟩) xs.length xs.length ∧ Sep w₀ S (blk b out e :: rs) w') ho hw ⟨_, _, Gives.buildSlice hE hp hlen, _, rfl, H.alloc _⟩ hck hpd fun v w' ⟨b, hv, hsep⟩ => by subst hv; exact h b w' hsep
theorem step_appendO (hok : okOps n ops = true) (i : Nat) (pd' : List (Nat × Bool)) {d : Nat} {x y : Operand} {t c bytes : Nat} {v : Value} [hs : IsSlice P t e] [hc : Cells P e k bytes] {z : Value} [hz : Zero P e z] [hk : EncK enc k]
    (H : Sep w₀ S rs w) (hat : At rs (rowD e k enc v l) put) (hrb : Rd w B enc k news) (h63 : l.length + news.length ≤ maxLen) (hbytes : (l.length + news.length) * bytes ≤ 140737488355328) (hone : ∀ u ∈ news.flatMap enc, u.oneCell' = true)
    (ho : ops[i]? = some { dst := some d, op := .call { callee := .builtin .append, args := #[x, y], argTypes := #[t, t] }, type := ty, pos := pos, after := after, guard := guard } := by exact rfl)
    (hw : Region.wanted { dst := some d, op := .call { callee := .builtin .append, args := #[x, y], argTypes := #[t, t] }, type := ty, pos := pos, after := after, guard := guard } (yieldF ops σ) = true := by kernel_rfl)
    (hx : evF σ x = v := by exact rfl) (hy : evF σ y = .slice B news.length c := by exact rfl) (hk0 : 0 < k := by decide) (hzs : z.cells.size = k := by exact rfl)
    (hck : effectIn ops lv (pd.map (·.1)) i = true := by kernel_rfl) (hpd : pd.filter (fun p => !((above ops i).contains p.1)) = pd' := by kernel_rfl)
    (h : ∀ v' w', Sep w₀ S (put (rowD e k enc v' (l ++ news))) w' → Stab P ops (upd σ d v') w' pd' ∧ FG P r n ops Q (lv.set i true) pd' (upd σ d v') w') : EffStep P r n ops Q lv pd σ w i :=
  step_val hok i pd' ho hw (gives_appendO (P := P) (t := t) (ty := ty) H hx hy hrb hat hone hk0 hzs h63 hbytes) hck hpd h
end
theorem Rd.cut {α : Type} {enc : α → List Value} {k : Nat} [hk : EncK enc k] {w : World} {A : Option Addr} {l : List α} (h : Rd w A enc k l) (m : Nat) : Rd w A enc k (l.take m) := by
 refine ⟨flat_len hk.len _, fun hn => ?_⟩
 have hl : 0 < l.length := by rw [List.length_take] at hn; omega
 obtain ⟨ad, h1, h2⟩ := h.at_ hl
 refine ⟨ad, h1, fun j u hu => h2 j u ?_⟩
 rw [flat_take hk.len, List.getElem?_take] at hu
 split at hu
 ·exact hu
 cases hu
theorem Rd.from {α : Type} {enc : α → List Value} {k : Nat} [hk : EncK enc k] {w : World} {A : Option Addr} {l : List α} (h : Rd w A enc k l) (m : Nat) : Rd w (A.map fun a => a.add (m * k)) enc k (l.drop m) := by
 refine ⟨flat_len hk.len _, fun hn => ?_⟩
 rw [List.length_drop] at hn
 obtain ⟨ad, h1, h2⟩ := h.at_ (by omega)
 subst h1
 refine ⟨ad.add (m * k), rfl, fun j u hu => ?_⟩
 rw [add_add]
 refine h2 _ _ ?_
 rw [← hu]
 have e : l.flatMap enc = (l.take m).flatMap enc ++ (l.drop m).flatMap enc := by rw [← List.flatMap_append, List.take_append_drop]
 have el : ((l.take m).flatMap enc).length = m * k := by rw [flat_len hk.len, List.length_take, Nat.min_eq_left (by omega)]
 rw [e, List.getElem?_append_right (by omega), el, Nat.add_sub_cancel_left]
theorem Rd.nil {α : Type} {enc : α → List Value} {k : Nat} {w : World} {A : Option Addr} : Rd w A enc k [] := ⟨by simp, fun h => absurd h (by simp)⟩
theorem Rd.fromC {α : Type} {enc : α → List Value} {k c : Nat} [hk : EncK enc k] {w : World} {A : Option Addr} {l : List α} (h : Rd w A enc k l) (m : Nat) (hc : l.length ≤ c) : Rd w (if c = m then A else A.map fun a => a.add (m * k)) enc k (l.drop m) := by
 split
 ·rw [List.drop_of_length_le (by omega)]; exact Rd.nil
 exact h.from m
end Go.Mw
namespace Go.Proofs.YtolaedhdjcnijaaGreatDoor
open Go Go.Mw
def intCells (n : Int) : List Value := [I n]
def textCells (s : List UInt8) : List Value := [str s]
instance : EncK intCells 1 := ⟨fun _ => rfl⟩
instance : EncK textCells 1 := ⟨fun _ => rfl⟩
end Go.Proofs.YtolaedhdjcnijaaGreatDoor
namespace Go.Proofs.YtolaedhdjcnijaaGreatDoor
open Go Go.Mw Go.Lib
set_option maxRecDepth 4000
def resT (cols : List ColM) (st : List TypeM) (x : StepM) : Option TypeM :=
 if takesD x.kind = 0 then leafT cols x else madeT x.kind (st.getD (st.length - takesD x.kind) type0) (st.getD (st.length - 1) type0)
theorem stepT_no {cols : List ColM} {st : List TypeM} {x : StepM} (h : mayS x = false ∨ st.length < takesD x.kind) : stepT cols st x = none := by
 unfold stepT
 by_cases h1 : mayS x = false
 ·dsimp only; rw [if_pos (.inl h1)]
 have hm : mayS x = true := by simpa using h1
 rw [takes_may hm] at h
 dsimp only; rw [if_pos (h.imp id id)]
theorem stepT_res {cols : List ColM} {st : List TypeM} {x : StepM} (h1 : mayS x = true) (h2 : takesD x.kind ≤ st.length) : stepT cols st x = (resT cols st x).map fun t => st.take (st.length - takesD x.kind) ++ [t] := by
 unfold stepT resT
 rw [takes_may h1] at h2 ⊢
 dsimp only
 rw [if_neg (by rw [h1]; simp; omega)]
theorem takesD_le (k : Int) : takesD k ≤ 2 := by
 unfold takesD
 repeat' split
 all_goals omega
theorem getD_of {α : Type} {l : List α} {i : Nat} {c d : α} (h : l[i]? = some c) : l.getD i d = c := by rw [List.getD_eq_getElem?_getD, h]; rfl
theorem Sep_rdD {α : Type} {w₀ w : World} {S : Nat → Prop} {rs : List HP} {put : HP → List HP} {e k c : Nat} {enc : α → List Value} {l : List α} {A : Option Addr} (H : Sep w₀ S rs w) (hat : At rs (rowD e k enc (.slice A l.length c) l) put) : Rd w A enc k l := Sep.rowAt H hat
attribute [local irreducible] mayS mayT
section
variable {w : World}
theorem type_ok22 {cols : List ColM} {l : List StepM} {vc vl : Value} (hc : RowIn w vc colCells 7 cols) (hl : RowIn w vl stepCells 3 l) : Rets Tryz.prog 70 [vc, vl] w fun v w' => v = .tuple #[agg (typeCells (typeS cols l).1), I (typeS cols l).2] ∧ Kept noB w w' := by
  have hcc := hc
  obtain ⟨A, m, rfl, ⟨hm, hm'⟩, hA⟩ := hc
  obtain ⟨C, n, rfl, ⟨hn, hn'⟩, hC⟩ := hl
  have H := Sep.start0 w
  obtain ⟨res, hres⟩ : ∃ res, res = typeS cols l := ⟨_, rfl⟩
  rw [← hres]
  unfold typeS at hres
  refine retsC2 Tryz.func70 rfl rfl rfl rfl ?_
  refine Sr (FL_alloc H (h := fun b1 w2 H2 k1 => ?_))
  refine Am ?_
  refine Qn (FW_seq (Sr (Mv ?_)))
  refine Vs ?_
  refine Vg ?_
  refine Qn (Cp rfl (fun hc7 => ?_) (fun hc7 => ?_))
  · have hfin : res = (type0, 5) := by rw [hres, if_pos (by omega)]
    refine Sr (Vv (Gives.build (out := typeCells type0) Fills.nil) (FL_storeAll H2 (h := fun w11 H11 => ?_)))
    refine Am ?_
    refine Qn (Rs (QfnC_ret (h := ?_)))
    exact ⟨_, resC2 H11, by rw [hfin]; rfl, H11.kept⟩
  rw [if_neg (by omega)] at hres
  refine Sk (Sr (Am ?_))
  refine Qn (FW_seq (Sr (Am ?_)))
  refine Qn (FW_block ?_)
  have H18 := Sep.nilD H2 45 2 typeCells
  refine FW_loop' (fun x : Nat × List TypeM × Value => [(0, .slice A cols.length m), (1, .slice C l.length n), (4, .pointer (some ⟨b1, 0, none⟩)), (6, x.2.2), (7, I x.1)]) (fun x w' => (x.1 ≤ l.length ∧ x.2.1.length ≤ x.1 ∧ runT cols x.2.1 (l.drop x.1) = runT cols [] l) ∧ Sep w noB [rowD 45 2 typeCells x.2.2 x.2.1, blk b1 (typeCells type0) 45] w') (fun x _ => l.length - x.1) (0, [], _) ⟨rfl, rfl, rfl, rfl, rfl, trivial⟩ ⟨⟨Nat.zero_le _, Nat.le_refl _, rfl⟩, H18⟩ (fun x τ w18 hI => ?_)
  obtain ⟨i, st, v0⟩ := x
  obtain ⟨⟨hi, hsl, hst⟩, H18⟩ := hI
  dsimp only at hi hsl hst H18
  obtain ⟨B, cb, rfl, hcb, hB⟩ := Sep.formD H18 At0
  try simp only [upds, like, upd_ds, und_ds]
  refine FW_seq (Sr (Mv ?_))
  refine Mv ?_
  refine Vs ?_
  refine Vl ?_
  refine Qn (Cp rfl (fun hc23 => ?_) (fun hc23 => ?_))
  · have hlt : i < l.length := by omega
    obtain ⟨x, hx⟩ := get_some hlt
    have hdr : l.drop i = x :: l.drop (i + 1) := by
      rw [List.drop_eq_getElem_cons hlt]; rw [List.getElem?_eq_getElem hlt] at hx; injection hx with hx; rw [hx]
    rw [hdr, runT] at hst
    have htk := takesD_le x.kind
    refine Sk (FW_seq (FW_block (Sr (Mv ?_))))
    refine Vs ?_
    refine Am ?_
    refine Nx (Mv ?_)
    refine Mv ?_
    refine Vv (Gives.idxR rfl rfl (by assumption) (by omega)) (Vv (Gives.fieldR rfl (by assumption) (by omega)) ?_)
    refine Vv (Gives.loadE rfl H18 (by assumption) (by assumption) rfl) (FL_callS (takes_ok22 _) (h := ?_))
    refine Am ?_
    refine Qn (FW_seq (Sr (Mv ?_)))
    refine Mv ?_
    refine Vv (Gives.idxR rfl rfl (by assumption) (by omega)) (Vv (Gives.loadE0 rfl H18 (by assumption) (by assumption)) ?_)
    refine FL_callQ H18 (mayS_ok22 _) (h := fun w40 H40 k39 => ?_)
    refine Vv (Gives.not rfl) (Mv ?_)
    refine FL_split (t := 36) rfl (fun hs43 => ?_) (fun hs43 => ?_)
    · have hmay : mayS x = false := by simpa using hs43
      refine Of (Of (Of (Pt ?_)))
      refine Qn (FW_cond_true rfl ?_)
      refine Sr (Vv (Gives.build (out := typeCells type0) Fills.nil) (FL_storeAll H40 (h := fun w48 H48 => ?_)))
      refine Am ?_
      refine Qn (Rs (Qblk_ret (Qseq_ret (Qround_ret (Qblk_ret (Qseq_ret (QfnC_ret (h := ?_))))))))
      have hno : stepT cols st x = none := stepT_no (by first | (left; assumption) | (right; omega))
      rw [hno] at hst
      rw [← hst] at hres
      exact ⟨_, resC2 H48, by rw [hres]; rfl, H48.kept⟩
    have hmay : mayS x = true := by simpa using hs43
    refine On (Mv ?_)
    refine On (Mv ?_)
    refine On (Vg ?_)
    refine Pf ?_
    refine Qn (Cp rfl (fun hc56 => ?_) (fun hc56 => ?_))
    · refine Sr (Vv (Gives.build (out := typeCells type0) Fills.nil) (FL_storeAll H40 (h := fun w59 H59 => ?_)))
      refine Am ?_
      refine Qn (Rs (Qblk_ret (Qseq_ret (Qround_ret (Qblk_ret (Qseq_ret (QfnC_ret (h := ?_))))))))
      have hno : stepT cols st x = none := stepT_no (by first | (left; assumption) | (right; omega))
      rw [hno] at hst
      rw [← hst] at hres
      exact ⟨_, resC2 H59, by rw [hres]; rfl, H59.kept⟩
    have hle : takesD x.kind ≤ st.length := by omega
    have hsp := stepT_res (cols := cols) hmay hle
    obtain ⟨rt, hrt⟩ : ∃ rt, rt = resT cols st x := ⟨_, rfl⟩
    rw [← hrt] at hsp
    rw [hsp] at hst
    unfold resT at hrt
    refine Sk (Sr (Vv (Gives.build (out := typeCells type0) Fills.nil) (FL_alloc H40 (h := ?_))))
    intro bt w65 H65 _
    refine FL_storeAll H65 (h := fun w67 H67 => ?_)
    refine Nx (Am ?_)
    refine Qn (FW_cut (fun z : TypeM × Bool => [(0, .slice A cols.length m), (1, .slice C l.length n), (4, .pointer (some ⟨b1, 0, none⟩)), (6, .slice B st.length cb), (7, I i), (8, I st.length), (9, I (takesD x.kind)), (10, .pointer (some ⟨bt, 0, none⟩)), (11, .bool z.2)]) (fun z w' => (z.2 = rt.isSome ∧ ∀ y, rt = some y → z.1 = y) ∧ Sep w noB [blk bt (typeCells z.1) 45, rowD 45 2 typeCells (.slice B st.length cb) st, blk b1 (typeCells type0) 45] w') ?_ ?_)
    · refine Sr (Mv ?_)
      refine Ve ?_
      refine Qn (Cp rfl (fun hc72 => ?_) (fun hc72 => ?_))
      · rw [if_pos (by omega)] at hrt
        refine FW_region (Mv ?_)
        refine Mv ?_
        refine Mv ?_
        refine Vv (Gives.idxR rfl rfl (by assumption) (by omega)) (Vv (Gives.loadE0 rfl H67 (by assumption) (by assumption)) ?_)
        refine FL_callQ H67 (leaf_ok22 x (hcc.keep H67.kept)) (h := fun w80 H80 k79 => ?_)
        refine Mv ?_
        refine Vx ?_
        refine Vx ?_
        refine FL_storeAll H80 (h := fun w85 H85 => ?_)
        refine Am ?_
        refine FL_nil ?_
        exact Qcut_normal ((leafT cols x).getD type0, (leafT cols x).isSome) ⟨rfl, rfl, rfl, rfl, rfl, rfl, rfl, rfl, rfl, trivial⟩ ⟨⟨by rw [hrt], fun y hy => by rw [← hrt, hy]; rfl⟩, H85⟩
      have hk1 : 1 ≤ takesD x.kind := by omega
      obtain ⟨a, ha⟩ := get_some (l := st) (i := st.length - takesD x.kind) (by omega)
      obtain ⟨b, hb⟩ := get_some (l := st) (i := st.length - 1) (by omega)
      rw [if_neg (by omega), getD_of ha, getD_of hb] at hrt
      refine FW_drawS rfl H67 (h := fun hok89 w91 H91 => ?_)
      refine Gm hok89 0 ?_
      refine Gm hok89 1 ?_
      refine Gp hok89 2 rfl rfl (fun _ => (Gives.idxR rfl rfl (by assumption) (by omega))) (Gp hok89 3 rfl rfl (fun _ => (Gives.fieldR rfl (by assumption) (by omega))) ?_)
      refine Gl hok89 4 rfl rfl (Gives.loadE rfl H91 (by assumption) (by assumption) rfl) (Gm hok89 5 ?_)
      refine Gm hok89 6 ?_
      refine Gm hok89 7 ?_
      refine Gp hok89 8 rfl rfl (fun _ => (Gives.subI (c := ((st.length - takesD x.kind : Nat) : Int)) rfl rfl (by omega) (by omega))) (Gp hok89 9 rfl rfl (fun _ => (Gives.idxR rfl rfl (by assumption) (by omega))) ?_)
      refine Gl hok89 10 rfl rfl (Gives.loadW0 rfl (Sep_rdD H91 At1) ha) (Gm hok89 11 ?_)
      refine Gm hok89 12 ?_
      refine Gp hok89 13 rfl rfl (fun _ => (Gives.subI (c := ((st.length - 1 : Nat) : Int)) rfl rfl (by omega) (by omega))) (Gp hok89 14 rfl rfl (fun _ => (Gives.idxR rfl rfl (by assumption) (by omega))) ?_)
      refine Gl hok89 15 rfl rfl (Gives.loadW0 rfl (Sep_rdD H91 At1) hb) (FGcall hok89 16 [] rfl (by kernel_rfl) (made_ok22 x.kind a b) rfl (by kernel_rfl) (by kernel_rfl) (fun v' w102 hv => ?_))
      obtain ⟨⟨t, rfl, ht⟩, hkk⟩ := hv
      have H102 := H91.keep hkk
      refine ⟨Stab_nil, ?_⟩
      refine Gm hok89 17 ?_
      refine Gp hok89 18 rfl rfl (fun _ => (Gives.extract rfl rfl)) (Gp hok89 19 rfl rfl (fun _ => (Gives.extract rfl rfl)) ?_)
      refine FGstoreAll hok89 20 [(19, true)] H102 (h := fun w106 H106 => ⟨Stab_pure (Stab_nil), ?_⟩)
      refine Gp hok89 21 rfl rfl (fun _ => Gives.assign rfl) (FG_end hok89 (by kernel_rfl) ?_)
      exact Qcut_normal (t, (madeT x.kind a b).isSome) ⟨rfl, rfl, rfl, rfl, rfl, rfl, rfl, rfl, rfl, trivial⟩ ⟨⟨by rw [hrt], fun y hy => ht y (by rw [← hrt]; exact hy)⟩, H106⟩
    rintro ⟨t, ok⟩ τ w110 ⟨⟨hok1, hok2⟩, H110⟩
    dsimp only at hok1 hok2 H110
    simp only [upds, like, upd_ds]
    refine FW_seq (Sr (Mv ?_))
    refine Vv (Gives.not rfl) (Qn ?_)
    refine Cd rfl (fun hc113 => ?_) (fun hc113 => ?_)
    · have hrn : rt = none := by
        cases rt with
        | none => rfl
        | some y => rw [hok1] at hc113; cases hc113
      rw [hrn] at hst
      have hst2 : none = runT cols [] l := hst
      rw [← hst2] at hres
      have hfin : res = (type0, 220) := hres
      refine Sr (Vv (Gives.build (out := typeCells type0) Fills.nil) (FL_storeAll H110 (h := fun w117 H117 => ?_)))
      refine Am ?_
      refine Qn (Rs (Qblk_ret (Qseq_ret (Qround_ret (Qblk_ret (Qseq_ret (QfnC_ret (h := ?_))))))))
      exact ⟨_, resC2 H117, by rw [hfin]; rfl, H117.kept⟩
    obtain ⟨y, hy⟩ : ∃ y, rt = some y := by
      cases rt with
      | none => rw [hok1] at hc113; cases hc113
      | some y => exact ⟨y, rfl⟩
    have hty := hok2 y hy
    subst hty
    rw [hy] at hst
    have hst2 : runT cols (st.take (st.length - takesD x.kind) ++ [t]) (l.drop (i + 1)) = runT cols [] l := hst
    refine Sk (FW_drawS rfl H110 (h := fun hok121 w123 H123 => ?_))
    refine Gm hok121 0 ?_
    refine Gm hok121 1 ?_
    refine Gm hok121 2 ?_
    refine Gp hok121 3 rfl rfl (fun _ => (Gives.subI (c := ((st.length - takesD x.kind : Nat) : Int)) rfl rfl (by omega) (by omega))) (Gp hok121 4 rfl rfl (fun _ => (Gives.sliceTo rfl rfl (by omega))) ?_)
    refine FGloadAll hok121 5 H123 (h := ?_)
    refine FGbuildSlice hok121 6 [(4, true), (3, true), (2, true), (1, true), (0, true)] H123 (xs := [.tmp 82]) (out := [t].flatMap typeCells) (Elems.many rfl rfl Elems.nil) (h := fun b w128 H128 => ⟨Stab_pure (Stab_pure (Stab_pure (Stab_pure (Stab_pure (Stab_nil))))), ?_⟩)
    have hcut := Sep.cutD (m := st.length - takesD x.kind) H128 At2 (by omega)
    have htl : (st.take (st.length - takesD x.kind)).length = st.length - takesD x.kind := by rw [List.length_take]; omega
    refine FGappendD hok121 7 [] hcut (news := [t]) At1 (by rw [htl]; unfold maxLen; simp; omega) (by rw [htl]; simp; omega) (cells_one (fun _ => rfl) [t]) (h := fun v2 w130 H130 => ⟨Stab_nil, ?_⟩)
    refine FGset hok121 8 [] (h := ⟨Stab_nil, ?_⟩)
    refine FG_end hok121 (by kernel_rfl) ?_
    refine Qblk_normal (Qseq_normal (FW_region (Mv ?_)))
    refine Vv (Gives.addI rfl rfl rfl (by omega)) (Am ?_)
    refine FL_nil ?_
    exact Qround_normal (i + 1, st.take (st.length - takesD x.kind) ++ [t], v2) ⟨rfl, rfl, rfl, rfl, rfl, trivial⟩ ⟨⟨by dsimp only; omega, by dsimp only; rw [List.length_append, htl]; simp; omega, hst2⟩, H130.drop0⟩ (by dsimp only; omega)
  have hil : i = l.length := by omega
  rw [hil, List.drop_length, runT] at hst
  rw [← hst] at hres
  refine FW_exit (Qseq_exit (Qround_exit (Qblk_exit (Qseq_normal (FW_seq (Sr (Mv ?_)))))))
  refine Vs ?_
  refine Vn ?_
  refine Qn (Cp rfl (fun hc140 => ?_) (fun hc140 => ?_))
  · have hfin : res = (type0, 220) := by
      rw [hres]
      match st, hc140 with
      | [], _ => rfl
      | [_], h => exact absurd rfl h
      | _ :: _ :: _, _ => rfl
    refine Sr (Vv (Gives.build (out := typeCells type0) Fills.nil) (FL_storeAll H18 (h := fun w144 H144 => ?_)))
    refine Am ?_
    refine Qn (Rs (QfnC_ret (h := ?_)))
    exact ⟨_, resC2 H144, by rw [hfin]; rfl, H144.kept⟩
  have h1 : st.length = 1 := by omega
  obtain ⟨t, ht⟩ := List.length_eq_one_iff.1 h1
  have hg : st[0]? = some t := by rw [ht]; rfl
  have hfin : res = (t, 0) := by rw [hres, ht]
  refine Sk (Sr (Mv ?_))
  refine Vv (Gives.idxR (i := 0) rfl rfl hB (by omega)) (Vv (Gives.loadW0 (i := 0) rfl hB hg) ?_)
  refine FL_storeAll H18 (h := fun w152 H152 => ?_)
  refine Am ?_
  refine Qn (FW_ret (QfnC_ret (h := ?_)))
  exact ⟨_, resC2 H152, by rw [hfin]; rfl, H152.kept⟩
end
section
variable {w : World}
end
section
variable {w : World}
end
end Go.Proofs.YtolaedhdjcnijaaGreatDoor
namespace Go.Proofs.YtolaedhdjcnijaaGreatDoor
open Go Go.Lib
set_option maxRecDepth 4000
def okC (t : TypeM) (c : CellM) : Prop := checkC t c = 0
end Go.Proofs.YtolaedhdjcnijaaGreatDoor
namespace Go.Proofs.YtolaedhdjcnijaaGreatDoor
open Go Go.Lib
theorem insertI_at : ∀ {l : List Int} {k : Nat} {id : Int}, (∀ (j : Nat) x, j < k → l[j]? = some x → x < id) → k ≤ l.length → (∀ x, l[k]? = some x → ¬ x < id) →
    insertI id l = if l[k]? = some id then l else l.take k ++ id :: l.drop k
  | [], k, id, _, hk, _ => by
    have : k = 0 := by simpa using hk
    subst this
    rfl
  | x :: l, 0, id, _, _, h => by
    have hx := h x rfl
    rw [insertI, if_neg hx]
    by_cases e : x = id
    · rw [if_pos e, if_pos (by rw [e]; rfl)]
    rw [if_neg e, if_neg (fun e2 => e (by injection e2))]
    rfl
  | x :: l, k + 1, id, h1, hk, h => by
    have hx := h1 0 x (by omega) rfl
    rw [insertI, if_pos hx, insertI_at (k := k) (fun j y hj hy => h1 (j + 1) y (by omega) hy) (by simpa using hk) (fun y hy => h y hy)]
    show _ = if l[k]? = some id then x :: l else x :: (l.take k ++ id :: l.drop k)
    split <;> rfl
theorem insertI_mem {k x : Int} : ∀ {l : List Int}, x ∈ insertI k l ↔ x = k ∨ x ∈ l
 | [] => by simp [insertI]
 | y :: l => by
  rw [insertI]
  split
  ·rw [List.mem_cons, insertI_mem, List.mem_cons]; constructor
   ·rintro (h | h | h)
    ·exact .inr (.inl h)
    ·exact .inl h
    exact .inr (.inr h)
   rintro (h | h | h)
   ·exact .inr (.inl h)
   ·exact .inl h
   exact .inr (.inr h)
  split
  ·rename_i h1 h2
   subst h2
   rw [List.mem_cons]
   constructor
   ·intro h; exact .inr h
   rintro (h | h)
   ·exact .inl h
   exact h
  rw [List.mem_cons]
theorem insertI_rises {k : Int} : ∀ {l : List Int}, l.Pairwise (· < ·) → (insertI k l).Pairwise (· < ·)
 | [], _ => by simp [insertI]
 | y :: l, h => by
  rw [insertI]
  obtain ⟨h1, h2⟩ := List.pairwise_cons.1 h
  split
  ·rename_i hy
   refine List.pairwise_cons.2 ⟨fun z hz => ?_, insertI_rises h2⟩
   rcases insertI_mem.1 hz with rfl | hz
   ·exact hy
   exact h1 z hz
  split
  ·exact h
  refine List.pairwise_cons.2 ⟨fun z hz => ?_, h⟩
  rcases List.mem_cons.1 hz with rfl | hz
  ·omega
  have := h1 z hz; omega
theorem usesS_fold {l : List StepM} : ∀ {a : List Int}, a.Pairwise (· < ·) → (l.foldl (fun a x => insertI x.n a) a).Pairwise (· < ·) ∧ ∀ k, k ∈ l.foldl (fun a x => insertI x.n a) a ↔ k ∈ a ∨ ∃ x ∈ l, x.n = k := by
 induction l with
 | nil => intro a h; exact ⟨h, fun k => by simp⟩
 | cons x l ih =>
  intro a h
  obtain ⟨h1, h2⟩ := ih (a := insertI x.n a) (insertI_rises h)
  refine ⟨h1, fun k => ?_⟩
  rw [List.foldl_cons, h2 k, insertI_mem]
  constructor
  ·rintro ((h | h) | ⟨y, hy, e⟩)
   ·exact .inr ⟨x, List.mem_cons_self, h.symm⟩
   ·exact .inl h
   exact .inr ⟨y, List.mem_cons_of_mem _ hy, e⟩
  rintro (h | ⟨y, hy, e⟩)
  ·exact .inl (.inr h)
  rcases List.mem_cons.1 hy with rfl | hy
  ·exact .inl (.inl e.symm)
  exact .inr ⟨y, hy, e⟩
theorem usesS_rises (l : List StepM) : (usesS l).Pairwise (· < ·) := (usesS_fold List.Pairwise.nil).1
theorem usesS_mem {l : List StepM} {k : Int} : k ∈ usesS l ↔ ∃ x ∈ l, x.kind = 1 ∧ x.n = k := by
 unfold usesS
 rw [(usesS_fold List.Pairwise.nil).2 k]
 simp only [List.not_mem_nil, false_or, List.mem_filter, decide_eq_true_eq, and_assoc]
theorem rises_same : ∀ {a b : List Int}, a.Pairwise (· < ·) → b.Pairwise (· < ·) → (∀ k, k ∈ a ↔ k ∈ b) → a = b
 | [], [], _, _, _ => rfl
 | [], y :: b, _, _, h => absurd ((h y).2 List.mem_cons_self) (by simp)
 | x :: a, [], _, _, h => absurd ((h x).1 List.mem_cons_self) (by simp)
 | x :: a, y :: b, h1, h2, h => by
  obtain ⟨p1, p2⟩ := List.pairwise_cons.1 h1
  obtain ⟨q1, q2⟩ := List.pairwise_cons.1 h2
  have hxy : x = y := by
   rcases List.mem_cons.1 ((h x).1 List.mem_cons_self) with e | hx
   ·exact e
   rcases List.mem_cons.1 ((h y).2 List.mem_cons_self) with e | hy
   ·exact e.symm
   have := p1 y hy
   have := q1 x hx
   omega
  subst hxy
  congr 1
  refine rises_same p2 q2 fun k => ⟨fun hk => ?_, fun hk => ?_⟩
  ·rcases List.mem_cons.1 ((h k).1 (List.mem_cons_of_mem _ hk)) with rfl | hk'
   ·exact absurd (p1 k hk) (by omega)
   exact hk'
  rcases List.mem_cons.1 ((h k).2 (List.mem_cons_of_mem _ hk)) with rfl | hk'
  ·exact absurd (q1 k hk) (by omega)
  exact hk'
theorem foldl_filter {l : List StepM} (a : List Int) : (l.filter fun x => decide (x.kind = 1)).foldl (fun a x => insertI x.n a) a = l.foldl (fun a x => if x.kind = 1 then insertI x.n a else a) a := by
 induction l generalizing a with
 | nil => rfl
 | cons x l ih =>
  rw [List.foldl_cons, List.filter_cons]
  by_cases h : x.kind = 1
  ·rw [if_pos (by simpa using h), if_pos h, List.foldl_cons, ih]
  rw [if_neg (by simpa using h), if_neg h, ih]
theorem insertI_len (k : Int) : ∀ l : List Int, (insertI k l).length ≤ l.length + 1
 | [] => by simp [insertI]
 | x :: l => by
  rw [insertI]
  have := insertI_len k l
  split
  ·simp; omega
  split <;> simp
end Go.Proofs.YtolaedhdjcnijaaGreatDoor
