/-
 Rows of data that are owned.
-/
import Derived.Test.YtolaedhdjcnijaaGreatDoorKx12
import Derived.ArgAppend
set_option linter.unusedVariables false
set_option linter.unusedSimpArgs false
namespace Go.Mw
open Go.RowKit
def rowD {α : Type} (e k : Nat) (enc : α → List Value) (v : Value) (l : List α) : HP := rowH e k v l.length (l.flatMap enc)
section
variable {α : Type} {enc : α → List Value} {k e : Nat} {l news : List α} {A : Option Addr} {w w' w₀ : World} {S : Nat → Prop} {rs : List HP} {put : HP → List HP} {v : Value}
theorem Sep.nilD (H : Sep w₀ S rs w) (e k : Nat) (enc : α → List Value) : Sep w₀ S (rowD e k enc (.slice none 0 0) [] :: rs) w := H.nilRow e k
theorem Sep.formD (H : Sep w₀ S rs w) (hat : At rs (rowD e k enc v l) put) : ∃ A c, v = .slice A l.length c ∧ l.length ≤ c ∧ Rd w A enc k l := by
 obtain ⟨A, c, hv, hle, _, _⟩ := Sep.rowForm H hat
 subst hv
 exact ⟨A, c, rfl, hle, Sep.rowAt H hat⟩
theorem flat_take (hk : ∀ x, (enc x).length = k) : ∀ (l : List α) (m : Nat), (l.take m).flatMap enc = (l.flatMap enc).take (m * k)
 | _, 0 => by simp
 | [], m + 1 => by simp
 | a :: l, m + 1 => by
  rw [List.take_succ_cons, List.flatMap_cons, List.flatMap_cons, flat_take hk l m, List.take_append, hk, Nat.succ_mul, Nat.add_sub_cancel, List.take_of_length_le (l := enc a) (by rw [hk]; omega)]
theorem gives_appendD {P : Program} {ρ : Operand → Value} {ty : TypeId} {x y : Operand} {t b c bytes : Nat} [hs : IsSlice P t e] [hc : Cells P e k bytes] {z : Value} [hz : Zero P e z] [hk : EncK enc k]
    (H : Sep w₀ S (blk b (news.flatMap enc) e :: rs) w) (hx : ρ x = v) (hy : ρ y = .slice (some ⟨b, 0, none⟩) c c) (hc' : c = news.length) (hat : At rs (rowD e k enc v l) put) (hone : ∀ u ∈ news.flatMap enc, u.oneCell' = true)
    (hk0 : 0 < k) (hzs : z.cells.size = k) (h63 : l.length + news.length ≤ maxLen) (hbytes : (l.length + news.length) * bytes ≤ 140737488355328) :
    ∃ v' w', Gives P ρ (.call { callee := .builtin .append, args := #[x, y], argTypes := #[t, t] }) ty w v' w' ∧ Sep w₀ S (put (rowD e k enc v' (l ++ news))) w' := by
  subst hc'
  have hr : RowAt w (some ⟨b, 0, none⟩) news.length k (news.flatMap enc) := Sep.blkRow H At0 (flat_len hk.len news)
  have H2 := H.drop0
  obtain ⟨F, hp, _, _⟩ := H2.focus hat
  obtain ⟨v', w', hrun, hown, hg, hb⟩ := run_append (P := P) (ty := ty) t e (z := z) hk0 hzs v l.length (l.flatMap enc) hp.1 (some ⟨b, 0, none⟩) news.length news.length (news.flatMap enc) hr hone h63 hbytes
  refine ⟨v', w', fun _ _ _ _ => ?_, ?_⟩
  · simp only [execOp, resolve, invoke, builtin, Sem.run_bind, Sem.run_pure, Result.andThen_ok, List.map_toArray, List.map_cons, List.map_nil, hx, hy, hrun]
  refine H2.rowTurn hat hg ?_ (by rcases hb with e | e <;> simp [e])
  rw [← List.flatMap_append] at hown
  rw [List.length_append]
  exact hown
end
section
variable {P : Program} {r : Option Nat} {n : Nat} {ops : Array Oper} {Q : Post} {rest : List Oper} {σ : St} {w w' w₀ : World} {S : Nat → Prop} {rs : List HP} {put : HP → List HP} {ty : TypeId} {pos : String} {after : Array Edge} {guard : Option (Nat × Bool)} {lv : List Bool} {pd : List (Nat × Bool)} {α : Type} {enc : α → List Value} {k e : Nat} {l news : List α} {v : Value}
theorem FL_appendD {d : Nat} {x y : Operand} {t b c bytes : Nat} [hs : IsSlice P t e] [hc : Cells P e k bytes] {z : Value} [hz : Zero P e z] [hk : EncK enc k]
    (H : Sep w₀ S (blk b (news.flatMap enc) e :: rs) w) (hat : At rs (rowD e k enc v l) put) (h63 : l.length + news.length ≤ maxLen) (hbytes : (l.length + news.length) * bytes ≤ 140737488355328) (hone : ∀ u ∈ news.flatMap enc, u.oneCell' = true)
    (hx : evF σ x = v := by exact rfl) (hy : evF σ y = .slice (some ⟨b, 0, none⟩) c c := by exact rfl) (hc' : c = news.length := by exact rfl) (hk0 : 0 < k := by decide) (hzs : z.cells.size = k := by exact rfl) (hd : Nat.blt d n = true := by exact rfl)
    (h : ∀ v' w', Sep w₀ S (put (rowD e k enc v' (l ++ news))) w' → FL P r n ops Q rest (upd σ d v') w') :
    FL P r n ops Q ({ dst := some d, op := .call { callee := .builtin .append, args := #[x, y], argTypes := #[t, t] }, type := ty, pos := pos, after := after, guard := none } :: rest) σ w := by
  obtain ⟨v', w', hg, hs'⟩ := gives_appendD (P := P) (t := t) (ty := ty) H hx hy hc' hat hone hk0 hzs h63 hbytes
  exact FL_val hg hd (h v' w' hs')
theorem FGappendD (hok : okOps n ops = true) (i : Nat) (pd' : List (Nat × Bool)) {d : Nat} {x y : Operand} {t b c bytes : Nat} [hs : IsSlice P t e] [hc : Cells P e k bytes] {z : Value} [hz : Zero P e z] [hk : EncK enc k]
    (H : Sep w₀ S (blk b (news.flatMap enc) e :: rs) w) (hat : At rs (rowD e k enc v l) put) (h63 : l.length + news.length ≤ maxLen) (hbytes : (l.length + news.length) * bytes ≤ 140737488355328) (hone : ∀ u ∈ news.flatMap enc, u.oneCell' = true)
    (ho : ops[i]? = some { dst := some d, op := .call { callee := .builtin .append, args := #[x, y], argTypes := #[t, t] }, type := ty, pos := pos, after := after, guard := guard } := by exact rfl)
    (hw : Region.wanted { dst := some d, op := .call { callee := .builtin .append, args := #[x, y], argTypes := #[t, t] }, type := ty, pos := pos, after := after, guard := guard } (yieldF ops σ) = true := by kernel_rfl)
    (hx : evF σ x = v := by exact rfl) (hy : evF σ y = .slice (some ⟨b, 0, none⟩) c c := by exact rfl) (hc' : c = news.length := by exact rfl) (hk0 : 0 < k := by decide) (hzs : z.cells.size = k := by exact rfl)
    (hck : effectOk ops lv (pd.map (·.1)) i = true := by kernel_rfl) (hpd : pd.filter (fun p => !((above ops i).contains p.1)) = pd' := by kernel_rfl)
    (h : ∀ v' w', Sep w₀ S (put (rowD e k enc v' (l ++ news))) w' → Stab P ops (upd σ d v') w' pd' ∧ FG P r n ops Q (lv.set i true) pd' (upd σ d v') w') : FG P r n ops Q lv pd σ w :=
  FGval hok i pd' ho hw (gives_appendD (P := P) (t := t) (ty := ty) H hx hy hc' hat hone hk0 hzs h63 hbytes) hck hpd h
theorem FGalloc (hok : okOps n ops = true) (i : Nat) (pd' : List (Nat × Bool)) {d : Nat} {T : TypeId} {z : Value} [hz : Zero P T z] {cs : List Value} (H : Sep w₀ S rs w) (ho : ops[i]? = some { dst := some d, op := .alloc T, type := ty, pos := pos, after := after, guard := guard } := by exact rfl)
    (hw : Region.wanted { dst := some d, op := .alloc T, type := ty, pos := pos, after := after, guard := guard } (yieldF ops σ) = true := by kernel_rfl) (hcs : z.cells = cs.toArray := by exact rfl)
    (hck : effectOk ops lv (pd.map (·.1)) i = true := by kernel_rfl) (hpd : pd.filter (fun p => !((above ops i).contains p.1)) = pd' := by kernel_rfl)
    (h : ∀ b w', Sep w₀ S (blk b cs T :: rs) w' → Stab P ops (upd σ d (.pointer (some ⟨b, 0, none⟩))) w' pd' ∧ FG P r n ops Q (lv.set i true) pd' (upd σ d (.pointer (some ⟨b, 0, none⟩))) w') : FG P r n ops Q lv pd σ w :=
  FGval (C := fun v w' => ∃ b, v = .pointer (some ⟨b, 0, none⟩) ∧ Sep w₀ S (blk b cs T :: rs) w') hok i pd' ho hw
    ⟨.pointer (some ⟨w.heap.size, 0, none⟩), w.alloc (.cells cs.toArray T), fun _ _ _ _ => by simp [execOp, Instr.alloc, hz.run, newVar, newRow, hcs], _, rfl, H.alloc _⟩ hck hpd
    (fun v w' hv => by obtain ⟨b, rfl, hs⟩ := hv; exact h b w' hs)
end
section
variable {P : Program} {ρ : Operand → Value} {ty : TypeId} {w : World} {x y : Operand} {α : Type} {enc : α → List Value} {k : Nat} {l : List α} {A : Option Addr}
theorem Gives.loadW [hk : EncK enc k] {i f : Nat} {c : α} {v : Value} {T : TypeId} [OneCell P T] (hx : ρ x = adr A (i * k + f)) (hr : Rd w A enc k l) (hg : l[i]? = some c) (hv : (enc c)[f]? = some v) : Gives P ρ (.load T x) ty w v w := by
 obtain ⟨ad, rfl, h2⟩ := hr.cell hg hv
 exact Gives.loadC hx h2
theorem Gives.loadW0 [hk : EncK enc k] {i : Nat} {c : α} {T : TypeId} [Agg P T k] (hx : ρ x = adr A (i * k)) (hr : Rd w A enc k l) (hg : l[i]? = some c) : Gives P ρ (.load T x) ty w (.agg (enc c).toArray) w :=
 Gives.loadE0 (rs := []) hx (Sep.start0 w) hr hg
end
end Go.Mw
namespace Go.Proofs.YtolaedhdjcnijaaGreatDoor
open Go Go.Mw
theorem cells_one {α : Type} {enc : α → List Value} (h : ∀ x, (enc x).all Value.oneCell' = true) (l : List α) : ∀ u ∈ l.flatMap enc, u.oneCell' = true := fun u hu => by
 obtain ⟨x, _, hx⟩ := List.mem_flatMap.1 hu
 exact List.all_eq_true.1 (h x) u hx
end Go.Proofs.YtolaedhdjcnijaaGreatDoor
namespace Go.Mw
open Go
section
variable {α β : Type} {enc : α → List Value} {val : β → Value} {row : β → List α} {k e : Nat} {l : List β} {x : β} {w w₀ : World} {S : Nat → Prop} {rs : List HP} {put : HP → List HP}
end
end Go.Mw
namespace Go.Mw
open Go.RowKit
section
variable {α : Type} {enc : α → List Value} {k e : Nat} {l news : List α} {A B : Option Addr} {w w' w₀ : World} {S : Nat → Prop} {rs : List HP}
theorem own_base {w : World} {b e s n : Nat} {v : Value} {xs : List Value} (h : w.ownsRow b e s v n xs) : w.ownsRow 0 e s v n xs := by
 refine ⟨h.1, ?_⟩
 rcases h.2 with h2 | ⟨g, cap, cur, hv, _, r⟩
 ·exact .inl h2
 exact .inr ⟨g, cap, cur, hv, Nat.zero_le _, r⟩
theorem kept_grown {w w' : World} (h : w.grownBy w' none) : Kept noB w w' := ⟨h.os, h.tape, h.output, h.size, fun k hk _ => h.block k hk fun e => by cases e⟩
theorem gives_appendF {P : Program} {ρ : Operand → Value} {ty : TypeId} {x y : Operand} {t c bytes : Nat} [hs : IsSlice P t e] [hc : Cells P e k bytes] {z : Value} [hz : Zero P e z] [hk : EncK enc k]
    (H : Sep w₀ S rs w) (hx : ρ x = .slice A l.length l.length) (hr : Rd w A enc k l) (hy : ρ y = .slice B news.length c) (hrb : Rd w B enc k news) (hone : ∀ u ∈ news.flatMap enc, u.oneCell' = true)
    (hk0 : 0 < k) (hzs : z.cells.size = k) (hne : 0 < news.length) (h63 : l.length + news.length ≤ maxLen) (hbytes : (l.length + news.length) * bytes ≤ 140737488355328) :
    ∃ v' w', Gives P ρ (.call { callee := .builtin .append, args := #[x, y], argTypes := #[t, t] }) ty w v' w' ∧ Sep w₀ S (rowD e k enc v' (l ++ news) :: rs) w' ∧ Kept noB w w' := by
  have fin : ∀ v' w', (Builtin.append_ #[t, t] ty #[.slice A l.length l.length, .slice B news.length c]).run P w = .ok v' w' → w'.ownsRow 0 e k v' (l.length + news.length) (l.flatMap enc ++ news.flatMap enc) → Kept noB w w' → (∀ b, v'.ownBlock = some b → w.heap.size ≤ b) →
      ∃ v' w', Gives P ρ (.call { callee := .builtin .append, args := #[x, y], argTypes := #[t, t] }) ty w v' w' ∧ Sep w₀ S (rowD e k enc v' (l ++ news) :: rs) w' ∧ Kept noB w w' := by
    intro v' w' hrun hown hkk hb
    refine ⟨v', w', fun _ _ _ _ => ?_, H.new (F' := fun b => v'.ownBlock = some b) hkk ⟨?_, fun b => Iff.rfl⟩ hb, hkk⟩
    · simp only [execOp, resolve, invoke, builtin, Sem.run_bind, Sem.run_pure, Result.andThen_ok, List.map_toArray, List.map_cons, List.map_nil, hx, hy, hrun]
    show w'.ownsRow 0 e k v' (l ++ news).length ((l ++ news).flatMap enc)
    rw [List.length_append, List.flatMap_append]; exact hown
  cases A with
  | none =>
    have hl : l = [] := by
      rcases Nat.eq_zero_or_pos l.length with h | h
      · exact List.eq_nil_of_length_eq_zero h
      obtain ⟨ad, h1⟩ := hr.addr h; cases h1
    subst hl
    obtain ⟨v', w', hrun, hown, hg, hb⟩ := run_append (P := P) (ty := ty) t e hk0 hzs (.slice none 0 0) 0 [] (World.ownsRow_nil w 0 e k) B news.length c (news.flatMap enc) hrb hone h63 hbytes
    refine fin v' w' hrun hown (kept_grown hg) fun b hb' => ?_
    rcases hb with h | h
    · rw [h] at hb'; cases hb'
    rw [h] at hb'; injection hb' with hb'; omega
  | some ad =>
    obtain ⟨i, hi, hsb⟩ := Option.map_eq_some_iff.1 hc.size
    simp only [Prod.mk.injEq] at hsb
    have hzero : i.zero = some z := by
      have := hz.run w
      simp [zeroValue, typeInfo, hi] at this
      cases hq : i.zero with
      | none => simp [hq] at this
      | some u => simp [hq] at this; rw [this]
    obtain ⟨bd, hB, hcb⟩ := hrb.at_ hne
    subst hB
    have hca : ∀ j u, (l.flatMap enc)[j]? = some u → w.cell? (ad.add j) = some u := by
      intro j u hu
      rcases Nat.eq_zero_or_pos l.length with h | h
      · have hn := List.eq_nil_of_length_eq_zero h
        subst hn
        simp at hu
      obtain ⟨ad', h1, h2⟩ := hr.at_ h
      injection h1 with h1
      subst h1
      exact h2 j u hu
    obtain ⟨v', w', hrun, hown, hg⟩ := run_append_arg_grows (P := P) w t ty e i z k bytes hs.und hi hzero hsb.1 hsb.2 hzs hk0 ad l.length l.length (l.flatMap enc) hr.len hca bd news.length c (news.flatMap enc) hrb.len hcb (by omega) h63 hbytes
    exact fin v' w' hrun (own_base hown) (kept_grown hg) fun b hb => (hown.lt b hb).1
end
section
variable {P : Program} {r : Option Nat} {n : Nat} {ops : Array Oper} {Q : Post} {rest : List Oper} {σ : St} {w w' w₀ : World} {S : Nat → Prop} {rs : List HP} {put : HP → List HP} {ty : TypeId} {pos : String} {after : Array Edge} {guard : Option (Nat × Bool)} {lv : List Bool} {pd : List (Nat × Bool)} {α : Type} {enc : α → List Value} {k e : Nat} {l news : List α} {A B : Option Addr}
theorem FL_appendF {d : Nat} {x y : Operand} {t c bytes : Nat} [hs : IsSlice P t e] [hc : Cells P e k bytes] {z : Value} [hz : Zero P e z] [hk : EncK enc k]
    (H : Sep w₀ S rs w) (hr : Rd w A enc k l) (hrb : Rd w B enc k news) (hne : 0 < news.length) (h63 : l.length + news.length ≤ maxLen) (hbytes : (l.length + news.length) * bytes ≤ 140737488355328) (hone : ∀ u ∈ news.flatMap enc, u.oneCell' = true)
    (hx : evF σ x = .slice A l.length l.length := by exact rfl) (hy : evF σ y = .slice B news.length c := by exact rfl) (hk0 : 0 < k := by decide) (hzs : z.cells.size = k := by exact rfl) (hd : Nat.blt d n = true := by exact rfl)
    (h : ∀ v' w', Sep w₀ S (rowD e k enc v' (l ++ news) :: rs) w' → Kept noB w w' → FL P r n ops Q rest (upd σ d v') w') :
    FL P r n ops Q ({ dst := some d, op := .call { callee := .builtin .append, args := #[x, y], argTypes := #[t, t] }, type := ty, pos := pos, after := after, guard := none } :: rest) σ w := by
  obtain ⟨v', w', hg, hs', hkk⟩ := gives_appendF (P := P) (t := t) (ty := ty) H hx hr hy hrb hone hk0 hzs hne h63 hbytes
  exact FL_val hg hd (h v' w' hs' hkk)
theorem gives_appendO {P : Program} {ρ : Operand → Value} {ty : TypeId} {x y : Operand} {t c bytes : Nat} {v : Value} [hs : IsSlice P t e] [hc : Cells P e k bytes] {z : Value} [hz : Zero P e z] [hk : EncK enc k]
    (H : Sep w₀ S rs w) (hx : ρ x = v) (hy : ρ y = .slice B news.length c) (hrb : Rd w B enc k news) (hat : At rs (rowD e k enc v l) put) (hone : ∀ u ∈ news.flatMap enc, u.oneCell' = true)
    (hk0 : 0 < k) (hzs : z.cells.size = k) (h63 : l.length + news.length ≤ maxLen) (hbytes : (l.length + news.length) * bytes ≤ 140737488355328) :
    ∃ v' w', Gives P ρ (.call { callee := .builtin .append, args := #[x, y], argTypes := #[t, t] }) ty w v' w' ∧ Sep w₀ S (put (rowD e k enc v' (l ++ news))) w' := by
  obtain ⟨v', w', hg, h2⟩ := gives_append (P := P) (t := t) (ty := ty) H hx hy hat hrb hone hk0 hzs h63 hbytes
  refine ⟨v', w', hg, ?_⟩
  have e : rowD e k enc v' (l ++ news) = rowH e k v' (l.length + news.length) (l.flatMap enc ++ news.flatMap enc) := by unfold rowD; rw [List.length_append, List.flatMap_append]
  rw [e]; exact h2
theorem FL_appendO {d : Nat} {x y : Operand} {t c bytes : Nat} {v : Value} [hs : IsSlice P t e] [hc : Cells P e k bytes] {z : Value} [hz : Zero P e z] [hk : EncK enc k]
    (H : Sep w₀ S rs w) (hat : At rs (rowD e k enc v l) put) (hrb : Rd w B enc k news) (h63 : l.length + news.length ≤ maxLen) (hbytes : (l.length + news.length) * bytes ≤ 140737488355328) (hone : ∀ u ∈ news.flatMap enc, u.oneCell' = true)
    (hx : evF σ x = v := by exact rfl) (hy : evF σ y = .slice B news.length c := by exact rfl) (hk0 : 0 < k := by decide) (hzs : z.cells.size = k := by exact rfl) (hd : Nat.blt d n = true := by exact rfl)
    (h : ∀ v' w', Sep w₀ S (put (rowD e k enc v' (l ++ news))) w' → FL P r n ops Q rest (upd σ d v') w') :
    FL P r n ops Q ({ dst := some d, op := .call { callee := .builtin .append, args := #[x, y], argTypes := #[t, t] }, type := ty, pos := pos, after := after, guard := none } :: rest) σ w := by
  obtain ⟨v', w', hg, hs'⟩ := gives_appendO (P := P) (t := t) (ty := ty) H hx hy hrb hat hone hk0 hzs h63 hbytes
  exact FL_val hg hd (h v' w' hs')
theorem FGappendO (hok : okOps n ops = true) (i : Nat) (pd' : List (Nat × Bool)) {d : Nat} {x y : Operand} {t c bytes : Nat} {v : Value} [hs : IsSlice P t e] [hc : Cells P e k bytes] {z : Value} [hz : Zero P e z] [hk : EncK enc k]
    (H : Sep w₀ S rs w) (hat : At rs (rowD e k enc v l) put) (hrb : Rd w B enc k news) (h63 : l.length + news.length ≤ maxLen) (hbytes : (l.length + news.length) * bytes ≤ 140737488355328) (hone : ∀ u ∈ news.flatMap enc, u.oneCell' = true)
    (ho : ops[i]? = some { dst := some d, op := .call { callee := .builtin .append, args := #[x, y], argTypes := #[t, t] }, type := ty, pos := pos, after := after, guard := guard } := by exact rfl)
    (hw : Region.wanted { dst := some d, op := .call { callee := .builtin .append, args := #[x, y], argTypes := #[t, t] }, type := ty, pos := pos, after := after, guard := guard } (yieldF ops σ) = true := by kernel_rfl)
    (hx : evF σ x = v := by exact rfl) (hy : evF σ y = .slice B news.length c := by exact rfl) (hk0 : 0 < k := by decide) (hzs : z.cells.size = k := by exact rfl)
    (hck : effectOk ops lv (pd.map (·.1)) i = true := by kernel_rfl) (hpd : pd.filter (fun p => !((above ops i).contains p.1)) = pd' := by kernel_rfl)
    (h : ∀ v' w', Sep w₀ S (put (rowD e k enc v' (l ++ news))) w' → Stab P ops (upd σ d v') w' pd' ∧ FG P r n ops Q (lv.set i true) pd' (upd σ d v') w') : FG P r n ops Q lv pd σ w :=
  FGval hok i pd' ho hw (gives_appendO (P := P) (t := t) (ty := ty) H hx hy hrb hat hone hk0 hzs h63 hbytes) hck hpd h
end
section
/-! The same, whatever else is ready. -/
variable {P : Program} {r : Option Nat} {n : Nat} {ops : Array Oper} {Q : Post} {rest : List Oper} {σ : St} {w w' w₀ : World} {S : Nat → Prop} {rs : List HP} {put : HP → List HP} {ty : TypeId} {pos : String} {after : Array Edge} {guard : Option (Nat × Bool)} {lv : List Bool} {pd : List (Nat × Bool)} {α : Type} {enc : α → List Value} {k e : Nat} {l news : List α} {A B : Option Addr} {v : Value}
end
theorem Rd.cut {α : Type} {enc : α → List Value} {k : Nat} [hk : EncK enc k] {w : World} {A : Option Addr} {l : List α} (h : Rd w A enc k l) (m : Nat) : Rd w A enc k (l.take m) := by
 refine ⟨flat_len hk.len _, fun hn => ?_⟩
 have hl : 0 < l.length := by rw [List.length_take] at hn; omega
 obtain ⟨ad, h1, h2⟩ := h.at_ hl
 refine ⟨ad, h1, fun j u hu => h2 j u ?_⟩
 rw [flat_take hk.len, List.getElem?_take] at hu
 split at hu
 ·exact hu
 cases hu
theorem Rd.from {α : Type} {enc : α → List Value} {k : Nat} [hk : EncK enc k] {w : World} {A : Option Addr} {l : List α} (h : Rd w A enc k l) (m : Nat) : Rd w (A.map fun a => a.add (m * k)) enc k (l.drop m) := by
 refine ⟨flat_len hk.len _, fun hn => ?_⟩
 rw [List.length_drop] at hn
 obtain ⟨ad, h1, h2⟩ := h.at_ (by omega)
 subst h1
 refine ⟨ad.add (m * k), rfl, fun j u hu => ?_⟩
 rw [add_add]
 refine h2 _ _ ?_
 rw [← hu]
 have e : l.flatMap enc = (l.take m).flatMap enc ++ (l.drop m).flatMap enc := by rw [← List.flatMap_append, List.take_append_drop]
 have el : ((l.take m).flatMap enc).length = m * k := by rw [flat_len hk.len, List.length_take, Nat.min_eq_left (by omega)]
 rw [e, List.getElem?_append_right (by omega), el, Nat.add_sub_cancel_left]
theorem Rd.nil {α : Type} {enc : α → List Value} {k : Nat} {w : World} {A : Option Addr} : Rd w A enc k [] := ⟨by simp, fun h => absurd h (by simp)⟩
theorem Rd.fromC {α : Type} {enc : α → List Value} {k c : Nat} [hk : EncK enc k] {w : World} {A : Option Addr} {l : List α} (h : Rd w A enc k l) (m : Nat) (hc : l.length ≤ c) : Rd w (if c = m then A else A.map fun a => a.add (m * k)) enc k (l.drop m) := by
 split
 ·rw [List.drop_of_length_le (by omega)]; exact Rd.nil
 exact h.from m
end Go.Mw
namespace Go.Proofs.YtolaedhdjcnijaaGreatDoor
open Go Go.Mw
def intCells (n : Int) : List Value := [I n]
def textCells (s : List UInt8) : List Value := [str s]
instance : EncK intCells 1 := ⟨fun _ => rfl⟩
instance : EncK textCells 1 := ⟨fun _ => rfl⟩
end Go.Proofs.YtolaedhdjcnijaaGreatDoor
namespace Go.Proofs.YtolaedhdjcnijaaGreatDoor
open Go Go.Mw Go.Lib
set_option maxRecDepth 4000
theorem getD_of {α : Type} {l : List α} {i : Nat} {c d : α} (h : l[i]? = some c) : l.getD i d = c := by rw [List.getD_eq_getElem?_getD, h]; rfl
theorem Sep_rdD {α : Type} {w₀ w : World} {S : Nat → Prop} {rs : List HP} {put : HP → List HP} {e k c : Nat} {enc : α → List Value} {l : List α} {A : Option Addr} (H : Sep w₀ S rs w) (hat : At rs (rowD e k enc (.slice A l.length c) l) put) : Rd w A enc k l := Sep.rowAt H hat
attribute [local irreducible] mayS mayT
section
variable {w : World}
end
section
variable {w : World}
end
section
variable {w : World}
end
end Go.Proofs.YtolaedhdjcnijaaGreatDoor
namespace Go.Proofs.YtolaedhdjcnijaaGreatDoor
open Go Go.Lib
set_option maxRecDepth 4000
def okC (t : TypeM) (c : CellM) : Prop := checkC t c = 0
end Go.Proofs.YtolaedhdjcnijaaGreatDoor
namespace Go.Proofs.YtolaedhdjcnijaaGreatDoor
open Go Go.Lib
end Go.Proofs.YtolaedhdjcnijaaGreatDoor
namespace Go.Proofs.YtolaedhdjcnijaaGreatDoor
open Go Go.Mw Go.Lib
set_option maxRecDepth 4000
section
variable {w : World}
end
def blankB (c : UInt8) : List UInt8 := if c = 32 then [92, 117, 48, 48, 50, 48] else [c]
theorem blank_succ {q : List UInt8} {i : Nat} {c : UInt8} (h : q[i]? = some c) : (q.take (i + 1)).flatMap blankB = (q.take i).flatMap blankB ++ blankB c := by
 rw [List.take_add_one, h, List.flatMap_append]; simp
theorem blank_len (q : List UInt8) : (q.flatMap blankB).length ≤ 6 * q.length := len_flat (f := blankB) (fun c => by unfold blankB; split <;> simp) q
theorem quote_len (s : List UInt8) : (quoteL s).length ≤ 6 * s.length + 2 := by
  have h := len_flat (f := quoteB) (k := 6) (fun c => by unfold quoteB; repeat' split
                                                         all_goals simp) s
  unfold quoteL
  simp only [List.length_cons, List.length_append, List.length_nil]
  omega
theorem piece_one {q : List UInt8} {i : Nat} {c : UInt8} (h : q[i]? = some c) : (q.take (i + 1)).drop i = [c] := by
 have hlt := get_lt h
 rw [List.take_add_one, h, List.drop_append, List.drop_of_length_le (by rw [List.length_take]; omega), List.length_take, Nat.min_eq_left (by omega), Nat.sub_self]
 rfl
theorem sign_get {k : Int} (h : 7 ≤ k) (h2 : k ≤ 18) : signsW[(k - 7).toNat]? = some (signsW.getD (k - 7).toNat []) := by
 rw [List.getD_eq_getElem?_getD]
 have : (k - 7).toNat < signsW.length := by show _ < 12; omega
 rw [List.getElem?_eq_getElem this]; rfl
section
variable {w : World}
theorem word_ok22 (x : StepM) (hm : mayS x = true) (hf : fits x.n) : Rets Tryz.prog 86 [agg (stepCells x)] w fun v w' => v = str (wordS x) ∧ Kept noB w w' := by
 have H := Sep.start0 w
 obtain ⟨res, hres⟩ : ∃ res, res = wordS x := ⟨_, rfl⟩
 rw [← hres]
 unfold wordS at hres
 unfold mayS at hm
 have hil := itoa_len hf.1 hf.2
 refine rets1 Tryz.func86 rfl rfl rfl rfl ?_
 refine Sr (FL_box H (cs := stepCells x) rfl (h := fun b0 w2 H2 k0 => ?_))
 refine Am ?_
 refine Qn (FW_seq (Sr (Vf ?_)))
 refine Ld H2 ?_
 refine Qn (FW_block (Sr (Ve ?_)))
 refine Am ?_
 refine Qn (Cp rfl (fun hc8 => ?_) (fun hc8 => ?_))
 ·rw [if_pos hc8] at hres
  refine Sr (Vf ?_)
  refine Ld H2 ?_
  refine FL_callQ H2 (digits_ok9 x.n hf) (h := fun w13 H13 k12 => ?_)
  refine Vv (Gives.catT rfl rfl (by first | omega | (simp; done) | (simp; omega))) ?_
  refine Am ?_
  refine Qn (Rb (Qfn_ret (hR := ?_)))
  exact ⟨by rw [hres]; rfl, H13.kept⟩
 rw [if_neg hc8] at hres hm
 refine Sr (Ve ?_)
 refine Am ?_
 refine Qn (Cp rfl (fun hc20 => ?_) (fun hc20 => ?_))
 ·rw [if_pos hc20] at hres
  refine Sr (Vf ?_)
  refine Ld H2 ?_
  refine FL_callQ H2 (digits_ok9 x.n hf) (h := fun w25 H25 k24 => ?_)
  refine Am ?_
  refine Qn (Rb (Qfn_ret (hR := ?_)))
  exact ⟨by rw [hres]; rfl, H25.kept⟩
 rw [if_neg hc20] at hres hm
 refine Sr (Ve ?_)
 refine Am ?_
 refine Qn (Cp rfl (fun hc31 => ?_) (fun hc31 => ?_))
 ·rw [if_pos hc31] at hres hm
  simp only [decide_eq_true_eq] at hm
  obtain ⟨_, hn0, hn1⟩ := hm
  have hg : [falseW, trueW][x.n.toNat]? = some res := by
   rw [hres]
   rcases (by omega : x.n = 0 ∨ x.n = 1) with e | e
   ·rw [e]; rfl
   rw [e]; rfl
  have htn : ((x.n.toNat : Nat) : Int) = x.n := Int.toNat_of_nonneg hn0
  refine Sr (FL_buildSlice H2 (xs := [_, _]) (out := [falseW, trueW].flatMap textCells) (Elems.one rfl rfl (Elems.one rfl rfl Elems.nil)) rfl rfl rfl (fun b1 w34 H34 k33 => ?_))
  have hR : Rd w34 (some ⟨b1, 0, none⟩) textCells 1 [falseW, trueW] := Sep.blkRow H34 At0 rfl
  refine Vf ?_
  refine Ld H34 ?_
  refine Vv (Gives.idxR (l := [falseW, trueW]) (enc := textCells) (i := x.n.toNat) rfl (by rw [htn]; rfl) hR (get_lt hg)) ?_
  refine Vv (Gives.loadW (f := 0) (i := x.n.toNat) rfl hR hg rfl) (Am ?_)
  refine Qn (Rb (Qfn_ret (hR := ?_)))
  exact ⟨rfl, H34.kept⟩
 rw [if_neg hc31] at hres hm
 refine Sr (Ve ?_)
 refine Am ?_
 refine Qn (Cp rfl (fun hc44 => ?_) (fun hc44 => ?_))
 ·rw [if_pos hc44] at hres hm
  simp only [decide_eq_true_eq] at hm
  obtain ⟨_, hlen, hval⟩ := hm
  have hql := quote_len x.s
  refine Sr (Vf ?_)
  refine Ld H2 ?_
  refine FL_callQ H2 (quote_ok4 x.s (by omega)) (h := fun w49 H49 k48 => ?_)
  rw [show quoteP x.s = (quoteL x.s, 0) by unfold quoteP; rw [if_pos hval]]
  refine Mv ?_
  refine Vx ?_
  refine Vx ?_
  refine Am ?_
  refine Am ?_
  refine Nx (Am ?_)
  refine Qn (FW_seq (Sr (Am ?_)))
  refine Qn (FW_block (FW_loop' (fun i : Nat => [(1, .pointer (some ⟨b0, 0, none⟩)), (3, str (quoteL x.s)), (5, str (((quoteL x.s).take i).flatMap blankB)), (6, I i)]) (fun i w' => i ≤ (quoteL x.s).length ∧ Sep w noB [blk b0 (stepCells x) 60] w') (fun i _ => (quoteL x.s).length - i) 0 ⟨rfl, rfl, rfl, rfl, trivial⟩ ⟨Nat.zero_le _, H49⟩ (fun i τ w58 hI => ?_)))
  obtain ⟨hi, H58⟩ := hI
  have hbl := blank_len ((quoteL x.s).take i)
  rw [List.length_take, Nat.min_eq_left hi] at hbl
  try simp only [upds, like, upd_ds, und_ds]
  refine FW_seq (Sr (Mv ?_))
  refine Mv ?_
  refine Vt ?_
  refine Vl ?_
  refine Qn (Cp rfl (fun hc63 => ?_) (fun hc63 => ?_))
  ·have hlt : i < (quoteL x.s).length := by omega
   obtain ⟨c, hc⟩ := get_some hlt
   have hcd : (quoteL x.s).getD i 0 = c := getD_of hc
   have hsucc := blank_succ hc
   refine Sk (FW_seq (FW_block (Sr (Mv ?_))))
   refine Mv ?_
   refine Vv (Gives.idxD rfl rfl (by omega)) ?_
   rw [hcd]
   refine Ve ?_
   refine Qn (Cp rfl (fun hc69 => ?_) (fun hc69 => ?_))
   ·have hc32 : c = 32 := by rw [← UInt8.toNat_inj]; show c.toNat = 32; omega
    rw [hc32, show blankB 32 = [92, 117, 48, 48, 50, 48] from rfl] at hsucc
    refine FW_region (Mv ?_)
    refine Vv (Gives.catT rfl rfl (by simp only [List.length_cons, List.length_nil]; omega)) ?_
    refine Am ?_
    refine FL_nil (Qblk_normal (Qseq_normal (FW_region (Mv ?_))))
    refine Vv (Gives.addI rfl rfl rfl (by omega)) (Am ?_)
    refine FL_nil ?_
    exact Qround_normal (i + 1) ⟨rfl, rfl, by rw [hsucc]; rfl, rfl, trivial⟩ ⟨by omega, H58⟩ (by omega)
   have hc32 : ¬ c = 32 := fun e => by subst e; exact hc69 rfl
   rw [show blankB c = [c] from if_neg hc32] at hsucc
   refine FW_region (Mv ?_)
   refine Mv ?_
   refine Mv ?_
   refine Mv ?_
   refine Vv (Gives.addI (c := ((i + 1 : Nat) : Int)) rfl rfl (by omega) (by omega)) (Vv (Gives.sliceBothT rfl rfl rfl (by omega) (by omega)) ?_)
   rw [piece_one hc]
   refine Vv (Gives.catT rfl rfl (by simp only [List.length_cons, List.length_nil]; omega)) ?_
   refine Am ?_
   refine FL_nil (Qblk_normal (Qseq_normal (FW_region (Mv ?_))))
   refine Vv (Gives.addI rfl rfl rfl (by omega)) (Am ?_)
   refine FL_nil ?_
   exact Qround_normal (i + 1) ⟨rfl, rfl, by rw [hsucc]; rfl, rfl, trivial⟩ ⟨by omega, H58⟩ (by omega)
  have hil2 : i = (quoteL x.s).length := by omega
  rw [hil2, List.take_length]
  refine FW_exit (Qseq_exit (Qround_exit (Qblk_exit (Qseq_normal (Sr (Mv ?_))))))
  refine Am ?_
  refine Qn (Rb (Qfn_ret (hR := ?_)))
  exact ⟨by rw [hres]; rfl, H58.kept⟩
 rw [if_neg hc44] at hres hm
 refine Sr (Ve ?_)
 refine Am ?_
 refine Qn (Cp rfl (fun hc98 => ?_) (fun hc98 => ?_))
 ·rw [if_pos hc98] at hres hm
  simp only [decide_eq_true_eq] at hm
  obtain ⟨_, hlen⟩ := hm
  have hhl := hexL_length x.s
  refine Sr (Vf ?_)
  refine Ld H2 ?_
  refine FL_callQ H2 (hex_ok9 x.s (by omega)) (h := fun w103 H103 k102 => ?_)
  refine Vv (Gives.catT rfl rfl (by first | omega | (simp; done) | (simp; omega))) ?_
  refine Am ?_
  refine Qn (Rb (Qfn_ret (hR := ?_)))
  exact ⟨by rw [hres]; rfl, H103.kept⟩
 rw [if_neg hc98] at hres hm
 refine Sr (Ve ?_)
 refine Am ?_
 refine Qn (Cp rfl (fun hc110 => ?_) (fun hc110 => ?_))
 ·rw [if_pos hc110] at hres hm
  simp only [decide_eq_true_eq] at hm
  obtain ⟨_, hn⟩ := hm
  have hn' : x.n = 1 ∨ x.n = 3 ∨ x.n = 4 ∨ x.n = 5 := by omega
  refine Sr (Vf ?_)
  refine Ld H2 ?_
  refine FL_callS (word_ok11 _) (h := ?_)
  refine Vv (Gives.catT rfl rfl (by unfold kindW; (repeat' split) <;> simp)) (Am ?_)
  refine Qn (Rb (Qfn_ret (hR := ?_)))
  exact ⟨by rw [hres]; rcases hn' with e | e | e | e <;> rw [e] <;> rfl, H2.kept⟩
 rw [if_neg hc110] at hres hm
 simp only [decide_eq_true_eq] at hm
 obtain ⟨h7, h18, _, _⟩ := hm
 have hg := sign_get h7 h18
 rw [← hres] at hg
 have htn : (((x.kind - 7).toNat : Nat) : Int) = x.kind - 7 := Int.toNat_of_nonneg (by omega)
 refine FW_skip (Qblk_normal (Qseq_normal (Sr (FL_buildSlice H2 (xs := [_, _, _, _, _, _, _, _, _, _, _, _]) (out := signsW.flatMap textCells) (Elems.one rfl rfl (Elems.one rfl rfl (Elems.one rfl rfl (Elems.one rfl rfl (Elems.one rfl rfl (Elems.one rfl rfl (Elems.one rfl rfl (Elems.one rfl rfl (Elems.one rfl rfl (Elems.one rfl rfl (Elems.one rfl rfl (Elems.one rfl rfl Elems.nil)))))))))))) rfl rfl rfl (fun b1 w120 H120 k119 => ?_)))))
 have hR : Rd w120 (some ⟨b1, 0, none⟩) textCells 1 signsW := Sep.blkRow H120 At0 rfl
 refine Vf ?_
 refine Ld H120 ?_
 refine Vv (Gives.subI (c := (((x.kind - 7).toNat : Nat) : Int)) rfl rfl (by omega) (by omega)) (Vv (Gives.idxR (l := signsW) (enc := textCells) rfl rfl hR (get_lt hg)) ?_)
 refine Vv (Gives.loadW (f := 0) rfl hR hg rfl) (Am ?_)
 refine Qn (FW_ret (Qfn_ret (hR := ?_)))
 exact ⟨rfl, H120.kept⟩
end
theorem join_snoc (sep : UInt8) (w : List UInt8) : ∀ ws : List (List UInt8), ws ≠ [] → joinW sep (ws ++ [w]) = joinW sep ws ++ [sep] ++ w
 | [], h => absurd rfl h
 | [a], _ => by simp [joinW]
 | a :: b :: ws, _ => by
  have ih := join_snoc sep w (b :: ws) (by simp)
  show a ++ sep :: joinW sep (b :: ws ++ [w]) = a ++ sep :: joinW sep (b :: ws) ++ [sep] ++ w
  rw [ih]; simp
theorem find_at {α : Type} {l : List α} {p : α → Bool} {j : Nat} {x : α} (h : ∀ (i : Nat) y, i < j → l[i]? = some y → p y = false) (hj : l[j]? = some x) (hp : p x = true) : l.findIdx? p = some j := by
 rw [List.findIdx?_eq_some_iff_getElem]
 obtain ⟨h1, h2⟩ := List.getElem?_eq_some_iff.1 hj
 refine ⟨h1, by rw [h2]; exact hp, fun i hi => ?_⟩
 rw [h i _ hi (List.getElem?_eq_getElem (by omega))]; simp
theorem findNone {α : Type} {l : List α} {p : α → Bool} (h : ∀ (i : Nat) y, l[i]? = some y → p y = false) : l.findIdx? p = none := by
 rw [List.findIdx?_eq_none_iff]
 intro x hx
 obtain ⟨i, hi⟩ := List.getElem?_of_mem hx
 exact h i x hi
theorem word_len {x : StepM} (h : mayS x = true) (hf : fits x.n) : (wordS x).length ≤ 6146 := (len_word h hf.1 hf.2).1
attribute [local irreducible] mayS wordS
section
variable {w : World}
theorem textR_ok22 {l : List StepM} {vl : Value} (hl : RowIn w vl stepCells 3 l) (hx : ∀ x ∈ l, fits x.n) : Rets Tryz.prog 40 [vl] w fun v w' => v = .tuple #[str (textS l).1, I (textS l).2] ∧ Kept noB w w' := by
  obtain ⟨C, n, rfl, ⟨hn, hn'⟩, hC⟩ := hl
  have H := Sep.start0 w
  obtain ⟨res, hres⟩ : ∃ res, res = textS l := ⟨_, rfl⟩
  rw [← hres]
  unfold textS at hres
  refine rets1 Tryz.func40 rfl rfl rfl rfl ?_
  refine Sr (Am ?_)
  refine Am ?_
  refine Qn (FW_seq (Sr (Mv ?_)))
  refine Vs ?_
  refine Vg ?_
  refine Qn (Cp rfl (fun hc6 => ?_) (fun hc6 => ?_))
  · rw [if_pos (by omega)] at hres
    refine Sr (Am ?_)
    refine Am ?_
    refine Qn (Rs (Qfn_ret (hR := ?_)))
    exact ⟨by rw [hres]; rfl, H.kept⟩
  rw [if_neg (by omega)] at hres
  refine Sk (Sr (Am ?_))
  refine Qn (FW_seq (Sr (Am ?_)))
  refine Qn (FW_block (FW_loop' (fun i : Nat => [(0, .slice C l.length n), (4, str (joinW 32 ((l.take i).map wordS))), (5, I i)]) (fun i w' => (i ≤ l.length ∧ ∀ (j : Nat) x, j < i → l[j]? = some x → mayS x = true) ∧ Sep w noB [] w') (fun i _ => l.length - i) 0 ⟨rfl, rfl, rfl, trivial⟩ ⟨⟨Nat.zero_le _, fun j x hj => by omega⟩, H⟩ (fun i τ w15 hI => ?_)))
  obtain ⟨⟨hi, hmay⟩, H15⟩ := hI
  have hlen : (joinW 32 ((l.take i).map wordS)).length ≤ (6146 + 1) * i := by
    have := len_join 32 (k := 6146) (ws := (l.take i).map wordS) fun w hw => by
      obtain ⟨x, hxm, rfl⟩ := List.mem_map.1 hw
      obtain ⟨j, hj⟩ := List.getElem?_of_mem hxm
      rw [List.getElem?_take] at hj
      split at hj
      · exact word_len (hmay j x (by omega) hj) (hx x (List.mem_of_getElem? hj))
      cases hj
    rw [List.length_map, List.length_take, Nat.min_eq_left hi] at this
    exact this
  try simp only [upds, like, upd_ds, und_ds]
  refine FW_seq (Sr (Mv ?_))
  refine Mv ?_
  refine Vs ?_
  refine Vl ?_
  refine Qn (Cp rfl (fun hc20 => ?_) (fun hc20 => ?_))
  · have hlt : i < l.length := by omega
    obtain ⟨x, hx'⟩ := get_some hlt
    have hfx := hx x (List.mem_of_getElem? hx')
    have htk : (l.take (i + 1)).map wordS = (l.take i).map wordS ++ [wordS x] := by rw [List.take_add_one, hx', List.map_append]; rfl
    refine Sk (FW_seq (FW_block (FW_seq (Sr (Mv ?_)))))
    refine Mv ?_
    refine Vv (Gives.idxR rfl rfl (by assumption) (by omega)) (Vv (Gives.loadE0 rfl H15 (by assumption) (by assumption)) ?_)
    refine FL_callQ H15 (mayS_ok22 x) (h := fun w27 H27 k26 => ?_)
    refine Vv (Gives.not rfl) (Qn ?_)
    refine Cd rfl (fun hc29 => ?_) (fun hc29 => ?_)
    · have hno : l.all mayS = false := by
        rw [← Bool.not_eq_true, List.all_eq_true]
        intro h
        have := h x (List.mem_of_getElem? hx')
        rw [this] at hc29; cases hc29
      rw [if_pos hno] at hres
      refine Sr (Am ?_)
      refine Am ?_
      refine Qn (Rs (Qblk_ret (Qseq_ret (Qround_ret (Qblk_ret (Qseq_ret (Qfn_ret (hR := ?_))))))))
      exact ⟨by rw [hres]; rfl, H27.kept⟩
    have hmx : mayS x = true := by simpa using hc29
    refine Sk (FW_seq (Sr (Mv ?_)))
    refine Vg ?_
    refine Qn (Cp rfl (fun hc37 => ?_) (fun hc37 => ?_))
    · have hne : (l.take i).map wordS ≠ [] := fun e => by
        have := congrArg List.length e
        rw [List.length_map, List.length_take, List.length_nil] at this
        omega
      have hj := join_snoc 32 (wordS x) _ hne
      rw [← htk] at hj
      refine FW_region (Mv ?_)
      refine Vv (Gives.catT rfl rfl (by simp only [List.length_cons, List.length_nil]; omega)) ?_
      refine Am ?_
      refine Qn (FW_region (Mv ?_))
      refine Mv ?_
      refine Mv ?_
      refine Vv (Gives.idxR rfl rfl (by assumption) (by omega)) (Vv (Gives.loadE0 rfl H27 (by assumption) (by assumption)) ?_)
      refine FL_callQ H27 (word_ok22 x hmx hfx) (h := fun w48 H48 k47 => ?_)
      have hwl := word_len hmx hfx
      refine Vv (Gives.catT rfl rfl (by first | omega | (simp only [List.length_append, List.length_cons, List.length_nil]; omega))) ?_
      refine Am ?_
      refine FL_nil (Qblk_normal (Qseq_normal (FW_region (Mv ?_))))
      refine Vv (Gives.addI rfl rfl rfl (by omega)) (Am ?_)
      refine FL_nil ?_
      exact Qround_normal (i + 1) ⟨rfl, by rw [hj]; rfl, rfl, trivial⟩ ⟨⟨by omega, fun j y hj hy => by
      by_cases e : j = i
      · subst e; rw [hx'] at hy; injection hy with hy; rw [← hy]; exact hmx
      exact hmay j y (by omega) hy⟩, H48⟩ (by omega)
    have hi0 : i = 0 := by omega
    subst hi0
    have hj : joinW 32 ((l.take (0 + 1)).map wordS) = [] ++ wordS x := by rw [htk]; rfl
    refine Sk (FW_region (Mv ?_))
    refine Mv ?_
    refine Mv ?_
    refine Vv (Gives.idxR rfl rfl (by assumption) (by omega)) (Vv (Gives.loadE0 rfl H27 (by assumption) (by assumption)) ?_)
    refine FL_callQ H27 (word_ok22 x hmx hfx) (h := fun w62 H62 k61 => ?_)
    have hwl := word_len hmx hfx
    refine Vv (Gives.catT rfl rfl (by first | omega | (simp only [List.length_append, List.length_cons, List.length_nil]; omega))) ?_
    refine Am ?_
    refine FL_nil (Qblk_normal (Qseq_normal (FW_region (Mv ?_))))
    refine Vv (Gives.addI rfl rfl rfl (by omega)) (Am ?_)
    refine FL_nil ?_
    exact Qround_normal 1 ⟨rfl, by rw [hj]; rfl, rfl, trivial⟩ ⟨⟨by omega, fun j y hj hy => by
    have : j = 0 := by omega
    subst this; rw [hx'] at hy; injection hy with hy; rw [← hy]; exact hmx⟩, H62⟩ (by omega)
  have hil : i = l.length := by omega
  have hall : l.all mayS = true := List.all_eq_true.2 fun x hxm => by
    obtain ⟨j, hj⟩ := List.getElem?_of_mem hxm
    exact hmay j x (by have := get_lt hj; omega) hj
  rw [if_neg (by rw [hall]; simp)] at hres
  rw [hil, List.take_length]
  refine FW_exit (Qseq_exit (Qround_exit (Qblk_exit (Qseq_normal (Sr (Mv ?_))))))
  refine Am ?_
  refine Am ?_
  refine Qn (FW_ret (Qfn_ret (hR := ?_)))
  exact ⟨by rw [hres]; rfl, H15.kept⟩
end
end Go.Proofs.YtolaedhdjcnijaaGreatDoor
