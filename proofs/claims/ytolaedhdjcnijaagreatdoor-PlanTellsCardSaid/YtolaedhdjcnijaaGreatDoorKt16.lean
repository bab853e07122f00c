/-
 The library's builder of texts, walked: copyCheck, Len, WriteByte, WriteString, String.
-/
import Derived.Test.YtolaedhdjcnijaaGreatDoorKt15
import Derived.Lib.Builder
import Derived.Lib.UnsafeStr
import Derived.Laws.Externs
import Derived.MapKept
import Derived.Laws.RangeAny
import Derived.Lib.OthersKept
import Derived.Laws.BitsAllLaws
set_option linter.unusedVariables false
set_option linter.unusedSimpArgs false
namespace Go.Mw
open Go.RowKit
section
variable {P : Program} {ρ : Operand → Value} {ty : TypeId} {w : World} {x y : Operand}
theorem Gives.toUnsafe {src dst t e : TypeId} {n bytes cells b : Nat} (hs : P.underlying src = some (.pointer t)) (hd : P.underlying dst = some .unsafePointer) [hz : Cells P t n bytes] (hn : n ≠ 0) (hsh : w.shape? b = some (e, cells)) (hc : 0 < cells) (hx : ρ x = .pointer (some ⟨b, 0, none⟩)) :
    Gives P ρ (.convert src dst x) ty w (.pointer (some ⟨b, 0, none⟩)) w := fun _ _ _ _ => by
  obtain ⟨j, ht, hsb⟩ := Option.map_eq_some_iff.1 hz.size
  simp only [Prod.mk.injEq] at hsb
  have := Lib.run_to_unsafe (P := P) w ⟨b, 0, none⟩ hs hd ht (by rw [hsb.1]; exact hn) hsh hc
  simp only [execOp, hx, Sem.run_bind, this, Result.andThen_ok, Sem.run_pure]
theorem Gives.fromUnsafe {src dst u e : TypeId} {n bytes cells b : Nat} (hs : P.underlying src = some .unsafePointer) (hd : P.underlying dst = some (.pointer u)) [hz : Cells P u n bytes] (hsh : w.shape? b = some (e, cells)) (hl : liesAt P P.depth e (cells / P.cellsOf e) 0 u 1 = true) (hx : ρ x = .pointer (some ⟨b, 0, none⟩)) :
    Gives P ρ (.convert src dst x) ty w (.pointer (some ⟨b, 0, none⟩)) w := fun _ _ _ _ => by
  obtain ⟨j, hu, _⟩ := Option.map_eq_some_iff.1 hz.size
  have := Lib.run_from_unsafe (P := P) w ⟨b, 0, none⟩ hs hd hu hsh hl
  simp only [execOp, hx, Sem.run_bind, this, Result.andThen_ok, Sem.run_pure]
theorem Gives.neqPtr {T U te : TypeId} {n bytes b : Nat} (hp : P.underlying T = some (.pointer te)) [hz : Cells P te n bytes] (hx : ρ x = .pointer (some ⟨b, 0, none⟩)) (hy : ρ y = .pointer (some ⟨b, 0, none⟩)) (hg : ∀ x y, (eqGuard .neq T x y (.pointer (some ⟨b, 0, none⟩)) (.pointer (some ⟨b, 0, none⟩))).run P w = .ok () w) :
    Gives P ρ (.binOp .neq T x y U) ty w (.bool false) w :=
  .bin hx hy hg (by
    obtain ⟨j, ht, _⟩ := Option.map_eq_some_iff.1 hz.size
    exact Lib.run_neq_ptr_same (P := P) w ⟨b, 0, none⟩ hp ht)
class IsNoEscape (P : Program) (f : FuncId) : Prop where
 run : ∀ v w, (callFunc f #[v]).run P w = .ok (.value v) w
theorem Gives.noEscape {σ : St} {f : FuncId} [h : IsNoEscape P f] {ats : Array TypeId} {v : Value} (hx : evF σ x = v) : Gives P (evF σ) (.call { callee := .value (.func f), args := #[x], argTypes := ats }) ty w v w := fun _ _ _ _ => by
 have e : (#[] ++ #[x].map (evF σ) ++ #[] : Array Value) = #[v] := by simp [hx]
 show (callFunc f (#[] ++ #[x].map (evF σ) ++ #[])).run P w = _
 rw [e, h.run]
theorem shape_blk {w : World} {b : Nat} {cs : List Value} {e : TypeId} (h : w.heap[b]? = some (.cells cs.toArray e (0, 0))) : w.shape? b = some (e, cs.length) := by
 unfold World.shape?
 rw [h]; simp
theorem Gives.sliceData {ts : Array TypeId} {v : Value} {w' : World} (h : (Builtin.unsafeSliceData_ ts ty #[ρ x]).run P w = .ok v w') : Gives P ρ (.call { callee := .builtin .unsafeSliceData, args := #[x], argTypes := ts }) ty w v w' := fun _ _ _ _ => by
 simp only [execOp, resolve, invoke, builtin, Sem.run_bind, Sem.run_pure, Result.andThen_ok, List.map_toArray, List.map_cons, List.map_nil, h]
theorem Gives.unsafeStr {ts : Array TypeId} {v : Value} {w' : World} (h : (Builtin.unsafeString_ ts ty #[ρ x, ρ y]).run P w = .ok v w') : Gives P ρ (.call { callee := .builtin .unsafeString, args := #[x, y], argTypes := ts }) ty w v w' := fun _ _ _ _ => by
 simp only [execOp, resolve, invoke, builtin, Sem.run_bind, Sem.run_pure, Result.andThen_ok, List.map_toArray, List.map_cons, List.map_nil, h]
end
end Go.Mw
namespace Go.Proofs.YtolaedhdjcnijaaGreatDoor
open Go Go.Mw Go.Lib
set_option maxRecDepth 4000
instance : IsNoEscape Tryz.prog 169 := ⟨fun v w => by
 rw [run_callFunc_extern Tryz.func169 (by kernel_rfl) (by kernel_rfl) (by kernel_rfl) (e := Extern.AbiNoEscape.same) (by kernel_rfl), Lib.run_noEscape]; rfl⟩
def selfP (b : Nat) : Value := .pointer (some ⟨b, 0, none⟩)
def bldH (b : Nat) (l : List UInt8) : HP := exH fun x : Value × Value => star (pureH ((x.1 = .pointer none ∨ x.1 = selfP b) ∧ (l = [] → x.2 = .slice none 0 0))) (star (blk b [x.1, x.2] 124) (bytesH 5 x.2 l))
section
variable {w w₀ : World} {S : Nat → Prop} {rs : List HP}
theorem Sep.openB {b : Nat} {l : List UInt8} (H : Sep w₀ S (bldH b l :: rs) w) : ∃ a v, ((a = .pointer none ∨ a = selfP b) ∧ (l = [] → v = .slice none 0 0)) ∧ Sep w₀ S (blk b [a, v] 124 :: bytesH 5 v l :: rs) w := by
 obtain ⟨x, H1⟩ := H.ex0
 obtain ⟨h, H2⟩ := H1.star0.pure0
 exact ⟨x.1, x.2, h, H2.star0⟩
theorem Sep.shutB {b : Nat} {l : List UInt8} {a v : Value} (ha : (a = .pointer none ∨ a = selfP b) ∧ (l = [] → v = .slice none 0 0)) (H : Sep w₀ S (blk b [a, v] 124 :: bytesH 5 v l :: rs) w) : Sep w₀ S (bldH b l :: rs) w :=
 Sep.pack0 (a, v) (Sep.join0 (Sep.addPure ha (Sep.join0 H)))
theorem Sep.newB {b : Nat} (H : Sep w₀ S (blk b [.pointer none, .slice none 0 0] 124 :: rs) w) : Sep w₀ S (bldH b [] :: rs) w :=
 Sep.shutB ⟨.inl rfl, fun _ => rfl⟩ (H.nilBytes 5).front1
theorem check_fresh {b : Nat} {v : Value} {F : Nat → Prop} (hp : (blk b [.pointer none, v] 124).ok F w) : Rets Tryz.prog 120 [selfP b] w fun r w' => r = .tuple #[] ∧ Turn F (blk b [selfP b, v] 124) w w' := by
 have H := Sep.start1 hp
 refine rets1 Tryz.func120 rfl rfl rfl rfl ?_
 refine Sr (Mv ?_)
 refine Vv (Gives.nilCheck rfl) (Vf ?_)
 refine Ld H ?_
 refine Vv (Gives.eqlNil rfl rfl) (Qn ?_)
 refine Cd rfl (fun hc6 => ?_) (fun hc6 => ?_)
 ·refine FW_region (Mv ?_)
  refine Mv ?_
  refine Vv (Gives.toUnsafe (t := 124) (by kernel_rfl) (by kernel_rfl) (by decide) (shape_blk (H.obj At0)) (by simp) rfl) ?_
  refine Vv (Gives.noEscape rfl) (Vv (Gives.fromUnsafe (u := 124) (by kernel_rfl) (by kernel_rfl) (shape_blk (H.obj At0)) (by kernel_rfl) rfl) ?_)
  refine Vv (Gives.nilCheck rfl) (Vf ?_)
  refine FL_store H (h := fun w15 H15 => ?_)
  refine FL_nil (Qfn_normal (hR := ?_))
  exact ⟨rfl, H15.turn⟩
 exact absurd hc6 (by simp)
theorem check_used {b : Nat} {v : Value} {F : Nat → Prop} (hp : (blk b [selfP b, v] 124).ok F w) : Rets Tryz.prog 120 [selfP b] w fun r w' => r = .tuple #[] ∧ Turn F (blk b [selfP b, v] 124) w w' := by
 have H := Sep.start1 hp
 refine rets1 Tryz.func120 rfl rfl rfl rfl ?_
 refine Sr (Mv ?_)
 refine Vv (Gives.nilCheck rfl) (Vf ?_)
 refine Ld H ?_
 refine Vv (Gives.eqlNil rfl rfl) (Qn ?_)
 refine Cd rfl (fun hc6 => ?_) (fun hc6 => ?_)
 ·exact absurd hc6 (by simp [selfP])
 refine Sr (Mv ?_)
 refine Vv (Gives.nilCheck rfl) (Vf ?_)
 refine Ld H ?_
 refine Mv ?_
 refine Vv (Gives.neqPtr (te := 124) (by kernel_rfl) rfl rfl (fun _ _ => rfl)) (Qn ?_)
 refine Cd rfl (fun hc14 => ?_) (fun hc14 => ?_)
 ·cases hc14
 refine FW_skip (Qfn_normal (hR := ?_))
 exact ⟨rfl, H.turn⟩
theorem check_ok {b : Nat} {a v : Value} {F : Nat → Prop} (ha : a = .pointer none ∨ a = selfP b) (hp : (blk b [a, v] 124).ok F w) : Rets Tryz.prog 120 [selfP b] w fun r w' => r = .tuple #[] ∧ Turn F (blk b [selfP b, v] 124) w w' := by
 rcases ha with rfl | rfl
 ·exact check_fresh hp
 exact check_used hp
theorem writeByte_ok {b : Nat} {l : List UInt8} {F : Nat → Prop} (c : UInt8) (hp : (bldH b l).ok F w) (hl : l.length ≤ 100000000) : Rets Tryz.prog 181 [selfP b, B c] w fun r w' => r = .nilIface ∧ Turn F (bldH b (l ++ [c])) w w' := by
 obtain ⟨a, v, ha, H⟩ := Sep.openB (Sep.start1 hp)
 refine rets2 Tryz.func181 rfl rfl rfl rfl ?_
 refine Sr (Am ?_)
 refine Nx (Mv ?_)
 obtain ⟨F0, hp0, hS0, hput0⟩ := H.focus At0
 refine FL_call (check_ok ha.1 hp0) rfl rfl (fun v' w4 hv => ?_)
 obtain ⟨rfl, hkk, F1, hq, hs⟩ := hv
 have H4 := hput0 _ F1 _ hkk hq hs
 refine Nx (Mv ?_)
 refine Mv ?_
 refine Vv (Gives.nilCheck rfl) (Vf ?_)
 refine Ld H4 ?_
 refine Mv ?_
 refine FL_buildSlice H4 (xs := [.tmp 12]) (out := [c].map B) (Elems.one rfl rfl Elems.nil) rfl rfl rfl (fun bs w12 H12 k11 => ?_)
 refine FL_appendB H12 (news := [c]) At1 (by simp; omega) (h := ?_)
 intro v2 w14 H14
 obtain ⟨A2, c2, rfl, _⟩ := Sep.rowForm H14 At1
 refine Vv (Gives.nilCheck rfl) (Vf ?_)
 refine FL_store H14 (h := fun w18 H18 => ?_)
 refine Nx (Am ?_)
 refine Qn (FW_ret (Qfn_ret (hR := ?_)))
 exact ⟨rfl, (Sep.shutB ⟨.inr rfl, fun e => absurd e (by simp)⟩ H18).turn⟩
theorem writeString_ok {b : Nat} {l news : List UInt8} {F : Nat → Prop} (hne : news ≠ []) (hp : (bldH b l).ok F w) (hl : l.length + news.length ≤ 100000000) : Rets Tryz.prog 79 [selfP b, str news] w fun r w' => r = .tuple #[I news.length, .nilIface] ∧ Turn F (bldH b (l ++ news)) w w' := by
 obtain ⟨a, v, ha, H⟩ := Sep.openB (Sep.start1 hp)
 refine rets2 Tryz.func79 rfl rfl rfl rfl ?_
 refine Sr (Am ?_)
 refine Am ?_
 refine Nx (Mv ?_)
 obtain ⟨F0, hp0, hS0, hput0⟩ := H.focus At0
 refine FL_call (check_ok ha.1 hp0) rfl rfl (fun v' w5 hv => ?_)
 obtain ⟨rfl, hkk, F1, hq, hs⟩ := hv
 have H5 := hput0 _ F1 _ hkk hq hs
 refine Nx (Mv ?_)
 refine Mv ?_
 refine Vv (Gives.nilCheck rfl) (Vf ?_)
 refine Ld H5 ?_
 refine Mv ?_
 refine FL_appendT H5 (news := news) At1 (by omega) (h := ?_)
 intro v2 w13 H13
 obtain ⟨A2, c2, rfl, _⟩ := Sep.rowForm H13 At1
 refine Vv (Gives.nilCheck rfl) (Vf ?_)
 refine FL_store H13 (h := fun w17 H17 => ?_)
 refine Nx (Mv ?_)
 refine Vt ?_
 refine Am ?_
 refine Am ?_
 refine Qn (FW_ret (Qfn_ret (hR := ?_)))
 exact ⟨rfl, (Sep.shutB ⟨.inr rfl, fun e => absurd (List.append_eq_nil_iff.1 e).2 hne⟩ H17).turn⟩
theorem kept_freeze {w : World} {F : Nat → Prop} {g n : Nat} (hF : F g) : Kept F w (w.freeze ⟨g, 0, none⟩ n) := by
 unfold World.freeze
 split
 ·exact Kept.refl _ _
 refine ⟨rfl, rfl, rfl, by simp, fun k hk hn => ?_⟩
 rw [Array.getElem?_modify, if_neg (fun e => hn (by rw [← e]; exact hF))]
theorem string_some {b : Nat} {l : List UInt8} {F : Nat → Prop} (hp : (bldH b l).ok F w) (hl : l.length ≤ 100000000) (h0 : l ≠ []) : Rets Tryz.prog 81 [selfP b] w fun r w' => r = str l ∧ Turn F emp w w' := by
 obtain ⟨a, v, ha, H⟩ := Sep.openB (Sep.start1 hp)
 obtain ⟨A, c, rfl, hle, _, hnone⟩ := Sep.rowForm H At1
 have hlen : l.length ≠ 0 := fun e => h0 (List.eq_nil_of_length_eq_zero e)
 refine rets1 Tryz.func81 rfl rfl rfl rfl ?_
 refine Sr (Am ?_)
 refine Qn (FW_seq (FW_drawS rfl H (h := fun hok2 w4 H4 => ?_)))
 refine Gm hok2 0 ?_
 refine Gp hok2 1 rfl rfl (fun _ => (Gives.nilCheck rfl)) (Gp hok2 2 rfl rfl (fun _ => (Gives.field0 rfl)) ?_)
 refine FGload hok2 3 H4 (h := ?_)
 refine Gm hok2 5 ?_
 refine Gp hok2 6 rfl rfl (fun _ => (Gives.nilCheck rfl)) (Gp hok2 7 rfl rfl (fun _ => (Gives.field0 rfl)) ?_)
 refine FGload hok2 8 H4 (h := ?_)
 refine Gp hok2 9 rfl rfl (fun _ => (Gives.lenSlice rfl)) ?_
 obtain ⟨F0, hp0, hS0, hput0⟩ := H4.focus At1
 have hrow := Sep.rowAt H4 At1
 obtain ⟨g, hA, hF0, hsh⟩ : ∃ g, A = some ⟨g, 0, none⟩ ∧ F0 g ∧ w4.shape? g = some (5, c) := by
  rcases hp0.1.2 with ⟨hv, h1⟩ | ⟨g, cap, cur, hv, _, hh, hle2, _, hsz, _⟩
  ·exact absurd h1 hlen
  injection hv with e1 e2 e3
  refine ⟨g, e1, (hp0.2 g).2 (by rw [e1]; rfl), ?_⟩
  unfold World.shape?
  rw [hh, e3]
  simp only [hsz, Nat.mul_one]
 subst hA
 refine FGval (C := fun v' w' => v' = selfP g ∧ w' = w4) hok2 4 [(9, true), (8, false), (7, true), (6, true), (5, true)] rfl (by kernel_rfl) ⟨_, _, Gives.sliceData (Lib.run_unsafeSliceData_row _ _ _ ⟨g, 0, none⟩ l.length c (by omega)), rfl, rfl⟩ (by kernel_rfl) (by kernel_rfl) (fun v' w13 hv => ?_)
 obtain ⟨rfl, rfl⟩ := hv
 have H13 := H4
 refine ⟨Stab_pure (Stab_load H13 (h := Stab_pure (Stab_pure (Stab_pure (Stab_nil))))), ?_⟩
 refine FGval (C := fun v' w' => v' = str l ∧ w' = w13.freeze ⟨g, 0, none⟩ l.length) hok2 10 [] rfl (by kernel_rfl) ⟨_, _, Gives.unsafeStr (Lib.run_unsafeString_row (P := Tryz.prog) _ _ _ _ 5 (by kernel_rfl) (by kernel_rfl) g c hsh l h0 hle (by omega) (fun j x hj => by
  obtain ⟨ad, e1, hc⟩ := hrow.at_ (by omega)
  injection e1 with e1
  subst e1
  exact hc j _ (by rw [List.getElem?_map, hj]; rfl))), rfl, rfl⟩ (by kernel_rfl) (by kernel_rfl) (fun v' w15 hv => ?_)
 obtain ⟨rfl, rfl⟩ := hv
 have H15 := hput0 _ (fun _ => False) emp (kept_freeze (n := l.length) hF0) (emp_ok (fun _ => id)) (fun b hb => hb.elim)
 refine ⟨Stab_nil, ?_⟩
 refine Gp hok2 11 rfl rfl (fun _ => Gives.assign rfl) (FG_end hok2 (by kernel_rfl) ?_)
 refine Qseq_normal (FW_ret (Qfn_ret (hR := ?_)))
 exact ⟨rfl, H15.front1.first.turn⟩
theorem string_nil {b : Nat} {F : Nat → Prop} (hp : (bldH b []).ok F w) : Rets Tryz.prog 81 [selfP b] w fun r w' => r = str [] ∧ Turn F emp w w' := by
 obtain ⟨a, v, ha, H⟩ := Sep.openB (Sep.start1 hp)
 have hv := ha.2 rfl
 subst hv
 refine rets1 Tryz.func81 rfl rfl rfl rfl ?_
 refine Sr (Am ?_)
 refine Qn (FW_seq (FW_drawS rfl H (h := fun hok2 w4 H4 => ?_)))
 refine Gm hok2 0 ?_
 refine Gp hok2 1 rfl rfl (fun _ => (Gives.nilCheck rfl)) (Gp hok2 2 rfl rfl (fun _ => (Gives.field0 rfl)) ?_)
 refine FGload hok2 3 H4 (h := ?_)
 refine Gm hok2 5 ?_
 refine Gp hok2 6 rfl rfl (fun _ => (Gives.nilCheck rfl)) (Gp hok2 7 rfl rfl (fun _ => (Gives.field0 rfl)) ?_)
 refine FGload hok2 8 H4 (h := ?_)
 refine Gp hok2 9 rfl rfl (fun _ => (Gives.lenSlice rfl)) (FGval (C := fun v' w' => v' = .pointer none ∧ w' = w4) hok2 4 [(9, true), (8, false), (7, true), (6, true), (5, true)] rfl (by kernel_rfl) ⟨_, _, Gives.sliceData (Lib.run_unsafeSliceData_nil _ _ _ 0 0), rfl, rfl⟩ (by kernel_rfl) (by kernel_rfl) (fun v' w13 hv => ?_))
 obtain ⟨rfl, rfl⟩ := hv
 have H13 := H4
 refine ⟨Stab_pure (Stab_load H13 (h := Stab_pure (Stab_pure (Stab_pure (Stab_nil))))), ?_⟩
 refine FGval (C := fun v' w' => v' = str [] ∧ w' = w13) hok2 10 [] rfl (by kernel_rfl) ⟨_, _, Gives.unsafeStr (Lib.run_unsafeString_none (P := Tryz.prog) _ _ _ _ none), rfl, rfl⟩ (by kernel_rfl) (by kernel_rfl) (fun v' w15 hv => ?_)
 obtain ⟨rfl, rfl⟩ := hv
 have H15 := H13
 refine ⟨Stab_nil, ?_⟩
 refine Gp hok2 11 rfl rfl (fun _ => Gives.assign rfl) (FG_end hok2 (by kernel_rfl) ?_)
 refine Qseq_normal (FW_ret (Qfn_ret (hR := ?_)))
 exact ⟨rfl, ⟨H15.kept, fun _ => False, emp_ok (fun _ => id), fun b hb => hb.elim⟩⟩
theorem string_ok {b : Nat} {l : List UInt8} {F : Nat → Prop} (hp : (bldH b l).ok F w) (hl : l.length ≤ 100000000) : Rets Tryz.prog 81 [selfP b] w fun r w' => r = str l ∧ Turn F emp w w' := by
 by_cases h : l = []
 ·subst h; exact string_nil hp
 exact string_some hp hl h
end
end Go.Proofs.YtolaedhdjcnijaaGreatDoor
namespace Go.Mw.K32
open Go.Mw
open Go.RowKit

def keyIs (k : Int) (e : MapEntry) : Bool := match e.key with
 | .int .i32 a => a == k
 | _ => false
def mget (es : List MapEntry) (k : Int) : Option Value := (es.find? (keyIs k)).map (·.val)
def intKeys (es : List MapEntry) : Prop := ∀ e ∈ es, ∃ a, e.key = .int .i32 a
section
variable {w₀ w w' : World} {S : Nat → Prop} {rs : List HP} {put : HP → List HP} {P : Program}
theorem findNow_int (k : Int) : ∀ (es : List MapEntry) (i : Nat), intKeys es → ∃ r, Instr.findNow (.int .i32) (.int .i32 k) es i = some r ∧ r.map (·.2) = mget es k ∧
    (∀ j v, r = some (j, v) → ∃ m, j = i + m ∧ ∃ e, es[m]? = some e ∧ keyIs k e = true ∧ es.find? (keyIs k) = some e ∧ ∀ m' e', m' < m → es[m']? = some e' → keyIs k e' = false) := by
  intro es
  induction es with
  | nil => intro i _; exact ⟨none, rfl, rfl, fun _ _ h => by cases h⟩
  | cons e es ih =>
    intro i hk
    obtain ⟨a, ha⟩ := hk e List.mem_cons_self
    obtain ⟨r, h1, h2, h3⟩ := ih (i + 1) fun x hx => hk x (List.mem_cons_of_mem _ hx)
    have hs : Instr.sameNow (.int .i32) (.int .i32 k) e.key = some (k == a) := by rw [ha]; simp [Instr.sameNow]
    have hki : keyIs k e = (a == k) := by unfold keyIs; rw [ha]
    by_cases hka : k = a
    · subst hka
      have hkt : keyIs k e = true := by rw [hki]; simp
      refine ⟨some (i, e.val), ?_, ?_, ?_⟩
      · unfold Instr.findNow; rw [hs]; simp
      · simp [mget, hkt]
      rintro j v hjv
      injection hjv with hjv
      injection hjv with h4 h5
      exact ⟨0, by omega, e, rfl, hkt, by simp [hkt], fun m' _ hm => by omega⟩
    have hkf : keyIs k e = false := by rw [hki]; simpa using fun h : a = k => hka h.symm
    refine ⟨r, ?_, ?_, ?_⟩
    · unfold Instr.findNow; rw [hs, h1]
      have : (k == a) = false := by simpa using hka
      rw [this]
    · rw [h2]; simp [mget, hkf]
    rintro j v hjv
    obtain ⟨m, hm, e', he', hk', hf', hlt⟩ := h3 j v hjv
    refine ⟨m + 1, by omega, e', by simpa using he', hk', by simp [hkf, hf'], fun m' e'' hm' he'' => ?_⟩
    cases m' with
    | zero => simp at he''; rw [← he'']; exact hkf
    | succ m' => exact hlt m' e'' (by omega) (by simpa using he'')
theorem run_findKey_int {kt : TypeId} (hu : P.underlying kt = some (.int .i32)) (k : Int) (es : List MapEntry) (hk : intKeys es) :
    ∃ r, (Instr.findKey kt (.int .i32 k) es).run P w = .ok r w ∧ r.map (·.2) = mget es k ∧
    (∀ j v, r = some (j, v) → ∃ e, es[j]? = some e ∧ keyIs k e = true ∧ ∀ m' e', m' < j → es[m']? = some e' → keyIs k e' = false) := by
  obtain ⟨r, h1, h2, h3⟩ := findNow_int k es 0 hk
  refine ⟨r, by simp [Instr.findKey, run_underlying hu, h1], h2, fun j v hjv => ?_⟩
  obtain ⟨m, hm, e, he, hke, _, hlt⟩ := h3 j v hjv
  have : j = m := by omega
  subst this
  exact ⟨e, he, hke, hlt⟩
theorem run_checkKey_int {kt : TypeId} (hu : P.underlying kt = some (.int .i32)) (b : Bool) (k : Int) (d : Nat) : (Instr.checkKey b (d + 1) kt (.int .i32 k)).run P w = .ok () w := by
 simp [Instr.checkKey, run_underlying hu]
theorem run_getObj_map {b : Nat} {es : Array MapEntry} {c : Nat} (h : w.heap[b]? = some (.map es c)) : (getObj b).run P w = .ok (.map es c) w := by
 simp [getObj, Sem.run, h]
end
end Go.Mw.K32
namespace Go.Mw
open Go.RowKit
section
variable {P : Program} {ρ : Operand → Value} {ty : TypeId} {w w₀ : World} {x y z : Operand} {S : Nat → Prop} {rs : List HP} {put : HP → List HP}
theorem acts_insert {T k e : TypeId} [hm : IsMap P T k e] [hk : IsInt P k .i32] {b : Nat} {es : Array MapEntry} {c : Nat} {i : Int} {v : Value}
    (H : Sep w₀ S rs w) (hat : At rs (obj b (.map es c)) put) (hkeys : K32.intKeys es.toList) (hno : K32.mget es.toList i = none) (hx : ρ x = .map (some b)) (hy : ρ y = .int .i32 i) (hz : ρ z = v) :
    ∃ w', Acts P ρ (.insert T x y z) ty w w' ∧ Sep w₀ S (put (obj b (.map (es.push { key := .int .i32 i, val := v, born := c }) (c + 1)))) w' := by
  have hb := H.obj hat
  obtain ⟨r, h1, h2, _⟩ := K32.run_findKey_int (P := P) (w := w) hk.und i es.toList hkeys
  have hr : r = none := by
    cases r with
    | none => rfl
    | some jv => rw [hno] at h2; cases h2
  subst hr
  have hck := K32.run_checkKey_int (P := P) (w := w) hk.und false i 9999
  have hset : ∀ o : Obj, (setObj b o).run P w = .ok () { w with heap := w.heap.setIfInBounds b o } := fun o => by simp [Go.setObj, Sem.run, hb]
  have hlt := lt_of_get hb
  refine ⟨{ w with heap := w.heap.setIfInBounds b (.map (es.push { key := .int .i32 i, val := v, born := c }) (c + 1)) }, fun _ _ _ _ => ?_, H.setObj hat ⟨rfl, rfl, rfl, by simp, fun j hj hne => by simp only [Array.getElem?_setIfInBounds]; rw [if_neg (fun e => hne e.symm)]⟩ (by simp [hlt])⟩
  simp only [execOp, hx, hy, hz, Instr.mapUpdate, Sem.run_bind, run_underlying hm.und, Result.andThen_ok, run_getObj_map hb]
  rw [hck]
  simp only [Result.andThen_ok, h1, hset, Sem.run_pure]
theorem FL_insert {r : Option Nat} {n : Nat} {ops : Array Oper} {Q : Post} {rest : List Oper} {σ : St} {pos : String} {after : Array Edge} {T k e : TypeId} [hm : IsMap P T k e] [hk : IsInt P k .i32] {b : Nat} {es : Array MapEntry} {c : Nat} {i : Int} {v : Value}
    (H : Sep w₀ S rs w) (hat : At rs (obj b (.map es c)) put) (hkeys : K32.intKeys es.toList) (hno : K32.mget es.toList i = none) (hx : evF σ x = .map (some b) := by exact rfl) (hy : evF σ y = .int .i32 i := by exact rfl) (hz : evF σ z = v := by exact rfl)
    (h : ∀ w', Sep w₀ S (put (obj b (.map (es.push { key := .int .i32 i, val := v, born := c }) (c + 1)))) w' → FL P r n ops Q rest σ w') : FL P r n ops Q ({ dst := none, op := .insert T x y z, type := ty, pos := pos, after := after, guard := none } :: rest) σ w := by
  obtain ⟨w', ha, hs⟩ := acts_insert (P := P) (ty := ty) (T := T) H hat hkeys hno hx hy hz
  exact FL_act ha rfl (h w' hs)
theorem gives_lookup2 {T k e : TypeId} [hm : IsMap P T k e] [hk : IsInt P k .i32] {zv : Value} [hz : Zero P e zv] {b : Nat} {es : Array MapEntry} {c : Nat} {i : Int}
    (hb : w.heap[b]? = some (.map es c)) (hkeys : K32.intKeys es.toList) (hx : ρ x = .map (some b)) (hy : ρ y = .int .i32 i) : Gives P ρ (.lookup T x y true) ty w (.tuple #[(K32.mget es.toList i).getD zv, .bool (K32.mget es.toList i).isSome]) w := by
  obtain ⟨r, h1, h2, _⟩ := K32.run_findKey_int (P := P) (w := w) hk.und i es.toList hkeys
  intro _ _ _ _
  rw [← h2]
  have hck := K32.run_checkKey_int (P := P) (w := w) hk.und es.isEmpty i 9999
  simp only [execOp, hx, hy, Instr.lookup, Sem.run_bind, run_underlying hm.und, Result.andThen_ok, run_getObj_map hb, Sem.run_pure]
  rw [hck]
  simp only [Result.andThen_ok, h1]
  cases r with
  | none => simp [hz.run]
  | some jv => obtain ⟨j, v⟩ := jv; simp
theorem gives_rangeT {T : TypeId} [ht : IsStr P T] {s : ByteArray} (H : Sep w₀ S rs w) (hx : ρ x = .string s) : ∃ k w', Gives P ρ (.range T x) ty w (.pointer (some ⟨k, 0, none⟩)) w' ∧ Sep w₀ S (obj k (.stringIter s 0) :: rs) w' := by
 refine ⟨w.heap.size, w.alloc (.stringIter s 0), fun _ _ _ _ => ?_, H.alloc _⟩
 have := run_range_string (P := P) w T s ht.und
 simp only [execOp, hx, Sem.run_bind, this, Result.andThen_ok, Sem.run_pure]
 rfl
theorem gives_nextT {s : ByteArray} {k pos : Nat} (H : Sep w₀ S rs w) (hat : At rs (obj k (.stringIter s pos)) put) (hx : ρ x = .pointer (some ⟨k, 0, none⟩)) (h : pos < s.size) :
    ∃ w', Gives P ρ (.next x true) ty w (.tuple #[.bool true, .int .i64 pos, .int .i32 (Utf8.decode s pos).1]) w' ∧ Sep w₀ S (put (obj k (.stringIter s (pos + (Utf8.decode s pos).2)))) w' := by
  have hk := H.obj hat
  have hlt := lt_of_get hk
  have := Lib.run_next_any_at (P := P) w k s pos ty hk h
  refine ⟨w.iterAt k s (pos + (Utf8.decode s pos).2), fun _ _ _ _ => ?_, H.setObj hat ⟨rfl, rfl, rfl, ?_, fun j hj hne => ?_⟩ (Lib.iterAt_heap w k s pos _ hk)⟩
  · simp only [execOp, hx, Sem.run_bind, this, Result.andThen_ok, Sem.run_pure]
  · simp [World.iterAt]
  simp only [World.iterAt, Array.getElem?_setIfInBounds]; rw [if_neg (fun e => hne e.symm)]
theorem gives_nextEnd {s : ByteArray} {k pos : Nat} (H : Sep w₀ S rs w) (hat : At rs (obj k (.stringIter s pos)) put) (hx : ρ x = .pointer (some ⟨k, 0, none⟩)) (h : ¬ pos < s.size) : Gives P ρ (.next x true) ty w (.tuple #[.bool false]) w := fun _ _ _ _ => by
 have := Lib.run_next_end_at (P := P) w k s pos ty (H.obj hat) h
 simp only [execOp, hx, Sem.run_bind, this, Result.andThen_ok, Sem.run_pure]
end
end Go.Mw
namespace Go.Proofs.YtolaedhdjcnijaaGreatDoor
open Go Go.Mw Go.Lib
set_option maxRecDepth 4000
theorem keys_nil : K32.intKeys (#[] : Array MapEntry).toList := fun e he => by simp at he
theorem keys_push {es : Array MapEntry} {k : Int} {v : Value} {c : Nat} (h : K32.intKeys es.toList) : K32.intKeys (es.push { key := .int .i32 k, val := v, born := c }).toList := by
 intro e he
 rw [Array.toList_push, List.mem_append, List.mem_singleton] at he
 rcases he with he | rfl
 ·exact h e he
 exact ⟨k, rfl⟩
def shortE (k : Int) (v : Int) (b : Nat) : MapEntry := { key := .int .i32 k, val := .int .u8 v, born := b }
def shortsA : Array MapEntry := #[shortE 34 34 0, shortE 92 92 1, shortE 8 98 2, shortE 12 102 3, shortE 10 110 4, shortE 13 114 5, shortE 9 116 6]
def shortM (r : Int) : Option UInt8 := if r = 34 then some 34 else if r = 92 then some 92 else if r = 8 then some 98 else if r = 12 then some 102 else if r = 10 then some 110 else if r = 13 then some 114 else if r = 9 then some 116 else none
theorem shorts_get (r : Int) : K32.mget shortsA.toList r = (shortM r).map B := by
 unfold K32.mget shortM shortsA
 simp only [List.find?_cons, List.find?_nil, K32.keyIs, shortE]
 by_cases h1 : r = 34
 ·subst h1; rfl
 by_cases h2 : r = 92
 ·subst h2; rfl
 by_cases h3 : r = 8
 ·subst h3; rfl
 by_cases h4 : r = 12
 ·subst h4; rfl
 by_cases h5 : r = 10
 ·subst h5; rfl
 by_cases h6 : r = 13
 ·subst h6; rfl
 by_cases h7 : r = 9
 ·subst h7; rfl
 have e : ∀ k : Int, r ≠ k → (k == r) = false := fun k h => by simpa using fun e => h e.symm
 simp only [e _ h1, e _ h2, e _ h3, e _ h4, e _ h5, e _ h6, e _ h7, if_neg h1, if_neg h2, if_neg h3, if_neg h4, if_neg h5, if_neg h6, if_neg h7]
 rfl
theorem shorts_keys : K32.intKeys shortsA.toList := by
 intro e he
 simp only [shortsA, List.mem_cons, List.not_mem_nil, or_false] at he
 rcases he with rfl | rfl | rfl | rfl | rfl | rfl | rfl <;> exact ⟨_, rfl⟩
section
variable {w : World}
theorem short_ok : Rets Tryz.prog 182 [] w fun v w' => ∃ m : Nat, v = .map (some m) ∧ True ∧ Turn noB (obj m (.map shortsA 7)) w w' := by
 have H := Sep.start0 w
 refine rets0 Tryz.func182 rfl rfl rfl ?_
 refine Sr (Am ?_)
 refine Nx (FL_makeMap H (h := fun b2 w3 H3 k2 => ?_))
 refine FL_insert H3 At0 keys_nil rfl (h := fun w5 H5 => ?_)
 refine FL_insert H5 At0 (keys_push keys_nil) rfl (h := fun w7 H7 => ?_)
 refine FL_insert H7 At0 (keys_push (keys_push keys_nil)) rfl (h := fun w9 H9 => ?_)
 refine FL_insert H9 At0 (keys_push (keys_push (keys_push keys_nil))) rfl (h := fun w11 H11 => ?_)
 refine FL_insert H11 At0 (keys_push (keys_push (keys_push (keys_push keys_nil)))) rfl (h := fun w13 H13 => ?_)
 refine FL_insert H13 At0 (keys_push (keys_push (keys_push (keys_push (keys_push keys_nil))))) rfl (h := fun w15 H15 => ?_)
 refine FL_insert H15 At0 (keys_push (keys_push (keys_push (keys_push (keys_push (keys_push keys_nil)))))) rfl (h := fun w17 H17 => ?_)
 refine Mv ?_
 refine Am ?_
 refine Qn (FW_ret (Qfn_ret (hR := ?_)))
 exact ⟨_, rfl, trivial, H17.turn⟩
end
end Go.Proofs.YtolaedhdjcnijaaGreatDoor
namespace Go.Mw
open Go.RowKit
section gives
variable {P : Program} {ρ : Operand → Value} {ty : TypeId} {w : World} {x y : Operand} {T U : TypeId} {k : IntKind} {a b c : Int}
theorem Gives.orE (hx : ρ x = .int k a) (hy : ρ y = .int k b) (he : bits .or k a b = c) : Gives P ρ (.binOp .or T x y U) ty w (.int k c) w := by subst he; exact Gives.or hx hy
theorem Gives.andE (hx : ρ x = .int k a) (hy : ρ y = .int k b) (he : bits .and k a b = c) : Gives P ρ (.binOp .and T x y U) ty w (.int k c) w := by subst he; exact Gives.and hx hy
theorem Gives.shrN {m s : Nat} {j : IntKind} (hx : ρ x = .int k m) (hy : ρ y = .int j s) (hs : s ≤ k.bits) : Gives P ρ (.binOp .shr T x y U) ty w (.int k ((m / 2 ^ s : Nat) : Int)) w := by
 have h := Gives.shr (P := P) (ty := ty) (w := w) (T := T) (U := U) hx hy (by omega)
 rw [Int.toNat_natCast, Nat.min_eq_left hs] at h
 have e : (m : Int).fdiv (2 ^ s) = ((m / 2 ^ s : Nat) : Int) := by
  rw [Int.fdiv_eq_ediv_of_nonneg _ (Int.pow_nonneg (by decide))]
  simp
 rw [e] at h
 exact h
end gives
end Go.Mw
namespace Go.Proofs.YtolaedhdjcnijaaGreatDoor
open Go Go.Mw Go.Lib
set_option maxRecDepth 4000
theorem or_fin {h n : Nat} (hh : h < 256) (hn : n < 256) (key : h ||| n = h + n) : bits .or .u8 (h : Int) (n : Int) = ((h + n : Nat) : Int) := by
 rw [u8_or_nat h n hh hn, key]
theorem or192 {x : Nat} (h : x < 32) : bits .or .u8 192 (x : Int) = ((192 + x : Nat) : Int) := by
 have key : ∀ i : Fin 32, 192 ||| i.val = 192 + i.val := by decide
 exact or_fin (h := 192) (by decide) (by omega) (key ⟨x, h⟩)
theorem or128 {x : Nat} (h : x < 64) : bits .or .u8 128 (x : Int) = ((128 + x : Nat) : Int) := by
 have key : ∀ i : Fin 64, 128 ||| i.val = 128 + i.val := by decide
 exact or_fin (h := 128) (by decide) (by omega) (key ⟨x, h⟩)
theorem or224 {x : Nat} (h : x < 16) : bits .or .u8 224 (x : Int) = ((224 + x : Nat) : Int) := by
 have key : ∀ i : Fin 16, 224 ||| i.val = 224 + i.val := by decide
 exact or_fin (h := 224) (by decide) (by omega) (key ⟨x, h⟩)
theorem or240 {x : Nat} (h : x < 8) : bits .or .u8 240 (x : Int) = ((240 + x : Nat) : Int) := by
 have key : ∀ i : Fin 8, 240 ||| i.val = 240 + i.val := by decide
 exact or_fin (h := 240) (by decide) (by omega) (key ⟨x, h⟩)
theorem and63 {x : Nat} (h : x < 256) : bits .and .u8 (x : Int) 63 = ((x % 64 : Nat) : Int) := by
 have key : ∀ i : Fin 256, i.val &&& 63 = i.val % 64 := by decide
 have := u8_and_nat x 63 h (by decide)
 rw [key ⟨x, h⟩] at this
 exact this
theorem u8w (r : Nat) : IntKind.u8.wrap (r : Int) = ((r % 256 : Nat) : Int) := by rw [IntKind.wrap_u8]; omega
def cb (n : Nat) : Value := .int .u8 (n : Int)
theorem B_of {n : Nat} (h : n < 256) : B n.toUInt8 = cb n := by
 unfold B cb
 simp [Nat.mod_eq_of_lt h]
theorem cells_enc {r : Nat} {l : List Nat} (h : encodeRuneZ r = l.map fun n : Nat => (n : Int)) (hl : ∀ n ∈ l, n < 256) : l.map cb = (encodeRune r).map B := by
 unfold encodeRune
 rw [h, List.map_map, List.map_map]
 refine List.map_congr_left fun n hn => ?_
 simp only [Function.comp, Int.toNat_natCast]
 exact (B_of (hl n hn)).symm
theorem enc2 {r : Nat} (h0 : 128 ≤ r) (h1 : r ≤ 2047) : [cb (192 + r / 64), cb (128 + r % 64)] = (encodeRune r).map B :=
 cells_enc (l := [192 + r / 64, 128 + r % 64]) (by rw [encodeRuneZ_two (by omega) (by omega)]; simp) (by intro n hn; simp at hn; omega)
theorem enc3 {r : Nat} (h : (2048 ≤ r ∧ r < 55296) ∨ (57343 < r ∧ r ≤ 65535)) : [cb (224 + r / 4096), cb (128 + r / 64 % 64), cb (128 + r % 64)] = (encodeRune r).map B :=
 cells_enc (l := [224 + r / 4096, 128 + r / 64 % 64, 128 + r % 64]) (by rw [encodeRuneZ_three (by omega)]; simp) (by intro n hn; simp at hn; omega)
theorem enc4 {r : Nat} (h0 : 65536 ≤ r) (h1 : r ≤ 1114111) : [cb (240 + r / 262144), cb (128 + r / 4096 % 64), cb (128 + r / 64 % 64), cb (128 + r % 64)] = (encodeRune r).map B :=
 cells_enc (l := [240 + r / 262144, 128 + r / 4096 % 64, 128 + r / 64 % 64, 128 + r % 64]) (by
  have e : encodeRuneZ (r : Int) = [240 + (r : Int) / 262144, 128 + (r : Int) / 4096 % 64, 128 + (r : Int) / 64 % 64, 128 + (r : Int) % 64] := by
   unfold encodeRuneZ
   rw [if_neg (by omega), if_neg (by omega), if_neg (by omega), if_pos (by omega)]
  rw [e]; simp) (by intro n hn; simp at hn; omega)
section
variable {w : World}
theorem appendNon_ok {v : Value} {l : List UInt8} {F : Nat → Prop} {r : Nat} (hp : (bytesH 5 v l).ok F w) (hl : l.length ≤ 100000000) (h0 : 128 ≤ r) (h1 : r ≤ 1114111) (hs : r < 55296 ∨ 57343 < r) :
    Rets Tryz.prog 257 [v, I32 r] w fun x w' => ∃ v', x = v' ∧ True ∧ Turn F (bytesH 5 v' (l ++ encodeRune r)) w w' := by
  have H := Sep.start1 hp
  have hel := enc_len (r : Int)
  refine rets2 Tryz.func257 rfl rfl rfl rfl ?_
  refine Sr (Am ?_)
  refine Nx (Mv ?_)
  refine Vv (Gives.convW (c := (r : Int)) rfl (by rw [IntKind.wrap_u32]; omega)) ?_
  refine Am ?_
  refine Qn (FW_block (Sr (Mv ?_)))
  refine Vv (Gives.leq rfl rfl) (Am ?_)
  refine Qn (Cp rfl (fun hc8 => ?_) (fun hc8 => ?_))
  · have hc1 := hc8
    refine Sr (Mv ?_)
    refine Mv ?_
    refine Vv (Gives.shrN (m := r) (s := 6) rfl rfl (by decide)) (Vv (Gives.convW (c := ((r / 64 : Nat) : Int)) rfl (by rw [u8w]; omega)) ?_)
    refine Vv (Gives.orE (c := ((192 + r / 64 : Nat) : Int)) rfl rfl (or192 (by omega))) (Mv ?_)
    refine Vv (Gives.convW (c := ((r % 256 : Nat) : Int)) rfl (u8w r)) (Vv (Gives.andE (c := ((r % 64 : Nat) : Int)) rfl rfl (by rw [and63 (by omega)]; omega)) ?_)
    refine Vv (Gives.orE (c := ((128 + r % 64 : Nat) : Int)) rfl rfl (or128 (by omega))) (FL_buildSlice H (xs := [.tmp 18, .tmp 22]) (out := [cb (192 + r / 64), cb (128 + r % 64)]) (Elems.one rfl rfl (Elems.one rfl rfl Elems.nil)) rfl rfl rfl (fun bs w20 H20 k19 => ?_))
    have hen : (encodeRune r).length = 2 := by have := congrArg List.length (enc2 (r := r) h0 (by omega)); simpa using this.symm
    rw [enc2 h0 (by omega)] at H20
    refine FL_appendB H20 At0 (by omega) (hc' := hen.symm) (h := ?_)
    intro v2 w22 H22
    refine Am ?_
    refine Qn (FW_ret (Qblk_ret (Qfn_ret (hR := ?_))))
    exact ⟨_, rfl, trivial, H22.turn⟩
  have hc1 := hc8
  refine FW_seq (Sr (Mv ?_))
  refine Vl ?_
  refine Am ?_
  refine Qn (Cp rfl (fun hc29 => ?_) (fun hc29 => ?_))
  · refine Sk (FW_cond_true (congrArg Value.bool (decide_eq_true hc29)) ?_)
    refine Sr (Mv ?_)
    refine Mv ?_
    refine Vv (Gives.shrN (m := r) (s := 12) rfl rfl (by decide)) (Vv (Gives.convW (c := ((r / 4096 : Nat) : Int)) rfl (by rw [u8w]; omega)) ?_)
    refine Vv (Gives.orE (c := ((224 + r / 4096 : Nat) : Int)) rfl rfl (or224 (by omega))) (Mv ?_)
    refine Vv (Gives.shrN (m := r) (s := 6) rfl rfl (by decide)) (Vv (Gives.convW (c := ((r / 64 % 256 : Nat) : Int)) rfl (u8w _)) ?_)
    refine Vv (Gives.andE (c := ((r / 64 % 64 : Nat) : Int)) rfl rfl (by rw [and63 (by omega)]; omega)) ?_
    refine Vv (Gives.orE (c := ((128 + r / 64 % 64 : Nat) : Int)) rfl rfl (or128 (by omega))) (Mv ?_)
    refine Vv (Gives.convW (c := ((r % 256 : Nat) : Int)) rfl (u8w r)) (Vv (Gives.andE (c := ((r % 64 : Nat) : Int)) rfl rfl (by rw [and63 (by omega)]; omega)) ?_)
    refine Vv (Gives.orE (c := ((128 + r % 64 : Nat) : Int)) rfl rfl (or128 (by omega))) (FL_buildSlice H (xs := [.tmp 38, .tmp 43, .tmp 47]) (out := [cb (224 + r / 4096), cb (128 + r / 64 % 64), cb (128 + r % 64)]) (Elems.one rfl rfl (Elems.one rfl rfl (Elems.one rfl rfl Elems.nil))) rfl rfl rfl (fun bs w45 H45 k44 => ?_))
    have hen : (encodeRune r).length = 3 := by have := congrArg List.length (enc3 (r := r) (by omega)); simpa using this.symm
    rw [enc3 (by omega)] at H45
    refine FL_appendB H45 At0 (by omega) (hc' := hen.symm) (h := ?_)
    intro v2 w47 H47
    refine Am ?_
    refine Qn (FW_ret (Qblk_ret (Qfn_ret (hR := ?_))))
    exact ⟨_, rfl, trivial, H47.turn⟩
  refine FW_region (Mv ?_)
  refine Vl ?_
  refine Mv ?_
  refine FL_splitP (t := 30) rfl (fun hs53 => ?_) (fun hs53 => ?_)
  · refine On (Mv ?_)
    refine On (Vv (Gives.leq rfl rfl) (Pt ?_))
    refine Am ?_
    refine Qn (Cp rfl (fun hc58 => ?_) (fun hc58 => ?_))
    · refine Sr (Mv ?_)
      refine Mv ?_
      refine Vv (Gives.shrN (m := r) (s := 12) rfl rfl (by decide)) (Vv (Gives.convW (c := ((r / 4096 : Nat) : Int)) rfl (by rw [u8w]; omega)) ?_)
      refine Vv (Gives.orE (c := ((224 + r / 4096 : Nat) : Int)) rfl rfl (or224 (by omega))) (Mv ?_)
      refine Vv (Gives.shrN (m := r) (s := 6) rfl rfl (by decide)) (Vv (Gives.convW (c := ((r / 64 % 256 : Nat) : Int)) rfl (u8w _)) ?_)
      refine Vv (Gives.andE (c := ((r / 64 % 64 : Nat) : Int)) rfl rfl (by rw [and63 (by omega)]; omega)) ?_
      refine Vv (Gives.orE (c := ((128 + r / 64 % 64 : Nat) : Int)) rfl rfl (or128 (by omega))) (Mv ?_)
      refine Vv (Gives.convW (c := ((r % 256 : Nat) : Int)) rfl (u8w r)) (Vv (Gives.andE (c := ((r % 64 : Nat) : Int)) rfl rfl (by rw [and63 (by omega)]; omega)) ?_)
      refine Vv (Gives.orE (c := ((128 + r % 64 : Nat) : Int)) rfl rfl (or128 (by omega))) (FL_buildSlice H (xs := [.tmp 38, .tmp 43, .tmp 47]) (out := [cb (224 + r / 4096), cb (128 + r / 64 % 64), cb (128 + r % 64)]) (Elems.one rfl rfl (Elems.one rfl rfl (Elems.one rfl rfl Elems.nil))) rfl rfl rfl (fun bs w74 H74 k73 => ?_))
      have hen : (encodeRune r).length = 3 := by have := congrArg List.length (enc3 (r := r) (by omega)); simpa using this.symm
      rw [enc3 (by omega)] at H74
      refine FL_appendB H74 At0 (by omega) (hc' := hen.symm) (h := ?_)
      intro v2 w76 H76
      refine Am ?_
      refine Qn (FW_ret (Qblk_ret (Qfn_ret (hR := ?_))))
      exact ⟨_, rfl, trivial, H76.turn⟩
    refine Sr (Mv ?_)
    refine Vg ?_
    refine Mv ?_
    refine FL_splitP (t := 53) rfl (fun hs82 => ?_) (fun hs82 => ?_)
    · refine On (Mv ?_)
      refine On (Vv (Gives.leq rfl rfl) (Pt ?_))
      refine Am ?_
      refine Qn (Cp rfl (fun hc87 => ?_) (fun hc87 => ?_))
      · refine Sr (Mv ?_)
        refine Mv ?_
        refine Vv (Gives.shrN (m := r) (s := 18) rfl rfl (by decide)) (Vv (Gives.convW (c := ((r / 262144 : Nat) : Int)) rfl (by rw [u8w]; omega)) ?_)
        refine Vv (Gives.orE (c := ((240 + r / 262144 : Nat) : Int)) rfl rfl (or240 (by omega))) (Mv ?_)
        refine Vv (Gives.shrN (m := r) (s := 12) rfl rfl (by decide)) (Vv (Gives.convW (c := ((r / 4096 % 256 : Nat) : Int)) rfl (u8w _)) ?_)
        refine Vv (Gives.andE (c := ((r / 4096 % 64 : Nat) : Int)) rfl rfl (by rw [and63 (by omega)]; omega)) ?_
        refine Vv (Gives.orE (c := ((128 + r / 4096 % 64 : Nat) : Int)) rfl rfl (or128 (by omega))) (Mv ?_)
        refine Vv (Gives.shrN (m := r) (s := 6) rfl rfl (by decide)) (Vv (Gives.convW (c := ((r / 64 % 256 : Nat) : Int)) rfl (u8w _)) ?_)
        refine Vv (Gives.andE (c := ((r / 64 % 64 : Nat) : Int)) rfl rfl (by rw [and63 (by omega)]; omega)) ?_
        refine Vv (Gives.orE (c := ((128 + r / 64 % 64 : Nat) : Int)) rfl rfl (or128 (by omega))) (Mv ?_)
        refine Vv (Gives.convW (c := ((r % 256 : Nat) : Int)) rfl (u8w r)) (Vv (Gives.andE (c := ((r % 64 : Nat) : Int)) rfl rfl (by rw [and63 (by omega)]; omega)) ?_)
        refine Vv (Gives.orE (c := ((128 + r % 64 : Nat) : Int)) rfl rfl (or128 (by omega))) (FL_buildSlice H (xs := [.tmp 61, .tmp 66, .tmp 71, .tmp 75]) (out := [cb (240 + r / 262144), cb (128 + r / 4096 % 64), cb (128 + r / 64 % 64), cb (128 + r % 64)]) (Elems.one rfl rfl (Elems.one rfl rfl (Elems.one rfl rfl (Elems.one rfl rfl Elems.nil)))) rfl rfl rfl (fun bs w108 H108 k107 => ?_))
        have hen : (encodeRune r).length = 4 := by have := congrArg List.length (enc4 (r := r) (by omega) h1); simpa using this.symm
        rw [enc4 (by omega) h1] at H108
        refine FL_appendB H108 At0 (by omega) (hc' := hen.symm) (h := ?_)
        intro v2 w110 H110
        refine Am ?_
        refine Qn (FW_ret (Qblk_ret (Qfn_ret (hR := ?_))))
        exact ⟨_, rfl, trivial, H110.turn⟩
      exact absurd h1 (by omega)
    exact absurd h1 (by omega)
  refine Of (Of (Pf ?_))
  refine Am ?_
  refine Qn (FW_cond_false rfl ?_)
  refine Sr (Mv ?_)
  refine Vg ?_
  refine Mv ?_
  refine FL_splitP (t := 53) rfl (fun hs120 => ?_) (fun hs120 => ?_)
  · refine On (Mv ?_)
    refine On (Vv (Gives.leq rfl rfl) (Pt ?_))
    refine Am ?_
    refine Qn (Cp rfl (fun hc125 => ?_) (fun hc125 => ?_))
    · refine Sr (Mv ?_)
      refine Mv ?_
      refine Vv (Gives.shrN (m := r) (s := 18) rfl rfl (by decide)) (Vv (Gives.convW (c := ((r / 262144 : Nat) : Int)) rfl (by rw [u8w]; omega)) ?_)
      refine Vv (Gives.orE (c := ((240 + r / 262144 : Nat) : Int)) rfl rfl (or240 (by omega))) (Mv ?_)
      refine Vv (Gives.shrN (m := r) (s := 12) rfl rfl (by decide)) (Vv (Gives.convW (c := ((r / 4096 % 256 : Nat) : Int)) rfl (u8w _)) ?_)
      refine Vv (Gives.andE (c := ((r / 4096 % 64 : Nat) : Int)) rfl rfl (by rw [and63 (by omega)]; omega)) ?_
      refine Vv (Gives.orE (c := ((128 + r / 4096 % 64 : Nat) : Int)) rfl rfl (or128 (by omega))) (Mv ?_)
      refine Vv (Gives.shrN (m := r) (s := 6) rfl rfl (by decide)) (Vv (Gives.convW (c := ((r / 64 % 256 : Nat) : Int)) rfl (u8w _)) ?_)
      refine Vv (Gives.andE (c := ((r / 64 % 64 : Nat) : Int)) rfl rfl (by rw [and63 (by omega)]; omega)) ?_
      refine Vv (Gives.orE (c := ((128 + r / 64 % 64 : Nat) : Int)) rfl rfl (or128 (by omega))) (Mv ?_)
      refine Vv (Gives.convW (c := ((r % 256 : Nat) : Int)) rfl (u8w r)) (Vv (Gives.andE (c := ((r % 64 : Nat) : Int)) rfl rfl (by rw [and63 (by omega)]; omega)) ?_)
      refine Vv (Gives.orE (c := ((128 + r % 64 : Nat) : Int)) rfl rfl (or128 (by omega))) (FL_buildSlice H (xs := [.tmp 61, .tmp 66, .tmp 71, .tmp 75]) (out := [cb (240 + r / 262144), cb (128 + r / 4096 % 64), cb (128 + r / 64 % 64), cb (128 + r % 64)]) (Elems.one rfl rfl (Elems.one rfl rfl (Elems.one rfl rfl (Elems.one rfl rfl Elems.nil)))) rfl rfl rfl (fun bs w146 H146 k145 => ?_))
      have hen : (encodeRune r).length = 4 := by have := congrArg List.length (enc4 (r := r) (by omega) h1); simpa using this.symm
      rw [enc4 (by omega) h1] at H146
      refine FL_appendB H146 At0 (by omega) (hc' := hen.symm) (h := ?_)
      intro v2 w148 H148
      refine Am ?_
      refine Qn (FW_ret (Qblk_ret (Qfn_ret (hR := ?_))))
      exact ⟨_, rfl, trivial, H148.turn⟩
    exact absurd h1 (by omega)
  exact absurd h1 (by omega)
theorem appendRune_ok {v : Value} {l : List UInt8} {F : Nat → Prop} {r : Nat} (hp : (bytesH 5 v l).ok F w) (hl : l.length ≤ 100000000) (h1 : r ≤ 1114111) (hs : r < 55296 ∨ 57343 < r) :
    Rets Tryz.prog 235 [v, I32 r] w fun x w' => ∃ v', x = v' ∧ True ∧ Turn F (bytesH 5 v' (l ++ encodeRune r)) w w' := by
  have H := Sep.start1 hp
  refine rets2 Tryz.func235 rfl rfl rfl rfl ?_
  refine Sr (Am ?_)
  refine Qn (FW_seq (Sr (Mv ?_)))
  refine Vv (Gives.convW (c := (r : Int)) rfl (by rw [IntKind.wrap_u32]; omega)) ?_
  refine Vv (Gives.leq rfl rfl) (Qn ?_)
  refine Cp rfl (fun hc5 => ?_) (fun hc5 => ?_)
  · have hone : encodeRune (r : Int) = [r.toUInt8] := by unfold encodeRune; rw [encodeRuneZ_one (by omega) (by omega)]; simp
    refine Sr (Mv ?_)
    refine Mv ?_
    refine Vv (Gives.convW (c := ((r % 256 : Nat) : Int)) rfl (u8w r)) ?_
    have hb : Value.int .u8 ((r % 256 : Nat) : Int) = B r.toUInt8 := by rw [B_of (by omega), Nat.mod_eq_of_lt (by omega)]; rfl
    refine FL_buildSlice H (xs := [.tmp 10]) (out := [r.toUInt8].map B) (Elems.one hb rfl Elems.nil) rfl rfl rfl (fun bs w11 H11 k10 => ?_)
    refine FL_appendB H11 (news := [r.toUInt8]) At0 (by simp; omega) (h := ?_)
    intro v2 w13 H13
    rw [← hone] at H13
    refine Am ?_
    refine Qn (Rs (Qfn_ret (hR := ?_)))
    exact ⟨_, rfl, trivial, H13.turn⟩
  refine Sk (Sr (Mv ?_))
  refine Mv ?_
  obtain ⟨F0, hp0, hS0, hput0⟩ := H.focus At0
  refine FL_call (appendNon_ok hp0 hl (by omega) h1 hs) rfl rfl (fun v' w19 hv => ?_)
  obtain ⟨v2, rfl, _, hkk, F1, hq, hsub⟩ := hv
  have H19 := hput0 _ F1 _ hkk hq hsub
  refine Am ?_
  refine Qn (FW_ret (Qfn_ret (hR := ?_)))
  exact ⟨_, rfl, trivial, H19.turn⟩
theorem writeRune_ok {b : Nat} {l : List UInt8} {F : Nat → Prop} {r : Nat} (hp : (bldH b l).ok F w) (hl : l.length ≤ 10000000) (h1 : r ≤ 1114111) (hs : r < 55296 ∨ 57343 < r) : Rets Tryz.prog 183 [selfP b, I32 r] w fun _ w' => Turn F (bldH b (l ++ encodeRune r)) w w' := by
 obtain ⟨a, v, ha, H⟩ := Sep.openB (Sep.start1 hp)
 obtain ⟨A, c, rfl, hle, _, _⟩ := Sep.rowForm H At1
 have hel := enc_len (r : Int)
 have hne : encodeRune (r : Int) ≠ [] := by
  intro e
  unfold encodeRune encodeRuneZ at e
  repeat' split at e
  all_goals simp at e
 refine rets2 Tryz.func183 rfl rfl rfl rfl ?_
 refine Sr (Am ?_)
 refine Am ?_
 refine Nx (Mv ?_)
 obtain ⟨F0, hp0, hS0, hput0⟩ := H.focus At0
 refine FL_call (check_ok ha.1 hp0) rfl rfl (fun v' w5 hv => ?_)
 obtain ⟨rfl, hkk, F1, hq, hsub⟩ := hv
 have H5 := hput0 _ F1 _ hkk hq hsub
 refine Nx (Mv ?_)
 refine Vv (Gives.nilCheck rfl) (Vf ?_)
 refine Ld H5 ?_
 refine Vs ?_
 refine Am ?_
 refine Nx (Mv ?_)
 refine Mv ?_
 refine Vv (Gives.nilCheck rfl) (Vf ?_)
 refine Ld H5 ?_
 refine Mv ?_
 obtain ⟨F0, hp0, hS0, hput0⟩ := H5.focus At1
 refine FL_call (appendRune_ok hp0 (by omega) h1 hs) rfl rfl (fun v' w19 hv => ?_)
 obtain ⟨v2, rfl, _, hkk, F1, hq, hsub⟩ := hv
 have H19 := hput0 _ F1 _ hkk hq hsub
 obtain ⟨A2, c2, rfl, _⟩ := Sep.rowForm H19 At1
 refine Vv (Gives.nilCheck rfl) (Vf ?_)
 refine FL_store H19 (h := fun w23 H23 => ?_)
 refine Nx (Mv ?_)
 refine Vv (Gives.nilCheck rfl) (Vf ?_)
 refine Ld H23 ?_
 refine Vs ?_
 refine Mv ?_
 refine Vv (Gives.sub rfl rfl) (Am ?_)
 refine Am ?_
 refine Qn (FW_ret (Qfn_ret (hR := ?_)))
 exact (Sep.shutB ⟨.inr rfl, fun e => absurd (List.append_eq_nil_iff.1 e).2 hne⟩ H23).turn
end
end Go.Proofs.YtolaedhdjcnijaaGreatDoor
