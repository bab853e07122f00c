/-
 Facts that stand whatever turns outside a piece. No program stands here.
-/
import Derived.Test.YtolaedhdjcnijaaGreatDoorKt21
import Derived.WideLaws
import Derived.Test.YtolaedhdjcnijaaGreatDoorKt15
set_option linter.unusedVariables false
set_option linter.unusedSimpArgs false
namespace Go.Mw
open Go Go.RowKit
def lookH (X : World → Prop) : HP where
 ok F w := (∀ w', w.heap.size ≤ w'.heap.size → (∀ b, F b → w'.heap[b]? = w.heap[b]?) → X w') ∧ ∀ b, F b → b < w.heap.size
 loc hs h hok := ⟨fun w' hs' h' => hok.1 w' (Nat.le_trans hs hs') fun b hb => (h' b hb).trans (h b hb), fun b hb => Nat.lt_of_lt_of_le (hok.2 b hb) hs⟩
 low h := h.2
section
variable {F : Nat → Prop} {w w' w₀ : World} {S : Nat → Prop} {rs : List HP} {put : HP → List HP} {p q : HP} {X Y Z : World → Prop}
theorem HP.look (h : p.ok F w) (hX : ∀ F w, p.ok F w → X w) : (lookH X).ok F w := ⟨fun w' hs h' => hX F w' (p.loc hs h' h), p.low h⟩
theorem look_now (h : (lookH X).ok F w) : X w := h.1 w (Nat.le_refl _) fun _ _ => rfl
theorem Sep.look (H : Sep w₀ S rs w) (hat : At rs p put) (hX : ∀ F w, p.ok F w → X w) : Sep w₀ S (put (lookH X)) w := H.imp hat fun _ hF => HP.look hF hX
theorem Sep.sees (H : Sep w₀ S rs w) (hat : At rs (lookH X) put) : X w := by
 obtain ⟨F, hp, _, _⟩ := H.focus hat
 exact look_now hp
theorem Sep.look2 (H : Sep w₀ S (lookH X :: lookH Y :: rs) w) (hZ : ∀ w, X w → Y w → Z w) : Sep w₀ S (lookH Z :: rs) w :=
 Sep.look H.join0 At0 fun F w hF => by
  obtain ⟨F1, F2, _, _, h1, h2⟩ := hF
  exact hZ w (look_now h1) (look_now h2)
theorem Sep.lookNew (H : Sep w₀ S rs w) (h : ∀ w, X w) : Sep w₀ S (lookH X :: rs) w :=
 Sep.look (Sep.addPure (φ := True) trivial H) At0 fun _ w _ => h w
end
end Go.Mw
namespace Go.Proofs.YtolaedhdjcnijaaGreatDoor
open Go Go.Mw Go.Lib
set_option maxRecDepth 4000
section
variable {F : Nat → Prop} {w w' w₀ : World} {S : Nat → Prop} {rs : List HP} {put : HP → List HP} {v x : Value} {e k : Nat} {α : Type} {enc : α → List Value}
theorem rowD_in [EncK enc k] {l : List α} (h : (rowD e k enc v l).ok F w) : RowIn w v enc k l := by
 have H := Sep.start1 h
 obtain ⟨A, c, rfl, hc, hR⟩ := H.formD At0
 exact ⟨A, c, rfl, ⟨hc, Sep.capD H At0⟩, hR⟩
theorem Sep_in [EncK enc k] {l : List α} (H : Mw.Sep w₀ S rs w) (hat : At rs (rowD e k enc v l) put) : RowIn w v enc k l := by
 obtain ⟨F, hp, _, _⟩ := H.focus hat
 exact rowD_in hp
def seeH {α : Type} (v : Value) (enc : α → List Value) (k : Nat) (l : List α) : HP := lookH fun w => RowIn w v enc k l
theorem Sep_seeRow [EncK enc k] {l : List α} (H : Mw.Sep w₀ S rs w) (hat : At rs (rowD e k enc v l) put) : Mw.Sep w₀ S (put (seeH v enc k l)) w := Sep.look H hat fun _ _ h => rowD_in h
def rawsH (r : List (List UInt8 × Value)) (l : List OutM) : HP := lookH fun w => RawOf w r l
def planH (v : Value) (p : PlanM) : HP := lookH fun w => PlanIn w v p
variable {r : List (List UInt8 × Value)} {l : List OutM} {s : List StepM} {n : List UInt8} {vw vc : Value} {p : PlanM}
theorem Sep_rawNil (H : Mw.Sep w₀ S rs w) : Mw.Sep w₀ S (rawsH [] [] :: rs) w := Sep.lookNew H fun _ => RawOf.nil
theorem Sep_rawPush (H : Mw.Sep w₀ S (rowD e 3 stepCells x s :: rawsH r l :: rs) w) : Mw.Sep w₀ S (rawsH (r ++ [(n, x)]) (l ++ [⟨n, s⟩]) :: rs) w :=
 Sep.look2 (Sep_seeRow H At0) fun _ h1 h2 => h2.push h1
theorem Sep_plan {g : Int} {cols : List OutM} (H : Mw.Sep w₀ S (seeH vw stepCells 3 s :: rowD e 2 outCells vc r :: rawsH r cols :: rs) w) : Mw.Sep w₀ S (planH (agg [vw, vc, I g]) ⟨s, cols, g⟩ :: rs) w := by
 have H1 := (Sep_seeRow H At1).front1.front2
 have H2 := Sep.look2 (Z := fun w => OutsIn w vc cols) H1 fun _ h1 h2 => ⟨r, h2, h1⟩
 exact Sep.look2 H2 fun _ h1 h2 => ⟨vw, vc, rfl, h2, h1⟩
end
end Go.Proofs.YtolaedhdjcnijaaGreatDoor
namespace Go.Mw
open Go.RowKit
class IsIface (P : Program) (t : TypeId) : Prop where
 und : P.underlying t = some (.interface (P.methodsAt t))
def IsNil (a : Value) (b : Bool) : Prop := (b = true ∧ a = .nilIface) ∨ (b = false ∧ ∃ t p, a = .iface t p)
section
variable {P : Program} {w w₀ : World} {ρ : Operand → Value} {ty : TypeId} {x : Operand} {S : Nat → Prop} {rs : List HP} {put : HP → List HP}
theorem Gives.eqlNilI {T U : TypeId} [h : IsIface P T] {a : Value} {b : Bool} (ha : IsNil a b) (hx : ρ x = a) (hy : ρ (.const .nilIface) = .nilIface) : Gives P ρ (.binOp .eql T x (.const .nilIface) U) ty w (.bool b) w := by
 intro _ _ _ _
 rcases ha with ⟨rfl, rfl⟩ | ⟨rfl, t, p, rfl⟩
 ·have hg : (eqGuard .eql T x (.const .nilIface) .nilIface .nilIface).run P w = .ok () w := by cases x <;> rfl
  simp only [execOp, hx, hy, Sem.run_bind, hg, Result.andThen_ok, run_eql_nil_nil w T h.und, Sem.run_pure]
 have hg : (eqGuard .eql T x (.const .nilIface) (.iface t p) .nilIface).run P w = .ok () w := rfl
 simp only [execOp, hx, hy, Sem.run_bind, hg, Result.andThen_ok, run_eql_held_nil w T t p h.und, Sem.run_pure]
theorem gives_lenMapS {T k e : TypeId} [hm : IsMap P T k e] {b n : Nat} {f : ByteArray → Option Value} (H : Sep w₀ S rs w) (hat : At rs (mapIS b f n) put) (hx : ρ x = .map (some b)) :
    Gives P ρ (.call { callee := .builtin .len, args := #[x], argTypes := #[T] }) ty w (.int .i64 n) w := by
  obtain ⟨es, c, hb, hk, _⟩ := H.mapAtS hat
  intro _ _ _ _
  simp [execOp, resolve, invoke, builtin, hx, Builtin.len_, run_underlying hm.und, goInt, run_getObj_mapS hb, hk.2]
end
section
variable {P : Program} {r : Option Nat} {n : Nat} {ops : Array Oper} {Q : Post} {rest : List Oper} {σ : St} {w w₀ : World} {S : Nat → Prop} {rs : List HP} {put : HP → List HP} {ty : TypeId} {pos : String} {after : Array Edge}
theorem FL_mapUpdateS {x y z : Operand} {T k el : TypeId} [hm : IsMap P T k el] [hk : IsStr P k] {b c : Nat} {f : ByteArray → Option Value} {i : ByteArray} {v : Value} (H : Sep w₀ S rs w) (hat : At rs (mapIS b f c) put)
    (hx : evF σ x = .map (some b)) (hy : evF σ y = .string i) (hz : evF σ z = v) (h : ∀ w', Sep w₀ S (put (mapIS b (fun k => if k = i then some v else f k) (if f i = none then c + 1 else c))) w' → FL P r n ops Q rest σ w') :
    FL P r n ops Q ({ dst := none, op := .mapUpdate T x y z, type := ty, pos := pos, after := after, guard := none } :: rest) σ w := by
  obtain ⟨w', ha, hs⟩ := acts_mapUpdateS (P := P) (ty := ty) (T := T) H hat hx hy hz
  exact FL_act ha rfl (h w' hs)
end
structure Had (ns : List (List UInt8)) (f : ByteArray → Option Value) (n : Nat) : Prop where
 le : n ≤ ns.length
 nd : n = ns.length ↔ ns.Nodup
 val : ∀ x, ∃ c : Nat, c ≤ ns.length ∧ (f x).getD (.int .i64 0) = .int .i64 (c : Int)
 mem : ∀ x : List UInt8, f ⟨x.toArray⟩ = none ↔ x ∉ ns
theorem Had.nil : Had [] (fun _ => none) 0 := ⟨Nat.le_refl _, by simp, fun x => ⟨0, Nat.le_refl _, rfl⟩, fun x => by simp⟩
theorem Had.push {ns : List (List UInt8)} {f : ByteArray → Option Value} {n : Nat} (h : Had ns f n) (x : List UInt8) {c : Nat} (hc : c ≤ ns.length) :
    Had (ns ++ [x]) (fun k => if k = ⟨x.toArray⟩ then some (.int .i64 ((c + 1 : Nat) : Int)) else f k) (if f ⟨x.toArray⟩ = none then n + 1 else n) := by
  have hl : (ns ++ [x]).length = ns.length + 1 := by simp
  have hnd : (ns ++ [x]).Nodup ↔ ns.Nodup ∧ x ∉ ns := by
    rw [List.nodup_append]
    constructor
    · rintro ⟨h1, _, h3⟩
      exact ⟨h1, fun hx => h3 x hx x (by simp) rfl⟩
    rintro ⟨h1, h2⟩
    exact ⟨h1, by simp, fun a ha b hb e => by rw [List.mem_singleton] at hb; subst hb; subst e; exact h2 ha⟩
  have hle := h.le
  refine ⟨?_, ?_, fun k => ?_, fun k => ?_⟩
  · rw [hl]; split <;> omega
  · rw [hl, hnd, ← h.mem x]
    by_cases e : f ⟨x.toArray⟩ = none
    · rw [if_pos e, ← h.nd]
      exact ⟨fun h1 => ⟨by omega, e⟩, fun h1 => by have := h1.1; omega⟩
    rw [if_neg e]
    exact ⟨fun h1 => by omega, fun h1 => absurd h1.2 e⟩
  · by_cases e : k = ⟨x.toArray⟩
    · exact ⟨c + 1, by rw [hl]; omega, by rw [if_pos e]; rfl⟩
    obtain ⟨d, h1, h2⟩ := h.val k
    exact ⟨d, by rw [hl]; omega, by rw [if_neg e]; exact h2⟩
  by_cases e : k = x
  · subst e
    rw [if_pos rfl]
    simp
  rw [if_neg (fun he => e (by injection he with he; injection he)), h.mem k]
  simp [e]
end Go.Mw
namespace Go.Proofs.YtolaedhdjcnijaaGreatDoor
open Go Go.Mw Go.Lib
set_option maxRecDepth 4000
def nameSet : List UInt8 := [97, 98, 99, 100, 101, 102, 103, 104, 105, 106, 107, 108, 109, 110, 111, 112, 113, 114, 115, 116, 117, 118, 119, 120, 121, 122, 48, 49, 50, 51, 52, 53, 54, 55, 56, 57, 95]
theorem nameSet_has (c : UInt8) : nameSet.contains c = nameB c := by
 have key : ∀ n : Fin 256, nameSet.contains (UInt8.ofNat n.val) = nameB (UInt8.ofNat n.val) := by decide +kernel
 have := key ⟨c.toNat, c.toNat_lt⟩
 simpa using this
theorem dropWhile_nil {α : Type} {p : α → Bool} : ∀ {l : List α}, l.dropWhile p = [] ↔ ∀ x ∈ l, p x = true
 | [] => by simp
 | x :: l => by
  have ih := dropWhile_nil (p := p) (l := l)
  by_cases h : p x = true
  ·rw [List.dropWhile_cons_of_pos h, ih]
   simp [h]
  rw [List.dropWhile_cons_of_neg h]
  simp [h]
def oddN (r : Nat) : Bool := decide ((r < 97 ∨ 122 < r) ∧ (r < 48 ∨ 57 < r) ∧ r ≠ 95)
theorem nameB_odd (c : UInt8) : nameB c = true → c.toNat < 128 ∧ oddN c.toNat = false := by
 intro h
 unfold nameB lowB isDig at h
 simp only [Bool.or_eq_true, decide_eq_true_eq] at h
 have h95 : c = 95 → c.toNat = 95 := fun e => by rw [e]; rfl
 have hc : (97 ≤ c.toNat ∧ c.toNat ≤ 122) ∨ c.toNat = 95 ∨ (48 ≤ c.toNat ∧ c.toNat ≤ 57) := by
  rcases h with (h | h) | h
  ·exact .inl h
  ·exact .inr (.inl (h95 h))
  exact .inr (.inr h)
 exact ⟨by omega, decide_eq_false (by omega)⟩
section
variable {w : World}
theorem odd_ok (r : Nat) : Rets Tryz.prog 124 [I32 r] w fun v w' => v = .bool (oddN r) ∧ w = w' := by
 unfold oddN
 refine rets1 Tryz.func124 rfl rfl rfl rfl ?_
 refine Sr (Am ?_)
 refine Nx (Mv ?_)
 refine Vl ?_
 refine Mv ?_
 refine FL_splitP (t := 5) rfl (fun hs5 => ?_) (fun hs5 => ?_)
 ·refine Of (Of (Pt ?_))
  refine Mv ?_
  refine On (Mv ?_)
  refine On (Vl ?_)
  refine On (Mv ?_)
  refine FL_splitP (t := 12) rfl (fun hs11 => ?_) (fun hs11 => ?_)
  ·refine Of (Of (On (Pt ?_)))
   refine Pt ?_
   refine Mv ?_
   refine On (Mv ?_)
   refine On (Vn ?_)
   refine Pt ?_
   refine Am ?_
   refine Qn (FW_ret (Qfn_ret (hR := ?_)))
   exact ⟨by first | exact congrArg Value.bool (Eq.symm (decide_eq_false (by omega))) | exact congrArg Value.bool (Eq.symm (decide_eq_true (by omega))) | exact congrArg Value.bool (decide_eq_decide.2 (by omega)), rfl⟩
  refine On (Mv ?_)
  refine On (Vg ?_)
  refine On (Pf ?_)
  refine Pt ?_
  refine Mv ?_
  refine FL_splitP (t := 17) rfl (fun hs25 => ?_) (fun hs25 => ?_)
  ·refine On (Mv ?_)
   refine On (Vn ?_)
   refine Pt ?_
   refine Am ?_
   refine Qn (FW_ret (Qfn_ret (hR := ?_)))
   exact ⟨by first | exact congrArg Value.bool (Eq.symm (decide_eq_false (by omega))) | exact congrArg Value.bool (Eq.symm (decide_eq_true (by omega))) | exact congrArg Value.bool (decide_eq_decide.2 (by omega)), rfl⟩
  refine Of (Of (Pf ?_))
  refine Am ?_
  refine Qn (FW_ret (Qfn_ret (hR := ?_)))
  exact ⟨by first | exact congrArg Value.bool (Eq.symm (decide_eq_false (by omega))) | exact congrArg Value.bool (Eq.symm (decide_eq_true (by omega))) | exact congrArg Value.bool (decide_eq_decide.2 (by omega)), rfl⟩
 refine On (Mv ?_)
 refine On (Vg ?_)
 refine Pf ?_
 refine Mv ?_
 refine FL_splitP (t := 9) rfl (fun hs38 => ?_) (fun hs38 => ?_)
 ·refine On (Mv ?_)
  refine On (Vl ?_)
  refine On (Mv ?_)
  refine FL_splitP (t := 12) rfl (fun hs42 => ?_) (fun hs42 => ?_)
  ·refine Of (Of (On (Pt ?_)))
   refine Pt ?_
   refine Mv ?_
   refine On (Mv ?_)
   refine On (Vn ?_)
   refine Pt ?_
   refine Am ?_
   refine Qn (FW_ret (Qfn_ret (hR := ?_)))
   exact ⟨by first | exact congrArg Value.bool (Eq.symm (decide_eq_false (by omega))) | exact congrArg Value.bool (Eq.symm (decide_eq_true (by omega))) | exact congrArg Value.bool (decide_eq_decide.2 (by omega)), rfl⟩
  refine On (Mv ?_)
  refine On (Vg ?_)
  refine On (Pf ?_)
  refine Pt ?_
  refine Mv ?_
  refine FL_splitP (t := 17) rfl (fun hs56 => ?_) (fun hs56 => ?_)
  ·refine On (Mv ?_)
   refine On (Vn ?_)
   refine Pt ?_
   refine Am ?_
   refine Qn (FW_ret (Qfn_ret (hR := ?_)))
   exact ⟨by first | exact congrArg Value.bool (Eq.symm (decide_eq_false (by omega))) | exact congrArg Value.bool (Eq.symm (decide_eq_true (by omega))) | exact congrArg Value.bool (decide_eq_decide.2 (by omega)), rfl⟩
  refine Of (Of (Pf ?_))
  refine Am ?_
  refine Qn (FW_ret (Qfn_ret (hR := ?_)))
  exact ⟨by first | exact congrArg Value.bool (Eq.symm (decide_eq_false (by omega))) | exact congrArg Value.bool (Eq.symm (decide_eq_true (by omega))) | exact congrArg Value.bool (decide_eq_decide.2 (by omega)), rfl⟩
 refine Of (Of (Of (Ou (Ou (Of (Pf ?_))))))
 refine Mv ?_
 refine Of (Of (Pf ?_))
 refine Am ?_
 refine Qn (FW_ret (Qfn_ret (hR := ?_)))
 exact ⟨by first | exact congrArg Value.bool (Eq.symm (decide_eq_false (by omega))) | exact congrArg Value.bool (Eq.symm (decide_eq_true (by omega))) | exact congrArg Value.bool (decide_eq_decide.2 (by omega)), rfl⟩
theorem setHas_ok {p : Bool} {b : Nat} (c : UInt8) (hc : w.cell? ⟨b, c.toNat, none⟩ = some (.bool p)) : Rets Tryz.prog 230 [selfP b, .int .u8 c.toNat] w fun v w' => v = .bool p ∧ w = w' :=
 rets_same (Tryz.asciiSet_contains b c p w hc)
theorem trimLeft_ok {p : UInt8 → Bool} {b : Nat} (s : List UInt8) (hset : ∀ c : UInt8, w.cell? ⟨b, c.toNat, none⟩ = some (.bool (p c))) : Rets Tryz.prog 174 [str s, selfP b] w fun v w' => v = str (s.dropWhile p) ∧ Kept noB w w' := by
 have H := Sep.start0 w
 refine rets2 Tryz.func174 rfl rfl rfl rfl ?_
 refine Sr (Am ?_)
 refine Qn (FW_seq (FW_block (FW_loop' (fun t : List UInt8 => [(0, str t), (1, selfP b)]) (fun t w' => t.dropWhile p = s.dropWhile p ∧ Sep w noB [] w') (fun t _ => t.length) s ⟨rfl, rfl, trivial⟩ ⟨rfl, H⟩ (fun t τ w3 hI => ?_))))
 obtain ⟨ht, H3⟩ := hI
 try simp only [upds, like, upd_ds, und_ds]
 refine FW_seq (Sr (Mv ?_))
 refine Vt ?_
 refine Vg ?_
 refine Qn (Cp rfl (fun hc7 => ?_) (fun hc7 => ?_))
 ·obtain ⟨c, r, rfl⟩ : ∃ c r, t = c :: r := List.exists_cons_of_length_pos (by omega)
  refine Sk (FW_block (FW_seq (Sr (Mv ?_))))
  refine Mv ?_
  refine Vv (Gives.idxD (l := c :: r) (i := 0) rfl rfl (by simp)) ?_
  refine FL_callS (setHas_ok c (H3.kept.cell (hset c) id)) (h := ?_)
  refine Vv (Gives.not rfl) (Qn ?_)
  refine Cd rfl (fun hc14 => ?_) (fun hc14 => ?_)
  ·have hp : p c = false := by simpa using hc14
   refine FW_exit (Qseq_exit (Qblk_exit_ne rfl (Qround_exit (Qblk_exit (Qseq_normal ?_)))))
   refine Sr (Mv ?_)
   refine Am ?_
   refine Qn (FW_ret (Qfn_ret (hR := ?_)))
   exact ⟨by rw [← ht, List.dropWhile_cons_of_neg (by rw [hp]; decide)]; rfl, H3.kept⟩
  have hp : p c = true := by simpa using hc14
  refine Sk (FW_region (Mv ?_))
  refine Vv (Gives.sliceFromT (l := c :: r) (i := 1) rfl rfl (by simp)) ?_
  refine Am ?_
  refine FL_nil (Qblk_normal ?_)
  exact Qround_normal r ⟨rfl, rfl, trivial⟩ ⟨by rw [← ht, List.dropWhile_cons_of_pos hp], H3⟩ (by simp)
 have he : t = [] := List.eq_nil_of_length_eq_zero (by omega)
 subst he
 refine FW_exit (Qseq_exit (Qround_exit (Qblk_exit (Qseq_normal (Sr (Mv ?_))))))
 refine Am ?_
 refine Qn (FW_ret (Qfn_ret (hR := ?_)))
 exact ⟨by rw [← ht]; rfl, H3.kept⟩
theorem trimRight_ok {p : UInt8 → Bool} {b : Nat} (s : List UInt8) (hset : ∀ c : UInt8, w.cell? ⟨b, c.toNat, none⟩ = some (.bool (p c))) (hl : s.length ≤ 1000000) : Rets Tryz.prog 175 [str s, selfP b] w fun v w' => (∃ n, v = str (s.take n) ∧ n ≤ s.length ∧ (∀ (j : Nat) c, n ≤ j → s[j]? = some c → p c = true) ∧ ∀ m, n = m + 1 → ∃ c, s[m]? = some c ∧ p c = false) ∧ Kept noB w w' := by
 have H := Sep.start0 w
 refine rets2 Tryz.func175 rfl rfl rfl rfl ?_
 refine Sr (Am ?_)
 refine Qn (FW_seq (FW_block (FW_loop' (fun n : Nat => [(0, str (s.take n)), (1, selfP b)]) (fun n w' => (n ≤ s.length ∧ ∀ (j : Nat) c, n ≤ j → s[j]? = some c → p c = true) ∧ Sep w noB [] w') (fun n _ => n) s.length ⟨by rw [List.take_length]; rfl, rfl, trivial⟩ ⟨⟨Nat.le_refl _, fun j c hj hc => absurd (get_lt hc) (by omega)⟩, H⟩ (fun n τ w3 hI => ?_))))
 obtain ⟨⟨hn, hall⟩, H3⟩ := hI
 have htl : (s.take n).length = n := by rw [List.length_take]; omega
 try simp only [upds, like, upd_ds, und_ds]
 refine FW_seq (Sr (Mv ?_))
 refine Vt ?_
 refine Vg ?_
 refine Qn (Cp rfl (fun hc7 => ?_) (fun hc7 => ?_))
 ·obtain ⟨m, rfl⟩ : ∃ m, n = m + 1 := ⟨n - 1, by omega⟩
  obtain ⟨c, hc⟩ := get_some (l := s) (i := m) (by omega)
  have hcd : (s.take (m + 1)).getD m 0 = c := getD_of (by rw [List.getElem?_take, if_pos (by omega)]; exact hc)
  have htt : (s.take (m + 1)).take m = s.take m := by rw [List.take_take, Nat.min_eq_left (by omega)]
  refine Sk (FW_block (FW_seq (Sr (Mv ?_))))
  refine Mv ?_
  refine Mv ?_
  refine Vt ?_
  refine Vv (Gives.subI (c := (m : Int)) rfl rfl (by omega) (by omega)) (Vv (Gives.idxD (i := m) rfl rfl (by omega)) ?_)
  rw [hcd]
  refine FL_callS (setHas_ok c (H3.kept.cell (hset c) id)) (h := ?_)
  refine Vv (Gives.not rfl) (Qn ?_)
  refine Cd rfl (fun hc17 => ?_) (fun hc17 => ?_)
  ·have hp : p c = false := by simpa using hc17
   refine FW_exit (Qseq_exit (Qblk_exit_ne rfl (Qround_exit (Qblk_exit (Qseq_normal ?_)))))
   refine Sr (Mv ?_)
   refine Am ?_
   refine Qn (FW_ret (Qfn_ret (hR := ?_)))
   exact ⟨⟨m + 1, rfl, hn, hall, fun k hk => ⟨c, by rw [show k = m by omega]; exact hc, hp⟩⟩, H3.kept⟩
  have hp : p c = true := by simpa using hc17
  refine Sk (FW_region (Mv ?_))
  refine Mv ?_
  refine Vt ?_
  refine Vv (Gives.subI (c := (m : Int)) rfl rfl (by omega) (by omega)) (Vv (Gives.sliceToT (i := m) rfl rfl (by omega)) ?_)
  rw [htt]
  refine Am ?_
  refine FL_nil (Qblk_normal ?_)
  exact Qround_normal m ⟨rfl, rfl, trivial⟩ ⟨⟨by omega, fun j d hj hd => by
  by_cases e : j = m
  ·subst e; rw [hc] at hd; injection hd with hd; rw [← hd]; exact hp
  exact hall j d (by omega) hd⟩, H3⟩ (by omega)
 have hn0 : n = 0 := by omega
 refine FW_exit (Qseq_exit (Qround_exit (Qblk_exit (Qseq_normal (Sr (Mv ?_))))))
 refine Am ?_
 refine Qn (FW_ret (Qfn_ret (hR := ?_)))
 exact ⟨⟨n, rfl, hn, hall, fun m hm => by omega⟩, H3.kept⟩
theorem makeSet_ok (l : List UInt8) (hl : l.length ≤ 1000) (h : ∀ c ∈ l, c.toNat < 128) : Rets Tryz.prog 173 [str l] w fun v w' => v = .tuple #[.agg (setCells l), .bool true] ∧ Kept noB w w' :=
 Calls.mono (Tryz.strings_makeASCIISet (fun _ => by kernel_rfl) ⟨l.toArray⟩ w (by show l.toArray.size < _; rw [List.size_toArray]; omega) fun j b hb => h b (List.mem_of_getElem? hb)) fun e w' he => by
  obtain ⟨rfl, rfl⟩ := he
  exact ⟨rfl, Kept.alloc _ _⟩
theorem trim_ok (s : List UInt8) (hne : s ≠ []) (hl : s.length ≤ 1000000) : Rets Tryz.prog 122 [str s, str nameSet] w fun v w' => (∃ t, v = str t ∧ (t = [] ↔ s.all nameB = true)) ∧ Kept noB w w' := by
 have H := Sep.start0 w
 have h37 : nameSet.length = 37 := rfl
 have hcl : (setCells nameSet).toList.length = 256 := by rw [Array.length_toList, setCells_size]
 have hc1 : ∀ u ∈ (setCells nameSet).toList, u.oneCell' = true := fun u hu => by
  have := setCells_one nameSet
  rw [Array.all_eq_true_iff_forall_mem] at this
  exact this u (by simpa using hu)
 refine rets2 Tryz.func122 rfl rfl rfl rfl ?_
 refine Sr (Am ?_)
 refine Qn (FW_seq (Sr (Mv ?_)))
 refine Vv (Gives.eqlT rfl rfl) (Mv ?_)
 refine FL_splitP (t := 9) rfl (fun hs5 => ?_) (fun hs5 => ?_)
 ·exact absurd hs5 hne
 refine On (Mv ?_)
 refine On (Vv (Gives.eqlT rfl rfl) (Pf ?_))
 refine Qn (Cp rfl (fun hc10 => ?_) (fun hc10 => ?_))
 ·exact absurd hc10 (by decide)
 refine Sk (FW_seq (Sr (Mv ?_)))
 refine Vt ?_
 refine Ve ?_
 refine Mv ?_
 refine FL_splitP (t := 17) rfl (fun hs16 => ?_) (fun hs16 => ?_)
 ·exact absurd hs16 (by decide)
 refine Of (Of (Of (Pf ?_)))
 refine Qn (FW_cond_false rfl ?_)
 refine Sk (FW_seq (Sr (Mv ?_)))
 refine FL_callQ H (makeSet_ok nameSet (by decide) (by decide)) (h := fun w21 H21 k20 => ?_)
 refine Mv ?_
 refine Vx ?_
 refine Vx ?_
 refine FL_alloc H21 (cs := List.replicate 256 (.bool false)) (h := fun bs w26 H26 k25 => ?_)
 refine FL_storeN H26 (us := (setCells nameSet).toList) (cs' := (setCells nameSet).toList) rfl (by exact rfl) hcl hc1 At0 (by rw [hcl]; decide) (by rw [hcl]; simp) (h := fun w28 H28 => ?_)
 have hset : ∀ c : UInt8, w28.cell? ⟨bs, c.toNat, none⟩ = some (.bool (nameB c)) := fun c => by
  have hb := H28.obj At0
  have := setCells_at nameSet c
  rw [nameSet_has] at this
  rw [World.cell?, hb]
  simpa using this
 refine Am ?_
 refine Nx (Mv ?_)
 refine Qn (Cd rfl (fun hc31 => ?_) (fun hc31 => ?_))
 ·refine Sr (Mv ?_)
  refine FL_call (trimRight_ok (p := nameB) s hset hl) rfl rfl (fun v' w34 hv => ?_)
  obtain ⟨⟨m, rfl, hm, hall, hlast⟩, hkk⟩ := hv
  have H34 := H28.keep hkk
  refine FL_callQ H34 (trimLeft_ok (p := nameB) (s.take m) fun c => hkk.cell (hset c) id) (h := fun w36 H36 k35 => ?_)
  refine Am ?_
  refine Qn (Rs (Qfn_ret (hR := ?_)))
  exact ⟨⟨_, rfl, by
  rw [dropWhile_nil, List.all_eq_true]
  constructor
  ·intro h c hc
   obtain ⟨j, hj⟩ := List.getElem?_of_mem hc
   by_cases e : m ≤ j
   ·exact hall j c e hj
   exact h c (List.mem_of_getElem? (i := j) (by rw [List.getElem?_take, if_pos (by omega)]; exact hj))
  intro h c hc
  exact h c (List.mem_of_mem_take hc)⟩, H36.kept⟩
 exact absurd hc31 (by decide)
theorem idx_none {p : Nat → Bool} {l : List UInt8} (h : ∀ c ∈ l, c.toNat < 128 ∧ p c.toNat = false) : ∀ f pos : Nat, Lib.idxFuncFrom p true ⟨l.toArray⟩ f pos = -1
 | 0, _ => rfl
 | f + 1, pos => by
  unfold Lib.idxFuncFrom
  by_cases hp : pos < (⟨l.toArray⟩ : ByteArray).size
  ·have hlt : pos < l.length := by rw [Mw.size_mk] at hp; exact hp
   obtain ⟨h1, h2⟩ := h l[pos] (List.getElem_mem hlt)
   have e : Utf8.decode ⟨l.toArray⟩ pos = (l[pos].toNat, 1) := by
    rw [← Lib.decodeL_drop]
    show Lib.decodeL (l.drop pos) = _
    rw [List.drop_eq_getElem_cons hlt, Lib.decodeL_ascii _ _ h1]
   rw [if_pos hp, e, if_neg (by rw [h2]; decide)]
   exact idx_none h f _
  rw [if_neg hp]
theorem containsOdd_ok (s : List UInt8) (hall : s.all nameB = true) : Rets Tryz.prog 123 [str s, .func (.func 124) #[] #[]] w fun v w' => v = .bool false ∧ Kept noB w w' := by
 have hp : PredAt Tryz.prog 124 #[] encR oddN w := fun W r _ => Calls.mono (odd_ok (w := W) r) fun e w' he => by
  cases e with
  | returned v => obtain ⟨rfl, rfl⟩ := he; exact ⟨rfl, 0, rfl⟩
  | _ => exact he.elim
 have := rets_below (Tryz.strings_ContainsFunc 124 #[] (Enters.run (P := Tryz.prog)) oddN ⟨s.toArray⟩ w hp)
 have e : decide (0 ≤ Lib.idxFunc oddN true ⟨s.toArray⟩) = false := by
  unfold Lib.idxFunc
  rw [idx_none fun c hc => nameB_odd c (List.all_eq_true.1 hall c hc)]
  decide
 rw [e] at this
 exact this
theorem isName_ok (s : List UInt8) : Rets Tryz.prog 82 [str s] w fun v w' => v = .bool (isNameS s) ∧ Kept noB w w' := by
 have H := Sep.start0 w
 obtain ⟨res, hres⟩ : ∃ res, res = isNameS s := ⟨_, rfl⟩
 rw [← hres]
 refine rets1 Tryz.func82 rfl rfl rfl rfl ?_
 refine Sr (Am ?_)
 refine Qn (FW_seq (Sr (Mv ?_)))
 refine Vv (Gives.eqlT rfl rfl) (Mv ?_)
 refine FL_splitP (t := 5) rfl (fun hs5 => ?_) (fun hs5 => ?_)
 ·have hno : res = false := by rw [hres, hs5]; rfl
  refine Of (Of (Of (Pt ?_)))
  refine Mv ?_
  refine Of (Of (Of (Pt ?_)))
  refine Mv ?_
  refine Of (Of (Of (Pt ?_)))
  refine Qn (FW_cond_true rfl ?_)
  refine Sr (Am ?_)
  refine Qn (Rs (Qfn_ret (hR := ?_)))
  exact ⟨by rw [hno]; rfl, H.kept⟩
 obtain ⟨c, r, hcr⟩ : ∃ c r, s = c :: r := List.exists_cons_of_ne_nil hs5
 have hlen : s.length = r.length + 1 := by rw [hcr]; rfl
 have hg0 : s.getD 0 0 = c := by rw [hcr]; rfl
 unfold isNameS at hres
 rw [hg0] at hres
 refine On (Mv ?_)
 refine On (Vt ?_)
 refine On (Vg ?_)
 refine Pf ?_
 refine Mv ?_
 refine FL_splitP (t := 10) rfl (fun hs20 => ?_) (fun hs20 => ?_)
 ·have hno : res = false := by rw [hres, decide_eq_false (by omega)]; rfl
  refine Of (Of (Of (Pt ?_)))
  refine Mv ?_
  refine Of (Of (Of (Pt ?_)))
  refine Qn (FW_cond_true rfl ?_)
  refine Sr (Am ?_)
  refine Qn (Rs (Qfn_ret (hR := ?_)))
  exact ⟨by rw [hno]; rfl, H.kept⟩
 rw [decide_eq_true (by omega)] at hres
 refine On (Mv ?_)
 refine On (Vv (Gives.idxD (i := 0) rfl rfl (by omega)) ?_)
 rw [hg0]
 refine On (Vl ?_)
 refine Pf ?_
 refine Mv ?_
 refine FL_splitP (t := 15) rfl (fun hs33 => ?_) (fun hs33 => ?_)
 ·have hno : res = false := by rw [hres, show lowB c = false from decide_eq_false (by omega)]; rfl
  refine Of (Of (Of (Pt ?_)))
  refine Qn (FW_cond_true rfl ?_)
  refine Sr (Am ?_)
  refine Qn (Rs (Qfn_ret (hR := ?_)))
  exact ⟨by rw [hno]; rfl, H.kept⟩
 refine On (Mv ?_)
 refine On (Vv (Gives.idxD (i := 0) rfl rfl (by omega)) ?_)
 rw [hg0]
 refine On (Vg ?_)
 refine Pf ?_
 refine Qn (Cp rfl (fun hc42 => ?_) (fun hc42 => ?_))
 ·have hno : res = false := by rw [hres, show lowB c = false from decide_eq_false (by omega)]; rfl
  refine Sr (Am ?_)
  refine Qn (Rs (Qfn_ret (hR := ?_)))
  exact ⟨by rw [hno]; rfl, H.kept⟩
 rw [show lowB c = true from decide_eq_true (by omega), Bool.true_and, Bool.true_and] at hres
 refine Sk (Sr (Mv ?_))
 refine FL_call (trim_ok s (by rw [hcr]; simp) (by omega)) rfl rfl (fun v' w49 hv => ?_)
 obtain ⟨⟨t, rfl, ht⟩, hkk⟩ := hv
 have H49 := H.keep hkk
 refine Vv (Gives.eqlT rfl rfl) (Mv ?_)
 refine FL_splitP (t := 23) rfl (fun hs52 => ?_) (fun hs52 => ?_)
 ·have hall : s.all nameB = true := ht.1 hs52
  rw [hall] at hres
  refine On (Mv ?_)
  refine On (FL_callQ H49 (containsOdd_ok s hall) (h := fun w56 H56 k55 => ?_))
  refine On (Vv (Gives.not rfl) (Pt ?_))
  refine Am ?_
  refine Qn (FW_ret (Qfn_ret (hR := ?_)))
  exact ⟨by rw [hres]; rfl, H56.kept⟩
 have hall : s.all nameB = false := by rw [← Bool.not_eq_true]; exact fun h => hs52 (ht.2 h)
 rw [hall] at hres
 refine Of (Of (Of (Pf ?_)))
 refine Am ?_
 refine Qn (FW_ret (Qfn_ret (hR := ?_)))
 exact ⟨by rw [hres]; rfl, H49.kept⟩
end
def colsH (b : Nat) (l : List ColM) : HP := exH fun v => star (blk b [v] 40) (rowD 49 7 colCells v l)
instance iface_error : IsIface Tryz.prog 127 := ⟨by kernel_rfl⟩
section
variable {w : World}
theorem zeroE_ok (t : TypeM) : Rets Tryz.prog 25 [agg (typeCells t)] w fun v w' => v = agg (cellCells (zeroC t)) ∧ Kept noB w w' := by
 have H := Sep.start0 w
 refine retsC1 Tryz.func25 rfl rfl rfl rfl ?_
 refine Sr (FL_box H (h := fun b1 w2 H2 k1 => ?_))
 refine FL_alloc H2 (h := fun b3 w4 H4 k3 => ?_)
 refine Nx (FL_loadAll H4 (h := ?_))
 refine FL_callQ H4 (cellMay_ok t) (h := fun w7 H7 k6 => ?_)
 refine Mv ?_
 refine FL_splitP (t := 5) rfl (fun hs9 => ?_) (fun hs9 => ?_)
 ·have hmt : mayT t = true := decide_eq_true hs9
  refine On (Vf ?_)
  refine On (Ld H7 ?_)
  refine Pt ?_
  refine Vv (Gives.build (out := cellCells ⟨t.null, 0, []⟩) (Fills.one rfl rfl rfl (by decide) rfl Fills.nil)) (FL_storeAll H7 (h := fun w16 H16 => ?_))
  refine Qn (FW_ret (QfnC_ret (h := ?_)))
  exact ⟨_, ⟨_, _, _, rfl, rfl, loadVar_blkN (cs := cellCells ⟨t.null, 0, []⟩) (o := 0) (k := 3) (H16.obj At0) (us := cellCells ⟨t.null, 0, []⟩) rfl rfl, rfl⟩, by unfold zeroC; rw [hmt]; rfl, H16.kept⟩
 have hmt : mayT t = false := decide_eq_false hs9
 refine Of (Of (Pf ?_))
 refine Vv (Gives.build (out := cellCells ⟨false, 0, []⟩) (Fills.one rfl rfl rfl (by decide) rfl Fills.nil)) (FL_storeAll H7 (h := fun w22 H22 => ?_))
 refine Qn (FW_ret (QfnC_ret (h := ?_)))
 exact ⟨_, ⟨_, _, _, rfl, rfl, loadVar_blkN (cs := cellCells ⟨false, 0, []⟩) (o := 0) (k := 3) (H22.obj At0) (us := cellCells ⟨false, 0, []⟩) rfl rfl, rfl⟩, by unfold zeroC; rw [hmt]; rfl, H22.kept⟩
theorem putCol_ok {b : Nat} {F : Nat → Prop} {acc : List ColM} (name : List UInt8) (t : TypeM) (hp : (colsH b acc).ok F w) (hl : acc.length ≤ 1000) :
    Rets Tryz.prog 62 [str name, agg (typeCells t), selfP b] w fun v w' => v = .tuple #[] ∧ Turn F (colsH b (acc ++ [colP ((acc.length + 1 : Nat) : Int) name t])) w w' := by
  have H0 := Sep.start1 hp
  unfold colsH at H0
  obtain ⟨v0, H0⟩ := H0.ex0
  have H := H0.star0
  obtain ⟨A, ca, rfl, hca, hA⟩ := Sep.formD H At1
  refine rets3 Tryz.func62 rfl rfl rfl rfl ?_
  refine Sr (FL_box H (cs := typeCells t) rfl (h := fun b4 w2 H2 k1 => ?_))
  refine Qn (FW_drawS rfl H2 (h := fun hok3 w5 H5 => ?_))
  refine FGload hok3 0 H5 (h := ?_)
  refine FGload hok3 1 H5 (h := ?_)
  refine Gp hok3 2 rfl rfl (fun _ => (Gives.lenSlice rfl)) (Gp hok3 3 rfl rfl (fun _ => Gives.addI (c := ((acc.length + 1 : Nat) : Int)) rfl rfl (by omega) (by omega)) ?_)
  refine Gm hok3 4 ?_
  refine FGloadAll hok3 5 H5 (h := ?_)
  refine FGloadAll hok3 6 H5 (h := ?_)
  refine FGcallQ hok3 7 [(5, false), (4, true), (3, true), (2, true), (1, false), (0, false)] H5 (zeroE_ok t) (h := fun w13 H13 k12 => ⟨(Stab_cons rfl (by kernel_rfl) (Gives.loadN rfl (H13.obj At0) (us := typeCells t) rfl rfl) rfl (Stab_pure (Stab_pure (Stab_pure (Stab_load H13 (h := Stab_load H13 (h := Stab_nil))))))), ?_⟩)
  refine Gp hok3 8 rfl rfl (fun _ => Gives.build (out := colCells (colP ((acc.length + 1 : Nat) : Int) name t)) (Fills.one rfl rfl rfl (by simp) rfl (Fills.one rfl rfl rfl (by simp) rfl (Fills.many rfl rfl (Nat.le_of_ble_eq_true rfl) rfl (Fills.many rfl rfl (Nat.le_of_ble_eq_true rfl) rfl Fills.nil))))) (FGbuildSlice hok3 9 [(0, false)] H13 (xs := [.tmp 13]) (out := [colP ((acc.length + 1 : Nat) : Int) name t].flatMap colCells) (Elems.many rfl rfl Elems.nil) (h := fun bs w16 H16 => ⟨Stab_load H16 (h := Stab_nil), ?_⟩))
  refine FGappendD hok3 10 [] H16 (news := [colP ((acc.length + 1 : Nat) : Int) name t]) At2 (by unfold maxLen; simp; omega) (by simp; omega) (cells_one (fun _ => rfl) _) (h := fun v2 w18 H18 => ?_)
  obtain ⟨A2, c2, rfl, hc2, hA2⟩ := Sep.formD H18 At2
  refine ⟨Stab_nil, ?_⟩
  refine FGstore hok3 11 [] H18 (h := fun w20 H20 => ⟨Stab_nil, ?_⟩)
  refine FG_end hok3 (by kernel_rfl) ?_
  refine Qfn_normal (hR := ?_)
  exact ⟨rfl, (Sep.pack0 (p := fun v => star (blk b [v] 40) (rowD 49 7 colCells v _)) _ (Sep.join0 H20.drop0)).first.turn⟩
theorem named_ok {p : PlanM} {v : Value} (hp : PlanIn w v p) (hn : p.cols.length ≤ 1000000) : Rets Tryz.prog 36 [v] w fun v w' => v = .bool (namedP p) ∧ Kept noB w w' := by
 obtain ⟨vw, vc, rfl, hw, r, hr, hraw⟩ := hp
 obtain ⟨A, m, rfl, ⟨hm, hm'⟩, hA⟩ := hr
 have hrl := hraw.len
 have H := Sep.start0 w
 obtain ⟨res, hres⟩ : ∃ res, res = namedP p := ⟨_, rfl⟩
 rw [← hres]
 unfold namedP at hres
 refine rets1 Tryz.func36 rfl rfl rfl rfl ?_
 refine Sr (FL_box H (cs := [vw, .slice A r.length m, I p.group]) rfl (h := fun b1 w2 H2 k1 => ?_))
 refine Am ?_
 refine Nx (FL_makeMap H2 (h := fun b3 w5 H5 k4 => ?_))
 have H5 := Sep.mapNewS H5 At0
 refine Am ?_
 refine Qn (FW_seq (Sr (Vf ?_)))
 refine Ld H5 ?_
 refine Vs ?_
 refine Mv ?_
 refine Qn (FW_block (FW_loop' (fun i : Nat => [(1, selfP b1), (3, .map (some b3)), (9, .slice A r.length m), (10, I r.length), (11, I i)]) (fun i w' => (i ≤ r.length ∧ ∀ (j : Nat) o, j < i → p.cols[j]? = some o → isNameS o.name = true ∧ ¬ (0 ≤ p.group ∧ o.name = countW)) ∧ ∃ f n, Had ((p.cols.map (·.name)).take i) f n ∧ Sep w noB [mapIS b3 f n, blk b1 [vw, .slice A r.length m, I p.group] 25] w') (fun i _ => r.length - i) 0 ⟨rfl, rfl, rfl, rfl, rfl, trivial⟩ ⟨⟨Nat.zero_le _, fun j o hj => absurd hj (Nat.not_lt_zero j)⟩, _, _, Had.nil, H5⟩ (fun i τ w12 hI => ?_)))
 obtain ⟨⟨hi, hgood⟩, f, n, hhad, H12⟩ := hI
 try simp only [upds, like, upd_ds, und_ds]
 refine Sr (Vl ?_)
 refine Qn (FW_seq (Cp rfl (fun hc14 => ?_) (fun hc14 => ?_)))
 ·have hlt : i < p.cols.length := by omega
  obtain ⟨x, hx, hsx⟩ := hraw.at hlt
  obtain ⟨Ax, cx, rfl, _⟩ := id hsx
  have hpc : p.cols[i]? = some p.cols[i] := List.getElem?_eq_getElem hlt
  obtain ⟨o, ho⟩ : ∃ o, o = p.cols[i] := ⟨_, rfl⟩
  rw [← ho] at hx hsx hpc
  have htn : (p.cols.map (·.name)).take (i + 1) = (p.cols.map (·.name)).take i ++ [o.name] := by rw [List.take_add_one, List.getElem?_map, hpc]; rfl
  have hmem : o ∈ p.cols := List.mem_of_getElem? hpc
  refine Sk (FW_seq (FW_block (Sr (Vv (Gives.idxR rfl rfl (by assumption) (by omega)) (Vv (Gives.loadE0 rfl H12 (by assumption) (by assumption)) ?_)))))
  refine FL_alloc H12 (h := fun b5 w19 H19 k18 => ?_)
  refine FL_storeAll H19 (h := fun w21 H21 => ?_)
  refine Nx (Mv ?_)
  refine Vf ?_
  refine Ld H21 ?_
  obtain ⟨c, hcl, hcv⟩ := hhad.val ⟨o.name.toArray⟩
  rw [List.length_take, List.length_map] at hcl
  refine FL_val (gives_lookupS (i := ⟨o.name.toArray⟩) H21 At1 rfl rfl) rfl ?_
  rw [hcv]
  refine Vv (Gives.addI (c := ((c + 1 : Nat) : Int)) rfl rfl (by omega) (by omega)) ?_
  have hhad2 := hhad.push o.name (c := c) (by rw [List.length_take, List.length_map]; omega)
  rw [← htn] at hhad2
  refine FL_mapUpdateS H21 At1 rfl rfl rfl (h := fun w28 H28 => ?_)
  refine Nx (Vf ?_)
  refine Ld H28 ?_
  refine FL_callQ H28 (isName_ok o.name) (h := fun w32 H32 k31 => ?_)
  refine Vv (Gives.not rfl) (Mv ?_)
  refine FL_split (t := 24) rfl (fun hs35 => ?_) (fun hs35 => ?_)
  ·have hbad : ¬ isNameS o.name = true := by simpa using hs35
   refine Of (Of (Of (Of (Ou (Ou (Ou (Of (Pt ?_))))))))
   refine Qn (FW_cond_true rfl ?_)
   refine Sr (Am ?_)
   refine Qn (Rb (Qround_ret (Qblk_ret (Qseq_ret (Qfn_ret (hR := ?_))))))
   refine ⟨?_, H32.kept⟩
   have hno : p.cols.all (fun o => isNameS o.name && !(decide (0 ≤ p.group) && decide (o.name = countW))) = false := by
    rw [← Bool.not_eq_true, List.all_eq_true]
    intro h
    have h1 := h o hmem
    simp_all
   rw [hres, hno]
   simp [resPack]
  have hnm : isNameS o.name = true := by simpa using hs35
  refine On (Vf ?_)
  refine On (Ld H32 ?_)
  refine On (Vv (Gives.geq rfl rfl) (On ?_))
  refine Mv ?_
  refine FL_splitP (t := 28) rfl (fun hs45 => ?_) (fun hs45 => ?_)
  ·refine On (Vf ?_)
   refine On (Ld H32 ?_)
   refine On (Vv (Gives.eqlT rfl rfl) (On ?_))
   refine Pt ?_
   refine Pf ?_
   refine Qn (Cp rfl (fun hc51 => ?_) (fun hc51 => ?_))
   ·have hbad2 : 0 ≤ p.group ∧ o.name = countW := ⟨by omega, hc51⟩
    refine Sr (Am ?_)
    refine Qn (Rb (Qround_ret (Qblk_ret (Qseq_ret (Qfn_ret (hR := ?_))))))
    refine ⟨?_, H32.kept⟩
    have hno : p.cols.all (fun o => isNameS o.name && !(decide (0 ≤ p.group) && decide (o.name = countW))) = false := by
     rw [← Bool.not_eq_true, List.all_eq_true]
     intro h
     have h1 := h o hmem
     simp_all
    rw [hres, hno]
    simp [resPack]
   have hok2 : ¬ (0 ≤ p.group ∧ o.name = countW) := fun h => hc51 h.2
   refine FW_skip (Qblk_normal (Qseq_normal (FW_region (Vv (Gives.addI rfl rfl rfl (by omega)) ?_))))
   refine Mv ?_
   refine FL_nil ?_
   exact Qround_normal (i + 1) ⟨rfl, rfl, rfl, rfl, rfl, trivial⟩ ⟨⟨by omega, fun j y hj hy => by
   by_cases e : j = i
   ·subst e; rw [hpc] at hy; injection hy with hy; rw [← hy]; exact ⟨hnm, hok2⟩
   exact hgood j y (by omega) hy⟩, _, _, hhad2, H32.drop0⟩ (by omega)
  have hok2 : ¬ (0 ≤ p.group ∧ o.name = countW) := fun h => by omega
  refine Of (Of (Of (On (Pf ?_))))
  refine Pf ?_
  refine Qn (FW_cond_false rfl ?_)
  refine FW_skip (Qblk_normal (Qseq_normal (FW_region (Vv (Gives.addI rfl rfl rfl (by omega)) ?_))))
  refine Mv ?_
  refine FL_nil ?_
  exact Qround_normal (i + 1) ⟨rfl, rfl, rfl, rfl, rfl, trivial⟩ ⟨⟨by omega, fun j y hj hy => by
  by_cases e : j = i
  ·subst e; rw [hpc] at hy; injection hy with hy; rw [← hy]; exact ⟨hnm, hok2⟩
  exact hgood j y (by omega) hy⟩, _, _, hhad2, H32.drop0⟩ (by omega)
 have hil : i = r.length := by omega
 have hall : p.cols.all (fun o => isNameS o.name && !(decide (0 ≤ p.group) && decide (o.name = countW))) = true := by
  rw [List.all_eq_true]
  intro o ho
  obtain ⟨j, hj⟩ := List.getElem?_of_mem ho
  obtain ⟨h1, h2⟩ := hgood j o (by have := get_lt hj; omega) hj
  rw [h1, Bool.true_and]
  cases hg : decide (0 ≤ p.group) <;> cases hc : decide (o.name = countW) <;> simp_all
 rw [hall] at hres
 have hnd := hhad.nd
 rw [hil, hrl, List.take_of_length_le (by simp)] at hnd
 rw [List.length_map] at hnd
 have hnr : (n = r.length ↔ (p.cols.map (·.name)).Nodup) := by rw [hrl]; exact hnd
 have hres : res = decide ((n : Int) = r.length ∧ 1 ≤ r.length ∧ r.length ≤ 16 ∧ -1 ≤ p.group ∧ p.group ≤ r.length) := by
  rw [hres, Bool.and_true, ← Bool.decide_and, hrl]
  refine decide_eq_decide.2 ⟨fun h => ?_, fun h => ?_⟩
  ·have := hnr.2 h.2
   omega
  exact ⟨by omega, hnr.1 (by omega)⟩
 refine FW_exit (Qseq_exit (Qround_exit (Qblk_exit (Qseq_normal (Sr (Vf ?_))))))
 refine Ld H12 ?_
 refine Vs ?_
 refine Am ?_
 refine Nx (Mv ?_)
 refine FL_val (gives_lenMapS H12 At0 rfl) rfl ?_
 refine Mv ?_
 refine Ve ?_
 refine Mv ?_
 refine FL_splitP (t := 42) rfl (fun hs75 => ?_) (fun hs75 => ?_)
 ·refine On (Mv ?_)
  refine On (Vv (Gives.geq rfl rfl) (Pt ?_))
  refine Mv ?_
  refine FL_splitP (t := 46) rfl (fun hs80 => ?_) (fun hs80 => ?_)
  ·refine On (Mv ?_)
   refine On (Vv (Gives.leq rfl rfl) (Pt ?_))
   refine Mv ?_
   refine FL_splitP (t := 50) rfl (fun hs85 => ?_) (fun hs85 => ?_)
   ·refine On (Vf ?_)
    refine On (Ld H12 ?_)
    refine On (Vv (Gives.geq rfl rfl) (Pt ?_))
    refine Mv ?_
    refine FL_splitP (t := 55) rfl (fun hs91 => ?_) (fun hs91 => ?_)
    ·refine On (Vf ?_)
     refine On (Ld H12 ?_)
     refine On (Mv ?_)
     refine On (Vv (Gives.leq rfl rfl) (Pt ?_))
     refine Am ?_
     refine Qn (FW_ret (Qfn_ret (hR := ?_)))
     exact ⟨by rw [hres]; first | exact congrArg Value.bool (Eq.symm (decide_eq_false (by omega))) | exact congrArg Value.bool (decide_eq_decide.2 (by omega)), H12.kept⟩
    refine Of (Of (Of (Of (Pf ?_))))
    refine Am ?_
    refine Qn (FW_ret (Qfn_ret (hR := ?_)))
    exact ⟨by rw [hres]; first | exact congrArg Value.bool (Eq.symm (decide_eq_false (by omega))) | exact congrArg Value.bool (decide_eq_decide.2 (by omega)), H12.kept⟩
   refine Of (Of (Of (Pf ?_)))
   refine Mv ?_
   refine Of (Of (Of (Of (Pf ?_))))
   refine Am ?_
   refine Qn (FW_ret (Qfn_ret (hR := ?_)))
   exact ⟨by rw [hres]; first | exact congrArg Value.bool (Eq.symm (decide_eq_false (by omega))) | exact congrArg Value.bool (decide_eq_decide.2 (by omega)), H12.kept⟩
  refine Of (Of (Pf ?_))
  refine Mv ?_
  refine Of (Of (Of (Pf ?_)))
  refine Mv ?_
  refine Of (Of (Of (Of (Pf ?_))))
  refine Am ?_
  refine Qn (FW_ret (Qfn_ret (hR := ?_)))
  exact ⟨by rw [hres]; first | exact congrArg Value.bool (Eq.symm (decide_eq_false (by omega))) | exact congrArg Value.bool (decide_eq_decide.2 (by omega)), H12.kept⟩
 refine Of (Of (Pf ?_))
 refine Mv ?_
 refine Of (Of (Pf ?_))
 refine Mv ?_
 refine Of (Of (Of (Pf ?_)))
 refine Mv ?_
 refine Of (Of (Of (Of (Pf ?_))))
 refine Am ?_
 refine Qn (FW_ret (Qfn_ret (hR := ?_)))
 exact ⟨by rw [hres]; first | exact congrArg Value.bool (Eq.symm (decide_eq_false (by omega))) | exact congrArg Value.bool (decide_eq_decide.2 (by omega)), H12.kept⟩
end
end Go.Proofs.YtolaedhdjcnijaaGreatDoor
namespace Go.Proofs.YtolaedhdjcnijaaGreatDoor
open Go Go.Lib Go.Mw
set_option maxRecDepth 4000
end Go.Proofs.YtolaedhdjcnijaaGreatDoor
namespace Go.Proofs.YtolaedhdjcnijaaGreatDoor
open Go Go.Mw Go.Lib
set_option maxRecDepth 4000
theorem usesP_mem {p : PlanM} {u : Int} : u ∈ usesP p ↔ u ∈ usesS p.wh ∨ ∃ o ∈ p.cols, u ∈ usesS o.steps := by
 unfold usesP
 rw [usesS_mem, usesS_mem]
 constructor
 ·rintro ⟨x, hx, h1, h2⟩
  rcases List.mem_append.1 hx with hx | hx
  ·exact .inl ⟨x, hx, h1, h2⟩
  obtain ⟨o, ho, hx⟩ := List.mem_flatMap.1 hx
  exact .inr ⟨o, ho, usesS_mem.2 ⟨x, hx, h1, h2⟩⟩
 rintro (⟨x, hx, h1, h2⟩ | ⟨o, ho, hu⟩)
 ·exact ⟨x, List.mem_append_left _ hx, h1, h2⟩
 obtain ⟨x, hx, h1, h2⟩ := usesS_mem.1 hu
 exact ⟨x, List.mem_append_right _ (List.mem_flatMap.2 ⟨o, ho, hx⟩), h1, h2⟩
def gatherP (wh : List StepM) (cols : List OutM) : List Int := usesS wh ++ cols.flatMap fun o => usesS o.steps
theorem usesP_sorted (p : PlanM) : Lib.compact ((gatherP p.wh p.cols).mergeSort fun x y => decide (x ≤ y)) = usesP p := by
 have hs : ((gatherP p.wh p.cols).mergeSort fun x y => decide (x ≤ y)).Pairwise (· ≤ ·) := by
  have := List.pairwise_mergeSort (le := fun x y : Int => decide (x ≤ y)) (fun a b c h1 h2 => by simp at *; omega) (fun a b => by simp; omega) (gatherP p.wh p.cols)
  exact this.imp fun h => by simpa using h
 obtain ⟨h1, h2⟩ := compact_rises hs
 refine rises_same h1 (usesS_rises _) fun k => ?_
 show _ ↔ k ∈ usesP p
 rw [h2, List.mem_mergeSort, usesP_mem]
 unfold gatherP
 rw [List.mem_append, List.mem_flatMap]
theorem usesS_len (l : List StepM) : (usesS l).length ≤ l.length := by
 rw [← uses_sorted]
 have h1 := Lib.compact_length_le (((l.filter fun x => decide (x.kind = 1)).map fun x => x.n).mergeSort fun x y => decide (x ≤ y))
 rw [List.length_mergeSort, List.length_map] at h1
 exact Nat.le_trans h1 (List.length_filter_le _ _)
theorem gather_len {wh : List StepM} {m : Nat} : ∀ {cols : List OutM}, (∀ o ∈ cols, o.steps.length ≤ m) → (gatherP wh cols).length ≤ wh.length + cols.length * m := by
 intro cols
 unfold gatherP
 rw [List.length_append]
 intro h
 have h1 := usesS_len wh
 have h2 : (cols.flatMap fun o => usesS o.steps).length ≤ cols.length * m := by
  clear h1
  induction cols with
  | nil => simp
  | cons o l ih =>
   rw [List.flatMap_cons, List.length_append, List.length_cons, Nat.succ_mul]
   have h3 := usesS_len o.steps
   have h4 := h o List.mem_cons_self
   have h5 := ih fun x hx => h x (List.mem_cons_of_mem _ hx)
   omega
 omega
theorem gather_snoc (wh : List StepM) (cols : List OutM) (o : OutM) : gatherP wh (cols ++ [o]) = gatherP wh cols ++ usesS o.steps := by
 unfold gatherP
 rw [List.flatMap_append]
 simp
end Go.Proofs.YtolaedhdjcnijaaGreatDoor
