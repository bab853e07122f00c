/-
 The program's Parse of an expression, walked.
-/
import Derived.Test.YtolaedhdjcnijaaGreatDoorKk9
import Derived.Test.YtolaedhdjcnijaaGreatDoorKk5
import Derived.Test.YtolaedhdjcnijaaGreatDoorKk4
import Derived.Test.YtolaedhdjcnijaaGreatDoorKk2
import Derived.Laws.Externs
import Derived.MapKept
import Derived.WideLaws
import Derived.Test.YtolaedhdjcnijaaGreatDoorKk7
set_option linter.unusedVariables false
set_option linter.unusedSimpArgs false
namespace Go.Mw
open Go.RowKit
theorem y9 {P : Program} {T : TypeId} [h1 : OneCell P T] {w : World} {b : Nat} {v : Value} {E : TypeId} (hb : w.heap[b]? = some (.cells [v].toArray E (0, 0))) : (loadVar T ⟨b, 0, none⟩).run P w = .ok v w := by
 have hc : w.cell? ⟨b, 0, none⟩ = some v := og hb 0
 simp [loadVar, h1.agg, hc]
theorem JZ {P : Program} {T U : TypeId} [OneCell P T] [OneCell P U] {σ : St} {w : World} {a b x y : Nat} {v u : Value} {E F : TypeId} (hx : w.heap[x]? = some (.cells [v].toArray E (0, 0))) (hy : w.heap[y]? = some (.cells [u].toArray F (0, 0)))
    (ha : σ a = .pointer (some ⟨x, 0, none⟩) := by exact rfl) (hb : σ b = .pointer (some ⟨y, 0, none⟩) := by exact rfl) : nJ P σ w [.cell a T, .cell b U] [v, u] :=
  ⟨v, [u], ⟨x, 0, none⟩, rfl, ha, y9 hx, u, [], ⟨y, 0, none⟩, rfl, hb, y9 hy, rfl⟩
end Go.Mw
namespace Go.Proofs.YtolaedhdjcnijaaGreatDoor
open Go Go.Mw Go.Lib
set_option maxRecDepth 4000
theorem J2 : ∀ (l : List UInt8), ∀ w ∈ bT 32 l, w.length ≤ l.length
 | [], w, h => by
  have : w = [] := by simpa [bT] using h
  rw [this]; simp
 | c :: l, w, h => by
  have ih := J2 l
  by_cases hc : c = 32
  ·rw [bT, if_pos hc] at h
   rcases List.mem_cons.1 h with rfl | h
   ·simp
   have := ih w h; simp only [List.length_cons]; omega
  obtain ⟨w1, ws, e1, e2⟩ := mU (sep := 32) (l := l) hc
  rw [e2] at h
  rw [e1] at ih
  rcases List.mem_cons.1 h with rfl | h
  ·have := ih w1 (by simp)
   simp only [List.length_cons]; omega
  have := ih w (List.mem_cons_of_mem _ h)
  simp only [List.length_cons]; omega
theorem qG (w : List UInt8) : fits (dM w).n := by
 unfold dM fits
 split
 ·dsimp only; omega
 split
 ·rename_i k hk
  have := List.mem_of_find?_eq_some hk
  simp at this
  dsimp only
  omega
 repeat' split
 all_goals first | exact Bo _ | (dsimp only; omega)
theorem AY : ∀ {ws : List (List UInt8)}, (∀ y ∈ ws, jR (dM y) y = true) → readAll ws = some (ws.map dM)
 | [], _ => rfl
 | w :: ws, h => by
  rw [readAll, if_pos (h w (by simp)), AY fun y hy => h y (List.mem_cons_of_mem _ hy)]
  rfl
theorem AZ : ∀ {ws : List (List UInt8)} {x : List UInt8}, x ∈ ws → jR (dM x) x = false → readAll ws = none
 | w :: ws, x, hm, hb => by
  rw [readAll]
  split
  ·rename_i hg
   rcases List.mem_cons.1 hm with rfl | hm
   ·rw [hb] at hg; cases hg
   rw [AZ hm hb]; rfl
  rfl
def Rz (b : Nat) (l : List bL) : HP := exH fun v => star (blk b [v] 22) (cO 60 3 aI v l)
def Xw (b2 b3 b4 : Nat) (pre : List (List UInt8)) : HP := jc [mH (∀ y ∈ pre, jR (dM y) y = true), blk b2 [.slice none 0 0] 22, blk b3 [I 0] 27, Rz b4 (pre.map dM)]
def aa1 (b2 b3 : Nat) (_ : List (List UInt8)) (x : List UInt8) : HP := jc [mH (jR (dM x) x = false), blk b2 [.slice none 0 0] 22, blk b3 [I 4] 27]
section
variable {w : World}
theorem J3 (s : List UInt8) : bF Tryz.prog 143 [str s, str [32], I 0] w fun v w' => ∃ x : Nat × Nat × Nat, v = .func (.func 200) #[] #[bI x.1, bI x.2.1, bI x.2.2] ∧ True ∧ Turn noB (star (blk x.1 [str [32]] 9) (star (blk x.2.1 [str s] 9) (blk x.2.2 [I 0] 3))) w w' := by
 have H := Sep.bB w
 refine EU Tryz.func143 rfl rfl rfl rfl ?_
 refine Sr (dz H (h := fun b1 w2 H2 k1 => ?_))
 refine dz H2 (h := fun b3 w4 H4 k3 => ?_)
 refine dz H4 (h := fun b5 w6 H6 k5 => ?_)
 refine Am ?_
 refine Nx (Vv (Gives.makeFunc (fs := []) (us := []) (cs := [.tmp 4, .tmp 3, .tmp 5]) rfl rfl) (Am ?_))
 refine Qn (aM (ak (hR := ?_)))
 exact ⟨(b3, b1, b5), rfl, trivial, (Sep.uJ (Sep.dS (Sep.uJ H6.iK))).turn⟩
theorem J4 (s : List UInt8) : bF Tryz.prog 99 [str s, str [32]] w fun v w' => ∃ x : Nat × Nat × Nat, v = .func (.func 200) #[] #[bI x.1, bI x.2.1, bI x.2.2] ∧ True ∧ Turn noB (star (blk x.1 [str [32]] 9) (star (blk x.2.1 [str s] 9) (blk x.2.2 [I 0] 3))) w w' := by
 have H := Sep.bB w
 refine eU Tryz.func99 rfl rfl rfl rfl ?_
 refine Sr (Am ?_)
 refine Nx (Mv ?_)
 refine Mv ?_
 refine bH (J3 s) rfl rfl (fun v' w5 hv => ?_)
 obtain ⟨x, rfl, _, dK, F1, hq, gV⟩ := hv
 have H5 := H.new dK hq (fun b hb => (gV b hb).resolve_left id)
 refine Am ?_
 refine Qn (aM (ak (hR := ?_)))
 exact ⟨x, rfl, trivial, H5.turn⟩
theorem J5 (l : List UInt8) : bF Tryz.prog 21 [str l, str [32]] w fun v w' => v = I ((l.count 32 : Nat) : Int) ∧ w = w' :=
 l7 (Tryz.strings_Count_one ⟨l.toArray⟩ 32 w)
theorem Po (s : List UInt8) (hl : s.length ≤ 1000000 ∨ 1048576 < s.length) (yU : s.length ≤ 1000000000) (hT : je w) : bF Tryz.prog 55 [str s] w fun v w' => ∃ x, v = .tuple #[x, I (bN s).2] ∧ True ∧ Turn noB (cO 60 3 aI x (bN s).1) w w' := by
  have H := Sep.bB w
  obtain ⟨res, ay⟩ : ∃ res, res = bN s := ⟨_, rfl⟩
  rw [← ay]
  unfold bN at ay
  refine Uo Tryz.func55 rfl rfl rfl rfl ?_
  refine Sr (bD H (h := fun b1 w2 H2 k1 => ?_))
  refine bD H2 (h := fun b3 w4 H4 k3 => ?_)
  refine Qn (au (Sr (Mv ?_)))
  refine Vt ?_
  refine Vg ?_
  refine Mv ?_
  refine aG (t := 10) rfl (fun EN => ?_) (fun EN => ?_)
  · rw [if_pos (.inl (by omega))] at ay
    refine Of (Of (Of (Pt ?_)))
    refine Qn (aQ rfl ?_)
    refine Sr (bW H4 (h := fun wa Ha => ?_))
    refine bW Ha (h := fun wb Hb => ?_)
    refine Qn (Rs (zQ (h := ?_)))
    exact ⟨[.slice none 0 0, I 5], JZ (Hb.obj At1) (Hb.obj At0), .slice none 0 0, by rw [ay]; rfl, trivial, by rw [ay]; exact (Sep.iX Hb 60 3 aI).first.turn⟩
  have rG : s.length ≤ 1000000 := by omega
  have EO := zH s 32
  refine On (Mv ?_)
  refine On (dY (J5 s) (h := ?_))
  refine On (Vv (Gives.geq rfl rfl) (Pf ?_))
  refine Qn (Cp rfl (fun Ia => ?_) (fun Ia => ?_))
  · rw [if_pos (.inr (by omega))] at ay
    refine Sr (bW H4 (h := fun wc Hc => ?_))
    refine bW Hc (h := fun wd Hd => ?_)
    refine Qn (Rs (zQ (h := ?_)))
    exact ⟨[.slice none 0 0, I 5], JZ (Hd.obj At1) (Hd.obj At0), .slice none 0 0, by rw [ay]; rfl, trivial, by rw [ay]; exact (Sep.iX Hd 60 3 aI).first.turn⟩
  have Ib : s.count 32 < 64 := by omega
  rw [if_neg (by omega)] at ay
  refine Sk (au (Sr (Mv ?_)))
  refine Vv (Gives.iD rfl rfl) (Qn ?_)
  refine Cp rfl (fun Ic => ?_) (fun Ic => ?_)
  · rw [if_pos Ic] at ay
    refine Sr (bW H4 (h := fun we He => ?_))
    refine bW He (h := fun wf Hf => ?_)
    refine Qn (Rs (zQ (h := ?_)))
    exact ⟨[.slice none 0 0, I 0], JZ (Hf.obj At1) (Hf.obj At0), .slice none 0 0, by rw [ay]; rfl, trivial, by rw [ay]; exact (Sep.iX Hf 60 3 aI).first.turn⟩
  rw [if_neg Ic] at ay
  refine Sk (Sr (bD H4 (h := fun b4 wg Hg ka => ?_)))
  refine Qn (au (Sr (Mv ?_)))
  refine bH (J4 s) rfl rfl (fun v' wh hv => ?_)
  obtain ⟨⟨bP, bS, bV⟩, rfl, _, dK, F1, hq, gV⟩ := hv
  dsimp only at hq
  have Hh := Hg.new dK hq (fun b hb => (gV b hb).resolve_left id)
  refine Qn (aF ?_)
  have oK := qO 32 s
  have HJ : Mw.Sep w noB (Xw b1 b3 b4 [] :: [blk bP [str [32]] 9, blk bS [str s] 9, blk bV [I 0] 3]) wh := by
    have h1 := (Sep.iX Hh 60 3 aI).iK
    have h4 := Sep.AX (p := fun v => star (blk b4 [v] 22) (cO 60 3 aI v [])) (.slice none 0 0) (Sep.uJ h1)
    have h7 := Sep.bundle (l := [mH (∀ y ∈ ([] : List (List UInt8)), jR (dM y) y = true), _, _, _]) (rs := [_]) (Sep.nA (fun y hy => absurd hy List.not_mem_nil) h4.iK.lD)
    exact h7.dS.ny.dS.ny.lD.lD.Zv
  refine Gu (gf := 200) (lb := [bI bP, bI bS, bI bV]) str (bT 32 s) (Xw b1 b3 b4) (aa1 b1 b3) _ HJ rfl rfl ?_ ?_ ?_ ?_
  · intro l D ro rb pre x Fr W iV HW
    have Od : x ∈ bT 32 s := iV.subset (List.mem_append_right pre (List.mem_singleton.2 rfl))
    have UO : x.length ≤ 1000000 := Nat.le_trans (J2 s x Od) rG
    have O6 : pre.length + 1 ≤ 64 := by have := iV.length_le; rw [List.length_append, List.length_singleton] at this; omega
    have yV : (pre.map dM).length = pre.length := List.length_map _
    have hmp : (pre ++ [x]).map dM = pre.map dM ++ [dM x] := by rw [List.map_append]; rfl
    refine aB (Am ?_)
    refine aP (uZ ?_)
    refine ⟨[], HW, fun WB HB => ?_⟩
    have HB2 : Mw.Sep w noB (obj l rb :: obj D (.deferred (some [])) :: Xw b1 b3 b4 pre :: Fr) WB := HB
    replace HB2 := (HB2.iK).parts
    obtain ⟨mO, HB3⟩ := HB2.Cx
    obtain ⟨v4, HB4⟩ := (Sep.iK HB3).ex0
    replace HB := HB4.ny
    obtain ⟨B4, cb, rfl, EP, hB4⟩ := Sep.fJ HB At1
    refine aF (Sr (Mv ?_))
    refine aN HB (Q6 x UO (hT.keep HB.kept)) (h := fun wi Hi kb => ?_)
    refine bD Hi (h := fun b6 wj Hj kc => ?_)
    refine aD Hj (h := fun wk Hk => ?_)
    refine Qn (au (Sr (aZ Hk (h := ?_))))
    refine aN Hk (NC (dM x) (qG x) (hT.keep Hk.kept).utf) (h := fun wl Hl kd => ?_)
    refine Vv (Gives.not rfl) (Mv ?_)
    refine dh (t := 25) rfl (fun Sa => ?_) (fun Sa => ?_)
    · have mF : jR (dM x) x = false := by
        have h1 := Sa
        unfold jR
        revert h1
        cases dI (dM x) <;> simp
      refine Of (Of (Of (Of (Pt ?_))))
      refine Qn (aQ rfl ?_)
      refine Sr (bW Hl (h := fun wm Hm => ?_))
      refine bW Hm (h := fun wn Hn => ?_)
      refine Qn (Rs (aH (tu ?_)))
      exact (Sep.bundle (l := [mH (jR (dM x) x = false), _, _]) (rs := [_, _]) (Sep.nA mF ((Hn.sH.sH.sH.sH).firsts (l := [_, _, _, _])))).Di
    have yU : dI (dM x) = true := by have h1 := Sa; revert h1; cases dI (dM x) <;> simp
    refine On (aZ Hl (h := ?_))
    refine On (aN Hl (Ls (dM x) yU (qG x) (hT.keep Hl.kept)) (h := fun wo Ho ke => ?_))
    refine On (Mv ?_)
    refine On (Vv (Gives.EA rfl rfl) (Pf ?_))
    refine Qn (Cp rfl (fun Id => ?_) (fun Id => ?_))
    · have mF : jR (dM x) x = false := by
        unfold jR
        rw [yU, decide_eq_false (show ¬ dO (dM x) = x from Id)]; rfl
      refine Sr (bW Ho (h := fun wp Hp => ?_))
      refine bW Hp (h := fun wq Hq => ?_)
      refine Qn (Rs (aH (tu ?_)))
      exact (Sep.bundle (l := [mH (jR (dM x) x = false), _, _]) (rs := [_, _]) (Sep.nA mF ((Hq.sH.sH.sH.sH).firsts (l := [_, _, _, _])))).Di
    have hgx : jR (dM x) x = true := jS.2 ⟨yU, Classical.not_not.1 Id⟩
    refine Sk (aB (Ld Ho ?_))
    refine aZ Ho (h := ?_)
    refine aX Ho (xs := [.tmp 32]) (out := [dM x].flatMap aI) (aU.many rfl rfl aU.nil) rfl rfl rfl (fun bs wr Hr kf => ?_)
    refine gK Hr (news := [dM x]) At2 (by rw [yV]; unfold maxLen; simp; omega) (by rw [yV]; show (pre.length + 1) * 32 ≤ _; omega) (by intro u hu; simp only [List.flatMap_cons, List.flatMap_nil, aI, List.append_nil, List.mem_cons, List.not_mem_nil, or_false] at hu; rcases hu with rfl | rfl | rfl <;> rfl) (h := ?_)
    intro v2 ws Hs
    rw [← hmp] at Hs
    obtain ⟨B2, c2, rfl, Xc, hB2⟩ := Sep.fJ Hs At2
    refine bW Hs (h := fun wt Ht => ?_)
    refine aP (aA (xW ?_))
    have h2 := Sep.AX (p := fun v => star (blk b4 [v] 22) (cO 60 3 aI v ((pre ++ [x]).map dM))) _ (Sep.uJ Ht.fI)
    have ZW : ∀ y ∈ pre ++ [x], jR (dM y) y = true := by
      intro y hy
      rcases List.mem_append.1 hy with h | h
      · exact mO y h
      rw [List.mem_singleton.1 h]; exact hgx
    exact (Sep.bundle (l := [mH (∀ y ∈ pre ++ [x], jR (dM y) y = true), _, _, _]) (Sep.nA ZW h2.Di)).Di
  · intro l D ro rj W HW hy
    exact Oa rG HW hy
  rotate_left 1
  · intro D W pre x iV HD
    obtain ⟨mF, HD2⟩ := ((HD.dS).parts).Cx
    have hr := AZ (iV.subset (List.mem_append_right pre (List.mem_singleton.2 rfl))) mF
    rw [hr] at ay
    exact aH (aL (sw HD2 At2 (fun w1 H1 => ⟨[.slice none 0 0, I 4], JZ (H1.obj At0) (H1.obj At1), .slice none 0 0, by rw [ay]; rfl, trivial, by rw [ay]; exact (Sep.iX H1 60 3 aI).first.turn⟩)))
  intro D wu Hu
  have Hu := (Hu.dS).parts
  obtain ⟨mO, Hu⟩ := Hu.Cx
  obtain ⟨v4, Hu⟩ := (Sep.iK Hu).ex0
  have Hu := Hu.ny
  obtain ⟨B4, cb, rfl, EP, hB4⟩ := Sep.fJ Hu At1
  rw [AY mO] at ay --on
  refine aA (aj (Sr (Ld Hu ?_)))
  refine bW Hu (h := fun wv Hv => ?_)
  refine bW Hv (h := fun ww Hw => ?_)
  refine Qn (aM (sw Hw At4 (hR := fun wx Hx => ?_)))
  exact ⟨[_, I 0], JZ (Hx.obj At2) (Hx.obj At3), _, by rw [ay]; rfl, trivial, by rw [ay]; exact Hx.dS.first.turn⟩
end
end Go.Proofs.YtolaedhdjcnijaaGreatDoor
namespace Go.Proofs.YtolaedhdjcnijaaGreatDoor
open Go Go.Lib
set_option maxRecDepth 4000
def RA : Nat → Nat → List UInt8
 | 0, _ => []
 | f + 1, u => if u < 10 then [UInt8.ofNat (48 + u)] else RA f (u / 10) ++ [UInt8.ofNat (48 + u % 10)]
theorem GN : ∀ (f u : Nat), u < 10 ^ f → 0 < f → RA f u = decDigits u
 | 0, u, _, h0 => absurd h0 (by decide)
 | f + 1, u, h, _ => by
  rw [RA, decDigits]
  by_cases hu : u < 10
  ·rw [if_pos hu, dif_pos hu]
  rw [if_neg hu, dif_neg hu]
  have h1 : u / 10 < 10 ^ f := by rw [Nat.pow_succ] at h; omega
  have h2 : 0 < f := by
   cases f with
   | zero => simp at h1; omega
   | succ f => exact Nat.succ_pos f
  rw [GN f (u / 10) h1 h2]
def Oq (n : Int) : List UInt8 := if n < 0 then 45 :: RA 20 n.natAbs else RA 20 n.toNat
theorem RB {n : Int} (h : fits n) : Oq n = itoa n := by
 unfold fits at h
 unfold Oq itoa
 rw [GN 20 n.natAbs (by omega) (by decide), GN 20 n.toNat (by omega) (by decide)]
def RD (x : bL) : List UInt8 :=
 if x.kind = 1 then 35 :: Oq x.n
 else if x.kind = 2 then Oq x.n
 else if x.kind = 3 then (if x.n = 1 then [116, 114, 117, 101] else [102, 97, 108, 115, 101])
 else if x.kind = 4 then FM x.s
 else if x.kind = 5 then 120 :: pG x.s
 else if x.kind = 6 then lQ x.n
 else eG.getD (x.kind - 7).toNat []
theorem RF {x : bL} (h : fits x.n) : RD x = dO x := by
 unfold RD dO
 rw [RB h]
def Ot : List (List UInt8) → Option (List bL)
 | [] => some []
 | w :: l => if (dI (dM w) && decide (RD (dM w) = w)) = true then (Ot l).map (dM w :: ·) else none
theorem J6 : ∀ l, Ot l = readAll l
 | [] => rfl
 | w :: l => by
  rw [Ot, readAll, RF (qG w), J6 l]
  rfl
def RG (s : List UInt8) : List bL × Int :=
 if 1048576 < s.length ∨ 64 ≤ s.count 32 then ([], 5) else if s = [] then ([], 0) else match Ot (bT 32 s) with
  | some l => (l, 0)
  | none => ([], 4)
theorem EZ (s : List UInt8) : RG s = bN s := by
 unfold RG bN
 rw [J6]
 cases readAll (bT 32 s) <;> rfl
end Go.Proofs.YtolaedhdjcnijaaGreatDoor
namespace Go.Proofs.YtolaedhdjcnijaaGreatDoor
open Go Go.Mw Go.Lib
set_option maxRecDepth 4000
theorem sO (s : List UInt8) : ∀ x ∈ (bN s).1, fits x.n := by
 have key : ∀ (ws : List (List UInt8)) (l : List bL), readAll ws = some l → ∀ x ∈ l, fits x.n := by
  intro ws
  induction ws with
  | nil => intro l h x hx; injection h with h; subst h; cases hx
  | cons w ws ih =>
   intro l h x hx
   rw [readAll] at h
   split at h
   ·obtain ⟨l', h1, h2⟩ := Option.map_eq_some_iff.1 h
    subst h2
    rcases List.mem_cons.1 hx with rfl | hx
    ·exact qG w
    exact ih l' h1 x hx
   cases h
 intro x hx
 unfold bN at hx
 split at hx
 ·cases hx
 split at hx
 ·cases hx
 split at hx
 ·rename_i l h; exact key _ l h x hx
 cases hx
section
variable {w : World}
end
section
variable {w : World}
end
end Go.Proofs.YtolaedhdjcnijaaGreatDoor
namespace Go.Mw
open Go.RowKit
section
variable {P : Program} {r : Option Nat} {n : Nat} {ops : Array Oper} {Q : Post} {rest : List Oper} {σ : St} {w w₀ : World} {S : Nat → Prop} {rs : List HP} {put : HP → List HP} {ty : TypeId} {pos : String} {after : Array Edge}
variable {α : Type} {enc : α → List Value} {k e c : Nat} {l : List α} {A : Option Addr}
theorem J7 (hk : ∀ x, (enc x).length = k) : ∀ {l : List α} {i f : Nat} {a a' : α} {v : Value}, l[i]? = some a → f < k → enc a' = (enc a).set f v → (l.flatMap enc).set (i * k + f) v = (l.set i a').flatMap enc
 | [], _, _, _, _, _, h, _, _ => by simp at h
 | x :: l, 0, f, a, a', v, h, hf, he => by
  simp only [List.getElem?_cons_zero, Option.some.injEq] at h
  subst h
  rw [List.flatMap_cons, Nat.zero_mul, Nat.zero_add, List.set_append_left _ _ (by rw [hk]; exact hf), List.set_cons_zero, List.flatMap_cons, he]
 | x :: l, i + 1, f, a, a', v, h, hf, he => by
  simp only [List.getElem?_cons_succ] at h
  rw [List.flatMap_cons, List.set_append_right _ _ (by rw [hk, Nat.succ_mul]; omega), hk, Nat.succ_mul, show i * k + k + f - k = i * k + f by omega, J7 hk h hf he, List.set_cons_succ, List.flatMap_cons]
theorem J8 {x y : Operand} {T : TypeId} [h1 : OneCell P T] [hk : jU enc k] {i f : Nat} {a : α} (a' : α) {v : Value} {m : Nat} (hm : m = l.length) (H : Sep w₀ S rs w) (hat : At rs (cO e k enc (.slice A m c) l) put) (hi : l[i]? = some a) (hf : f < k) (he : enc a' = (enc a).set f v) (hx : evF σ x = adr A (i * k + f)) (hy : evF σ y = v) (hv : v.oneCell' = true) :
    ∃ w', JX P (evF σ) (.store T x y) ty w w' ∧ Sep w₀ S (put (cO e k enc (.slice A m c) (l.set i a'))) w' := by
  subst hm
  have bU : i < l.length := (List.getElem?_eq_some_iff.1 hi).1
  obtain ⟨F, hp, hS, zR⟩ := H.focus hat
  have H0 := Sep.iy hp
  obtain ⟨g, c', rest, hvv, hlen, UO, rG, yU, H1⟩ := H0.Je At0 (by omega)
  injection hvv with hA _ hc
  subst hA; subst hc
  have hb := H1.obj At0
  have O7 := jT hk.len l
  have Rc : (i + 1) * k ≤ l.length * k := Nat.mul_le_mul_right k bU
  rw [Nat.succ_mul] at Rc
  have ZX : i * k + f < (l.flatMap enc ++ rest).length := by rw [List.length_append, O7]; omega
  obtain ⟨dK, zU⟩ := yt (v := v) hb ZX
  have H2 := H1.setObj (At0 (p := blk g (l.flatMap enc ++ rest) e) (l := [])) dK zU
  rw [FK (by rw [O7]; omega), J7 hk.len hi hf he] at H2
  have H3 : Sep w F [blk g ((l.set i a').flatMap enc ++ rest) e] (w.setCell ⟨g, i * k + f, none⟩ v) := H2
  have Oe := jT hk.len (l.set i a')
  rw [List.length_set] at Oe
  have H4 := H3.Jf (n := l.length) (c := c) At0 (by rw [List.length_append, Oe]; rw [List.length_append, O7] at hlen; exact hlen) Oe rG yU
  refine ⟨w.setCell ⟨g, i * k + f, none⟩ v, fun _ _ _ _ => ?_, ?_⟩
  · have dJ : (store (⟨g, i * k + f, none⟩ : Addr) v).run P w = .ok () (w.setCell ⟨g, i * k + f, none⟩ v) := by
      rw [run_store P w _ v _ hv, og hb, List.getElem?_eq_getElem ZX]
      simp [World.frozen?, hb]
    have oK : v.cells = #[v] := by cases v <;> first | rfl | cases hv
    have mq : evF σ x = .pointer (some ⟨g, i * k + f, none⟩) := by rw [hx]; show Value.pointer (some (Addr.add ⟨g, 0, none⟩ (i * k + f))) = _; rw [Addr.add_lit, Nat.zero_add]
    simp [execOp, mq, hy, Instr.storeAt, Instr.sureAddr, storeVar, h1.size, oK, storeCells, dJ, Addr.add_zero']
  obtain ⟨h5, F5, h6, h7⟩ := H4
  refine zR _ F5 _ h5 ?_ fun b hb => h7 b hb
  have h8 := vY.1 h6
  show (yj e k (.slice (some ⟨g, 0, none⟩) l.length c) (l.set i a').length ((l.set i a').flatMap enc)).ok F5 _
  rw [List.length_set]
  exact h8
theorem Pp {x y : Operand} {T : TypeId} [h1 : OneCell P T] [hk : jU enc k] {i f : Nat} {a : α} (a' : α) {v : Value} {m : Nat} (hm : m = l.length) (H : Sep w₀ S rs w) (hat : At rs (cO e k enc (.slice A m c) l) put) (hi : l[i]? = some a) (hf : f < k) (he : enc a' = (enc a).set f v) (hx : evF σ x = adr A (i * k + f)) (hy : evF σ y = v) (hv : v.oneCell' = true)
    (h : ∀ w', Sep w₀ S (put (cO e k enc (.slice A m c) (l.set i a'))) w' → FL P r n ops Q rest σ w') :
    FL P r n ops Q ({ dst := none, op := .store T x y, type := ty, pos := pos, after := after, guard := none } :: rest) σ w := by
  obtain ⟨w', ha, hs⟩ := J8 (P := P) (ty := ty) (T := T) a' hm H hat hi hf he hx hy hv
  exact zY ha rfl (h w' hs)
theorem Gives.Es {ρ : Operand → Value} {x y : Operand} {t e : TypeId} [ht : dA P t e] {bytes : Nat} [hc : Cells P e k bytes] {m i : Nat} {j : IntKind} (hm : m = l.length) (hx : ρ x = .slice A m c) (hy : ρ y = .int j i) (hr : Rd w₀ A enc k l) (bU : i < l.length) : Gives P ρ (.indexAddr t x y) ty w (adr A (i * k)) w := by
 subst hm; exact Gives.eT hx hy hr bU
theorem jI {m : Nat} (hm : m = l.length) (H : Sep w₀ S rs w) (hat : At rs (cO e k enc (.slice A m c) l) put) : Rd w A enc k l := by
 subst hm; exact Sep.rowAt H hat
theorem Gives.U2 {ρ : Operand → Value} {x y : Operand} {kd : IntKind} {a b m : Int} {ts : Array TypeId} (hx : ρ x = .int kd a) (hy : ρ y = .int kd b) (he : Min.min a b = m) : Gives P ρ (.call { callee := .builtin .min, args := #[x, y], argTypes := ts }) ty w (.int kd m) w := by subst he; exact Gives.min hx hy
end
end Go.Mw
namespace Go.Proofs.YtolaedhdjcnijaaGreatDoor
open Go Go.Mw Go.Lib
set_option maxRecDepth 4000
def nD (x : bL) : bL := ⟨x.kind, x.n, x.s.take 1100⟩
theorem CF (s : List UInt8) (k : Nat) : Min.min ((s.length : Nat) : Int) (k : Int) = (((s.take k).length : Nat) : Int) := by
 rw [List.length_take]
 omega
theorem yw (s : List UInt8) (k : Nat) : s.take (s.take k).length = s.take k := by
 rw [List.length_take]
 by_cases h : k ≤ s.length
 ·rw [Nat.min_eq_left h]
 rw [Nat.min_eq_right (by omega), List.take_length, List.take_of_length_le (by omega)]
section
variable {w : World}
end
section
variable {w : World}
end
section
variable {w : World}
end
def Xx (b : Bool) : Int := if b then 3 else 2
def Xy (b : Bool) : List Int := [Xx b, 1, 4, 5, 3]
def Xz (b : Bool) (i : Nat) : Int := (Xy b).getD (i % 5) 0
def Ov (b : Bool) (i : Nat) : gG := ⟨((i + 1 : Nat) : Int), [], ⟨Xz b i, decide ((4 : Int) < i)⟩, cell0⟩
def Y3 (b : Bool) : List gG := (List.range 10).map (Ov b)
structure acA (k : Int) (n : Bool) (l : List bL) : Prop where
 may : ∀ x ∈ l, dI x = true ∧ fits x.n
 run : ∀ b st, runT (Y3 b) st l = some (st ++ [⟨k, n⟩])
structure A9 (m : Nat) (r : List iB) : Prop where
 len : r.length = m
 fit : V4 r
 ok : ∀ b (i : Nat) c, r[i]? = some c → okC (Ov b i).type c
theorem A9.nil : A9 0 [] := ⟨rfl, fun _ h => absurd h List.not_mem_nil, fun _ i c h => by simp at h⟩
theorem A9.push {i : Nat} {r : List iB} {c : iB} (h : A9 i r) (hc : fits c.n ∧ ∀ b, okC (Ov b i).type c) : A9 (i + 1) (r ++ [c]) := by
 refine ⟨by rw [List.length_append, h.len]; rfl, fun y hy => ?_, fun b j d hd => ?_⟩
 ·rcases List.mem_append.1 hy with h1 | h1
  ·exact h.fit y h1
  rw [List.mem_singleton.1 h1]; exact hc.1
 rcases Nat.lt_or_ge j r.length with hj | hj
 ·rw [List.getElem?_append_left hj] at hd; exact h.ok b j d hd
 rw [List.getElem?_append_right hj] at hd
 cases hk : j - r.length with
 | zero =>
  rw [hk] at hd
  have e : j = i := by have := h.len; omega
  simp only [List.getElem?_cons_zero, Option.some.injEq] at hd
  rw [e, ← hd]; exact hc.2 b
 | succ m => rw [hk] at hd; simp at hd
/-! Wider columns, and cells that are not used. -/
/-! Expressions one behind the other. -/
/-! What is drawn: of a kind, and so deep. -/
end Go.Proofs.YtolaedhdjcnijaaGreatDoor
namespace Go.Proofs.YtolaedhdjcnijaaGreatDoor
open Go Go.Lib Go.Mw
set_option maxRecDepth 4000
structure jM where
 name : List UInt8
 steps : List bL
structure cB where
 wh : List bL
 cols : List jM
 group : Int
theorem jM.ext' {a b : jM} (h1 : a.name = b.name) (h2 : a.steps = b.steps) : a = b := by cases a; cases b; simp_all
theorem cB.ext' {a b : cB} (h1 : a.wh = b.wh) (h2 : a.cols = b.cols) (h3 : a.group = b.group) : a = b := by cases a; cases b; simp_all
instance : DecidableEq jM := fun a b => decidable_of_iff (a.name = b.name ∧ a.steps = b.steps) ⟨fun h => jM.ext' h.1 h.2, fun h => by subst h; exact ⟨rfl, rfl⟩⟩
instance : DecidableEq cB := fun a b => decidable_of_iff (a.wh = b.wh ∧ a.cols = b.cols ∧ a.group = b.group) ⟨fun h => cB.ext' h.1 h.2.1 h.2.2, fun h => by subst h; exact ⟨rfl, rfl, rfl⟩⟩
def eF : cB := ⟨[], [], 0⟩
def GQ (c : UInt8) : Bool := decide (97 ≤ c.toNat ∧ c.toNat ≤ 122)
def j6 (c : UInt8) : Bool := GQ c || decide (c = 95) || jQ c
def dG (s : List UInt8) : Bool := decide (1 ≤ s.length ∧ s.length ≤ 32) && GQ (s.getD 0 0) && s.all j6
def eB : List UInt8 := [99, 111, 117, 110, 116]
def iA : List UInt8 := [110, 111, 110, 101]
def uM : List UInt8 := [119, 104, 101, 114, 101, 32]
def BM : List UInt8 := [111, 117, 116, 32]
def sP : List UInt8 := [103, 114, 111, 117, 112, 32]
def jf (p : cB) : Bool :=
 decide (1 ≤ p.cols.length ∧ p.cols.length ≤ 16 ∧ -1 ≤ p.group ∧ p.group ≤ p.cols.length) && p.cols.all (fun o => dG o.name && !(decide (0 ≤ p.group) && decide (o.name = eB))) && decide ((p.cols.map (·.name)).Nodup)
def Ow (t : dH) : iB := ⟨nL t && t.null, 0, []⟩
def ng (id : Int) (name : List UInt8) (t : dH) : gG := ⟨id, name, t, Ow t⟩
def gq : dH := ⟨3, false⟩
def uN (cols : List gG) (group : Int) : Nat → List jM → List gG → List gG × Int
  | i, [], acc => (if group = i then acc ++ [ng (group + 1) eB gq] else acc, 0)
  | i, o :: l, acc =>
    if (iT cols o.steps).2 ≠ 0 then ([], (iT cols o.steps).2)
    else if 0 ≤ group ∧ group ≤ i then
      (if (iT cols o.steps).1.kind ≠ 3 then ([], 230)
       else uN cols group (i + 1) l ((if (i : Int) = group then acc ++ [ng (i + 1) eB gq] else acc) ++ [ng (i + 2) o.name gq]))
    else uN cols group (i + 1) l (acc ++ [ng (i + 1) o.name (iT cols o.steps).1])
def jN (cols : List gG) (p : cB) : List gG × Int :=
 if jf p = false then ([], 230)
 else if p.wh ≠ [] ∧ (iT cols p.wh).2 ≠ 0 then ([], (iT cols p.wh).2)
 else if p.wh ≠ [] ∧ (iT cols p.wh).1.kind ≠ 1 then ([], 230)
 else uN cols p.group 0 p.cols []
def CG (p : cB) : List Int := o7 (p.wh ++ p.cols.flatMap (·.steps))
/-! Texts. -/
def nE (o : jM) : List UInt8 := BM ++ o.name ++ [32] ++ (eY o.steps).1
def za (o : jM) : Bool := decide ((eY o.steps).2 ≠ 0 ∨ (eY o.steps).1 = [])
def om (l : List bL) : List UInt8 := uM ++ (if l = [] then iA else (eY l).1)
def qc (g : Int) : List UInt8 := sP ++ (if g < 0 then iA else itoa g)
def iQ (p : cB) : List (List UInt8) := om p.wh :: (p.cols.map nE ++ [qc p.group])
def jJ (l : List (List UInt8)) : List UInt8 := l.flatMap (· ++ [10])
def qY (p : cB) : Bool := jf p && decide ((eY p.wh).2 = 0) && p.cols.all (fun o => !za o)
def nR (p : cB) : List UInt8 × Int := if qY p = false then ([], 2) else (jJ (iQ p), 0)
def dU (s : List UInt8) : List (List UInt8) × Bool := if (bT 10 s).getLast? = some [] then ((bT 10 s).dropLast, true) else (bT 10 s, false)
def jg (b s : List UInt8) : Option (List UInt8) := if s.take b.length = b then some (s.drop b.length) else none
def lN (s : List UInt8) : Option (List bL) := (jg uM s).bind fun t => if t = [] then none else if t = iA then some [] else if (bN t).2 = 0 then some (bN t).1 else none
def pE (s : List UInt8) : Option (List UInt8 × List UInt8) := (s.idxOf? 32).map fun i => (s.take i, s.drop (i + 1))
def qd (s : List UInt8) : Option jM := (jg BM s).bind fun t => (pE t).bind fun x => if (bN x.2).2 = 0 ∧ (bN x.2).1 ≠ [] ∧ dG x.1 = true then some ⟨x.1, (bN x.2).1⟩ else none
def gP (t : List UInt8) : Option Nat := (dB t 0).bind fun n => if decDigits n = t ∧ n ≤ 1048576 then some n else none
def jY (s : List UInt8) : Option Int := (jg sP s).bind fun t => if t = iA then some (-1) else (gP t).map (fun n : Nat => ((n : Nat) : Int))
def gW : List (List UInt8) → List jM
 | [] => []
 | s :: l => match qd s with
  | some o => o :: gW l
  | none => []
def dX (s : List UInt8) : cB × Int × Int :=
 if 1048576 < s.length then (eF, 0, 5)
 else
  let l := (dU s).1
  let many := if (dU s).2 = true then l.length else l.length - 1
  if many < 1 then (eF, 0, 4)
  else match lN (l.getD 0 []) with
   | none => (eF, 0, 4)
   | some w =>
    let cs := gW ((l.take many).drop 1)
    if many ≤ 1 + cs.length ∨ cs.length = 0 then (eF, (1 + cs.length : Nat), 4)
    else match jY (l.getD (1 + cs.length) []) with
     | none => (eF, (1 + cs.length : Nat), 4)
     | some g =>
      if 1 + cs.length + 1 < l.length then (eF, (1 + cs.length + 1 : Nat), 4)
      else if qY ⟨w, cs, g⟩ = false then (eF, 0, 2) else (⟨w, cs, g⟩, 0, 0)
end Go.Proofs.YtolaedhdjcnijaaGreatDoor
namespace Go.Proofs.YtolaedhdjcnijaaGreatDoor
open Go Go.Mw Go.Lib
set_option maxRecDepth 4000
def bO (x : List UInt8 × Value) : List Value := [str x.1, x.2]
instance : jU bO 2 := ⟨fun _ => rfl⟩
def lJ (w : World) (r : List (List UInt8 × Value)) (l : List jM) : Prop := r.map (·.1) = l.map (·.name) ∧ ∀ (i : Nat) x o, r[i]? = some x → l[i]? = some o → dn w x.2 aI 3 o.steps
def yx (w : World) (v : Value) (l : List jM) : Prop := ∃ r, dn w v bO 2 r ∧ lJ w r l
def fD (w : World) (v : Value) (p : cB) : Prop := ∃ vw vc, v = agg [vw, vc, I p.group] ∧ dn w vw aI 3 p.wh ∧ yx w vc p.cols
section
variable {w w' : World} {v : Value} {r : List (List UInt8 × Value)} {l : List jM} {p : cB}
theorem lJ.len (h : lJ w r l) : r.length = l.length := by
 have := congrArg List.length h.1
 simpa using this
theorem lJ.keep (h : lJ w r l) (hk : Kept noB w w') : lJ w' r l := ⟨h.1, fun i x o hx ho => (h.2 i x o hx ho).keep hk⟩
theorem yx.keep (h : yx w v l) (hk : Kept noB w w') : yx w' v l := by
 obtain ⟨r, h1, h2⟩ := h
 exact ⟨r, h1.keep hk, h2.keep hk⟩
theorem fD.keep (h : fD w v p) (hk : Kept noB w w') : fD w' v p := by
 obtain ⟨vw, vc, e, h1, h2⟩ := h
 exact ⟨vw, vc, e, h1.keep hk, h2.keep hk⟩
theorem lJ.nil : lJ w [] [] := ⟨rfl, fun i x o hx => by simp at hx⟩
theorem lJ.push {n : List UInt8} {x : Value} {s : List bL} (h : lJ w r l) (hx : dn w x aI 3 s) : lJ w (r ++ [(n, x)]) (l ++ [⟨n, s⟩]) := by
 have hl := h.len
 refine ⟨by rw [List.map_append, List.map_append, h.1]; rfl, fun i y o hy ho => ?_⟩
 by_cases hi : i < r.length
 ·rw [List.getElem?_append_left hi] at hy
  rw [List.getElem?_append_left (by omega)] at ho
  exact h.2 i y o hy ho
 rw [List.getElem?_append_right (by omega)] at hy ho
 rw [← hl] at ho
 have h0 : i - r.length = 0 := by
  cases hj : i - r.length with
  | zero => rfl
  | succ j => rw [hj] at hy; simp at hy
 rw [h0] at hy ho
 injection hy with hy
 injection ho with ho
 subst hy; subst ho
 exact hx
theorem lJ.at (h : lJ w r l) {i : Nat} (hi : i < l.length) : ∃ x, r[i]? = some (l[i].name, x) ∧ dn w x aI 3 l[i].steps := by
 have hl := h.len
 have hr : r[i]? = some r[i] := List.getElem?_eq_getElem (by omega)
 have hn : r[i].1 = l[i].name := by
  have := congrArg (fun z => z[i]?) h.1
  simp only [List.getElem?_map] at this
  rw [hr, List.getElem?_eq_getElem hi] at this
  injection this
 exact ⟨r[i].2, by rw [hr, ← hn], h.2 i _ _ hr (List.getElem?_eq_getElem hi)⟩
end
end Go.Proofs.YtolaedhdjcnijaaGreatDoor
namespace Go.Mw
open Go.RowKit
theorem J9 (a b : ByteArray) : (a == b) = (a.data == b.data) := by
 cases a; cases b; rfl
instance WS : LawfulBEq ByteArray where
 eq_of_beq {a b} h := by
  rw [J9] at h
  exact ByteArray.ext (eq_of_beq h)
 rfl {a} := by rw [J9]; exact beq_self_eq_true _

def iw (k : ByteArray) (e : MapEntry) : Bool := match e.key with
 | .string a => a == k
 | _ => false
def mV (es : List MapEntry) (k : ByteArray) : Option Value := (es.find? (iw k)).map (·.val)
def oo (es : List MapEntry) : Prop := ∀ e ∈ es, ∃ a, e.key = .string a
def uO (b : Nat) (f : ByteArray → Option Value) (n : Nat) : HP := exH fun x : Array MapEntry × Nat => star (obj b (.map x.1 x.2)) (mH ((oo x.1.toList ∧ x.1.size = n) ∧ ∀ k, mV x.1.toList k = f k))

section
variable {w₀ w w' : World} {S : Nat → Prop} {rs : List HP} {put : HP → List HP} {P : Program}
theorem ze {b n : Nat} {f : ByteArray → Option Value} {F : Nat → Prop} : (uO b f n).ok F w ↔ (∀ x, F x ↔ x = b) ∧ ∃ es clock, w.heap[b]? = some (.map es clock) ∧ (oo es.toList ∧ es.size = n) ∧ ∀ k, mV es.toList k = f k := by
 constructor
 ·rintro ⟨⟨es, c⟩, F1, F2, hF, hd, ⟨h1, h2⟩, ⟨⟨h3, h4⟩, h5⟩⟩
  refine ⟨fun x => ?_, es, c, h2, h3, h4⟩
  rw [hF, h1]
  exact ⟨fun h => h.elim id fun h => (h5 x h).elim, .inl⟩
 rintro ⟨h1, es, c, h2, h3, h4⟩
 exact ⟨⟨es, c⟩, F, fun _ => False, fun x => by simp, fun _ _ h => h, ⟨h1, h2⟩, ⟨⟨h3, h4⟩, fun _ h => h⟩⟩
theorem Sep.RH {b n : Nat} {f : ByteArray → Option Value} (h : Sep w₀ S rs w) (hat : At rs (uO b f n) put) : ∃ es clock, w.heap[b]? = some (.map es clock) ∧ (oo es.toList ∧ es.size = n) ∧ ∀ k, mV es.toList k = f k := by
 obtain ⟨F, hp, _, _⟩ := h.focus hat
 exact (ze.1 hp).2
theorem Sep.U3 {b : Nat} (h : Sep w₀ S rs w) (hat : At rs (Mw.obj b (Obj.map #[] 0)) put) : Sep w₀ S (put (uO b (fun _ => none) 0)) w :=
 h.imp hat fun F hF => ze.2 ⟨hF.1, #[], 0, hF.2, ⟨by simp [oo], rfl⟩, fun k => rfl⟩

theorem GR (k : ByteArray) : ∀ (es : List MapEntry) (i : Nat), oo es → ∃ r, Instr.findNow .string (.string k) es i = some r ∧ r.map (·.2) = mV es k ∧
    (∀ j v, r = some (j, v) → ∃ m, j = i + m ∧ ∃ e, es[m]? = some e ∧ iw k e = true ∧ es.find? (iw k) = some e ∧ ∀ m' e', m' < m → es[m']? = some e' → iw k e' = false) := by
  intro es
  induction es with
  | nil => intro i _; exact ⟨none, rfl, rfl, fun _ _ h => by cases h⟩
  | cons e es ih =>
    intro i hk
    obtain ⟨a, ha⟩ := hk e List.mem_cons_self
    obtain ⟨r, h1, h2, h3⟩ := ih (i + 1) fun x hx => hk x (List.mem_cons_of_mem _ hx)
    have hs : Instr.sameNow .string (.string k) e.key = some (k == a) := by rw [ha]; simp [Instr.sameNow]
    have BZ : iw k e = (a == k) := by unfold iw; rw [ha]
    by_cases LX : k = a
    · subst LX
      have Gw : iw k e = true := by rw [BZ]; simp
      refine ⟨some (i, e.val), ?_, ?_, ?_⟩
      · unfold Instr.findNow; rw [hs]; simp
      · simp [mV, Gw]
      rintro j v Ec
      injection Ec with Ec
      injection Ec with h4 h5
      exact ⟨0, by omega, e, rfl, Gw, by simp [Gw], fun m' _ hm => by omega⟩
    have LY : iw k e = false := by rw [BZ]; simpa using fun h : a = k => LX h.symm
    refine ⟨r, ?_, ?_, ?_⟩
    · unfold Instr.findNow; rw [hs, h1]
      have : (k == a) = false := by simpa using LX
      rw [this]
    · rw [h2]; simp [mV, LY]
    rintro j v Ec
    obtain ⟨m, hm, e', Ut, hk', Wq, bU⟩ := h3 j v Ec
    refine ⟨m + 1, by omega, e', by simpa using Ut, hk', by simp [LY, Wq], fun m' e'' xK Ed => ?_⟩
    cases m' with
    | zero => simp at Ed; rw [← Ed]; exact LY
    | succ m' => exact bU m' e'' (by omega) (by simpa using Ed)
theorem rP {kt : TypeId} (hu : P.underlying kt = some (.string)) (k : ByteArray) (es : List MapEntry) (hk : oo es) :
    ∃ r, (Instr.findKey kt (.string k) es).run P w = .ok r w ∧ r.map (·.2) = mV es k ∧
    (∀ j v, r = some (j, v) → ∃ e, es[j]? = some e ∧ iw k e = true ∧ ∀ m' e', m' < j → es[m']? = some e' → iw k e' = false) := by
  obtain ⟨r, h1, h2, h3⟩ := GR k es 0 hk
  refine ⟨r, by simp [Instr.findKey, run_underlying hu, h1], h2, fun j v Ec => ?_⟩
  obtain ⟨m, hm, e, he, xR, _, bU⟩ := h3 j v Ec
  have : j = m := by omega
  subst this
  exact ⟨e, he, xR, bU⟩
theorem qH {kt : TypeId} (hu : P.underlying kt = some (.string)) (b : Bool) (k : ByteArray) (d : Nat) : (Instr.checkKey b (d + 1) kt (.string k)).run P w = .ok () w := by
 simp [Instr.checkKey, run_underlying hu]
theorem mQ {b : Nat} {es : Array MapEntry} {c : Nat} (h : w.heap[b]? = some (.map es c)) : (getObj b).run P w = .ok (.map es c) w := by
 simp [getObj, Sem.run, h]
theorem CJ {ρ : Operand → Value} {ty : TypeId} {x y : Operand} {T k e : TypeId} [hm : IsMap P T k e] [hk : lM P k] {z : Value} [hz : Zero P e z] {b : Nat} {f : ByteArray → Option Value} {i : ByteArray}
    {es : Array MapEntry} {c : Nat} (hb : w.heap[b]? = some (.map es c)) (qU : oo es.toList) (hf : ∀ k, mV es.toList k = f k) (hx : ρ x = .map (some b)) (hy : ρ y = .string i) : Gives P ρ (.lookup T x y false) ty w ((f i).getD z) w := by
  obtain ⟨r, h1, h2, _⟩ := rP (P := P) (w := w) hk.und i es.toList qU
  intro _ _ _ _
  rw [← hf, ← h2]
  have jl := qH (P := P) (w := w) hk.und es.isEmpty i 9999
  simp only [execOp, hx, hy, Instr.lookup, Sem.run_bind, run_underlying hm.und, Result.andThen_ok, mQ hb, Sem.run_pure]
  rw [jl]
  simp only [Result.andThen_ok, h1]
  cases r with
  | none => simp [hz.run]
  | some jv => obtain ⟨j, v⟩ := jv; simp
theorem Et {ρ : Operand → Value} {ty : TypeId} {x y : Operand} {T k e : TypeId} [hm : IsMap P T k e] [hk : lM P k] {z : Value} [hz : Zero P e z] {b n : Nat} {f : ByteArray → Option Value} {i : ByteArray}
    (H : Sep w₀ S rs w) (hat : At rs (uO b f n) put) (hx : ρ x = .map (some b)) (hy : ρ y = .string i) : Gives P ρ (.lookup T x y false) ty w ((f i).getD z) w := by
  obtain ⟨es, c, hb, qU, hf⟩ := H.RH hat
  exact CJ hb qU.1 hf hx hy
theorem Mt {es : List MapEntry} {i : ByteArray} {v : Value} {n : Nat} (k : ByteArray) (hn : mV es i = none) : mV (es ++ [{ key := .string i, val := v, born := n }]) k = if k = i then some v else mV es k := by
 unfold mV at *
 rw [List.find?_append]
 by_cases BZ : k = i
 ·subst BZ
  have h0 : es.find? (iw k) = none := by simpa using hn
  rw [if_pos rfl, h0]
  simp [iw]
 rw [if_neg BZ]
 have : ([{ key := .string i, val := v, born := n }] : List MapEntry).find? (iw k) = none := by
  have : iw k { key := .string i, val := v, born := n } = false := by simp [iw]; exact fun h => BZ h.symm
  simp [this]
 rw [this]
 cases es.find? (iw k) <;> rfl
theorem GU (k i : ByteArray) (v : Value) : ∀ (es : List MapEntry) (j : Nat) (e : MapEntry), es[j]? = some e → iw i e = true → (∀ m' e', m' < j → es[m']? = some e' → iw i e' = false) →
    mV (es.modify j fun e => { e with key := .string i, val := v }) k = if k = i then some v else mV es k := by
  intro es
  induction es with
  | nil => intro j e h; simp at h
  | cons x es ih =>
    intro j e hj xR bU
    cases j with
    | zero =>
      simp at hj
      subst hj
      simp only [List.modify_zero_cons]
      unfold mV
      by_cases BZ : k = i
      · subst BZ
        rw [if_pos rfl]
        simp [iw]
      rw [if_neg BZ]
      have h1 : iw k { x with key := .string i, val := v } = false := by simp [iw]; exact fun h => BZ h.symm
      have h2 : iw k x = false := by
        unfold iw at xR ⊢
        split at xR
        · rename_i a ha
          simp at xR
          simpa [xR] using fun h : i = k => BZ h.symm
        cases xR
      simp [h1, h2]
    | succ j =>
      simp only [List.modify_succ_cons]
      have hx : iw i x = false := bU 0 x (by omega) rfl
      have ih' := ih j e (by simpa using hj) xR fun m' e' hm he => bU (m' + 1) e' (by omega) (by simpa using he)
      unfold mV at ih' ⊢
      rw [List.find?_cons, List.find?_cons]
      cases hkx : iw k x with
      | true =>
        have : k ≠ i := fun e => by rw [e, hx] at hkx; cases hkx
        simp [this]
      | false => simpa using ih'
theorem BN {ρ : Operand → Value} {ty : TypeId} {x y z : Operand} {T k e : TypeId} [hm : IsMap P T k e] [hk : lM P k] {b n : Nat} {f : ByteArray → Option Value} {i : ByteArray} {v : Value}
    (H : Sep w₀ S rs w) (hat : At rs (uO b f n) put) (hx : ρ x = .map (some b)) (hy : ρ y = .string i) (hz : ρ z = v) :
    ∃ w', JX P ρ (.mapUpdate T x y z) ty w w' ∧ Sep w₀ S (put (uO b (fun k => if k = i then some v else f k) (if f i = none then n + 1 else n))) w' := by
  obtain ⟨F, hp, _, zR⟩ := H.focus hat
  obtain ⟨hF, es, c, hb, ⟨qU, hsz⟩, hf⟩ := ze.1 hp
  obtain ⟨r, h1, h2, h3⟩ := rP (P := P) (w := w) hk.und i es.toList qU
  have jl := qH (P := P) (w := w) hk.und false i 9999
  have abg := lX hb
  have AJ : ∀ o : Obj, (setObj b o).run P w = .ok () { w with heap := w.heap.setIfInBounds b o } := fun o => by simp [Go.setObj, Sem.run, hb]
  have fin : ∀ (es' : Array MapEntry) (c' : Nat), oo es'.toList → es'.size = (if f i = none then n + 1 else n) → (∀ k, mV es'.toList k = if k = i then some v else f k) →
      Sep w₀ S (put (uO b (fun k => if k = i then some v else f k) (if f i = none then n + 1 else n))) { w with heap := w.heap.setIfInBounds b (.map es' c') } := fun es' c' hk' Uu Wq =>
    zR _ F _ ⟨rfl, rfl, rfl, by simp, fun j hj hFj => by simp only [Array.getElem?_setIfInBounds]; rw [if_neg (fun e => hFj ((hF j).2 e.symm))]⟩
      (ze.2 ⟨hF, es', c', by simp [abg], ⟨hk', Uu⟩, Wq⟩) fun b hb => .inl hb
  cases r with
  | none =>
    refine ⟨{ w with heap := w.heap.setIfInBounds b (.map (es.push { key := .string i, val := v, born := c }) (c + 1)) }, fun _ _ _ _ => ?_, fin _ _ ?_ ?_ ?_⟩
    · simp only [execOp, hx, hy, hz, Instr.mapUpdate, Sem.run_bind, run_underlying hm.und, Result.andThen_ok, mQ hb]
      rw [jl]
      simp only [Result.andThen_ok, h1, AJ, Sem.run_pure]
    · intro e he
      simp at he
      rcases he with he | he
      · exact qU e (by simpa using he)
      exact ⟨i, by rw [he]⟩
    · have h0 : mV es.toList i = none := by rw [← h2]; rfl
      rw [if_pos (by rw [← hf]; exact h0), Array.size_push, hsz]
    intro k
    have h0 : mV es.toList i = none := by rw [← h2]; rfl
    simp only [Array.toList_push]
    rw [Mt k h0, hf]
  | some jv =>
    obtain ⟨j, u⟩ := jv
    obtain ⟨e, he, xR, bU⟩ := h3 j u rfl
    obtain ⟨a, ha⟩ := qU e (List.mem_of_getElem? he)
    have hai : a = i := by unfold iw at xR; rw [ha] at xR; simpa using xR
    have Og : (((es[j]?).map (·.key)).getD (.string i)) = .string i := by
      have : es[j]? = some e := by simpa using he
      rw [this]; simp [ha, hai]
    have ZY : (Instr.keyThatStays (.string i) (.string i)).run P w = .ok (.string i) w := by simp [Instr.keyThatStays, Instr.sameBits]
    refine ⟨{ w with heap := w.heap.setIfInBounds b (.map (es.modify j fun e => { e with key := .string i, val := v }) c) }, fun _ _ _ _ => ?_, fin _ _ ?_ ?_ ?_⟩
    · simp only [execOp, hx, hy, hz, Instr.mapUpdate, Sem.run_bind, run_underlying hm.und, Result.andThen_ok, mQ hb]
      rw [jl]
      simp only [Result.andThen_ok, h1, Og, ZY, AJ, Sem.run_bind, Sem.run_pure]
    · intro e' Ut
      simp only [Array.toList_modify] at Ut
      obtain ⟨m, xK, rfl⟩ := List.mem_iff_getElem.1 Ut
      rw [List.getElem_modify]
      split
      · exact ⟨i, rfl⟩
      exact qU _ (List.getElem_mem _)
    · have h0 : mV es.toList i = some u := by rw [← h2]; rfl
      rw [if_neg (by rw [← hf, h0]; simp), Array.size_modify, hsz]
    intro k
    simp only [Array.toList_modify]
    rw [GU k i v es.toList j e he xR bU, hf]
end
end Go.Mw
namespace Go.Mw
open Go Go.RowKit
def qI (X : World → Prop) : HP where
 ok F w := (∀ w', w.heap.size ≤ w'.heap.size → (∀ b, F b → w'.heap[b]? = w.heap[b]?) → X w') ∧ ∀ b, F b → b < w.heap.size
 loc hs h fK := ⟨fun w' Uu h' => fK.1 w' (Nat.le_trans hs Uu) fun b hb => (h' b hb).trans (h b hb), fun b hb => Nat.lt_of_lt_of_le (fK.2 b hb) hs⟩
 low h := h.2
section
variable {F : Nat → Prop} {w w' w₀ : World} {S : Nat → Prop} {rs : List HP} {put : HP → List HP} {p q : HP} {X Y Z : World → Prop}
theorem HP.look (h : p.ok F w) (hX : ∀ F w, p.ok F w → X w) : (qI X).ok F w := ⟨fun w' hs h' => hX F w' (p.loc hs h' h), p.low h⟩
theorem zf (h : (qI X).ok F w) : X w := h.1 w (Nat.le_refl _) fun _ _ => rfl
theorem Sep.look (H : Sep w₀ S rs w) (hat : At rs p put) (hX : ∀ F w, p.ok F w → X w) : Sep w₀ S (put (qI X)) w := H.imp hat fun _ hF => HP.look hF hX
theorem Sep.sees (H : Sep w₀ S rs w) (hat : At rs (qI X) put) : X w := by
 obtain ⟨F, hp, _, _⟩ := H.focus hat
 exact zf hp
theorem Sep.Ox (H : Sep w₀ S (qI X :: qI Y :: rs) w) (hZ : ∀ w, X w → Y w → Z w) : Sep w₀ S (qI Z :: rs) w :=
 Sep.look H.uJ At0 fun F w hF => by
  obtain ⟨F1, F2, _, _, h1, h2⟩ := hF
  exact hZ w (zf h1) (zf h2)
theorem Sep.GV (H : Sep w₀ S rs w) (h : ∀ w, X w) : Sep w₀ S (qI X :: rs) w :=
 Sep.look (Sep.nA (φ := True) trivial H) At0 fun _ w _ => h w
theorem Sep.U4 (H : Sep w₀ S rs w) (hat : At rs (qI X) put) (h : ∀ w, X w → Y w) : Sep w₀ S (put (qI Y)) w := Sep.look H hat fun _ _ hF => h _ (zf hF)
end
end Go.Mw
namespace Go.Proofs.YtolaedhdjcnijaaGreatDoor
open Go Go.Mw Go.Lib
set_option maxRecDepth 4000
section
variable {F : Nat → Prop} {w w' w₀ : World} {S : Nat → Prop} {rs : List HP} {put : HP → List HP} {v x : Value} {e k : Nat} {α : Type} {enc : α → List Value}
theorem Oy [jU enc k] {l : List α} (h : (cO e k enc v l).ok F w) : dn w v enc k l := by
 have H := Sep.iy h
 obtain ⟨A, c, rfl, hc, hR⟩ := H.fJ At0
 exact ⟨A, c, rfl, ⟨hc, Sep.TY H At0⟩, hR⟩
theorem gQ [jU enc k] {l : List α} (H : Mw.Sep w₀ S rs w) (hat : At rs (cO e k enc v l) put) : dn w v enc k l := by
 obtain ⟨F, hp, _, _⟩ := H.focus hat
 exact Oy hp
def zh {α : Type} (v : Value) (enc : α → List Value) (k : Nat) (l : List α) : HP := qI fun w => dn w v enc k l
theorem jD [jU enc k] {l : List α} (H : Mw.Sep w₀ S rs w) (hat : At rs (cO e k enc v l) put) : Mw.Sep w₀ S (put (zh v enc k l)) w := Sep.look H hat fun _ _ h => Oy h
def qJ (r : List (List UInt8 × Value)) (l : List jM) : HP := qI fun w => lJ w r l
def qK (v : Value) (p : cB) : HP := qI fun w => fD w v p
variable {r : List (List UInt8 × Value)} {l : List jM} {s : List bL} {n : List UInt8} {vw vc : Value} {p : cB}
theorem qg (H : Mw.Sep w₀ S rs w) : Mw.Sep w₀ S (qJ [] [] :: rs) w := Sep.GV H fun _ => lJ.nil
theorem qL (H : Mw.Sep w₀ S (cO e 3 aI x s :: qJ r l :: rs) w) : Mw.Sep w₀ S (qJ (r ++ [(n, x)]) (l ++ [⟨n, s⟩]) :: rs) w :=
 Sep.Ox (jD H At0) fun _ h1 h2 => h2.push h1
theorem uP {g : Int} {cols : List jM} (H : Mw.Sep w₀ S (zh vw aI 3 s :: cO e 2 bO vc r :: qJ r cols :: rs) w) : Mw.Sep w₀ S (qK (agg [vw, vc, I g]) ⟨s, cols, g⟩ :: rs) w := by
 have H1 := (jD H At1).dS.iK
 have H2 := Sep.Ox (Z := fun w => yx w vc cols) H1 fun _ h1 h2 => ⟨r, h2, h1⟩
 exact Sep.Ox H2 fun _ h1 h2 => ⟨vw, vc, rfl, h2, h1⟩
end
end Go.Proofs.YtolaedhdjcnijaaGreatDoor
namespace Go.Mw
open Go.RowKit
class IsIface (P : Program) (t : TypeId) : Prop where
 und : P.underlying t = some (.interface (P.methodsAt t))
def IsNil (a : Value) (b : Bool) : Prop := (b = true ∧ a = .nilIface) ∨ (b = false ∧ ∃ t p, a = .iface t p)
section
variable {P : Program} {w w₀ : World} {ρ : Operand → Value} {ty : TypeId} {x : Operand} {S : Nat → Prop} {rs : List HP} {put : HP → List HP}
theorem Gives.Oz {T U : TypeId} [h : IsIface P T] {a : Value} {b : Bool} (ha : IsNil a b) (hx : ρ x = a) (hy : ρ (.const .nilIface) = .nilIface) : Gives P ρ (.binOp .eql T x (.const .nilIface) U) ty w (.bool b) w := by
 intro _ _ _ _
 rcases ha with ⟨rfl, rfl⟩ | ⟨rfl, t, p, rfl⟩
 ·have hg : (eqGuard .eql T x (.const .nilIface) .nilIface .nilIface).run P w = .ok () w := by cases x <;> rfl
  simp only [execOp, hx, hy, Sem.run_bind, hg, Result.andThen_ok, run_eql_nil_nil w T h.und, Sem.run_pure]
 have hg : (eqGuard .eql T x (.const .nilIface) (.iface t p) .nilIface).run P w = .ok () w := rfl
 simp only [execOp, hx, hy, Sem.run_bind, hg, Result.andThen_ok, run_eql_held_nil w T t p h.und, Sem.run_pure]
theorem Eu {T k e : TypeId} [hm : IsMap P T k e] {b n : Nat} {f : ByteArray → Option Value} (H : Sep w₀ S rs w) (hat : At rs (uO b f n) put) (hx : ρ x = .map (some b)) :
    Gives P ρ (.call { callee := .builtin .len, args := #[x], argTypes := #[T] }) ty w (.int .i64 n) w := by
  obtain ⟨es, c, hb, hk, _⟩ := H.RH hat
  intro _ _ _ _
  simp [execOp, resolve, invoke, builtin, hx, Builtin.len_, run_underlying hm.und, goInt, mQ hb, hk.2]
end
section
variable {P : Program} {r : Option Nat} {n : Nat} {ops : Array Oper} {Q : Post} {rest : List Oper} {σ : St} {w w₀ : World} {S : Nat → Prop} {rs : List HP} {put : HP → List HP} {ty : TypeId} {pos : String} {after : Array Edge}
theorem Ev {x y z : Operand} {T k el : TypeId} [hm : IsMap P T k el] [hk : lM P k] {b c : Nat} {f : ByteArray → Option Value} {i : ByteArray} {v : Value} (H : Sep w₀ S rs w) (hat : At rs (uO b f c) put)
    (hx : evF σ x = .map (some b)) (hy : evF σ y = .string i) (hz : evF σ z = v) (h : ∀ w', Sep w₀ S (put (uO b (fun k => if k = i then some v else f k) (if f i = none then c + 1 else c))) w' → FL P r n ops Q rest σ w') :
    FL P r n ops Q ({ dst := none, op := .mapUpdate T x y z, type := ty, pos := pos, after := after, guard := none } :: rest) σ w := by
  obtain ⟨w', ha, hs⟩ := BN (P := P) (ty := ty) (T := T) H hat hx hy hz
  exact zY ha rfl (h w' hs)
end
structure Had (ns : List (List UInt8)) (f : ByteArray → Option Value) (n : Nat) : Prop where
 le : n ≤ ns.length
 nd : n = ns.length ↔ ns.Nodup
 val : ∀ x, ∃ c : Nat, c ≤ ns.length ∧ (f x).getD (.int .i64 0) = .int .i64 (c : Int)
 mem : ∀ x : List UInt8, f ⟨x.toArray⟩ = none ↔ x ∉ ns
theorem Had.nil : Had [] (fun _ => none) 0 := ⟨Nat.le_refl _, by simp, fun x => ⟨0, Nat.le_refl _, rfl⟩, fun x => by simp⟩
theorem Had.push {ns : List (List UInt8)} {f : ByteArray → Option Value} {n : Nat} (h : Had ns f n) (x : List UInt8) {c : Nat} (hc : c ≤ ns.length) :
    Had (ns ++ [x]) (fun k => if k = ⟨x.toArray⟩ then some (.int .i64 ((c + 1 : Nat) : Int)) else f k) (if f ⟨x.toArray⟩ = none then n + 1 else n) := by
  have hl : (ns ++ [x]).length = ns.length + 1 := by simp
  have YC : (ns ++ [x]).Nodup ↔ ns.Nodup ∧ x ∉ ns := by
    rw [List.nodup_append]
    constructor
    · rintro ⟨h1, _, h3⟩
      exact ⟨h1, fun hx => h3 x hx x (by simp) rfl⟩
    rintro ⟨h1, h2⟩
    exact ⟨h1, by simp, fun a ha b hb e => by rw [List.mem_singleton] at hb; subst hb; subst e; exact h2 ha⟩
  have rG := h.le
  refine ⟨?_, ?_, fun k => ?_, fun k => ?_⟩
  · rw [hl]; split <;> omega
  · rw [hl, YC, ← h.mem x]
    by_cases e : f ⟨x.toArray⟩ = none
    · rw [if_pos e, ← h.nd]
      exact ⟨fun h1 => ⟨by omega, e⟩, fun h1 => by have := h1.1; omega⟩
    rw [if_neg e]
    exact ⟨fun h1 => by omega, fun h1 => absurd h1.2 e⟩
  · by_cases e : k = ⟨x.toArray⟩
    · exact ⟨c + 1, by rw [hl]; omega, by rw [if_pos e]; rfl⟩
    obtain ⟨d, h1, h2⟩ := h.val k
    exact ⟨d, by rw [hl]; omega, by rw [if_neg e]; exact h2⟩
  by_cases e : k = x
  · subst e
    rw [if_pos rfl]
    simp
  rw [if_neg (fun he => e (by injection he with he; injection he)), h.mem k]
  simp [e]
end Go.Mw
namespace Go.Proofs.YtolaedhdjcnijaaGreatDoor
open Go Go.Mw Go.Lib
set_option maxRecDepth 4000
def nameSet : List UInt8 := [97, 98, 99, 100, 101, 102, 103, 104, 105, 106, 107, 108, 109, 110, 111, 112, 113, 114, 115, 116, 117, 118, 119, 120, 121, 122, 48, 49, 50, 51, 52, 53, 54, 55, 56, 57, 95]
theorem Ka (c : UInt8) : nameSet.contains c = j6 c := by
 have key : ∀ n : Fin 256, nameSet.contains (UInt8.ofNat n.val) = j6 (UInt8.ofNat n.val) := by decide +kernel
 have := key ⟨c.toNat, c.toNat_lt⟩
 simpa using this
theorem dropWhile_nil {α : Type} {p : α → Bool} : ∀ {l : List α}, l.dropWhile p = [] ↔ ∀ x ∈ l, p x = true
 | [] => by simp
 | x :: l => by
  have ih := dropWhile_nil (p := p) (l := l)
  by_cases h : p x = true
  ·rw [List.dropWhile_cons_of_pos h, ih]
   simp [h]
  rw [List.dropWhile_cons_of_neg h]
  simp [h]
def Pq (r : Nat) : Bool := decide ((r < 97 ∨ 122 < r) ∧ (r < 48 ∨ 57 < r) ∧ r ≠ 95)
theorem Pv (c : UInt8) : j6 c = true → c.toNat < 128 ∧ Pq c.toNat = false := by
 intro h
 unfold j6 GQ jQ at h
 simp only [Bool.or_eq_true, decide_eq_true_eq] at h
 have h95 : c = 95 → c.toNat = 95 := fun e => by rw [e]; rfl
 have hc : (97 ≤ c.toNat ∧ c.toNat ≤ 122) ∨ c.toNat = 95 ∨ (48 ≤ c.toNat ∧ c.toNat ≤ 57) := by
  rcases h with (h | h) | h
  ·exact .inl h
  ·exact .inr (.inl (h95 h))
  exact .inr (.inr h)
 exact ⟨by omega, decide_eq_false (by omega)⟩
section
variable {w : World}
theorem XA (r : Nat) : bF Tryz.prog 124 [I32 r] w fun v w' => v = .bool (Pq r) ∧ w = w' := by
 unfold Pq
 refine dP Tryz.func124 rfl rfl rfl rfl ?_
 refine Sr (Am ?_)
 refine Nx (Mv ?_)
 refine Vl ?_
 refine Mv ?_
 refine aG (t := 5) rfl (fun Xd => ?_) (fun Xd => ?_)
 ·refine Of (Of (Pt ?_))
  refine Mv ?_
  refine On (Mv ?_)
  refine On (Vl ?_)
  refine On (Mv ?_)
  refine aG (t := 12) rfl (fun Sa => ?_) (fun Sa => ?_)
  ·refine Of (Of (On (Pt ?_)))
   refine Pt ?_
   refine Mv ?_
   refine On (Mv ?_)
   refine On (Vn ?_)
   refine Pt ?_
   refine Am ?_
   refine Qn (aM (ak (hR := ?_)))
   exact ⟨by first | exact congrArg Value.bool (Eq.symm (decide_eq_false (by omega))) | exact congrArg Value.bool (Eq.symm (decide_eq_true (by omega))) | exact congrArg Value.bool (decide_eq_decide.2 (by omega)), rfl⟩
  refine On (Mv ?_)
  refine On (Vg ?_)
  refine On (Pf ?_)
  refine Pt ?_
  refine Mv ?_
  refine aG (t := 17) rfl (fun Sb => ?_) (fun Sb => ?_)
  ·refine On (Mv ?_)
   refine On (Vn ?_)
   refine Pt ?_
   refine Am ?_
   refine Qn (aM (ak (hR := ?_)))
   exact ⟨by first | exact congrArg Value.bool (Eq.symm (decide_eq_false (by omega))) | exact congrArg Value.bool (Eq.symm (decide_eq_true (by omega))) | exact congrArg Value.bool (decide_eq_decide.2 (by omega)), rfl⟩
  refine Of (Of (Pf ?_))
  refine Am ?_
  refine Qn (aM (ak (hR := ?_)))
  exact ⟨by first | exact congrArg Value.bool (Eq.symm (decide_eq_false (by omega))) | exact congrArg Value.bool (Eq.symm (decide_eq_true (by omega))) | exact congrArg Value.bool (decide_eq_decide.2 (by omega)), rfl⟩
 refine On (Mv ?_)
 refine On (Vg ?_)
 refine Pf ?_
 refine Mv ?_
 refine aG (t := 9) rfl (fun Sc => ?_) (fun Sc => ?_)
 ·refine On (Mv ?_)
  refine On (Vl ?_)
  refine On (Mv ?_)
  refine aG (t := 12) rfl (fun Sd => ?_) (fun Sd => ?_)
  ·refine Of (Of (On (Pt ?_)))
   refine Pt ?_
   refine Mv ?_
   refine On (Mv ?_)
   refine On (Vn ?_)
   refine Pt ?_
   refine Am ?_
   refine Qn (aM (ak (hR := ?_)))
   exact ⟨by first | exact congrArg Value.bool (Eq.symm (decide_eq_false (by omega))) | exact congrArg Value.bool (Eq.symm (decide_eq_true (by omega))) | exact congrArg Value.bool (decide_eq_decide.2 (by omega)), rfl⟩
  refine On (Mv ?_)
  refine On (Vg ?_)
  refine On (Pf ?_)
  refine Pt ?_
  refine Mv ?_
  refine aG (t := 17) rfl (fun Se => ?_) (fun Se => ?_)
  ·refine On (Mv ?_)
   refine On (Vn ?_)
   refine Pt ?_
   refine Am ?_
   refine Qn (aM (ak (hR := ?_)))
   exact ⟨by first | exact congrArg Value.bool (Eq.symm (decide_eq_false (by omega))) | exact congrArg Value.bool (Eq.symm (decide_eq_true (by omega))) | exact congrArg Value.bool (decide_eq_decide.2 (by omega)), rfl⟩
  refine Of (Of (Pf ?_))
  refine Am ?_
  refine Qn (aM (ak (hR := ?_)))
  exact ⟨by first | exact congrArg Value.bool (Eq.symm (decide_eq_false (by omega))) | exact congrArg Value.bool (Eq.symm (decide_eq_true (by omega))) | exact congrArg Value.bool (decide_eq_decide.2 (by omega)), rfl⟩
 refine Of (Of (Of (Ou (Ou (Of (Pf ?_))))))
 refine Mv ?_
 refine Of (Of (Pf ?_))
 refine Am ?_
 refine Qn (aM (ak (hR := ?_)))
 exact ⟨by first | exact congrArg Value.bool (Eq.symm (decide_eq_false (by omega))) | exact congrArg Value.bool (Eq.symm (decide_eq_true (by omega))) | exact congrArg Value.bool (decide_eq_decide.2 (by omega)), rfl⟩
theorem E5 {p : Bool} {b : Nat} (c : UInt8) (hc : w.cell? ⟨b, c.toNat, none⟩ = some (.bool p)) : bF Tryz.prog 230 [bI b, .int .u8 c.toNat] w fun v w' => v = .bool p ∧ w = w' :=
 l7 (Tryz.asciiSet_contains b c p w hc)
theorem Kc {p : UInt8 → Bool} {b : Nat} (s : List UInt8) (AJ : ∀ c : UInt8, w.cell? ⟨b, c.toNat, none⟩ = some (.bool (p c))) : bF Tryz.prog 174 [str s, bI b] w fun v w' => v = str (s.dropWhile p) ∧ Kept noB w w' := by
 have H := Sep.bB w
 refine eU Tryz.func174 rfl rfl rfl rfl ?_
 refine Sr (Am ?_)
 refine Qn (au (aF (bA (fun t : List UInt8 => [(0, str t), (1, bI b)]) (fun t w' => t.dropWhile p = s.dropWhile p ∧ Sep w noB [] w') (fun t _ => t.length) s ⟨rfl, rfl, trivial⟩ ⟨rfl, H⟩ (fun t τ w3 hI => ?_))))
 obtain ⟨ht, H3⟩ := hI
 try simp only [cZ, like, bC, bZ]
 refine au (Sr (Mv ?_))
 refine Vt ?_
 refine Vg ?_
 refine Qn (Cp rfl (fun oW => ?_) (fun oW => ?_))
 ·obtain ⟨c, r, rfl⟩ : ∃ c r, t = c :: r := List.exists_cons_of_length_pos (by omega)
  refine Sk (aF (au (Sr (Mv ?_))))
  refine Mv ?_
  refine Vv (Gives.fF (l := c :: r) (i := 0) rfl rfl (by simp)) ?_
  refine dY (E5 c (H3.kept.cell (AJ c) id)) (h := ?_)
  refine Vv (Gives.not rfl) (Qn ?_)
  refine Cd rfl (fun Ia => ?_) (fun Ia => ?_)
  ·have hp : p c = false := by simpa using Ia
   refine bq (aT (gX rfl (aO (aV (aj ?_)))))
   refine Sr (Mv ?_)
   refine Am ?_
   refine Qn (aM (ak (hR := ?_)))
   exact ⟨by rw [← ht, List.dropWhile_cons_of_neg (by rw [hp]; decide)]; rfl, H3.kept⟩
  have hp : p c = true := by simpa using Ia
  refine Sk (aB (Mv ?_))
  refine Vv (Gives.dW (l := c :: r) (i := 1) rfl rfl (by simp)) ?_
  refine Am ?_
  refine aP (aA ?_)
  exact aC r ⟨rfl, rfl, trivial⟩ ⟨by rw [← ht, List.dropWhile_cons_of_pos hp], H3⟩ (by simp)
 have he : t = [] := List.eq_nil_of_length_eq_zero (by omega)
 subst he
 refine bq (aT (aO (aV (aj (Sr (Mv ?_))))))
 refine Am ?_
 refine Qn (aM (ak (hR := ?_)))
 exact ⟨by rw [← ht]; rfl, H3.kept⟩
theorem GX {p : UInt8 → Bool} {b : Nat} (s : List UInt8) (AJ : ∀ c : UInt8, w.cell? ⟨b, c.toNat, none⟩ = some (.bool (p c))) (hl : s.length ≤ 1000000) : bF Tryz.prog 175 [str s, bI b] w fun v w' => (∃ n, v = str (s.take n) ∧ n ≤ s.length ∧ (∀ (j : Nat) c, n ≤ j → s[j]? = some c → p c = true) ∧ ∀ m, n = m + 1 → ∃ c, s[m]? = some c ∧ p c = false) ∧ Kept noB w w' := by
 have H := Sep.bB w
 refine eU Tryz.func175 rfl rfl rfl rfl ?_
 refine Sr (Am ?_)
 refine Qn (au (aF (bA (fun n : Nat => [(0, str (s.take n)), (1, bI b)]) (fun n w' => (n ≤ s.length ∧ ∀ (j : Nat) c, n ≤ j → s[j]? = some c → p c = true) ∧ Sep w noB [] w') (fun n _ => n) s.length ⟨by rw [List.take_length]; rfl, rfl, trivial⟩ ⟨⟨Nat.le_refl _, fun j c hj hc => absurd (iE hc) (by omega)⟩, H⟩ (fun n τ w3 hI => ?_))))
 obtain ⟨⟨hn, lu⟩, H3⟩ := hI
 have zV : (s.take n).length = n := by rw [List.length_take]; omega
 try simp only [cZ, like, bC, bZ]
 refine au (Sr (Mv ?_))
 refine Vt ?_
 refine Vg ?_
 refine Qn (Cp rfl (fun oW => ?_) (fun oW => ?_))
 ·obtain ⟨m, rfl⟩ : ∃ m, n = m + 1 := ⟨n - 1, by omega⟩
  obtain ⟨c, hc⟩ := get_some (l := s) (i := m) (by omega)
  have LZ : (s.take (m + 1)).getD m 0 = c := l6 (by rw [List.getElem?_take, if_pos (by omega)]; exact hc)
  have htt : (s.take (m + 1)).take m = s.take m := by rw [List.take_take, Nat.min_eq_left (by omega)]
  refine Sk (aF (au (Sr (Mv ?_))))
  refine Mv ?_
  refine Mv ?_
  refine Vt ?_
  refine Vv (Gives.yh (c := (m : Int)) rfl rfl (by omega) (by omega)) (Vv (Gives.fF (i := m) rfl rfl (by omega)) ?_)
  rw [LZ]
  refine dY (E5 c (H3.kept.cell (AJ c) id)) (h := ?_)
  refine Vv (Gives.not rfl) (Qn ?_)
  refine Cd rfl (fun Ia => ?_) (fun Ia => ?_)
  ·have hp : p c = false := by simpa using Ia
   refine bq (aT (gX rfl (aO (aV (aj ?_)))))
   refine Sr (Mv ?_)
   refine Am ?_
   refine Qn (aM (ak (hR := ?_)))
   exact ⟨⟨m + 1, rfl, hn, lu, fun k hk => ⟨c, by rw [show k = m by omega]; exact hc, hp⟩⟩, H3.kept⟩
  have hp : p c = true := by simpa using Ia
  refine Sk (aB (Mv ?_))
  refine Mv ?_
  refine Vt ?_
  refine Vv (Gives.yh (c := (m : Int)) rfl rfl (by omega) (by omega)) (Vv (Gives.lq (i := m) rfl rfl (by omega)) ?_)
  rw [htt]
  refine Am ?_
  refine aP (aA ?_)
  exact aC m ⟨rfl, rfl, trivial⟩ ⟨⟨by omega, fun j d hj hd => by
  by_cases e : j = m
  ·subst e; rw [hc] at hd; injection hd with hd; rw [← hd]; exact hp
  exact lu j d (by omega) hd⟩, H3⟩ (by omega)
 have YI : n = 0 := by omega
 refine bq (aT (aO (aV (aj (Sr (Mv ?_))))))
 refine Am ?_
 refine Qn (aM (ak (hR := ?_)))
 exact ⟨⟨n, rfl, hn, lu, fun m hm => by omega⟩, H3.kept⟩
theorem Mx (l : List UInt8) (hl : l.length ≤ 1000) (h : ∀ c ∈ l, c.toNat < 128) : bF Tryz.prog 173 [str l] w fun v w' => v = .tuple #[.agg (setCells l), .bool true] ∧ Kept noB w w' :=
 Calls.mono (Tryz.strings_makeASCIISet (fun _ => by kernel_rfl) ⟨l.toArray⟩ w (by show l.toArray.size < _; rw [List.size_toArray]; omega) fun j b hb => h b (List.mem_of_getElem? hb)) fun e w' he => by
  obtain ⟨rfl, rfl⟩ := he
  exact ⟨rfl, Kept.alloc _ _⟩
theorem U5 (s : List UInt8) (fM : s ≠ []) (hl : s.length ≤ 1000000) : bF Tryz.prog 122 [str s, str nameSet] w fun v w' => (∃ t, v = str t ∧ (t = [] ↔ s.all j6 = true)) ∧ Kept noB w w' := by
 have H := Sep.bB w
 have h37 : nameSet.length = 37 := rfl
 have EO : (setCells nameSet).toList.length = 256 := by rw [Array.length_toList, setCells_size]
 have Rm : ∀ u ∈ (setCells nameSet).toList, u.oneCell' = true := fun u hu => by
  have := setCells_one nameSet
  rw [Array.all_eq_true_iff_forall_mem] at this
  exact this u (by simpa using hu)
 refine eU Tryz.func122 rfl rfl rfl rfl ?_
 refine Sr (Am ?_)
 refine Qn (au (Sr (Mv ?_)))
 refine Vv (Gives.iD rfl rfl) (Mv ?_)
 refine aG (t := 9) rfl (fun Xd => ?_) (fun Xd => ?_)
 ·exact absurd Xd fM
 refine On (Mv ?_)
 refine On (Vv (Gives.iD rfl rfl) (Pf ?_))
 refine Qn (Cp rfl (fun Ia => ?_) (fun Ia => ?_))
 ·exact absurd Ia (by decide)
 refine Sk (au (Sr (Mv ?_)))
 refine Vt ?_
 refine Ve ?_
 refine Mv ?_
 refine aG (t := 17) rfl (fun Sa => ?_) (fun Sa => ?_)
 ·exact absurd Sa (by decide)
 refine Of (Of (Of (Pf ?_)))
 refine Qn (bg rfl ?_)
 refine Sk (au (Sr (Mv ?_)))
 refine aN H (Mx nameSet (by decide) (by decide)) (h := fun wa Ha ka => ?_)
 refine Mv ?_
 refine Vx ?_
 refine Vx ?_
 refine bD Ha (cs := List.replicate 256 (.bool false)) (h := fun bs wb Hb kb => ?_)
 refine EX Hb (us := (setCells nameSet).toList) (cs' := (setCells nameSet).toList) rfl (by exact rfl) EO Rm At0 (by rw [EO]; decide) (by rw [EO]; simp) (h := fun wc Hc => ?_)
 have AJ : ∀ c : UInt8, wc.cell? ⟨bs, c.toNat, none⟩ = some (.bool (j6 c)) := fun c => by
  have hb := Hc.obj At0
  have := setCells_at nameSet c
  rw [Ka] at this
  rw [World.cell?, hb]
  simpa using this
 refine Am ?_
 refine Nx (Mv ?_)
 refine Qn (Cd rfl (fun Ib => ?_) (fun Ib => ?_))
 ·refine Sr (Mv ?_)
  refine bH (GX (p := j6) s AJ hl) rfl rfl (fun v' wd hv => ?_)
  obtain ⟨⟨m, rfl, hm, lu, acD⟩, dK⟩ := hv
  have Hd := Hc.keep dK
  refine aN Hd (Kc (p := j6) (s.take m) fun c => dK.cell (AJ c) id) (h := fun we He kc => ?_)
  refine Am ?_
  refine Qn (Rs (ak (hR := ?_)))
  exact ⟨⟨_, rfl, by
  rw [dropWhile_nil, List.all_eq_true]
  constructor
  ·intro h c hc
   obtain ⟨j, hj⟩ := List.getElem?_of_mem hc
   by_cases e : m ≤ j
   ·exact lu j c e hj
   exact h c (List.mem_of_getElem? (i := j) (by rw [List.getElem?_take, if_pos (by omega)]; exact hj))
  intro h c hc
  exact h c (List.mem_of_mem_take hc)⟩, He.kept⟩
 exact absurd Ib (by decide)
theorem Ke {p : Nat → Bool} {l : List UInt8} (h : ∀ c ∈ l, c.toNat < 128 ∧ p c.toNat = false) : ∀ f pos : Nat, Lib.idxFuncFrom p true ⟨l.toArray⟩ f pos = -1
 | 0, _ => rfl
 | f + 1, pos => by
  unfold Lib.idxFuncFrom
  by_cases hp : pos < (⟨l.toArray⟩ : ByteArray).size
  ·have bU : pos < l.length := by rw [Mw.size_mk] at hp; exact hp
   obtain ⟨h1, h2⟩ := h l[pos] (List.getElem_mem bU)
   have e : Utf8.decode ⟨l.toArray⟩ pos = (l[pos].toNat, 1) := by
    rw [← Lib.decodeL_drop]
    show Lib.decodeL (l.drop pos) = _
    rw [List.drop_eq_getElem_cons bU, Lib.decodeL_ascii _ _ h1]
   rw [if_pos hp, e, if_neg (by rw [h2]; decide)]
   exact Ke h f _
  rw [if_neg hp]
theorem CK (s : List UInt8) (lu : s.all j6 = true) : bF Tryz.prog 123 [str s, .func (.func 124) #[] #[]] w fun v w' => v = .bool false ∧ Kept noB w w' := by
 have hp : PredAt Tryz.prog 124 #[] encR Pq w := fun W r _ => Calls.mono (XA (w := W) r) fun e w' he => by
  cases e with
  | returned v => obtain ⟨rfl, rfl⟩ := he; exact ⟨rfl, 0, rfl⟩
  | _ => exact he.elim
 have := lU (Tryz.strings_ContainsFunc 124 #[] (Enters.run (P := Tryz.prog)) Pq ⟨s.toArray⟩ w hp)
 have e : decide (0 ≤ Lib.idxFunc Pq true ⟨s.toArray⟩) = false := by
  unfold Lib.idxFunc
  rw [Ke fun c hc => Pv c (List.all_eq_true.1 lu c hc)]
  decide
 rw [e] at this
 exact this
theorem E8 (s : List UInt8) : bF Tryz.prog 82 [str s] w fun v w' => v = .bool (dG s) ∧ Kept noB w w' := by
 have H := Sep.bB w
 obtain ⟨res, ay⟩ : ∃ res, res = dG s := ⟨_, rfl⟩
 rw [← ay]
 refine dP Tryz.func82 rfl rfl rfl rfl ?_
 refine Sr (Am ?_)
 refine Qn (au (Sr (Mv ?_)))
 refine Vv (Gives.iD rfl rfl) (Mv ?_)
 refine aG (t := 5) rfl (fun Xd => ?_) (fun Xd => ?_)
 ·have iY : res = false := by rw [ay, Xd]; rfl
  refine Of (Of (Of (Pt ?_)))
  refine Mv ?_
  refine Of (Of (Of (Pt ?_)))
  refine Mv ?_
  refine Of (Of (Of (Pt ?_)))
  refine Qn (aQ rfl ?_)
  refine Sr (Am ?_)
  refine Qn (Rs (ak (hR := ?_)))
  exact ⟨by rw [iY]; rfl, H.kept⟩
 obtain ⟨c, r, YJ⟩ : ∃ c r, s = c :: r := List.exists_cons_of_ne_nil Xd
 have hlen : s.length = r.length + 1 := by rw [YJ]; rfl
 have X8 : s.getD 0 0 = c := by rw [YJ]; rfl
 unfold dG at ay
 rw [X8] at ay
 refine On (Mv ?_)
 refine On (Vt ?_)
 refine On (Vg ?_)
 refine Pf ?_
 refine Mv ?_
 refine aG (t := 10) rfl (fun Sa => ?_) (fun Sa => ?_)
 ·have iY : res = false := by rw [ay, decide_eq_false (by omega)]; rfl
  refine Of (Of (Of (Pt ?_)))
  refine Mv ?_
  refine Of (Of (Of (Pt ?_)))
  refine Qn (aQ rfl ?_)
  refine Sr (Am ?_)
  refine Qn (Rs (ak (hR := ?_)))
  exact ⟨by rw [iY]; rfl, H.kept⟩
 rw [decide_eq_true (by omega)] at ay
 refine On (Mv ?_)
 refine On (Vv (Gives.fF (i := 0) rfl rfl (by omega)) ?_)
 rw [X8]
 refine On (Vl ?_)
 refine Pf ?_
 refine Mv ?_
 refine aG (t := 15) rfl (fun Sb => ?_) (fun Sb => ?_)
 ·have iY : res = false := by rw [ay, show GQ c = false from decide_eq_false (by omega)]; rfl
  refine Of (Of (Of (Pt ?_)))
  refine Qn (aQ rfl ?_)
  refine Sr (Am ?_)
  refine Qn (Rs (ak (hR := ?_)))
  exact ⟨by rw [iY]; rfl, H.kept⟩
 refine On (Mv ?_)
 refine On (Vv (Gives.fF (i := 0) rfl rfl (by omega)) ?_)
 rw [X8]
 refine On (Vg ?_)
 refine Pf ?_
 refine Qn (Cp rfl (fun Ia => ?_) (fun Ia => ?_))
 ·have iY : res = false := by rw [ay, show GQ c = false from decide_eq_false (by omega)]; rfl
  refine Sr (Am ?_)
  refine Qn (Rs (ak (hR := ?_)))
  exact ⟨by rw [iY]; rfl, H.kept⟩
 rw [show GQ c = true from decide_eq_true (by omega), Bool.true_and, Bool.true_and] at ay
 refine Sk (Sr (Mv ?_))
 refine bH (U5 s (by rw [YJ]; simp) (by omega)) rfl rfl (fun v' wa hv => ?_)
 obtain ⟨⟨t, rfl, ht⟩, dK⟩ := hv
 have Ha := H.keep dK
 refine Vv (Gives.iD rfl rfl) (Mv ?_)
 refine aG (t := 23) rfl (fun Sc => ?_) (fun Sc => ?_)
 ·have lu : s.all j6 = true := ht.1 Sc
  rw [lu] at ay
  refine On (Mv ?_)
  refine On (aN Ha (CK s lu) (h := fun wb Hb ka => ?_))
  refine On (Vv (Gives.not rfl) (Pt ?_))
  refine Am ?_
  refine Qn (aM (ak (hR := ?_)))
  exact ⟨by rw [ay]; rfl, Hb.kept⟩
 have lu : s.all j6 = false := by rw [← Bool.not_eq_true]; exact fun h => Sc (ht.2 h)
 rw [lu] at ay
 refine Of (Of (Of (Pf ?_)))
 refine Am ?_
 refine Qn (aM (ak (hR := ?_)))
 exact ⟨by rw [ay]; rfl, Ha.kept⟩
end
def Ba (b : Nat) (l : List gG) : HP := exH fun v => star (blk b [v] 40) (cO 49 7 bE v l)
instance WT : IsIface Tryz.prog 127 := ⟨by kernel_rfl⟩
section
variable {w : World}
theorem RI (t : dH) : bF Tryz.prog 25 [agg (aJ t)] w fun v w' => v = agg (bK (Ow t)) ∧ Kept noB w w' := by
 have H := Sep.bB w
 refine qo Tryz.func25 rfl rfl rfl rfl ?_
 refine Sr (dz H (h := fun b1 w2 H2 k1 => ?_))
 refine bD H2 (h := fun b3 w4 H4 k3 => ?_)
 refine Nx (aZ H4 (h := ?_))
 refine aN H4 (tX t) (h := fun w7 H7 k6 => ?_)
 refine Mv ?_
 refine aG (t := 5) rfl (fun EN => ?_) (fun EN => ?_)
 ·have hmt : nL t = true := decide_eq_true EN
  refine On (Vf ?_)
  refine On (Ld H7 ?_)
  refine Pt ?_
  refine Vv (Gives.build (out := bK ⟨t.null, 0, []⟩) (Fills.one rfl rfl rfl (by decide) rfl Fills.nil)) (aD H7 (h := fun wa Ha => ?_))
  refine Qn (aM (aW (h := ?_)))
  exact ⟨_, ⟨_, _, _, rfl, rfl, jw (cs := bK ⟨t.null, 0, []⟩) (o := 0) (k := 3) (Ha.obj At0) (us := bK ⟨t.null, 0, []⟩) rfl rfl, rfl⟩, by unfold Ow; rw [hmt]; rfl, Ha.kept⟩
 have hmt : nL t = false := decide_eq_false EN
 refine Of (Of (Pf ?_))
 refine Vv (Gives.build (out := bK ⟨false, 0, []⟩) (Fills.one rfl rfl rfl (by decide) rfl Fills.nil)) (aD H7 (h := fun wb Hb => ?_))
 refine Qn (aM (aW (h := ?_)))
 exact ⟨_, ⟨_, _, _, rfl, rfl, jw (cs := bK ⟨false, 0, []⟩) (o := 0) (k := 3) (Hb.obj At0) (us := bK ⟨false, 0, []⟩) rfl rfl, rfl⟩, by unfold Ow; rw [hmt]; rfl, Hb.kept⟩
theorem rQ {b : Nat} {F : Nat → Prop} {acc : List gG} (name : List UInt8) (t : dH) (hp : (Ba b acc).ok F w) (hl : acc.length ≤ 1000) :
    bF Tryz.prog 62 [str name, agg (aJ t), bI b] w fun v w' => v = .tuple #[] ∧ Turn F (Ba b (acc ++ [ng ((acc.length + 1 : Nat) : Int) name t])) w w' := by
  have H0 := Sep.iy hp
  unfold Ba at H0
  obtain ⟨v0, H0⟩ := H0.ex0
  have H := H0.ny
  obtain ⟨A, ca, rfl, hca, hA⟩ := Sep.fJ H At1
  refine EU Tryz.func62 rfl rfl rfl rfl ?_
  refine Sr (dz H (cs := aJ t) rfl (h := fun b4 w2 H2 k1 => ?_))
  refine Qn (bG rfl H2 (h := fun AL w5 H5 => ?_))
  refine cK AL 0 H5 (h := ?_)
  refine cK AL 1 H5 (h := ?_)
  refine Gp AL 2 rfl rfl (fun _ => (Gives.rJ rfl)) (Gp AL 3 rfl rfl (fun _ => Gives.bM (c := ((acc.length + 1 : Nat) : Int)) rfl rfl (by omega) (by omega)) ?_)
  refine Gm AL 4 ?_
  refine dD AL 5 H5 (h := ?_)
  refine dD AL 6 H5 (h := ?_)
  refine fQ AL 7 [(5, false), (4, true), (3, true), (2, true), (1, false), (0, false)] H5 (RI t) (h := fun wa Ha ka => ⟨(eZ rfl (by kernel_rfl) (Gives.nQ rfl (Ha.obj At0) (us := aJ t) rfl rfl) rfl (av (av (av (bQ Ha (h := bQ Ha (h := aK))))))), ?_⟩)
  refine Gp AL 8 rfl rfl (fun _ => Gives.build (out := bE (ng ((acc.length + 1 : Nat) : Int) name t)) (Fills.one rfl rfl rfl (by simp) rfl (Fills.one rfl rfl rfl (by simp) rfl (Fills.many rfl rfl (Nat.le_of_ble_eq_true rfl) rfl (Fills.many rfl rfl (Nat.le_of_ble_eq_true rfl) rfl Fills.nil))))) (eD AL 9 [(0, false)] Ha (xs := [.tmp 13]) (out := [ng ((acc.length + 1 : Nat) : Int) name t].flatMap bE) (aU.many rfl rfl aU.nil) (h := fun bs wb Hb => ⟨bQ Hb (h := aK), ?_⟩))
  refine jo AL 10 [] Hb (news := [ng ((acc.length + 1 : Nat) : Int) name t]) At2 (by unfold maxLen; simp; omega) (by simp; omega) (cells_one (fun _ => rfl) _) (h := fun v2 wc Hc => ?_)
  obtain ⟨A2, c2, rfl, Xc, hA2⟩ := Sep.fJ Hc At2
  refine ⟨aK, ?_⟩
  refine nI AL 11 [] Hc (h := fun wd Hd => ⟨aK, ?_⟩)
  refine bR AL (by kernel_rfl) ?_
  refine jC (hR := ?_)
  exact ⟨rfl, (Sep.AX (p := fun v => star (blk b [v] 40) (cO 49 7 bE v _)) _ (Sep.uJ Hd.fI)).first.turn⟩
theorem Kg {p : cB} {v : Value} (hp : fD w v p) (hn : p.cols.length ≤ 1000000) : bF Tryz.prog 36 [v] w fun v w' => v = .bool (jf p) ∧ Kept noB w w' := by
 obtain ⟨vw, vc, rfl, hw, r, hr, mG⟩ := hp
 obtain ⟨A, m, rfl, ⟨hm, xK⟩, hA⟩ := hr
 have AO := mG.len
 have H := Sep.bB w
 obtain ⟨res, ay⟩ : ∃ res, res = jf p := ⟨_, rfl⟩
 rw [← ay]
 unfold jf at ay
 refine dP Tryz.func36 rfl rfl rfl rfl ?_
 refine Sr (dz H (cs := [vw, .slice A r.length m, I p.group]) rfl (h := fun b1 w2 H2 k1 => ?_))
 refine Am ?_
 refine Nx (Cy H2 (h := fun b3 w5 H5 k4 => ?_))
 have H5 := Sep.U3 H5 At0
 refine Am ?_
 refine Qn (au (Sr (Vf ?_)))
 refine Ld H5 ?_
 refine Vs ?_
 refine Mv ?_
 refine Qn (aF (bA (fun i : Nat => [(1, bI b1), (3, .map (some b3)), (9, .slice A r.length m), (10, I r.length), (11, I i)]) (fun i w' => (i ≤ r.length ∧ ∀ (j : Nat) o, j < i → p.cols[j]? = some o → dG o.name = true ∧ ¬ (0 ≤ p.group ∧ o.name = eB)) ∧ ∃ f n, Had ((p.cols.map (·.name)).take i) f n ∧ Sep w noB [uO b3 f n, blk b1 [vw, .slice A r.length m, I p.group] 25] w') (fun i _ => r.length - i) 0 ⟨rfl, rfl, rfl, rfl, rfl, trivial⟩ ⟨⟨Nat.zero_le _, fun j o hj => absurd hj (Nat.not_lt_zero j)⟩, _, _, Had.nil, H5⟩ (fun i τ wa hI => ?_)))
 obtain ⟨⟨hi, mO⟩, f, n, X9, Ha⟩ := hI
 try simp only [cZ, like, bC, bZ]
 refine Sr (Vl ?_)
 refine Qn (au (Cp rfl (fun Ia => ?_) (fun Ia => ?_)))
 ·have bU : i < p.cols.length := by omega
  obtain ⟨x, hx, uG⟩ := mG.at bU
  obtain ⟨Ax, cx, rfl, _⟩ := id uG
  have pq : p.cols[i]? = some p.cols[i] := List.getElem?_eq_getElem bU
  obtain ⟨o, ho⟩ : ∃ o, o = p.cols[i] := ⟨_, rfl⟩
  rw [← ho] at hx uG pq
  have JH : (p.cols.map (·.name)).take (i + 1) = (p.cols.map (·.name)).take i ++ [o.name] := by rw [List.take_add_one, List.getElem?_map, pq]; rfl
  have qC : o ∈ p.cols := List.mem_of_getElem? pq
  refine Sk (au (aF (Sr (Vv (Gives.eT rfl rfl (by assumption) (by omega)) (Vv (Gives.iM rfl Ha (by assumption) (by assumption)) ?_)))))
  refine bD Ha (h := fun b5 wb Hb ka => ?_)
  refine aD Hb (h := fun wc Hc => ?_)
  refine Nx (Mv ?_)
  refine Vf ?_
  refine Ld Hc ?_
  obtain ⟨c, EO, hcv⟩ := X9.val ⟨o.name.toArray⟩
  rw [List.length_take, List.length_map] at EO
  refine eu (Et (i := ⟨o.name.toArray⟩) Hc At1 rfl rfl) rfl ?_
  rw [hcv]
  refine Vv (Gives.bM (c := ((c + 1 : Nat) : Int)) rfl rfl (by omega) (by omega)) ?_
  have Uv := X9.push o.name (c := c) (by rw [List.length_take, List.length_map]; omega)
  rw [← JH] at Uv
  refine Ev Hc At1 rfl rfl rfl (h := fun wd Hd => ?_)
  refine Nx (Vf ?_)
  refine Ld Hd ?_
  refine aN Hd (E8 o.name) (h := fun we He kb => ?_)
  refine Vv (Gives.not rfl) (Mv ?_)
  refine dh (t := 24) rfl (fun Sa => ?_) (fun Sa => ?_)
  ·have mF : ¬ dG o.name = true := by simpa using Sa
   refine Of (Of (Of (Of (Ou (Ou (Ou (Of (Pt ?_))))))))
   refine Qn (aQ rfl ?_)
   refine Sr (Am ?_)
   refine Qn (Rb (aR (aH (aL (ak (hR := ?_))))))
   refine ⟨?_, He.kept⟩
   have iY : p.cols.all (fun o => dG o.name && !(decide (0 ≤ p.group) && decide (o.name = eB))) = false := by
    rw [← Bool.not_eq_true, List.all_eq_true]
    intro h
    have h1 := h o qC
    simp_all
   rw [ay, iY]
   simp [fB]
  have En : dG o.name = true := by simpa using Sa
  refine On (Vf ?_)
  refine On (Ld He ?_)
  refine On (Vv (Gives.geq rfl rfl) (On ?_))
  refine Mv ?_
  refine aG (t := 28) rfl (fun Sb => ?_) (fun Sb => ?_)
  ·refine On (Vf ?_)
   refine On (Ld He ?_)
   refine On (Vv (Gives.iD rfl rfl) (On ?_))
   refine Pt ?_
   refine Pf ?_
   refine Qn (Cp rfl (fun Ib => ?_) (fun Ib => ?_))
   ·have acE : 0 ≤ p.group ∧ o.name = eB := ⟨by omega, Ib⟩
    refine Sr (Am ?_)
    refine Qn (Rb (aR (aH (aL (ak (hR := ?_))))))
    refine ⟨?_, He.kept⟩
    have iY : p.cols.all (fun o => dG o.name && !(decide (0 ≤ p.group) && decide (o.name = eB))) = false := by
     rw [← Bool.not_eq_true, List.all_eq_true]
     intro h
     have h1 := h o qC
     simp_all
    rw [ay, iY]
    simp [fB]
   have iZ : ¬ (0 ≤ p.group ∧ o.name = eB) := fun h => Ib h.2
   refine aY (aA (aj (aB (Vv (Gives.bM rfl rfl rfl (by omega)) ?_))))
   refine Mv ?_
   refine aP ?_
   exact aC (i + 1) ⟨rfl, rfl, rfl, rfl, rfl, trivial⟩ ⟨⟨by omega, fun j y hj hy => by
   by_cases e : j = i
   ·subst e; rw [pq] at hy; injection hy with hy; rw [← hy]; exact ⟨En, iZ⟩
   exact mO j y (by omega) hy⟩, _, _, Uv, He.fI⟩ (by omega)
  have iZ : ¬ (0 ≤ p.group ∧ o.name = eB) := fun h => by omega
  refine Of (Of (Of (On (Pf ?_))))
  refine Pf ?_
  refine Qn (bg rfl ?_)
  refine aY (aA (aj (aB (Vv (Gives.bM rfl rfl rfl (by omega)) ?_))))
  refine Mv ?_
  refine aP ?_
  exact aC (i + 1) ⟨rfl, rfl, rfl, rfl, rfl, trivial⟩ ⟨⟨by omega, fun j y hj hy => by
  by_cases e : j = i
  ·subst e; rw [pq] at hy; injection hy with hy; rw [← hy]; exact ⟨En, iZ⟩
  exact mO j y (by omega) hy⟩, _, _, Uv, He.fI⟩ (by omega)
 have jW : i = r.length := by omega
 have lu : p.cols.all (fun o => dG o.name && !(decide (0 ≤ p.group) && decide (o.name = eB))) = true := by
  rw [List.all_eq_true]
  intro o ho
  obtain ⟨j, hj⟩ := List.getElem?_of_mem ho
  obtain ⟨h1, h2⟩ := mO j o (by have := iE hj; omega) hj
  rw [h1, Bool.true_and]
  cases hg : decide (0 ≤ p.group) <;> cases hc : decide (o.name = eB) <;> simp_all
 rw [lu] at ay
 have YC := X9.nd
 rw [jW, AO, List.take_of_length_le (by simp)] at YC
 rw [List.length_map] at YC
 have hnr : (n = r.length ↔ (p.cols.map (·.name)).Nodup) := by rw [AO]; exact YC
 have ay : res = decide ((n : Int) = r.length ∧ 1 ≤ r.length ∧ r.length ≤ 16 ∧ -1 ≤ p.group ∧ p.group ≤ r.length) := by
  rw [ay, Bool.and_true, ← Bool.decide_and, AO]
  refine decide_eq_decide.2 ⟨fun h => ?_, fun h => ?_⟩
  ·have := hnr.2 h.2
   omega
  exact ⟨by omega, hnr.1 (by omega)⟩
 refine bq (aT (aO (aV (aj (Sr (Vf ?_))))))
 refine Ld Ha ?_
 refine Vs ?_
 refine Am ?_
 refine Nx (Mv ?_)
 refine eu (Eu Ha At0 rfl) rfl ?_
 refine Mv ?_
 refine Ve ?_
 refine Mv ?_
 refine aG (t := 42) rfl (fun Sc => ?_) (fun Sc => ?_)
 ·refine On (Mv ?_)
  refine On (Vv (Gives.geq rfl rfl) (Pt ?_))
  refine Mv ?_
  refine aG (t := 46) rfl (fun Sd => ?_) (fun Sd => ?_)
  ·refine On (Mv ?_)
   refine On (Vv (Gives.leq rfl rfl) (Pt ?_))
   refine Mv ?_
   refine aG (t := 50) rfl (fun Se => ?_) (fun Se => ?_)
   ·refine On (Vf ?_)
    refine On (Ld Ha ?_)
    refine On (Vv (Gives.geq rfl rfl) (Pt ?_))
    refine Mv ?_
    refine aG (t := 55) rfl (fun Sf => ?_) (fun Sf => ?_)
    ·refine On (Vf ?_)
     refine On (Ld Ha ?_)
     refine On (Mv ?_)
     refine On (Vv (Gives.leq rfl rfl) (Pt ?_))
     refine Am ?_
     refine Qn (aM (ak (hR := ?_)))
     exact ⟨by rw [ay]; first | exact congrArg Value.bool (Eq.symm (decide_eq_false (by omega))) | exact congrArg Value.bool (decide_eq_decide.2 (by omega)), Ha.kept⟩
    refine Of (Of (Of (Of (Pf ?_))))
    refine Am ?_
    refine Qn (aM (ak (hR := ?_)))
    exact ⟨by rw [ay]; first | exact congrArg Value.bool (Eq.symm (decide_eq_false (by omega))) | exact congrArg Value.bool (decide_eq_decide.2 (by omega)), Ha.kept⟩
   refine Of (Of (Of (Pf ?_)))
   refine Mv ?_
   refine Of (Of (Of (Of (Pf ?_))))
   refine Am ?_
   refine Qn (aM (ak (hR := ?_)))
   exact ⟨by rw [ay]; first | exact congrArg Value.bool (Eq.symm (decide_eq_false (by omega))) | exact congrArg Value.bool (decide_eq_decide.2 (by omega)), Ha.kept⟩
  refine Of (Of (Pf ?_))
  refine Mv ?_
  refine Of (Of (Of (Pf ?_)))
  refine Mv ?_
  refine Of (Of (Of (Of (Pf ?_))))
  refine Am ?_
  refine Qn (aM (ak (hR := ?_)))
  exact ⟨by rw [ay]; first | exact congrArg Value.bool (Eq.symm (decide_eq_false (by omega))) | exact congrArg Value.bool (decide_eq_decide.2 (by omega)), Ha.kept⟩
 refine Of (Of (Pf ?_))
 refine Mv ?_
 refine Of (Of (Pf ?_))
 refine Mv ?_
 refine Of (Of (Of (Pf ?_)))
 refine Mv ?_
 refine Of (Of (Of (Of (Pf ?_))))
 refine Am ?_
 refine Qn (aM (ak (hR := ?_)))
 exact ⟨by rw [ay]; first | exact congrArg Value.bool (Eq.symm (decide_eq_false (by omega))) | exact congrArg Value.bool (decide_eq_decide.2 (by omega)), Ha.kept⟩
end
end Go.Proofs.YtolaedhdjcnijaaGreatDoor
namespace Go.Proofs.YtolaedhdjcnijaaGreatDoor
open Go Go.Lib Go.Mw
set_option maxRecDepth 4000
end Go.Proofs.YtolaedhdjcnijaaGreatDoor
namespace Go.Proofs.YtolaedhdjcnijaaGreatDoor
open Go Go.Mw Go.Lib
set_option maxRecDepth 4000
theorem Pw {p : cB} {u : Int} : u ∈ CG p ↔ u ∈ o7 p.wh ∨ ∃ o ∈ p.cols, u ∈ o7 o.steps := by
 unfold CG
 rw [r9, r9]
 constructor
 ·rintro ⟨x, hx, h1, h2⟩
  rcases List.mem_append.1 hx with hx | hx
  ·exact .inl ⟨x, hx, h1, h2⟩
  obtain ⟨o, ho, hx⟩ := List.mem_flatMap.1 hx
  exact .inr ⟨o, ho, r9.2 ⟨x, hx, h1, h2⟩⟩
 rintro (⟨x, hx, h1, h2⟩ | ⟨o, ho, hu⟩)
 ·exact ⟨x, List.mem_append_left _ hx, h1, h2⟩
 obtain ⟨x, hx, h1, h2⟩ := r9.1 hu
 exact ⟨x, List.mem_append_right _ (List.mem_flatMap.2 ⟨o, ho, hx⟩), h1, h2⟩
def jK (wh : List bL) (cols : List jM) : List Int := o7 wh ++ cols.flatMap fun o => o7 o.steps
theorem GY (p : cB) : Lib.compact ((jK p.wh p.cols).mergeSort fun x y => decide (x ≤ y)) = CG p := by
 have hs : ((jK p.wh p.cols).mergeSort fun x y => decide (x ≤ y)).Pairwise (· ≤ ·) := by
  have := List.pairwise_mergeSort (le := fun x y : Int => decide (x ≤ y)) (fun a b c h1 h2 => by simp at *; omega) (fun a b => by simp; omega) (jK p.wh p.cols)
  exact this.imp fun h => by simpa using h
 obtain ⟨h1, h2⟩ := yc hs
 refine yL h1 (Bu _) fun k => ?_
 show _ ↔ k ∈ CG p
 rw [h2, List.mem_mergeSort, Pw]
 unfold jK
 rw [List.mem_append, List.mem_flatMap]
theorem Aa (l : List bL) : (o7 l).length ≤ l.length := by
 rw [← BF]
 have h1 := Lib.compact_length_le (((l.filter fun x => decide (x.kind = 1)).map fun x => x.n).mergeSort fun x y => decide (x ≤ y))
 rw [List.length_mergeSort, List.length_map] at h1
 exact Nat.le_trans h1 (List.length_filter_le _ _)
theorem MB {wh : List bL} {m : Nat} : ∀ {cols : List jM}, (∀ o ∈ cols, o.steps.length ≤ m) → (jK wh cols).length ≤ wh.length + cols.length * m := by
 intro cols
 unfold jK
 rw [List.length_append]
 intro h
 have h1 := Aa wh
 have h2 : (cols.flatMap fun o => o7 o.steps).length ≤ cols.length * m := by
  clear h1
  induction cols with
  | nil => simp
  | cons o l ih =>
   rw [List.flatMap_cons, List.length_append, List.length_cons, Nat.succ_mul]
   have h3 := Aa o.steps
   have h4 := h o List.mem_cons_self
   have h5 := ih fun x hx => h x (List.mem_cons_of_mem _ hx)
   omega
 omega
theorem Kh (wh : List bL) (cols : List jM) (o : jM) : jK wh (cols ++ [o]) = jK wh cols ++ o7 o.steps := by
 unfold jK
 rw [List.flatMap_append]
 simp
end Go.Proofs.YtolaedhdjcnijaaGreatDoor
namespace Go.Proofs.YtolaedhdjcnijaaGreatDoor
open Go Go.Lib Go.Mw
set_option maxRecDepth 4000
theorem zi : ∀ l : List (List UInt8), jJ l = fA 10 (l ++ [[]])
 | [] => rfl
 | [w] => by simp [jJ, fA]
 | w :: x :: l => by
  have ih := zi (x :: l)
  unfold jJ at ih ⊢
  rw [List.flatMap_cons, ih]
  show w ++ [10] ++ _ = w ++ 10 :: fA 10 (x :: l ++ [[]])
  simp
theorem Ew {ls : List (List UInt8)} (h : ∀ w ∈ ls, ∀ c ∈ w, c ≠ 10) : dU (jJ ls) = (ls, true) := by
 have hs : bT 10 (jJ ls) = ls ++ [[]] := by
  rw [zi]
  refine yJ (by simp) fun w hw => ?_
  rcases List.mem_append.1 hw with h1 | h1
  ·exact h w h1
  rw [List.mem_singleton.1 h1]; intro c hc; cases hc
 unfold dU
 rw [hs, if_pos (by simp)]
 simp
theorem vU (s : List UInt8) : bT 10 s ≠ [] := fun e => by
 have := yK 10 s
 cases s with
 | nil => cases e
 | cons c l => rw [e] at this; cases this
/-! Lines bear no line feed. -/
theorem CO (n : Int) : ∀ c ∈ itoa n, c ≠ 10 := by
 intro c hc e
 subst e
 have key : ∀ u, (10 : UInt8) ∉ decDigits u := fun u h => by
  have := mJ u _ h
  simp [jQ] at this
 unfold itoa at hc
 split at hc
 ·rcases List.mem_cons.1 hc with h | h
  ·exact absurd h (by decide)
  exact key _ h
 exact key _ hc
theorem E9 {d : Nat} (h : d < 16) : jH d ≠ 10 := by
 have key : ∀ d : Fin 16, jH d.val ≠ 10 := by decide
 exact key ⟨d, h⟩
theorem MC (c : UInt8) : ∀ x ∈ gF c, x ≠ 10 := by
 have key : ∀ i : Fin 256, ∀ x ∈ gF (UInt8.ofNat i.val), x ≠ 10 := by decide +kernel
 have := key ⟨c.toNat, c.toNat_lt⟩
 simpa using this
theorem RJ {x : bL} (h : dI x = true) : ∀ c ∈ dO x, c ≠ 10 := by
 obtain ⟨k, n, s⟩ := x
 unfold dI at h
 unfold dO
 dsimp only at h ⊢
 by_cases k1 : k = 1
 ·rw [if_pos k1]
  intro c hc
  rcases List.mem_cons.1 hc with rfl | hc
  ·decide
  exact CO n c hc
 rw [if_neg k1] at h ⊢
 by_cases k2 : k = 2
 ·rw [if_pos k2]; exact CO n
 rw [if_neg k2] at h ⊢
 by_cases k3 : k = 3
 ·rw [if_pos k3]
  split <;> decide
 rw [if_neg k3] at h ⊢
 by_cases k4 : k = 4
 ·rw [if_pos k4, rT]
  intro c hc
  rcases List.mem_cons.1 hc with rfl | hc
  ·decide
  rcases List.mem_append.1 hc with hc | hc
  ·obtain ⟨y, _, hy⟩ := List.mem_flatMap.1 hc
   exact MC y c hy
  simp only [List.mem_singleton] at hc; subst hc; decide
 rw [if_neg k4] at h ⊢
 by_cases k5 : k = 5
 ·rw [if_pos k5]
  intro c hc
  rcases List.mem_cons.1 hc with rfl | hc
  ·decide
  obtain ⟨y, _, hy⟩ := List.mem_flatMap.1 hc
  simp only [List.mem_cons, List.not_mem_nil, or_false] at hy
  rcases hy with rfl | rfl
  ·exact E9 (by have := y.toNat_lt; omega)
  exact E9 (by omega)
 rw [if_neg k5] at h ⊢
 by_cases k6 : k = 6
 ·subst k6
  rw [if_pos rfl] at h ⊢
  simp only [decide_eq_true_eq] at h
  obtain ⟨_, hn⟩ := h
  have : n = 1 ∨ n = 3 ∨ n = 4 ∨ n = 5 := by omega
  rcases this with rfl | rfl | rfl | rfl <;> decide
 rw [if_neg k6] at h ⊢
 simp only [decide_eq_true_eq] at h
 obtain ⟨ha, hb, _, _⟩ := h
 have : k = 7 ∨ k = 8 ∨ k = 9 ∨ k = 10 ∨ k = 11 ∨ k = 12 ∨ k = 13 ∨ k = 14 ∨ k = 15 ∨ k = 16 ∨ k = 17 ∨ k = 18 := by omega
 rcases this with rfl | rfl | rfl | rfl | rfl | rfl | rfl | rfl | rfl | rfl | rfl | rfl <;> decide
theorem Ki : ∀ {ws : List (List UInt8)}, (∀ w ∈ ws, ∀ c ∈ w, c ≠ 10) → ∀ c ∈ fA 32 ws, c ≠ 10
 | [], _ => by intro c hc; cases hc
 | [w], h => h w List.mem_cons_self
 | w :: x :: l, h => by
  intro c hc
  have hc : c ∈ w ++ 32 :: fA 32 (x :: l) := hc
  rcases List.mem_append.1 hc with h1 | h1
  ·exact h w List.mem_cons_self c h1
  rcases List.mem_cons.1 h1 with rfl | h1
  ·decide
  exact Ki (fun y hy => h y (List.mem_cons_of_mem _ hy)) c h1
def dV (l : List bL) : Prop := ∀ x ∈ l, fits x.n
theorem CP {l : List bL} (h : (eY l).2 = 0) : l.length ≤ 64 ∧ (∀ x ∈ l, dI x = true) ∧ eY l = (fA 32 (l.map dO), 0) := by
 unfold eY at h ⊢
 split at h
 ·cases h
 rename_i h1
 split at h
 ·cases h
 rename_i h2
 rw [if_neg h1, if_neg h2]
 rw [Bool.not_eq_false, List.all_eq_true] at h2
 exact ⟨by omega, h2, rfl⟩
theorem Kj {l : List bL} (h : (eY l).2 = 0) : ∀ c ∈ (eY l).1, c ≠ 10 := by
 obtain ⟨_, h2, h3⟩ := CP h
 rw [h3]
 exact Ki fun w hw => by
  obtain ⟨x, hx, rfl⟩ := List.mem_map.1 hw
  exact RJ (h2 x hx)
theorem Fa {l : List bL} (h : (eY l).2 = 0) (hf : dV l) : bN (eY l).1 = (l, 0) := by
 obtain ⟨h1, h2, h3⟩ := CP h
 rw [h3]
 exact (Dp (fun x hx => ⟨h2 x hx, hf x hx⟩) h1).2.1
theorem Kk {s : List UInt8} (h : dG s = true) : (∀ c ∈ s, c ≠ 10) ∧ (∀ c ∈ s, c ≠ 32) := by
 unfold dG at h
 simp only [Bool.and_eq_true, List.all_eq_true] at h
 have key : ∀ i : Fin 256, j6 (UInt8.ofNat i.val) = true → UInt8.ofNat i.val ≠ 10 ∧ UInt8.ofNat i.val ≠ 32 := by decide +kernel
 have k2 : ∀ c : UInt8, j6 c = true → c ≠ 10 ∧ c ≠ 32 := fun c hc => by
  have := key ⟨c.toNat, c.toNat_lt⟩
  simp only [UInt8.ofNat_toNat] at this
  exact this hc
 exact ⟨fun c hc => (k2 c (h.2 c hc)).1, fun c hc => (k2 c (h.2 c hc)).2⟩
theorem sQ (b t : List UInt8) : jg b (b ++ t) = some t := by
 unfold jg
 rw [List.take_left', if_pos rfl, List.drop_left']
 ·rfl
 rfl
theorem Kl {b s t : List UInt8} (h : jg b s = some t) : s = b ++ t := by
 unfold jg at h
 split at h
 ·rename_i h1
  injection h with h
  rw [← h]
  conv => lhs; rw [← List.take_append_drop b.length s, h1]
 cases h
theorem ME : (bN iA).2 = 4 := by rw [← EZ]; decide +kernel
theorem MF {l : List bL} (h : (eY l).2 = 0) (hf : dV l) : lN (om l) = some l := by
 unfold lN om
 rw [sQ, Option.bind_some]
 by_cases h0 : l = []
 ·rw [if_pos h0, if_neg (by decide), if_pos rfl, h0]
 rw [if_neg h0]
 have hb := Fa h hf
 have h1 : (eY l).1 ≠ [] := fun e => by
  rw [e] at hb
  have : bN [] = ([], 0) := rfl
  rw [this] at hb
  injection hb with hb
  exact h0 hb.symm
 have h2 : (eY l).1 ≠ iA := fun e => by
  rw [e] at hb
  have := ME
  rw [hb] at this
  cases this
 rw [if_neg h1, if_neg h2, hb, if_pos rfl]
theorem Km {s t : List UInt8} (h : ∀ c ∈ s, c ≠ 32) : pE (s ++ [32] ++ t) = some (s, t) := by
 have hi : (s ++ [32] ++ t).idxOf? 32 = some s.length := by
  rw [List.idxOf?, List.append_assoc, List.findIdx?_append]
  have : s.findIdx? (· == 32) = none := by
   rw [List.findIdx?_eq_none_iff]
   intro c hc
   simpa using h c hc
  rw [this]
  simp [List.findIdx?_cons]
 unfold pE
 rw [hi, Option.map_some, List.append_assoc]
 congr 2
 ·rw [List.take_left']; rfl
 rw [← List.append_assoc]
 exact List.drop_left' (by simp)
theorem RL {o : jM} (hb : za o = false) (hn : dG o.name = true) (hf : dV o.steps) : qd (nE o) = some o := by
 have hbb : ¬ ((eY o.steps).2 ≠ 0 ∨ (eY o.steps).1 = []) := of_decide_eq_false hb
 have h0 : (eY o.steps).2 = 0 := Classical.byContradiction fun h => hbb (.inl h)
 have h1 : (eY o.steps).1 ≠ [] := fun h => hbb (.inr h)
 have hp := Fa h0 hf
 have hs : o.steps ≠ [] := fun e => by
  rw [e] at h1
  exact h1 rfl
 unfold qd nE
 have e : BM ++ o.name ++ [32] ++ (eY o.steps).1 = BM ++ (o.name ++ [32] ++ (eY o.steps).1) := by simp only [List.append_assoc]
 rw [e, sQ, Option.bind_some, Km (Kk hn).2, Option.bind_some]
 dsimp only
 rw [hp, if_pos ⟨rfl, hs, hn⟩]
theorem MG {g : Int} (h1 : -1 ≤ g) (h2 : g ≤ 1048576) : jY (qc g) = some g := by
 unfold jY qc
 rw [sQ, Option.bind_some]
 by_cases hg : g < 0
 ·rw [if_pos hg, if_pos rfl]
  congr 1
  omega
 rw [if_neg hg]
 obtain ⟨n, rfl⟩ := Int.eq_ofNat_of_zero_le (show 0 ≤ g by omega)
 have hit : itoa (n : Int) = decDigits n := by unfold itoa; rw [if_neg hg]; rfl
 have fM : itoa (n : Int) ≠ iA := fun e => by
  rw [hit] at e
  have := mJ n 110 (by rw [e]; decide)
  exact absurd this (by decide)
 rw [if_neg fM, hit]
 unfold gP
 rw [mX, Option.bind_some, if_pos ⟨rfl, by omega⟩]
 rfl
theorem MH {t : List UInt8} (h : (bN t).2 = 0) (h0 : t ≠ []) : (bN t).1 ≠ [] := fun e => by
 have ht := Nh (s := t) (l := (bN t).1) (by rw [← h])
 rw [e] at ht
 injection ht with ht
 exact h0 ht.symm
theorem Fb : ∀ {cs : List jM} {g : Int}, (∀ o ∈ cs, za o = false ∧ dG o.name = true ∧ dV o.steps) → gW (cs.map nE ++ [qc g]) = cs
 | [], g, _ => by
  have : qd (qc g) = none := by
   unfold qd jg
   rw [if_neg]
   ·rfl
   unfold qc sP BM
   simp
  show gW [qc g] = []
  unfold gW
  rw [this]
 | o :: cs, g, h => by
  obtain ⟨h1, h2, h3⟩ := h o List.mem_cons_self
  rw [List.map_cons, List.cons_append]
  unfold gW
  rw [RL h1 h2 h3]
  dsimp only
  rw [Fb fun x hx => h x (List.mem_cons_of_mem _ hx)]
theorem mR {p : cB} (h : jf p = true) : (1 ≤ p.cols.length ∧ p.cols.length ≤ 16 ∧ -1 ≤ p.group ∧ p.group ≤ p.cols.length) ∧ ∀ o ∈ p.cols, dG o.name = true := by
 unfold jf at h
 simp only [Bool.and_eq_true, List.all_eq_true, decide_eq_true_eq] at h
 exact ⟨h.1.1, fun o ho => (h.1.2 o ho).1⟩
theorem jm {p : cB} : qY p = true ↔ jf p = true ∧ (eY p.wh).2 = 0 ∧ ∀ o ∈ p.cols, za o = false := by
 unfold qY
 simp only [Bool.and_eq_true, List.all_eq_true, decide_eq_true_eq, Bool.not_eq_true', and_assoc]
theorem Px {p : cB} (h : qY p = true) : ∀ w ∈ iQ p, ∀ c ∈ w, c ≠ 10 := by
 obtain ⟨h1, h2, h3⟩ := jm.1 h
 have hn := (mR h1).2
 have key : ∀ {a b : List UInt8}, (∀ c ∈ a, c ≠ 10) → (∀ c ∈ b, c ≠ 10) → ∀ c ∈ a ++ b, c ≠ 10 := fun ha hb c hc => (List.mem_append.1 hc).elim (ha c) (hb c)
 intro w hw
 unfold iQ at hw
 rcases List.mem_cons.1 hw with rfl | hw
 ·unfold om
  refine key (by decide) ?_
  split
  ·decide
  exact Kj h2
 rcases List.mem_append.1 hw with hw | hw
 ·obtain ⟨o, ho, rfl⟩ := List.mem_map.1 hw
  have hb : ¬ ((eY o.steps).2 ≠ 0 ∨ (eY o.steps).1 = []) := of_decide_eq_false (h3 o ho)
  unfold nE
  exact key (key (key (by decide) (Kk (hn o ho)).1) (by decide)) (Kj (Classical.byContradiction fun h => hb (.inl h)))
 rw [List.mem_singleton.1 hw]
 unfold qc
 refine key (by decide) ?_
 split
 ·decide
 exact CO _
theorem Py {p : cB} (h : qY p = true) (hw : dV p.wh) (hc : ∀ o ∈ p.cols, dV o.steps) (hl : (jJ (iQ p)).length ≤ 1048576) : dX (jJ (iQ p)) = (p, 0, 0) := by
 obtain ⟨h1, h2, h3⟩ := jm.1 h
 obtain ⟨⟨n1, n2, n3, n4⟩, hn⟩ := mR h1
 have hlen : (iQ p).length = p.cols.length + 2 := by unfold iQ; simp
 have oK : gW (((iQ p).take (iQ p).length).drop 1) = p.cols := by
  rw [List.take_length]
  exact Fb fun o ho => ⟨h3 o ho, hn o ho, hc o ho⟩
 have hg : (iQ p).getD (1 + p.cols.length) [] = qc p.group := by
  unfold iQ
  rw [List.getD_eq_getElem?_getD, Nat.add_comm, List.getElem?_cons_succ, List.getElem?_append_right (by simp)]
  simp
 unfold dX
 rw [if_neg (by omega), Ew (Px h)]
 dsimp only
 rw [if_pos rfl, if_neg (by omega)]
 have Rf : (iQ p).getD 0 [] = om p.wh := rfl
 rw [Rf, MF h2 hw]
 dsimp only
 rw [oK, if_neg (by omega), hg, MG n3 (by omega)]
 dsimp only
 rw [if_neg (by omega), if_neg (by show ¬ qY p = false; rw [h]; decide)]
theorem uQ (sep : UInt8) : ∀ s : List UInt8, (bT sep s).length = s.count sep + 1
 | [] => rfl
 | c :: l => by
  have ih := uQ sep l
  unfold bT
  split
  ·rename_i h; subst h; simp [ih]
  rename_i h
  split
  ·rename_i w ws hw
   rw [hw] at ih
   rw [List.count_cons_of_ne (by simpa using h)]
   simpa using ih
  rename_i hw; rw [hw] at ih; simp at ih
end Go.Proofs.YtolaedhdjcnijaaGreatDoor
namespace Go.Proofs.YtolaedhdjcnijaaGreatDoor
open Go Go.Mw Go.Lib
set_option maxRecDepth 4000
def sS (g : Int) (i : Nat) : Nat := if 0 ≤ g ∧ g < i then 1 else 0
theorem Ab {α : Type} {l : List α} {i : Nat} {o : α} (h : l[i]? = some o) : l.drop i = o :: l.drop (i + 1) := by
 have bU := iE h
 rw [List.drop_eq_getElem_cons bU]
 rw [List.getElem?_eq_getElem bU] at h
 injection h with h
 rw [h]
section
variable {w : World}
theorem vV {cols : List gG} {p : cB} {vc vp : Value} (hc : dn w vc bE 7 cols) (hp : fD w vp p) (Ws : dV p.wh) (Wt : ∀ o ∈ p.cols, dV o.steps) (hn : p.cols.length ≤ 1000000) (hT : je w) :
    bF Tryz.prog 22 [vc, vp] w fun v w' => ∃ x, v = .tuple #[x, I (jN cols p).2] ∧ True ∧ Turn noB (cO 49 7 bE x (jN cols p).1) w w' := by
  have gu := hp
  obtain ⟨vw, vq, rfl, hw, r, hr, mG⟩ := hp
  obtain ⟨A, m, rfl, ⟨hm, xK⟩, hA⟩ := hr
  have AO := mG.len
  have H := Sep.bB w
  obtain ⟨res, ay⟩ : ∃ res, res = jN cols p := ⟨_, rfl⟩
  rw [← ay]
  unfold jN at ay
  obtain ⟨C, n, rfl, ⟨hwn, Z0⟩, hC⟩ := id hw
  refine eU Tryz.func22 rfl rfl rfl rfl ?_
  refine Sr (dz H (cs := [.slice C p.wh.length n, .slice A r.length m, I p.group]) rfl (h := fun b3 w2 H2 k1 => ?_))
  refine Am ?_
  refine Am ?_
  refine Qn (au (Sr (aZ H2 (h := ?_))))
  refine aN H2 (Kg (gu.keep H2.kept) (by omega)) (h := fun w7 H7 k6 => ?_)
  refine Vv (Gives.not rfl) (Qn ?_)
  refine Cd rfl (fun JI => ?_) (fun JI => ?_)
  · rw [if_pos (by simpa using JI)] at ay
    refine Sr (Am ?_)
    refine Am ?_
    refine Qn (Rs (ak (hR := ?_)))
    exact ⟨_, by rw [ay]; rfl, trivial, by rw [ay]; exact (Sep.iX H7 49 7 bE).first.turn⟩
  rw [if_neg (by simpa using JI)] at ay
  have Ya : p.cols.length ≤ 16 := (mR (by simpa using JI)).1.2.1
  refine Sk (fO (fun _ : Unit => [(0, vc), (3, bI b3)]) (fun _ w' => res = uN cols p.group 0 p.cols [] ∧ Sep w noB [blk b3 [.slice C p.wh.length n, .slice A r.length m, I p.group] 25] w') ?_ ?_)
  · refine Sr (Vf ?_)
    refine Ld H7 ?_
    refine Vs ?_
    refine Vg ?_
    refine Qn (Cp rfl (fun Ia => ?_) (fun Ia => ?_))
    · have fM : p.wh ≠ [] := fun e => by rw [e] at Ia; exact absurd Ia (by decide)
      refine Sr (Mv ?_)
      refine Vf ?_
      refine Ld H7 ?_
      refine aN H7 (La (hc.keep H7.kept) (hw.keep H7.kept) Ws (hT.keep H7.kept).utf) (h := fun wa Ha ka => ?_)
      refine Mv ?_
      refine Vx ?_
      refine Vx ?_
      refine bD Ha (h := fun b6 wb Hb kb => ?_)
      refine aD Hb (h := fun wc Hc => ?_)
      refine Am ?_
      refine Qn (aF (Sr (Mv ?_)))
      refine Vn ?_
      refine Am ?_
      refine Qn (Cp rfl (fun Ib => ?_) (fun Ib => ?_))
      · rw [if_pos ⟨fM, Ib⟩] at ay
        refine Sr (Mv ?_)
        refine Am ?_
        refine Am ?_
        refine Qn (aM (aH (gH (ak (hR := ?_)))))
        exact ⟨_, by rw [ay]; rfl, trivial, by rw [ay]; exact (Sep.iX Hc 49 7 bE).first.turn⟩
      rw [if_neg (fun h => Ib h.2)] at ay
      refine Sr (Vf ?_)
      refine Ld Hc ?_
      refine Vn ?_
      refine Am ?_
      refine Qn (Cp rfl (fun Ic => ?_) (fun Ic => ?_))
      · rw [if_pos ⟨fM, Ic⟩] at ay
        refine Sr (Am ?_)
        refine Am ?_
        refine Qn (aM (aH (gH (ak (hR := ?_)))))
        exact ⟨_, by rw [ay]; rfl, trivial, by rw [ay]; exact (Sep.iX Hc 49 7 bE).first.turn⟩
      rw [if_neg (fun h => Ic h.2)] at ay
      refine aY (aA ?_)
      exact aS () ⟨rfl, rfl, trivial⟩ ⟨ay, Hc.fI⟩
    have he : p.wh = [] := List.eq_nil_of_length_eq_zero (by omega)
    rw [if_neg (fun h => h.1 he), if_neg (fun h => h.1 he)] at ay
    refine aY ?_
    exact aS () ⟨rfl, rfl, trivial⟩ ⟨ay, H7⟩
  rintro _ τ wd ⟨hres2, Hd⟩
  simp only [cZ, like, bC, bZ]
  refine Sr (bD Hd (h := fun b8 we He kc => ?_))
  refine Nx (Vv (Gives.makeFunc (fs := []) (us := []) (cs := [.tmp 8]) rfl rfl) (Am ?_))
  refine Nx (Vv (Gives.build (out := aJ gq) (Fills.one rfl rfl rfl (by simp) rfl Fills.nil)) (bD He (h := fun b10 wf Hf kd => ?_)))
  refine aD Hf (h := fun wg Hg => ?_)
  refine Qn (au (Sr (Vf ?_)))
  refine Ld Hg ?_
  refine Vs ?_
  refine Mv ?_
  refine Qn (aF ?_)
  have Hh : Mw.Sep w noB [Ba b8 [], blk b10 (aJ gq) 45, blk b3 [.slice C p.wh.length n, .slice A r.length m, I p.group] 25] wg := by
    have h1 := (Sep.iX (Hg.dS) 49 7 bE).dS
    exact Sep.AX (p := fun v => star (blk b8 [v] 40) (cO 49 7 bE v [])) _ (Sep.uJ h1)
  refine bA (fun x : Nat × List gG => [(0, vc), (3, bI b3), (8, bI b8), (9, .func (.func 62) #[] #[bI b8]), (10, bI b10), (40, .slice A r.length m), (41, I r.length), (42, I x.1)]) (fun x w' => (x.1 ≤ r.length ∧ x.2.length = x.1 + sS p.group x.1 ∧ uN cols p.group x.1 (p.cols.drop x.1) x.2 = res) ∧ Sep w noB [Ba b8 x.2, blk b10 (aJ gq) 45, blk b3 [.slice C p.wh.length n, .slice A r.length m, I p.group] 25] w') (fun x _ => r.length - x.1) (0, []) ⟨rfl, rfl, rfl, rfl, rfl, rfl, rfl, rfl, trivial⟩ ⟨⟨Nat.zero_le _, by dsimp only; unfold sS; rw [if_neg (by omega)]; rfl, hres2.symm⟩, Hh⟩ (fun x τ wi hI => ?_)
  obtain ⟨i, acc⟩ := x
  obtain ⟨⟨hi, JJ, dJ⟩, Hh⟩ := hI
  dsimp only at hi JJ dJ Hh
  have hai : sS p.group i ≤ 1 := by unfold sS; split <;> omega
  have adw : acc.length ≤ i + 1 := by omega
  try simp only [cZ, like, bC]
  refine Sr (Vl ?_)
  refine Qn (au (Cp rfl (fun Id => ?_) (fun Id => ?_)))
  · have bU : i < p.cols.length := by omega
    obtain ⟨vx, hx, uG⟩ := mG.at bU
    obtain ⟨Ax, cx, rfl, _⟩ := id uG
    have pq : p.cols[i]? = some p.cols[i] := List.getElem?_eq_getElem bU
    obtain ⟨o, ho⟩ : ∃ o, o = p.cols[i] := ⟨_, rfl⟩
    rw [← ho] at hx uG pq
    have hof := Wt o (List.mem_of_getElem? pq)
    rw [Ab pq, uN] at dJ
    unfold sS at JJ
    refine Sk (au (aF (Sr (Mv ?_))))
    refine Vv (Gives.eT rfl rfl (by assumption) (by omega)) (Vv (Gives.iM rfl Hh (by assumption) (by assumption)) ?_)
    refine bD Hh (h := fun b12 wj Hi ke => ?_)
    refine Am ?_
    refine aD Hi (h := fun wk Hj => ?_)
    refine Nx (Mv ?_)
    refine Vf ?_
    refine Ld Hj ?_
    refine aN Hj (La (hc.keep Hj.kept) (uG.keep Hj.kept) hof (hT.keep Hj.kept).utf) (h := fun wl Hk kf => ?_)
    refine Mv ?_
    refine Vx ?_
    refine Vx ?_
    refine bD Hk (h := fun b13 wm Hl kg => ?_)
    refine aD Hl (h := fun wn Hm => ?_)
    refine Am ?_
    refine Qn (au (Sr (Mv ?_)))
    refine Vn ?_
    refine Qn (Cp rfl (fun Ie => ?_) (fun Ie => ?_))
    · rw [if_pos Ie] at dJ
      refine Sr (Mv ?_)
      refine Am ?_
      refine Am ?_
      refine Qn (Rs (aH (aL (aR (aH (aL (ak (hR := ?_))))))))
      exact ⟨_, by rw [← dJ]; rfl, trivial, by rw [← dJ]; exact (Sep.iX Hm 49 7 bE).first.turn⟩
    rw [if_neg Ie] at dJ
    refine Sk (fO (fun _ : Unit => [(0, vc), (3, bI b3), (8, bI b8), (9, .func (.func 62) #[] #[bI b8]), (10, bI b10), (11, I i), (12, bI b12), (13, bI b13), (40, .slice A r.length m), (41, I r.length), (42, I i)]) (fun _ w' => Sep w noB [blk b13 (aJ (iT cols o.steps).1) 45, blk b12 (bO (o.name, .slice Ax o.steps.length cx)) 53, Ba b8 (if (i : Int) = p.group then acc ++ [ng ((i : Int) + 1) eB gq] else acc), blk b10 (aJ gq) 45, blk b3 [.slice C p.wh.length n, .slice A r.length m, I p.group] 25] w') ?_ ?_)
    · refine Sr (Mv ?_)
      refine Vf ?_
      refine Ld Hm ?_
      refine Ve ?_
      refine Qn (Cp rfl (fun If => ?_) (fun If => ?_))
      · have Wu : (i : Int) = p.group := If
        refine aB (Mv ?_)
        refine aZ Hm (h := ?_)
        obtain ⟨F0, JK, nk, bJ⟩ := Hm.focus At2
        refine jr (vals := [str eB, agg (aJ gq)]) rfl (rQ eB gq JK (by omega)) rfl rfl (fun v' wo hv => ?_)
        obtain ⟨rfl, dK, F1, hq, gV⟩ := hv
        have Hn := bJ _ F1 _ dK hq gV
        rw [if_neg (by omega)] at JJ
        have hid : ((acc.length + 1 : Nat) : Int) = (i : Int) + 1 := by omega
        rw [hid] at Hn
        refine aP ?_
        exact aS () ⟨rfl, rfl, rfl, rfl, rfl, rfl, rfl, rfl, rfl, rfl, rfl, trivial⟩ (by rw [if_pos Wu]; exact Hn)
      have Wu : ¬ (i : Int) = p.group := If
      refine aY ?_
      exact aS () ⟨rfl, rfl, rfl, rfl, rfl, rfl, rfl, rfl, rfl, rfl, rfl, trivial⟩ (by rw [if_neg Wu]; exact Hm)
    intro _ τ wp Ho
    simp only [cZ, like, bC]
    refine au (Sr (Vf ?_))
    refine Ld Ho ?_
    refine Vv (Gives.geq rfl rfl) (Mv ?_)
    refine aG (t := 67) rfl (fun Sa => ?_) (fun Sa => ?_)
    · refine On (Mv ?_)
      refine On (Vf ?_)
      refine On (Ld Ho ?_)
      refine On (Vv (Gives.geq rfl rfl) (Pt ?_))
      refine Qn (Cp rfl (fun Ig => ?_) (fun Ig => ?_))
      · have Ee : 0 ≤ p.group ∧ p.group ≤ i := ⟨by omega, Ig⟩
        rw [if_pos Ee] at dJ
        refine au (Sr (Vf ?_))
        refine Ld Ho ?_
        refine Vn ?_
        refine Qn (Cp rfl (fun Ih => ?_) (fun Ih => ?_))
        · rw [if_pos Ih] at dJ
          refine Sr (Am ?_)
          refine Am ?_
          refine Qn (Rs (aL (aH (aL (aR (aH (aL (ak (hR := ?_)))))))))
          exact ⟨_, by rw [← dJ]; rfl, trivial, by rw [← dJ]; exact (Sep.iX Ho 49 7 bE).first.turn⟩
        rw [if_neg Ih] at dJ
        refine Sk (aB (aZ Ho (h := ?_)))
        refine aD Ho (h := fun wq Hp => ?_)
        refine Qn (aB (Mv ?_))
        refine Vf ?_
        refine Ld Hp ?_
        refine aZ Hp (h := ?_)
        obtain ⟨acc2, L6⟩ : ∃ acc2, acc2 = if (i : Int) = p.group then acc ++ [ng ((i : Int) + 1) eB gq] else acc := ⟨_, rfl⟩
        rw [← L6] at Hp dJ
        have abj : acc2.length = i + 1 := by
          rw [L6]
          split
          · rw [if_neg (by omega)] at JJ
            rw [List.length_append, List.length_singleton]; omega
          rw [if_pos (by omega)] at JJ
          omega
        have hid : ((acc2.length + 1 : Nat) : Int) = (i : Int) + 2 := by omega
        obtain ⟨F0, JK, nk, bJ⟩ := Hp.focus At2
        refine jr (vals := [str o.name, agg (aJ gq)]) rfl (rQ o.name _ JK (by omega)) rfl rfl (fun v' wr hv => ?_)
        obtain ⟨rfl, dK, F1, hq, gV⟩ := hv
        have Hq := bJ _ F1 _ dK hq gV
        rw [hid] at Hq
        refine aP (aA (aj (aB (Vv (Gives.bM rfl rfl rfl (by omega)) ?_))))
        refine Mv ?_
        refine aP ?_
        exact aC (i + 1, acc2 ++ [ng ((i : Int) + 2) o.name gq]) ⟨rfl, rfl, rfl, rfl, rfl, rfl, rfl, rfl, trivial⟩ ⟨⟨by dsimp only; omega, by dsimp only; rw [List.length_append, List.length_singleton]; unfold sS; rw [if_pos (by omega)]; omega, dJ⟩, Hq.fI.fI⟩ (by dsimp only; omega)
      have Ee : ¬ (0 ≤ p.group ∧ p.group ≤ i) := fun h => Ig h.2
      rw [if_neg Ee] at dJ
      refine Sk (aB (Mv ?_))
      refine Vf ?_
      refine Ld Ho ?_
      refine aZ Ho (h := ?_)
      rw [if_neg (show ¬ (i : Int) = p.group from fun e => Ee ⟨by omega, by omega⟩)] at Ho
      rw [if_neg (by omega)] at JJ
      have hid : ((acc.length + 1 : Nat) : Int) = (i : Int) + 1 := by omega
      obtain ⟨F0, JK, nk, bJ⟩ := Ho.focus At2
      refine jr (vals := [str o.name, agg (aJ (iT cols o.steps).1)]) rfl (rQ o.name _ JK (by omega)) rfl rfl (fun v' ws hv => ?_)
      obtain ⟨rfl, dK, F1, hq, gV⟩ := hv
      have Hr := bJ _ F1 _ dK hq gV
      rw [hid] at Hr
      refine aP (aA (aj (aB (Vv (Gives.bM rfl rfl rfl (by omega)) ?_))))
      refine Mv ?_
      refine aP ?_
      exact aC (i + 1, acc ++ [ng ((i : Int) + 1) o.name (iT cols o.steps).1]) ⟨rfl, rfl, rfl, rfl, rfl, rfl, rfl, rfl, trivial⟩ ⟨⟨by dsimp only; omega, by dsimp only; rw [List.length_append, List.length_singleton]; unfold sS; rw [if_neg (by omega)]; omega, dJ⟩, Hr.fI.fI⟩ (by dsimp only; omega)
    have Ee : ¬ (0 ≤ p.group ∧ p.group ≤ i) := fun h => Sa h.1
    rw [if_neg Ee] at dJ
    refine Of (Of (Of (Of (Pf ?_))))
    refine Qn (bg rfl ?_)
    refine Sk (aB (Mv ?_))
    refine Vf ?_
    refine Ld Ho ?_
    refine aZ Ho (h := ?_)
    rw [if_neg (show ¬ (i : Int) = p.group from fun e => Ee ⟨by omega, by omega⟩)] at Ho
    rw [if_neg (by omega)] at JJ
    have hid : ((acc.length + 1 : Nat) : Int) = (i : Int) + 1 := by omega
    obtain ⟨F0, JK, nk, bJ⟩ := Ho.focus At2
    refine jr (vals := [str o.name, agg (aJ (iT cols o.steps).1)]) rfl (rQ o.name _ JK (by omega)) rfl rfl (fun v' wt hv => ?_)
    obtain ⟨rfl, dK, F1, hq, gV⟩ := hv
    have Hs := bJ _ F1 _ dK hq gV
    rw [hid] at Hs
    refine aP (aA (aj (aB (Vv (Gives.bM rfl rfl rfl (by omega)) ?_))))
    refine Mv ?_
    refine aP ?_
    exact aC (i + 1, acc ++ [ng ((i : Int) + 1) o.name (iT cols o.steps).1]) ⟨rfl, rfl, rfl, rfl, rfl, rfl, rfl, rfl, trivial⟩ ⟨⟨by dsimp only; omega, by dsimp only; rw [List.length_append, List.length_singleton]; unfold sS; rw [if_neg (by omega)]; omega, dJ⟩, Hs.fI.fI⟩ (by dsimp only; omega)
  have jW : i = r.length := by omega
  rw [jW, AO, List.drop_length, uN] at dJ
  rw [jW, AO] at JJ
  unfold sS at JJ
  refine bq (aT (aO (aV (aj (au (Sr (Vf ?_)))))))
  refine Ld Hh ?_
  refine Vf ?_
  refine Ld Hh ?_
  refine Vs ?_
  refine Ve ?_
  refine Qn (Cp rfl (fun Ii => ?_) (fun Ii => ?_))
  · rw [if_pos (by omega)] at dJ
    rw [if_neg (by omega)] at JJ
    refine aB (Mv ?_)
    refine aZ Hh (h := ?_)
    have hid : ((acc.length + 1 : Nat) : Int) = p.group + 1 := by omega
    obtain ⟨F0, JK, nk, bJ⟩ := Hh.focus At0
    refine jr (vals := [str eB, agg (aJ gq)]) rfl (rQ eB gq JK (by omega)) rfl rfl (fun v' wu hv => ?_)
    obtain ⟨rfl, dK, F1, hq, gV⟩ := hv
    have Ht := bJ _ F1 _ dK hq gV
    rw [hid] at Ht
    refine Nx ?_
    have Hu := Ht
    unfold Ba at Hu
    obtain ⟨v8, Hu⟩ := Hu.ex0
    have Hu := Hu.ny
    refine Ld Hu ?_
    refine Am ?_
    refine Am ?_
    refine Qn (aM (ak (hR := ?_)))
    exact ⟨v8, by rw [← dJ]; rfl, trivial, by rw [← dJ]; exact Hu.dS.first.turn⟩
  rw [if_neg (by omega)] at dJ
  refine Sk (Sr ?_)
  have Hv := Hh
  unfold Ba at Hv
  obtain ⟨v8, Hv⟩ := Hv.ex0
  have Hv := Hv.ny
  refine Ld Hv ?_
  refine Am ?_
  refine Am ?_
  refine Qn (aM (ak (hR := ?_)))
  exact ⟨v8, by rw [← dJ]; rfl, trivial, by rw [← dJ]; exact Hv.dS.first.turn⟩
end
end Go.Proofs.YtolaedhdjcnijaaGreatDoor
