/-
 Plans parsed, as the document does it, walked.
-/
import Derived.Test.YtolaedhdjcnijaaGreatDoorKk12
import Derived.Test.YtolaedhdjcnijaaGreatDoorKk5
import Derived.Test.YtolaedhdjcnijaaGreatDoorKk2
import Derived.Test.YtolaedhdjcnijaaGreatDoorKk10
import Derived.Test.YtolaedhdjcnijaaGreatDoorKk11
set_option linter.unusedVariables false
set_option linter.unusedSimpArgs false
namespace Go.Mw
open Go.RowKit
theorem Bf {P : Program} {w w₀ : World} {S : Nat → Prop} {rs : List HP} {put : HP → List HP} {σ : St} {us : List Value} {a b k E : Nat} {T : TypeId} [Agg P T k] {t u : Nat} {v z : Value} (H : Sep w₀ S rs w) (hx : σ a = .pointer (some ⟨b, 0, none⟩) := by exact rfl) (hat : At rs (blk b us E) put := by first | exact At0 | exact At1 | exact At2 | exact At3 | exact At4 | exact At5 | exact At6 | exact At7 | exact At8 | exact At9) (hk : us.length = k := by exact rfl) (hv : σ t = v := by exact rfl) (hu : σ u = z := by exact rfl) :
    nJ P σ w [.cell a T, .tmp t, .tmp u] [.agg us.toArray, v, z] :=
  ⟨_, _, _, rfl, hx, jw (k := k) (H.obj hat) (us := us) (by rw [List.drop_zero, ← hk, List.take_length]) hk, _, by subst hv; rfl, _, by subst hu; rfl, rfl⟩
end Go.Mw
namespace Go.Proofs.YtolaedhdjcnijaaGreatDoor
open Go Go.Mw Go.Lib
set_option maxRecDepth 4000
theorem PX {s x : List UInt8} (h : x ∈ (dU s).1) : x.length ≤ s.length := by
 refine uV s x ?_
 unfold dU at h
 split at h
 ·exact (List.dropLast_sublist _).subset h
 exact h
theorem PY (s : List UInt8) : (dU s).1.length ≤ s.length + 1 := by
 have h1 := uQ 10 s
 have h2 := List.count_le_length (a := (10 : UInt8)) (l := s)
 unfold dU
 split
 ·show (bT 10 s).dropLast.length ≤ _
  rw [List.length_dropLast]; omega
 show (bT 10 s).length ≤ _
 omega
theorem M5 {s : List UInt8} (h : (dU s).2 = false) : 1 ≤ (dU s).1.length := by
 unfold dU at h ⊢
 split
 ·rw [if_pos (by assumption)] at h; cases h
 exact List.length_pos_iff.2 (vU s)
theorem R6 {α : Type} {l : List α} {m k : Nat} {x : α} (hk : k < m) (h : l[k]? = some x) : (l.take m)[k]? = some x := by rw [List.getElem?_take, if_pos hk, h]
section
variable {w : World}
theorem M6 (s : List UInt8) (hl : s.length ≤ 900000) : bF Tryz.prog 16 [str s] w fun v w' => ∃ x, v = .tuple #[x, I (dX s).2.1, I (dX s).2.2] ∧ True ∧ Turn noB (qK x (dX s).1) w w' := by
  have H := Sep.bB w
  obtain ⟨res, ay⟩ : ∃ res, res = dX s := ⟨_, rfl⟩
  rw [← ay]
  unfold dX at ay
  rw [if_neg (by omega)] at ay
  dsimp only at ay
  have Xi := fun x => PX (s := s) (x := x)
  have Uz := PY s
  have YR := M5 (s := s)
  have hlo := CY (w := w) s (by omega)
  obtain ⟨L, hL⟩ : ∃ L, L = (dU s).1 := ⟨_, rfl⟩
  obtain ⟨wh, Wv⟩ : ∃ wh, wh = (dU s).2 := ⟨_, rfl⟩
  rw [← hL] at Xi Uz YR
  rw [← hL, ← Wv] at ay
  rw [← Wv] at YR
  obtain ⟨many, Eh⟩ : ∃ m, m = if wh = true then L.length else L.length - 1 := ⟨_, rfl⟩
  rw [← Eh] at ay
  have yV : many ≤ L.length := by rw [Eh]; split <;> omega
  refine qo Tryz.func16 rfl rfl rfl rfl ?_
  refine Sr (bD H (h := fun b2 w2 H2 k1 => ?_))
  refine Am ?_
  refine Am ?_
  refine Qn (au (Sr (Mv ?_)))
  refine Vt ?_
  refine Vg ?_
  refine Qn (Cp rfl (fun xL => ?_) (fun xL => ?_))
  · omega
  refine Sk (Sr (Mv ?_))
  refine eX H2 (CY s (by omega)) (h := fun x wa _ Ha ka => ?_)
  rw [← hL] at Ha
  rw [← Wv]
  obtain ⟨A, c, rfl, hc, _⟩ := Sep.fJ Ha At0
  refine Mv ?_
  refine Vx ?_
  refine Vx ?_
  refine Am ?_
  refine Am ?_
  refine Nx (Mv ?_)
  refine Vs ?_
  refine Am ?_
  refine Qn (fO (fun _ : Unit => [(2, bI b2), (5, .slice A L.length c), (7, I many)]) (fun _ w' => Sep w noB [cO 9 1 bX (.slice A L.length c) L, blk b2 [.slice none 0 0, .slice none 0 0, I 0] 25] w') ?_ ?_)
  · refine Sr (Mv ?_)
    refine Vv (Gives.not rfl) (Qn ?_)
    refine Cd rfl (fun Ia => ?_) (fun Ia => ?_)
    · have hwf : wh = false := by simpa using Ia
      refine aB (Mv ?_)
      refine Vv (Gives.yh (c := ((L.length - 1 : Nat) : Int)) rfl rfl (by have := YR hwf; omega) (by omega)) (Am ?_)
      refine aP ?_
      exact aS () ⟨rfl, rfl, by rw [Eh, if_neg (by rw [hwf]; decide)]; rfl, trivial⟩ Ha
    have hwf : wh = true := by simpa using Ia
    refine aY ?_
    exact aS () ⟨rfl, rfl, by rw [Eh, if_pos hwf]; rfl, trivial⟩ Ha
  intro _ τ wb Hb
  simp only [cZ, like, bC, bZ]
  refine au (Sr (Mv ?_))
  refine Vl ?_
  refine Qn (Cp rfl (fun Ib => ?_) (fun Ib => ?_))
  · rw [if_pos (by omega)] at ay
    refine Sr (Vv (Gives.build (out := [.slice none 0 0, .slice none 0 0, I 0]) Fills.nil) (aD Hb (h := fun wc Hc => ?_)))
    refine Am ?_
    refine Am ?_
    refine Qn (Rs (aW (h := ?_)))
    exact ⟨_, Bf Hc, _, by rw [ay]; rfl, trivial, by rw [ay]; exact jO Hc⟩
  rw [if_neg (by omega)] at ay
  obtain ⟨l0, Yk⟩ := get_some (l := L) (i := 0) (by omega)
  rw [l6 Yk] at ay
  have adJ := Xi l0 (List.mem_of_getElem? Yk)
  refine Sk (Sr (Mv ?_))
  refine Vv (Gives.eT (l := L) (enc := bX) (i := 0) rfl rfl (fT Hb At0) (by omega)) (Vv (Gives.o8 (i := 0) (f := 0) rfl (fT Hb At0) Yk rfl) ?_)
  refine eX Hb (MV l0 (by omega)) (h := fun x wd hφ Hd kb => ?_)
  obtain ⟨vw, lw⟩ := x
  dsimp only at hφ Hd ⊢
  obtain ⟨W, cw, rfl, _, _⟩ := Sep.fJ Hd At0
  refine Mv ?_
  refine Vx ?_
  refine Vx ?_
  refine Am ?_
  refine Am ?_
  refine Qn (au (Sr (Mv ?_)))
  refine Vv (Gives.not rfl) (Qn ?_)
  refine Cd rfl (fun Ic => ?_) (fun Ic => ?_)
  · have hwn : lN l0 = none := by
      cases h : lN l0 with
      | none => rfl
      | some u => rw [h] at Ic; exact absurd Ic (by simp)
    rw [hwn] at ay
    dsimp only at ay
    refine Sr (Vv (Gives.build (out := [.slice none 0 0, .slice none 0 0, I 0]) Fills.nil) (aD Hd (h := fun we He => ?_)))
    refine Am ?_
    refine Am ?_
    refine Qn (Rs (aW (h := ?_)))
    exact ⟨_, Bf He, _, by rw [ay]; rfl, trivial, by rw [ay]; exact jO He⟩
  obtain ⟨wv, hwv⟩ := Option.isSome_iff_exists.1 (show (lN l0).isSome = true by simpa using Ic)
  have hlw := hφ wv hwv
  subst hlw
  rw [hwv] at ay
  dsimp only at ay
  obtain ⟨M, hM⟩ : ∃ M, M = L.take many := ⟨_, rfl⟩
  rw [← hM] at ay
  refine Sk (Sr (Mv ?_))
  refine Vv (Gives.build (out := [.slice W lw.length cw, .slice none 0 0, I 0]) (Fills.one rfl rfl rfl (by simp) rfl Fills.nil)) (bD Hd (h := fun b10 wf Hf kc => ?_))
  refine aD Hf (h := fun wg Hg => ?_)
  refine Nx (Am ?_)
  refine Qn (fO (fun z : List jM × (Option Addr × Nat) × List (List UInt8 × Value) => [(2, bI b2), (5, .slice A L.length c), (7, I many), (10, bI b10), (11, I (1 + z.1.length : Nat))]) (fun z w' => (gW (M.drop 1) = z.1 ∧ z.2.2.length = z.1.length ∧ 1 + z.1.length ≤ many) ∧ Sep w noB [qJ z.2.2 z.1, cO 53 2 bO (.slice z.2.1.1 z.2.2.length z.2.1.2) z.2.2, blk b10 [.slice W lw.length cw, .slice z.2.1.1 z.2.2.length z.2.1.2, I 0] 25, zh (.slice W lw.length cw) aI 3 lw, cO 9 1 bX (.slice A L.length c) L, blk b2 [.slice none 0 0, .slice none 0 0, I 0] 25] w') ?_ ?_)
  · refine aF ?_
    have Hh := qg (Sep.iX (jD Hg.dS At0).dS 53 2 bO)
    refine bA (fun z : List jM × (Option Addr × Nat) × List (List UInt8 × Value) => [(2, bI b2), (5, .slice A L.length c), (7, I many), (10, bI b10), (11, I (1 + z.1.length : Nat))]) (fun z w' => (gW (M.drop 1) = z.1 ++ gW (M.drop (1 + z.1.length)) ∧ z.2.2.length = z.1.length ∧ 1 + z.1.length ≤ many) ∧ Sep w noB [qJ z.2.2 z.1, cO 53 2 bO (.slice z.2.1.1 z.2.2.length z.2.1.2) z.2.2, blk b10 [.slice W lw.length cw, .slice z.2.1.1 z.2.2.length z.2.1.2, I 0] 25, zh (.slice W lw.length cw) aI 3 lw, cO 9 1 bX (.slice A L.length c) L, blk b2 [.slice none 0 0, .slice none 0 0, I 0] 25] w') (fun z _ => many - z.1.length) ([], (none, 0), []) ⟨rfl, rfl, rfl, rfl, rfl, trivial⟩ ⟨⟨rfl, rfl, by dsimp only [List.length_nil]; omega⟩, Hh⟩ (fun z τ wi hI => ?_)
    obtain ⟨cs, ⟨C, cc⟩, r⟩ := z
    obtain ⟨⟨oK, AO, YS⟩, Hh⟩ := hI
    dsimp only at oK AO YS Hh
    try simp only [cZ, like, bC]
    refine au (Sr (Mv ?_))
    refine Mv ?_
    refine Vl ?_
    refine Qn (Cp rfl (fun Id => ?_) (fun Id => ?_))
    · have bU : 1 + cs.length < many := by omega
      obtain ⟨li, Z6⟩ := get_some (l := L) (i := 1 + cs.length) (by omega)
      have adL := Xi li (List.mem_of_getElem? Z6)
      have hMi := R6 bU Z6
      rw [← hM] at hMi
      rw [Ab hMi, gW] at oK
      refine Sk (aF (Sr (Mv ?_)))
      refine Mv ?_
      refine Vv (Gives.eT (l := L) (enc := bX) (i := 1 + cs.length) rfl rfl (fT Hh At4) (by omega)) (Vv (Gives.o8 (i := 1 + cs.length) (f := 0) rfl (fT Hh At4) Z6 rfl) ?_)
      refine eX Hh (RZ li (by omega)) (h := fun x wj hψ Hi kd => ?_)
      obtain ⟨on, vx, os⟩ := x
      dsimp only at hψ Hi ⊢
      obtain ⟨X, cx, rfl, _, _⟩ := Sep.fJ Hi At0
      refine Mv ?_
      refine Vx ?_
      refine Vx ?_
      refine bD Hi (h := fun b12 wk Hj ke => ?_)
      refine aD Hj (h := fun wl Hk => ?_)
      refine Am ?_
      refine Qn (au (Sr (Mv ?_)))
      refine Vv (Gives.not rfl) (Qn ?_)
      refine Cd rfl (fun Ie => ?_) (fun Ie => ?_)
      · have hon : qd li = none := by
          cases h : qd li with
          | none => rfl
          | some u => rw [h] at Ie; exact absurd Ie (by simp)
        rw [hon] at oK
        dsimp only at oK
        rw [List.append_nil] at oK
        refine bq (aT (gX rfl (aO (aV ?_))))
        exact aS (cs, (C, cc), r) ⟨rfl, rfl, rfl, rfl, rfl, trivial⟩ ⟨⟨oK, AO, YS⟩, Hk.fI.fI⟩
      obtain ⟨o, ho⟩ := Option.isSome_iff_exists.1 (show (qd li).isSome = true by simpa using Ie)
      obtain ⟨rfl, rfl⟩ := hψ o ho
      rw [ho] at oK
      dsimp only at oK
      refine Sk (Sr (Vf ?_))
      refine Ld Hk ?_
      refine aZ Hk (h := ?_)
      refine aX Hk (xs := [.tmp 63]) (out := [(o.name, Value.slice X o.steps.length cx)].flatMap bO) (aU.many rfl rfl aU.nil) rfl rfl rfl (fun bs wm Hl kf => ?_)
      refine gK Hl (news := [(o.name, Value.slice X o.steps.length cx)]) At3 (by unfold maxLen; simp; omega) (by simp; omega) (uU rfl) (h := ?_)
      intro v2 wn Hm
      obtain ⟨C2, cc2, rfl, _, _⟩ := Sep.fJ Hm At3
      refine Vf ?_
      refine bW Hm (h := fun wo Hn => ?_)
      refine Qn (aB (Mv ?_))
      refine Vv (Gives.bM (c := ((1 + (cs ++ [o]).length : Nat) : Int)) rfl rfl (by rw [List.length_append, List.length_singleton]; omega) (by rw [List.length_append, List.length_singleton]; omega)) ?_
      refine Am ?_
      refine aP (aA ?_)
      exact aC (cs ++ [o], (C2, cc2), r ++ [(o.name, Value.slice X o.steps.length cx)]) ⟨rfl, rfl, rfl, rfl, rfl, trivial⟩ ⟨⟨by dsimp only; rw [List.length_append, List.length_singleton, oK, List.append_assoc]; rfl, by dsimp only; rw [List.length_append, List.length_append, AO]; rfl, by dsimp only; rw [List.length_append, List.length_singleton]; omega⟩, qL Hn.fI⟩ (by dsimp only; rw [List.length_append, List.length_singleton]; omega)
    rw [List.drop_of_length_le (show M.length ≤ 1 + cs.length by rw [hM, List.length_take]; omega), gW, List.append_nil] at oK
    refine bq (aT (aO (aV ?_)))
    exact aS (cs, (C, cc), r) ⟨rfl, rfl, rfl, rfl, rfl, trivial⟩ ⟨⟨oK, AO, YS⟩, Hh⟩
  rintro ⟨cs, ⟨C, cc⟩, r⟩ τ wp ⟨⟨oK, AO, YS⟩, Ho⟩
  dsimp only at oK AO YS Ho
  rw [oK] at ay
  simp only [cZ, like, bC]
  refine au (Sr (Mv ?_))
  refine Mv ?_
  refine Vv (Gives.geq rfl rfl) (Mv ?_)
  refine aG (t := 72) rfl (fun Sa => ?_) (fun Sa => ?_)
  · rw [if_pos (.inl (by omega))] at ay
    refine Of (Of (Of (Of (Pt ?_))))
    refine Qn (aQ rfl ?_)
    refine Sr (Vv (Gives.build (out := [.slice none 0 0, .slice none 0 0, I 0]) Fills.nil) (Mv ?_))
    refine aD Ho (h := fun wq Hp => ?_)
    refine Am ?_
    refine Am ?_
    refine Qn (Rs (aW (h := ?_)))
    exact ⟨_, Bf Hp, _, by rw [ay]; rfl, trivial, by rw [ay]; exact jO Hp⟩
  refine On (Vf ?_)
  refine On (Ld Ho ?_)
  refine On (Vs ?_)
  refine On (Ve ?_)
  refine Pf ?_
  refine Qn (Cp rfl (fun If => ?_) (fun If => ?_))
  · rw [if_pos (.inr (by omega))] at ay
    refine Sr (Vv (Gives.build (out := [.slice none 0 0, .slice none 0 0, I 0]) Fills.nil) (Mv ?_))
    refine aD Ho (h := fun wr Hq => ?_)
    refine Am ?_
    refine Am ?_
    refine Qn (Rs (aW (h := ?_)))
    exact ⟨_, Bf Hq, _, by rw [ay]; rfl, trivial, by rw [ay]; exact jO Hq⟩
  rw [if_neg (by omega)] at ay
  obtain ⟨lg, hlg⟩ := get_some (l := L) (i := 1 + cs.length) (by omega)
  rw [l6 hlg] at ay
  have adN := Xi lg (List.mem_of_getElem? hlg)
  refine Sk (Sr (Mv ?_))
  refine Mv ?_
  refine Vv (Gives.eT (l := L) (enc := bX) (i := 1 + cs.length) rfl rfl (fT Ho At4) (by omega)) (Vv (Gives.o8 (i := 1 + cs.length) (f := 0) rfl (fT Ho At4) hlg rfl) ?_)
  refine bH (MU lg (by omega)) rfl rfl (fun v' ws hv => ?_)
  obtain ⟨⟨gn, rfl, hgn⟩, dK⟩ := hv
  have Hr := Ho.keep dK
  refine Mv ?_
  refine Vx ?_
  refine Vx ?_
  refine Am ?_
  refine Am ?_
  refine Qn (au (Sr (Mv ?_)))
  refine Vv (Gives.not rfl) (Qn ?_)
  refine Cd rfl (fun Ig => ?_) (fun Ig => ?_)
  · have Z7 : jY lg = none := by
      cases h : jY lg with
      | none => rfl
      | some u => rw [h] at Ig; exact absurd Ig (by simp)
    rw [Z7] at ay
    dsimp only at ay
    refine Sr (Vv (Gives.build (out := [.slice none 0 0, .slice none 0 0, I 0]) Fills.nil) (Mv ?_))
    refine aD Hr (h := fun wt Hs => ?_)
    refine Am ?_
    refine Am ?_
    refine Qn (Rs (aW (h := ?_)))
    exact ⟨_, Bf Hs, _, by rw [ay]; rfl, trivial, by rw [ay]; exact jO Hs⟩
  obtain ⟨g, hg⟩ := Option.isSome_iff_exists.1 (show (jY lg).isSome = true by simpa using Ig)
  obtain rfl := hgn g hg
  rw [hg] at ay
  dsimp only at ay
  refine Sk (au (Sr (Mv ?_)))
  refine Vv (Gives.bM (c := ((1 + cs.length + 1 : Nat) : Int)) rfl rfl (by omega) (by omega)) (Mv ?_)
  refine Vs ?_
  refine Vl ?_
  refine Qn (Cp rfl (fun Ih => ?_) (fun Ih => ?_))
  · rw [if_pos (by omega)] at ay
    refine Sr (Vv (Gives.build (out := [.slice none 0 0, .slice none 0 0, I 0]) Fills.nil) (Mv ?_))
    refine Vv (Gives.bM (c := ((1 + cs.length + 1 : Nat) : Int)) rfl rfl (by omega) (by omega)) (aD Hr (h := fun wu Ht => ?_))
    refine Am ?_
    refine Am ?_
    refine Qn (Rs (aW (h := ?_)))
    exact ⟨_, Bf Ht, _, by rw [ay]; rfl, trivial, by rw [ay]; exact jO Ht⟩
  rw [if_neg (by omega)] at ay
  refine Sk (Sr (Mv ?_))
  refine Vf ?_
  refine bW Hr (h := fun ww Hu => ?_)
  refine Qn (au (Sr (aZ Hu (h := ?_))))
  have Ws : dV lw := Fz hwv
  have Wt : ∀ o ∈ cs, dV o.steps := by rw [← oK]; exact C9 _
  have O6 : fD ww (agg [.slice W lw.length cw, .slice C r.length cc, I gn]) ⟨lw, cs, gn⟩ := ⟨_, _, rfl, Sep.sees Hu At3, r, gQ Hu At1, Sep.sees Hu At0⟩
  refine aN Hu (Fp O6 Ws Wt) (h := fun wx Hv kg => ?_)
  refine Mv ?_
  refine Vx ?_
  refine Vx ?_
  refine Am ?_
  refine Am ?_
  refine Nx (Mv ?_)
  refine Vn ?_
  refine Qn (Cp rfl (fun Ii => ?_) (fun Ii => ?_))
  · have hmy : qY ⟨lw, cs, gn⟩ = false := by
      cases h : qY ⟨lw, cs, gn⟩ with
      | false => rfl
      | true => exact absurd (show (nR ⟨lw, cs, gn⟩).2 = 0 by unfold nR; rw [if_neg (by rw [h]; decide)]) Ii
    have YO : nR ⟨lw, cs, gn⟩ = ([], 2) := if_pos hmy
    rw [if_pos hmy] at ay
    refine Sr (Vv (Gives.build (out := [.slice none 0 0, .slice none 0 0, I 0]) Fills.nil) (Mv ?_))
    refine aD Hv (h := fun wy Hw => ?_)
    refine Am ?_
    refine Am ?_
    refine Qn (Rs (aW (h := ?_)))
    exact ⟨_, Bf Hw, _, by rw [ay, YO]; rfl, trivial, by rw [ay]; exact jO Hw⟩
  have hmy : ¬ qY ⟨lw, cs, gn⟩ = false := fun h => Ii (by rw [show nR ⟨lw, cs, gn⟩ = ([], 2) from if_pos h]; decide)
  rw [if_neg hmy] at ay
  refine Sk (Sr (aZ Hv (h := ?_)))
  refine aD Hv (h := fun wz Hx => ?_)
  refine Am ?_
  refine Am ?_
  refine Qn (aM (aW (h := ?_)))
  exact ⟨_, Bf Hx, _, by rw [ay]; rfl, trivial, by rw [ay]; exact (uP (Hx.dS.lD)).first.turn⟩
end
end Go.Proofs.YtolaedhdjcnijaaGreatDoor
namespace Go.Mw
open Go.RowKit
section
variable {P : Program} {r : Option Nat} {n : Nat} {ops : Array Oper} {Q : Post} {rest : List Oper} {σ : St} {w w₀ : World} {S : Nat → Prop} {rs : List HP} {put : HP → List HP} {ty : TypeId} {pos : String} {after : Array Edge} {lv : List Bool} {pd : List (Nat × Bool)} {guard : Option (Nat × Bool)}
theorem yB (fK : fC n ops = true) (e : Nat) (pd' : List (Nat × Bool)) {d : Nat} {f : FuncId} {xs : List Operand} {ats : Array TypeId} {vals : List Value} {α : Type} {val : α → Value} {φ : α → Prop} {q : α → HP} [he : Enters P f] (H : Sep w₀ S rs w)
    (hc : bF P f vals w fun v w' => ∃ x, v = val x ∧ φ x ∧ Turn noB (q x) w w')
    (ho : ops[e]? = some { dst := some d, op := .call { callee := .value (.func f), args := xs.toArray, argTypes := ats }, type := ty, pos := pos, after := after, guard := guard } := by exact rfl)
    (hw : Region.wanted { dst := some d, op := .call { callee := .value (.func f), args := xs.toArray, argTypes := ats }, type := ty, pos := pos, after := after, guard := guard } (dR ops σ) = true := by kernel_rfl) (hv : xs.map (evF σ) = vals := by exact rfl) (jl : nM ops lv (pd.map (·.1)) e = true := by kernel_rfl)
    (qA : pd.filter (fun p => !((above ops e).contains p.1)) = pd' := by kernel_rfl) (h : ∀ x w', φ x → Sep w₀ S (q x :: rs) w' → Kept noB w w' → jX P ops (upd σ d (val x)) w' pd' ∧ FG P r n ops Q (lv.set e true) pd' (upd σ d (val x)) w') : nZ P r n ops Q lv pd σ w e := by
  refine Qv fK e pd' ho hw hc hv jl qA fun v' w' ⟨x, h1, hφ, hk, F', hq, hs⟩ => ?_
  subst h1
  exact h x w' hφ (H.new hk hq fun b hb => (hs b hb).resolve_left id) hk
end
end Go.Mw
namespace Go.Proofs.YtolaedhdjcnijaaGreatDoor
open Go Go.Mw Go.Lib
set_option maxRecDepth 4000
def iL (l : List bL) : List bL := (l.take 66).map nD
def G9 (o : jM) : jM := ⟨o.name.take 40, iL o.steps⟩
def BO (p : cB) : cB := ⟨iL p.wh, (p.cols.take 18).map G9, p.group⟩
theorem Da (l : List bL) : (iL l).length ≤ 66 := by unfold iL; rw [List.length_map, List.length_take]; omega
theorem Db {l : List bL} (h : dV l) : dV (iL l) := fun x hx => by
 obtain ⟨y, hy, rfl⟩ := List.mem_map.1 hx
 exact h y (List.mem_of_mem_take hy)
theorem KC {p : cB} (h : nH p) : nH (BO p) ∧ (BO p).cols.length ≤ 18 ∧ (BO p).wh.length ≤ 66 ∧ ∀ o ∈ (BO p).cols, o.steps.length ≤ 66 :=
 ⟨⟨Db h.1, fun o ho => by
  obtain ⟨y, hy, rfl⟩ := List.mem_map.1 ho
  exact Db (h.2 y (List.mem_of_mem_take hy))⟩, by show ((p.cols.take 18).map G9).length ≤ 18; rw [List.length_map, List.length_take]; omega, Da _, fun o ho => by
  obtain ⟨y, hy, rfl⟩ := List.mem_map.1 ho
  exact Da _⟩
section
variable {w : World}
theorem yC {l : List bL} {v : Value} (hl : dn w v aI 3 l) : bF Tryz.prog 35 [v] w fun v' w' => ∃ x, v' = x ∧ True ∧ Turn noB (cO 60 3 aI x (iL l)) w w' := by
 obtain ⟨A, m, rfl, ⟨hm, xK⟩, hA⟩ := hl
 have H := Sep.bB w
 refine dP Tryz.func35 rfl rfl rfl rfl ?_
 refine Sr (Am ?_)
 refine Nx (Am ?_)
 refine Qn (au (Sr (Am ?_)))
 refine Qn (aF ?_)
 have H5 := Sep.iX H 60 3 aI
 refine bA (fun x : Nat × Value => [(0, .slice A l.length m), (3, x.2), (4, I x.1)]) (fun x w' => (x.1 ≤ l.length ∧ x.1 ≤ 66) ∧ Sep w noB [cO 60 3 aI x.2 ((l.take x.1).map nD)] w') (fun x _ => l.length - x.1) (0, .slice none 0 0) ⟨rfl, rfl, rfl, trivial⟩ ⟨⟨Nat.zero_le _, Nat.zero_le _⟩, H5⟩ (fun x τ w5 hI => ?_)
 obtain ⟨i, v1⟩ := x
 obtain ⟨⟨hi, abA⟩, H5⟩ := hI
 dsimp only at hi abA H5
 have yV : ((l.take i).map nD).length = i := by rw [List.length_map, List.length_take]; omega
 try simp only [cZ, like, bC, bZ]
 refine au (Sr (Mv ?_))
 refine Mv ?_
 refine Vs ?_
 refine Vl ?_
 refine Mv ?_
 refine aG (t := 10) rfl (fun Sa => ?_) (fun Sa => ?_)
 ·have abB := Sa
  refine On (Mv ?_)
  refine On (Vl ?_)
  refine Pt ?_
  refine Qn (Cp rfl (fun Ia => ?_) (fun Ia => ?_))
  ·have bU : i < l.length := by omega
   obtain ⟨x, hx⟩ := get_some bU
   have Ca : (l.take (i + 1)).map nD = (l.take i).map nD ++ [nD x] := by rw [List.take_add_one, hx, List.map_append]; rfl
   refine Sk (au (aF (Sr (Mv ?_))))
   refine Mv ?_
   refine Vv (Gives.eT rfl rfl (by assumption) (by omega)) (Vv (Gives.iM rfl H5 (by assumption) (by assumption)) ?_)
   refine bD H5 (h := fun b5 wa Ha ka => ?_)
   refine aD Ha (h := fun wb Hb => ?_)
   refine Nx (Vf ?_)
   refine Ld Hb ?_
   refine Vf ?_
   refine Ld Hb ?_
   refine Vt ?_
   refine Vv (Gives.U2 rfl rfl (CF x.s 1100)) (Vv (Gives.lq (l := x.s) (i := (x.s.take 1100).length) rfl rfl (by rw [List.length_take]; omega)) ?_)
   rw [yw]
   refine Vf ?_
   refine bW Hb (h := fun wc Hc => ?_)
   refine Qn (aB (Mv ?_))
   refine aZ Hc (cs := aI (nD x)) (h := ?_)
   refine aX Hc (xs := [.tmp 29]) (out := [nD x].flatMap aI) (aU.many rfl rfl aU.nil) rfl rfl rfl (fun bs wd Hd kb => ?_)
   refine gK Hd (news := [nD x]) At1 (by rw [yV]; unfold maxLen; simp; omega) (by rw [yV]; show (i + 1) * 32 ≤ _; omega) (cells_one (fun _ => rfl) _) (h := ?_)
   intro v2 we He
   rw [← Ca] at He
   refine Am ?_
   refine aP (aA (aj (aB (Mv ?_))))
   refine Vv (Gives.bM (c := ((i + 1 : Nat) : Int)) rfl rfl (by omega) (by omega)) (Am ?_)
   refine aP ?_
   exact aC (i + 1, v2) ⟨rfl, rfl, rfl, trivial⟩ ⟨⟨by dsimp only; omega, by dsimp only; omega⟩, (He.dS).firsts (l := [_])⟩ (by dsimp only; omega)
  have rF : (l.take i).map nD = iL l := by unfold iL; rw [show i = 66 by have h := Ia; omega]
  refine bq (aT (aO (aV (aj (Sr (Mv ?_))))))
  refine Am ?_
  refine Qn (aM (ak (hR := ?_)))
  exact ⟨_, rfl, trivial, by rw [rF] at H5; exact H5.turn⟩
 have rF : (l.take i).map nD = iL l := by unfold iL; rw [List.take_of_length_le (l := l) (i := i) (by have h := Sa; omega), List.take_of_length_le (l := l) (i := 66) (by have h := Sa; omega)]
 refine Of (Of (Pf ?_))
 refine Qn (bg rfl ?_)
 refine bq (aT (aO (aV (aj (Sr (Mv ?_))))))
 refine Am ?_
 refine Qn (aM (ak (hR := ?_)))
 exact ⟨_, rfl, trivial, by rw [rF] at H5; exact H5.turn⟩
theorem Dc {p : cB} {v : Value} (hp : fD w v p) : bF Tryz.prog 11 [v] w fun v' w' => ∃ x, v' = x ∧ True ∧ Turn noB (qK x (BO p)) w w' := by
 obtain ⟨vw, vc, rfl, hw, r, hr, mG⟩ := hp
 obtain ⟨A, m, rfl, ⟨hm, xK⟩, hA⟩ := hr
 obtain ⟨W, mw, rfl, _, _⟩ := id hw
 have AO := mG.len
 have H := Sep.bB w
 refine qo Tryz.func11 rfl rfl rfl rfl ?_
 refine Sr (dz H (cs := [.slice W p.wh.length mw, .slice A r.length m, I p.group]) rfl (h := fun b1 w2 H2 k1 => ?_))
 refine bD H2 (h := fun b2 w4 H4 k3 => ?_)
 refine Qn (fO (fun z : Nat × Option Addr × Nat => [(1, bI b1), (2, bI b2), (3, bI z.1)]) (fun z w' => Sep w noB [zh (.slice z.2.1 (iL p.wh).length z.2.2) aI 3 (iL p.wh), blk z.1 [.slice z.2.1 (iL p.wh).length z.2.2, .slice none 0 0, I p.group] 25, blk b2 [.slice none 0 0, .slice none 0 0, I 0] 25, blk b1 [.slice W p.wh.length mw, .slice A r.length m, I p.group] 25] w') ?_ ?_)
 ·refine bG rfl H4 (h := fun ni w8 H8 => ?_)
  refine Gp ni 0 rfl rfl (fun _ => (Gives.dx rfl)) (cK ni 1 H8 (h := ?_))
  refine Gp ni 2 rfl rfl (fun _ => (Gives.dx rfl)) (cK ni 3 H8 (h := ?_))
  refine vD ni (e1 := 4) (e2 := 6) (by kernel_rfl) ?_ ?_
  ·refine yB ni 4 [(1, false), (0, true)] H8 (yC (hw.keep H8.kept)) (h := fun vx wa _ Ha ka => ?_)
   obtain ⟨X, cx, rfl, _, _⟩ := Sep.fJ Ha At0
   refine ⟨bQ Ha (h := av (aK)), ?_⟩
   refine Gp ni 5 rfl rfl (fun _ => (Gives.build (out := [.slice X (iL p.wh).length cx, .slice none 0 0, I p.group]) (Fills.one rfl rfl rfl (by simp) rfl (Fills.one rfl rfl rfl (by simp) rfl Fills.nil)))) (Jm ni 6 [(5, true), (1, false), (0, true)] Ha (h := fun b3 wb Hb => ⟨av (bQ Hb (h := av (aK))), ?_⟩))
   refine dF ni 7 [] Hb (h := fun wc Hc => ⟨aK, ?_⟩)
   refine bR ni (by kernel_rfl) ?_
   exact aS (b3, X, cx) ⟨rfl, rfl, rfl, trivial⟩ (by first | exact jD Hc At0 | exact jD Hc.dS At0)
  refine nW ni 6 [(3, false), (2, true), (1, false), (0, true)] H8 (h := fun b3 wd Hd => ⟨bQ Hd (h := av (bQ Hd (h := av (aK)))), ?_⟩)
  refine lK ni 4 [(1, false), (0, true)] Hd (yC (hw.keep Hd.kept)) (h := fun vx we _ He kb => ?_)
  obtain ⟨X, cx, rfl, _, _⟩ := Sep.fJ He At0
  refine ⟨bQ He (h := av (aK)), ?_⟩
  refine Gp ni 5 rfl rfl (fun _ => (Gives.build (out := [.slice X (iL p.wh).length cx, .slice none 0 0, I p.group]) (Fills.one rfl rfl rfl (by simp) rfl (Fills.one rfl rfl rfl (by simp) rfl Fills.nil)))) (dF ni 7 [] He (h := fun wf Hf => ⟨aK, ?_⟩))
  refine bR ni (by kernel_rfl) ?_
  exact aS (b3, X, cx) ⟨rfl, rfl, rfl, trivial⟩ (by first | exact jD Hf At0 | exact jD Hf.dS At0)
 rintro ⟨b3, X, cx⟩ τ wg Hg
 dsimp only at Hg
 simp only [cZ, like, bC, bZ]
 refine au (Sr (Am ?_))
 refine Qn (aF ?_)
 have Hh := qg (Sep.iX Hg 53 2 bO)
 refine bA (fun x : Nat × (Option Addr × Nat) × List (List UInt8 × Value) => [(1, bI b1), (2, bI b2), (3, bI b3), (4, I x.1)]) (fun x w' => (x.1 ≤ r.length ∧ x.1 ≤ 18 ∧ x.2.2.length = x.1) ∧ Sep w noB [qJ x.2.2 ((p.cols.take x.1).map G9), cO 53 2 bO (.slice x.2.1.1 x.2.2.length x.2.1.2) x.2.2, zh (.slice X (iL p.wh).length cx) aI 3 (iL p.wh), blk b3 [.slice X (iL p.wh).length cx, .slice x.2.1.1 x.2.2.length x.2.1.2, I p.group] 25, blk b2 [.slice none 0 0, .slice none 0 0, I 0] 25, blk b1 [.slice W p.wh.length mw, .slice A r.length m, I p.group] 25] w') (fun x _ => r.length - x.1) (0, (none, 0), []) ⟨rfl, rfl, rfl, rfl, trivial⟩ ⟨⟨Nat.zero_le _, Nat.zero_le _, rfl⟩, Hh⟩ (fun x τ wi hI => ?_)
 obtain ⟨i, ⟨C, cc⟩, q⟩ := x
 obtain ⟨⟨hi, abC, UE⟩, Hh⟩ := hI
 dsimp only at hi abC UE Hh
 try simp only [cZ, like, bC]
 refine au (Sr (Mv ?_))
 refine Vf ?_
 refine Ld Hh ?_
 refine Vs ?_
 refine Vl ?_
 refine Mv ?_
 refine aG (t := 17) rfl (fun Sa => ?_) (fun Sa => ?_)
 ·have abB := Sa
  refine On (Mv ?_)
  refine On (Vl ?_)
  refine Pt ?_
  refine Qn (Cp rfl (fun Ia => ?_) (fun Ia => ?_))
  ·have bU : i < p.cols.length := by omega
   obtain ⟨vx, hx, uG⟩ := mG.at bU
   have pq : p.cols[i]? = some p.cols[i] := List.getElem?_eq_getElem bU
   obtain ⟨o, ho⟩ : ∃ o, o = p.cols[i] := ⟨_, rfl⟩
   rw [← ho] at hx uG pq
   have Ca : (p.cols.take (i + 1)).map G9 = (p.cols.take i).map G9 ++ [G9 o] := by rw [List.take_add_one, pq, Option.toList_some, List.map_append]; rfl
   refine Sk (au (aF (Sr (Vf ?_))))
   refine Ld Hh ?_
   refine Mv ?_
   refine Vv (Gives.eT rfl rfl (by assumption) (by omega)) (Vv (Gives.fH rfl (by assumption) (by omega)) ?_)
   refine Vv (Gives.iJ rfl Hh (by assumption) (by assumption) rfl) (Am ?_)
   refine Qn (bG rfl Hh (h := fun Sb wj Hi => ?_))
   refine Gp Sb 0 rfl rfl (fun _ => (Gives.dx rfl)) (cK Sb 1 Hi (h := ?_))
   refine Gm Sb 2 ?_
   refine Gm Sb 3 ?_
   refine Gp Sb 4 rfl rfl (fun _ => (Gives.VA rfl)) (Gp Sb 5 rfl rfl (fun _ => (Gives.U2 rfl rfl (CF o.name 40))) ?_)
   refine Gp Sb 6 rfl rfl (fun _ => (Gives.lq (l := o.name) (i := (o.name.take 40).length) rfl rfl (by rw [List.length_take]; omega))) ?_
   refine Gp Sb 7 rfl rfl (fun _ => (Gives.dx rfl)) (cK Sb 8 Hi (h := ?_))
   refine Gm Sb 9 ?_
   refine Gp Sb 10 rfl rfl (fun _ => (Gives.eT rfl rfl (by assumption) (by omega))) (Gp Sb 11 rfl rfl (fun _ => (Gives.fH rfl (by assumption) (by omega))) ?_)
   refine Gl Sb 12 rfl rfl (Gives.iJ rfl Hi (by assumption) (by assumption) rfl) (lK Sb 13 [(6, true), (5, true), (4, true), (3, true), (2, true), (1, false), (0, true)] Hi (yC (uG.keep Hi.kept)) (h := fun vy wk _ Hj kc => ?_))
   obtain ⟨Y, cy, rfl, _, _⟩ := Sep.fJ Hj At0
   refine ⟨av (av (av (av (av (bQ Hj (h := av (aK))))))), ?_⟩
   refine Gp Sb 14 rfl rfl (fun _ => (Gives.build (out := bO (o.name.take (o.name.take 40).length, .slice Y (iL o.steps).length cy)) (Fills.one rfl rfl rfl (by simp) rfl (Fills.one rfl rfl rfl (by simp) rfl Fills.nil)))) (eD Sb 15 [(1, false), (0, true)] Hj (xs := [.tmp 43]) (out := [(o.name.take (o.name.take 40).length, Value.slice Y (iL o.steps).length cy)].flatMap bO) (aU.many rfl rfl aU.nil) (h := fun bs wl Hk => ⟨bQ Hk (h := av (aK)), ?_⟩))
   rw [yw] at Hk
   refine jo Sb 16 [] Hk (news := [(o.name.take 40, Value.slice Y (iL o.steps).length cy)]) At2 (by unfold maxLen; simp; omega) (by simp; omega) (uU rfl) (h := fun v2 wm Hl => ?_)
   obtain ⟨C2, c2, rfl, _, _⟩ := Sep.fJ Hl At2
   refine ⟨aK, ?_⟩
   refine Gp Sb 17 rfl rfl (fun _ => (Gives.dx rfl)) (nI Sb 18 [] Hl (h := fun wn Hm => ⟨aK, ?_⟩))
   refine bR Sb (by kernel_rfl) ?_
   refine aA (aj (aB (Mv ?_)))
   refine Vv (Gives.bM rfl rfl rfl (by omega)) (Am ?_)
   refine aP ?_
   exact aC (i + 1, (C2, c2), q ++ [(o.name.take 40, Value.slice Y (iL o.steps).length cy)]) ⟨rfl, rfl, rfl, rfl, trivial⟩ ⟨⟨by dsimp only; omega, by dsimp only; omega, by dsimp only; rw [List.length_append, UE]; rfl⟩, by
   dsimp only
   rw [Ca]
   exact qL Hm⟩ (by dsimp only; omega)
  have rF : (p.cols.take i).map G9 = (BO p).cols := by rw [show i = 18 by have h := Ia; omega]; rfl
  refine bq (aT (aO (aV (aj (Sr (aZ Hh (h := ?_)))))))
  refine aD Hh (h := fun wo Hn => ?_)
  refine Qn (aM (aW (h := ?_)))
  rw [rF] at Hn
  exact ⟨_, gB Hn, _, rfl, trivial, (uP (s := iL p.wh) (g := p.group) (cols := (BO p).cols) Hn.dS.iK).first.turn⟩
 have rF : (p.cols.take i).map G9 = (BO p).cols := by
  show _ = (p.cols.take 18).map G9
  rw [List.take_of_length_le (l := p.cols) (i := i) (by have h := Sa; omega), List.take_of_length_le (l := p.cols) (i := 18) (by have h := Sa; omega)]
 refine Of (Of (Pf ?_))
 refine Qn (bg rfl ?_)
 refine bq (aT (aO (aV (aj (Sr (aZ Hh (h := ?_)))))))
 refine aD Hh (h := fun wp Ho => ?_)
 refine Qn (aM (aW (h := ?_)))
 rw [rF] at Ho
 exact ⟨_, gB Ho, _, rfl, trivial, (uP (s := iL p.wh) (g := p.group) (cols := (BO p).cols) Ho.dS.iK).first.turn⟩
theorem zo {p : cB} {v : Value} (hp : fD w v p) (hn : p.cols.length ≤ 100) (Uw : p.wh.length ≤ 1000) (Rm : ∀ o ∈ p.cols, o.steps.length ≤ 1000) : bF Tryz.prog 12 [v] w fun v' w' => ∃ x, v' = x ∧ True ∧ Turn noB (qK x p) w w' := by
 obtain ⟨vw, vc, rfl, hw, r, hr, mG⟩ := hp
 obtain ⟨A, m, rfl, ⟨hm, xK⟩, hA⟩ := hr
 obtain ⟨W, mw, rfl, _, hW⟩ := id hw
 have AO := mG.len
 have H := Sep.bB w
 refine qo Tryz.func12 rfl rfl rfl rfl ?_
 refine Sr (dz H (cs := [.slice W p.wh.length mw, .slice A r.length m, I p.group]) rfl (h := fun b1 w2 H2 k1 => ?_))
 refine bD H2 (h := fun b2 w4 H4 k3 => ?_)
 refine Nx (Vf ?_)
 refine Ld H4 ?_
 refine Vv (Gives.build (out := [.slice none 0 0, .slice none 0 0, I p.group]) (Fills.one rfl rfl rfl (by simp) rfl Fills.nil)) (bD H4 (h := fun b3 w9 H9 k8 => ?_))
 refine aD H9 (h := fun wa Ha => ?_)
 refine Nx ?_
 have Hb := Sep.iX Ha 60 3 aI
 refine Vf ?_
 refine Ld Hb ?_
 refine Vf ?_
 refine Ld Hb ?_
 refine qx Hb At0 (hW.keep Hb.kept) (by unfold maxLen; simp; omega) (by simp; omega) (cells_one (fun _ => rfl) _) (h := ?_)
 intro v0 wb Hc
 rw [List.nil_append] at Hc
 obtain ⟨X, cx, rfl, _, _⟩ := Sep.fJ Hc At0
 refine Vf ?_
 refine bW Hc (h := fun wc Hd => ?_)
 refine Qn (au (Sr (Am ?_)))
 refine Qn (aF ?_)
 have He := qg (Sep.iX (jD Hd At0) 53 2 bO)
 refine bA (fun x : Nat × (Option Addr × Nat) × List (List UInt8 × Value) => [(1, bI b1), (2, bI b2), (3, bI b3), (4, I x.1)]) (fun x w' => (x.1 ≤ r.length ∧ x.2.2.length = x.1) ∧ Sep w noB [qJ x.2.2 (p.cols.take x.1), cO 53 2 bO (.slice x.2.1.1 x.2.2.length x.2.1.2) x.2.2, zh (.slice X p.wh.length cx) aI 3 p.wh, blk b3 [.slice X p.wh.length cx, .slice x.2.1.1 x.2.2.length x.2.1.2, I p.group] 25, blk b2 [.slice none 0 0, .slice none 0 0, I 0] 25, blk b1 [.slice W p.wh.length mw, .slice A r.length m, I p.group] 25] w') (fun x _ => r.length - x.1) (0, (none, 0), []) ⟨rfl, rfl, rfl, rfl, trivial⟩ ⟨⟨Nat.zero_le _, rfl⟩, He⟩ (fun x τ wd hI => ?_)
 obtain ⟨i, ⟨C, cc⟩, q⟩ := x
 obtain ⟨⟨hi, UE⟩, He⟩ := hI
 dsimp only at hi UE He
 try simp only [cZ, like, bC, bZ]
 refine au (Sr (Mv ?_))
 refine Vf ?_
 refine Ld He ?_
 refine Vs ?_
 refine Vl ?_
 refine Qn (Cp rfl (fun Ia => ?_) (fun Ia => ?_))
 ·have bU : i < p.cols.length := by omega
  obtain ⟨vx, hx, uG⟩ := mG.at bU
  have pq : p.cols[i]? = some p.cols[i] := List.getElem?_eq_getElem bU
  obtain ⟨o, ho⟩ : ∃ o, o = p.cols[i] := ⟨_, rfl⟩
  rw [← ho] at hx uG pq
  obtain ⟨Ax, mx, rfl, _, hX⟩ := id uG
  have O8 := Rm o (List.mem_of_getElem? pq)
  have Ca : p.cols.take (i + 1) = p.cols.take i ++ [o] := by rw [List.take_add_one, pq]; rfl
  refine Sk (au (aF (Sr ?_)))
  have Hf := Sep.iX He 60 3 aI
  refine Am ?_
  refine Qn (bG rfl Hf (h := fun Sa we Hg => ?_))
  refine Gp Sa 0 rfl rfl (fun _ => (Gives.dx rfl)) (cK Sa 1 Hg (h := ?_))
  refine Gp Sa 2 rfl rfl (fun _ => (Gives.dx rfl)) (cK Sa 3 Hg (h := ?_))
  refine Gm Sa 4 ?_
  refine Gp Sa 5 rfl rfl (fun _ => (Gives.eT rfl rfl (by assumption) (by omega))) (Gp Sa 6 rfl rfl (fun _ => (Gives.fH rfl (by assumption) (by omega))) ?_)
  refine Gl Sa 7 rfl rfl (Gives.iJ rfl Hg (by assumption) (by assumption) rfl) (Gm Sa 8 ?_)
  refine Gp Sa 9 rfl rfl (fun _ => (Gives.dx rfl)) (cK Sa 10 Hg (h := ?_))
  refine Gm Sa 11 ?_
  refine Gp Sa 12 rfl rfl (fun _ => (Gives.eT rfl rfl (by assumption) (by omega))) (Gp Sa 13 rfl rfl (fun _ => (Gives.fH rfl (by assumption) (by omega))) ?_)
  refine Gl Sa 14 rfl rfl (Gives.iJ rfl Hg (by assumption) (by assumption) rfl) (lZ Sa 15 [(7, false), (6, true), (5, true), (4, true), (3, false), (2, true), (1, false), (0, true)] Hg At0 (hX.keep Hg.kept) (by unfold maxLen; simp; omega) (by simp; omega) (cells_one (fun _ => rfl) _) (h := fun v2 wf Hh => ?_))
  rw [List.nil_append] at Hh
  obtain ⟨Y, cy, rfl, _, _⟩ := Sep.fJ Hh At0
  refine ⟨(eZ rfl (by kernel_rfl) (Gives.iJ (i := i) (f := 0) (c := (o.name, .slice Ax o.steps.length mx)) rfl Hh hA hx rfl) rfl (av (av (av (bQ Hh (h := av (bQ Hh (h := av (aK))))))))), ?_⟩
  refine Gp Sa 16 rfl rfl (fun _ => (Gives.build (out := bO (o.name, .slice Y o.steps.length cy)) (Fills.one rfl rfl rfl (by simp) rfl (Fills.one rfl rfl rfl (by simp) rfl Fills.nil)))) (eD Sa 17 [(1, false), (0, true)] Hh (xs := [.tmp 38]) (out := [(o.name, Value.slice Y o.steps.length cy)].flatMap bO) (aU.many rfl rfl aU.nil) (h := fun bs wg Hi => ⟨bQ Hi (h := av (aK)), ?_⟩))
  refine jo Sa 18 [] Hi (news := [(o.name, Value.slice Y o.steps.length cy)]) At2 (by unfold maxLen; simp; omega) (by simp; omega) (uU rfl) (h := fun v3 wi Hj => ?_)
  obtain ⟨C2, c2, rfl, _, _⟩ := Sep.fJ Hj At2
  refine ⟨aK, ?_⟩
  refine Gp Sa 19 rfl rfl (fun _ => (Gives.dx rfl)) (nI Sa 20 [] Hj (h := fun wj Hk => ⟨aK, ?_⟩))
  refine bR Sa (by kernel_rfl) ?_
  refine aA (aj (aB (Mv ?_)))
  refine Vv (Gives.bM rfl rfl rfl (by omega)) (Am ?_)
  refine aP ?_
  exact aC (i + 1, (C2, c2), q ++ [(o.name, Value.slice Y o.steps.length cy)]) ⟨rfl, rfl, rfl, rfl, trivial⟩ ⟨⟨by dsimp only; omega, by dsimp only; rw [List.length_append, UE]; rfl⟩, by
  dsimp only
  rw [Ca]
  exact qL Hk⟩ (by dsimp only; omega)
 have jW : i = r.length := by omega
 rw [jW, List.take_of_length_le (by omega)] at He
 refine bq (aT (aO (aV (aj (Sr (aZ He (h := ?_)))))))
 refine aD He (h := fun wk Hl => ?_)
 refine Qn (aM (aW (h := ?_)))
 exact ⟨_, gB Hl, _, rfl, trivial, (uP (s := p.wh) (g := p.group) (cols := p.cols) Hl.dS.iK).first.turn⟩
end
section
variable {w : World}
end
theorem gy {w : World} {v : Value} {p : cB} (h : fD w v p) : ∃ A a B b, v = agg [.slice A p.wh.length a, .slice B p.cols.length b, I p.group] := by
 obtain ⟨vw, vc, rfl, ⟨A, a, rfl, _⟩, r, ⟨B, b, rfl, _⟩, hr⟩ := h
 exact ⟨A, a, B, b, by rw [hr.len]⟩
section
variable {w : World}
theorem zq (l : List UInt8) (hl : l.length ≤ 10000000) (hT : je w) : bF Tryz.prog 98 [str l, str [47], str [10]] w fun v w' => v = str (slash l) ∧ Kept noB w w' := by
 obtain ⟨m, hm⟩ := hT.len
 have h1 := Lib.countB_le ⟨#[47]⟩ (by decide) l.length ⟨l.toArray⟩ (by rw [Mw.size_mk]; exact Nat.le_refl _)
 rw [Mw.size_mk] at h1
 have := lU (Tryz.strings_ReplaceAll ⟨l.toArray⟩ ⟨#[47]⟩ ⟨#[10]⟩ m w (by rw [Mw.size_mk]; omega) hm (by decide) (by
  rw [Mw.size_mk]
  show l.length + Lib.countB ⟨l.toArray⟩ ⟨#[47]⟩ * 1 ≤ _
  omega))
 have e : Lib.replaceAll l [47] [10] = slash l := vM 47 _ l (by decide)
 rw [← e]
 exact this
theorem OD (s : List UInt8) {p : cB} (hs : s.length ≤ 1000) (hp : dX (slash s) = (p, 0, 0)) (hT : je w) : bF Tryz.prog 97 [str s] w fun v w' => ∃ x, v = .tuple #[x, .bool true] ∧ True ∧ Turn noB (qK x p) w w' := by
 have H := Sep.bB w
 have UU := FB s
 refine qo Tryz.func97 rfl rfl rfl rfl ?_
 refine Sr (bD H (h := fun b2 w2 H2 k1 => ?_))
 refine Am ?_
 refine Nx (Mv ?_)
 refine aN H2 (zq s (by omega) (hT.keep H2.kept)) (h := fun w6 H6 k5 => ?_)
 refine eX H6 (sW (slash s) (.inl (by omega)) (by omega) (hT.keep H6.kept)) (h := fun x w8 _ H8 k7 => ?_)
 rw [hp] at H8 ⊢
 dsimp only at H8 ⊢
 obtain ⟨A, a, B, b, rfl⟩ := gy (Sep.sees H8 At0)
 refine Mv ?_
 refine Vx ?_
 refine Vx ?_
 refine Vx ?_
 refine bD H8 (h := fun b4 wa Ha ka => ?_)
 refine aD Ha (h := fun wb Hb => ?_)
 refine Am ?_
 refine Am ?_
 refine Nx (aZ Hb (h := ?_))
 refine Mv ?_
 refine Ve ?_
 refine Mv ?_
 refine aG (t := 17) rfl (fun Sa => ?_) (fun Sa => ?_)
 ·refine On (Mv ?_)
  refine On (Ve ?_)
  refine Pt ?_
  refine aD Hb (h := fun wc Hc => ?_)
  refine Am ?_
  refine Qn (aM (aW (h := ?_)))
  exact ⟨_, dQ Hc, _, rfl, trivial, Hc.dS.first.turn⟩
 exact (Sa trivial).elim
theorem Af : bF Tryz.prog 53 [] w fun v w' => ∃ x : Nat, v = .slice (some ⟨x, 0, none⟩) 3 3 ∧ True ∧ Turn noB (blk x (mD.flatMap bE) 49) w w' := by
 have H := Sep.bB w
 refine JW Tryz.func53 rfl rfl rfl ?_
 refine Sr (Am ?_)
 refine Nx (Vv (Gives.build (out := aJ ⟨2, false⟩) (Fills.one rfl rfl rfl (by simp) rfl Fills.nil)) (Vv (Gives.build (out := bE ⟨1, [], ⟨2, false⟩, cell0⟩) (Fills.one rfl rfl rfl (by simp) rfl (Fills.many rfl rfl (Nat.le_of_ble_eq_true rfl) rfl Fills.nil))) ?_))
 refine Vv (Gives.build (out := aJ ⟨4, true⟩) (Fills.one rfl rfl rfl (by simp) rfl (Fills.one rfl rfl rfl (by simp) rfl Fills.nil))) (Vv (Gives.build (out := bE ⟨2, [], ⟨4, true⟩, cell0⟩) (Fills.one rfl rfl rfl (by simp) rfl (Fills.many rfl rfl (Nat.le_of_ble_eq_true rfl) rfl Fills.nil))) ?_)
 refine Vv (Gives.build (out := aJ ⟨1, false⟩) (Fills.one rfl rfl rfl (by simp) rfl Fills.nil)) (Vv (Gives.build (out := bE ⟨3, [], ⟨1, false⟩, cell0⟩) (Fills.one rfl rfl rfl (by simp) rfl (Fills.many rfl rfl (Nat.le_of_ble_eq_true rfl) rfl Fills.nil))) ?_)
 refine aX H (xs := [.tmp 2, .tmp 4, .tmp 6]) (out := mD.flatMap bE) (aU.many rfl rfl (aU.many rfl rfl (aU.many rfl rfl aU.nil))) rfl rfl rfl (fun ba w9 H9 k8 => ?_)
 refine Am ?_
 refine Qn (aM (ak (hR := ?_)))
 exact ⟨ba, rfl, trivial, H9.turn⟩
theorem KD (s : List UInt8) {p : cB} {cols : List gG} {vw : Value} (hs : s.length ≤ 1000) (hp : dX (slash s) = (p, 0, 0)) (hc : jN mD p = (cols, 0)) (hw : dn w vw bE 7 cols) (hT : je w) : bF Tryz.prog 51 [str s, vw] w fun v w' => v = .bool true ∧ Kept noB w w' := by
 have H := Sep.bB w
 obtain ⟨AP, hn⟩ := Bd (slash s)
 rw [hp] at AP hn
 dsimp only at AP hn
 refine eU Tryz.func51 rfl rfl rfl rfl ?_
 refine Sr (Am ?_)
 refine Nx (Mv ?_)
 refine eX H (OD s hs hp (hT.keep H.kept)) (h := fun x w4 _ H4 k3 => ?_)
 obtain ⟨A, a, B, b, rfl⟩ := gy (Sep.sees H4 At0)
 refine Mv ?_
 refine Vx ?_
 refine Vx ?_
 refine bD H4 (h := fun b5 w9 H9 k8 => ?_)
 refine aD H9 (h := fun wa Ha => ?_)
 refine Am ?_
 refine Qn (au (bG rfl Ha (h := fun Sa wb Hb => ?_)))
 refine dD Sa 1 Hb (h := ?_)
 refine lK Sa 0 [(1, false)] Hb Af (h := fun bs wc _ Hc ka => ⟨(eZ rfl (by kernel_rfl) (Gives.nQ rfl (Hc.obj At1) (us := [.slice A p.wh.length a, .slice B p.cols.length b, I p.group]) rfl rfl) rfl (aK)), ?_⟩)
 refine lK Sa 2 [] Hc (vV (cols := mD) ⟨some ⟨bs, 0, none⟩, 3, rfl, ⟨Nat.le_refl _, by decide⟩, Sep.gJ Hc At0 rfl⟩ (Sep.sees Hc At2) AP.1 AP.2 (by omega) (hT.keep Hc.kept)) (h := fun vo wd _ Hd kb => ?_)
 rw [hc] at Hd ⊢
 dsimp only at Hd ⊢
 refine ⟨aK, ?_⟩
 refine Gm Sa 3 ?_
 refine Gp Sa 4 rfl rfl (fun _ => (Gives.extract rfl rfl)) (Gp Sa 5 rfl rfl (fun _ => (Gives.extract rfl rfl)) ?_)
 refine Gp Sa 6 rfl rfl (fun _ => Gives.assign rfl) (Gp Sa 7 rfl rfl (fun _ => Gives.assign rfl) ?_)
 refine bR Sa (by kernel_rfl) ?_
 refine aj (Sr (Mv ?_))
 refine Mv ?_
 refine dh (t := 21) rfl (fun Sb => ?_) (fun Sb => ?_)
 ·refine On (Mv ?_)
  refine On (Ve ?_)
  refine Pt ?_
  refine Mv ?_
  refine aG (t := 25) rfl (fun Sc => ?_) (fun Sc => ?_)
  ·refine On (Mv ?_)
   refine On (Mv ?_)
   refine On (aN Hd (Au (a := cols) (b := cols) (gQ Hd At0) (hw.keep Hd.kept)) (h := fun we He kc => ?_))
   refine Pt ?_
   refine Am ?_
   refine Qn (aM (ak (hR := ?_)))
   exact ⟨by simp [fB], He.kept⟩
  exact (Sc trivial).elim
 exact absurd Sb (by decide)
theorem Ja (s : List UInt8) {p : cB} {e : Int} (hs : s.length ≤ 1000) (hp : dX (slash s) = (p, 0, 0)) (hc : jN mD p = ([], e)) (hT : je w) : bF Tryz.prog 52 [str s, I e] w fun v w' => v = .bool true ∧ Kept noB w w' := by
 have H := Sep.bB w
 obtain ⟨AP, hn⟩ := Bd (slash s)
 rw [hp] at AP hn
 dsimp only at AP hn
 refine eU Tryz.func52 rfl rfl rfl rfl ?_
 refine Sr (Am ?_)
 refine Nx (Mv ?_)
 refine eX H (OD s hs hp (hT.keep H.kept)) (h := fun x w4 _ H4 k3 => ?_)
 obtain ⟨A, a, B, b, rfl⟩ := gy (Sep.sees H4 At0)
 refine Mv ?_
 refine Vx ?_
 refine Vx ?_
 refine bD H4 (h := fun b5 w9 H9 k8 => ?_)
 refine aD H9 (h := fun wa Ha => ?_)
 refine Am ?_
 refine Qn (au (bG rfl Ha (h := fun Sa wb Hb => ?_)))
 refine dD Sa 1 Hb (h := ?_)
 refine lK Sa 0 [(1, false)] Hb Af (h := fun bs wc _ Hc ka => ⟨(eZ rfl (by kernel_rfl) (Gives.nQ rfl (Hc.obj At1) (us := [.slice A p.wh.length a, .slice B p.cols.length b, I p.group]) rfl rfl) rfl (aK)), ?_⟩)
 refine lK Sa 2 [] Hc (vV (cols := mD) ⟨some ⟨bs, 0, none⟩, 3, rfl, ⟨Nat.le_refl _, by decide⟩, Sep.gJ Hc At0 rfl⟩ (Sep.sees Hc At2) AP.1 AP.2 (by omega) (hT.keep Hc.kept)) (h := fun vo wd _ Hd kb => ?_)
 rw [hc] at Hd ⊢
 dsimp only at Hd ⊢
 obtain ⟨Ao, co, rfl, _, _⟩ := Sep.fJ Hd At0
 refine ⟨aK, ?_⟩
 refine Gm Sa 3 ?_
 refine Gp Sa 4 rfl rfl (fun _ => (Gives.extract rfl rfl)) (Gp Sa 5 rfl rfl (fun _ => (Gives.extract rfl rfl)) ?_)
 refine Gp Sa 6 rfl rfl (fun _ => Gives.assign rfl) (Gp Sa 7 rfl rfl (fun _ => Gives.assign rfl) ?_)
 refine bR Sa (by kernel_rfl) ?_
 refine aj (Sr (Mv ?_))
 refine Mv ?_
 refine dh (t := 21) rfl (fun Sb => ?_) (fun Sb => ?_)
 ·refine On (Mv ?_)
  refine On (Mv ?_)
  refine On (Ve ?_)
  refine Pt ?_
  refine Mv ?_
  refine aG (t := 26) rfl (fun Sc => ?_) (fun Sc => ?_)
  ·refine On (Mv ?_)
   refine On (Vs ?_)
   refine On (Ve ?_)
   refine Pt ?_
   refine Am ?_
   refine Qn (aM (ak (hR := ?_)))
   exact ⟨rfl, Hd.kept⟩
  exact (Sc trivial).elim
 exact absurd Sb (by decide)
theorem qm (s : List UInt8) {n e : Int} (hs : s.length ≤ 1000) (hp : dX (slash s) = (eF, n, e)) (hT : je w) : bF Tryz.prog 54 [str s, I n, I e] w fun v w' => v = .bool true ∧ Kept noB w w' := by
 have H := Sep.bB w
 have UU := FB s
 refine EU Tryz.func54 rfl rfl rfl rfl ?_
 refine Sr (Am ?_)
 refine Nx (Mv ?_)
 refine aN H (zq s (by omega) (hT.keep H.kept)) (h := fun w4 H4 k3 => ?_)
 refine eX H4 (sW (slash s) (.inl (by omega)) (by omega) (hT.keep H4.kept)) (h := fun x w6 _ H6 k5 => ?_)
 rw [hp] at H6 ⊢
 dsimp only at H6 ⊢
 obtain ⟨A, a, B, b, rfl⟩ := gy (Sep.sees H6 At0)
 refine Mv ?_
 refine Vx ?_
 refine Vx ?_
 refine Vx ?_
 refine bD H6 (h := fun b7 wa Ha ka => ?_)
 refine aD Ha (h := fun wb Hb => ?_)
 refine Am ?_
 refine Am ?_
 refine Nx (Mv ?_)
 refine Mv ?_
 refine Ve ?_
 refine Mv ?_
 refine aG (t := 20) rfl (fun Sa => ?_) (fun Sa => ?_)
 ·refine On (Mv ?_)
  refine On (Mv ?_)
  refine On (Ve ?_)
  refine Pt ?_
  refine Mv ?_
  refine aG (t := 25) rfl (fun Sb => ?_) (fun Sb => ?_)
  ·refine On (aZ Hb (h := ?_))
   refine On (Vv (Gives.build (out := [.slice none 0 0, .slice none 0 0, I 0]) Fills.nil) (On ?_))
   refine aN Hb (CS (p := eF) (q := eF) (Sep.sees Hb At1) (uW _)) (h := fun wc Hc kb => ?_)
   refine Pt ?_
   refine Am ?_
   refine Qn (aM (ak (hR := ?_)))
   exact ⟨by simp [fB], Hc.kept⟩
  exact (Sb trivial).elim
 exact (Sa trivial).elim
end
def wq0 : List UInt8 := [119, 104, 101, 114, 101, 32, 110, 111, 110, 101, 47, 111, 117, 116, 32, 97, 32, 35, 49, 47, 111, 117, 116, 32, 98, 32, 35, 50, 32, 105, 115, 110, 117, 108, 108, 47, 103, 114, 111, 117, 112, 32, 110, 111, 110, 101, 47]
def wq1 : List UInt8 := [119, 104, 101, 114, 101, 32, 35, 51, 47, 111, 117, 116, 32, 115, 32, 35, 50, 47, 111, 117, 116, 32, 116, 111, 116, 97, 108, 32, 35, 49, 32, 50, 32, 42, 47, 103, 114, 111, 117, 112, 32, 49, 47]
def wq2 : List UInt8 := [119, 104, 101, 114, 101, 32, 35, 49, 47, 111, 117, 116, 32, 97, 32, 35, 49, 47, 103, 114, 111, 117, 112, 32, 110, 111, 110, 101, 47]
def wq3 : List UInt8 := [119, 104, 101, 114, 101, 32, 110, 111, 110, 101, 47, 111, 117, 116, 32, 97, 32, 35, 50, 47, 103, 114, 111, 117, 112, 32, 48, 47]
def wq4 : List UInt8 := [119, 104, 101, 114, 101, 32, 110, 111, 110, 101, 47, 111, 117, 116, 32, 97, 32, 35, 52, 47, 103, 114, 111, 117, 112, 32, 110, 111, 110, 101, 47]
def wn0 : List UInt8 := [119, 104, 101, 114, 101, 32, 110, 111, 110, 101, 47, 111, 117, 116, 32, 97, 32, 35, 49, 47, 111, 117, 116, 32, 97, 32, 35, 49, 47, 103, 114, 111, 117, 112, 32, 110, 111, 110, 101, 47]
def wn1 : List UInt8 := [119, 104, 101, 114, 101, 32, 110, 111, 110, 101, 47, 103, 114, 111, 117, 112, 32, 110, 111, 110, 101, 47]
def wn2 : List UInt8 := [119, 104, 101, 114, 101, 32, 110, 111, 110, 101, 47, 111, 117, 116, 32, 97, 32, 35, 49, 47]
def wn3 : List UInt8 := [119, 104, 101, 114, 101, 32, 110, 111, 110, 101, 47, 111, 117, 116, 32, 97, 32, 35, 49, 47, 103, 114, 111, 117, 112, 32, 50, 47]
def wn4 : List UInt8 := [119, 104, 101, 114, 101, 47]
def wn5 : List UInt8 := []
def wn6 : List UInt8 := [119, 104, 101, 114, 101, 32, 110, 111, 110, 101, 47, 111, 117, 116, 32, 97, 32, 35, 49, 47, 103, 114, 111, 117, 112, 32, 48, 49, 47]
theorem uD : XC = [wq0, wq1, wq2, wq3, wq4] ∧ XD = [wn0, wn1, wn2, wn3, wn4, wn5, wn6] := by decide +kernel
theorem Y6 : dX (slash wq0) = (uH.getD 0 eF, 0, 0) := uX 0 (by rw [uD.1]; rfl) rfl
theorem Y7 : dX (slash wq1) = (uH.getD 1 eF, 0, 0) := uX 1 (by rw [uD.1]; rfl) rfl
theorem Y8 : dX (slash wq2) = (uH.getD 2 eF, 0, 0) := uX 2 (by rw [uD.1]; rfl) rfl
theorem Y9 : dX (slash wq3) = (uH.getD 3 eF, 0, 0) := uX 3 (by rw [uD.1]; rfl) rfl
theorem Za : dX (slash wq4) = (uH.getD 4 eF, 0, 0) := uX 4 (by rw [uD.1]; rfl) rfl
theorem Zb : dX (slash wn0) = (eF, 0, 2) := ql 0 (by rw [uD.2]; rfl) rfl
theorem Zc : dX (slash wn1) = (eF, 1, 4) := ql 1 (by rw [uD.2]; rfl) rfl
theorem Zd : dX (slash wn2) = (eF, 2, 4) := ql 2 (by rw [uD.2]; rfl) rfl
theorem Ze : dX (slash wn3) = (eF, 0, 2) := ql 3 (by rw [uD.2]; rfl) rfl
theorem Zf : dX (slash wn4) = (eF, 0, 4) := ql 4 (by rw [uD.2]; rfl) rfl
theorem Zg : dX (slash wn5) = (eF, 0, 4) := ql 5 (by rw [uD.2]; rfl) rfl
theorem Zh : dX (slash wn6) = (eF, 2, 4) := ql 6 (by rw [uD.2]; rfl) rfl
def cw0 : List gG := [⟨1, [97], ⟨3, false⟩, cell0⟩, ⟨2, [98], ⟨1, false⟩, cell0⟩]
def cw1 : List gG := [⟨1, [115], ⟨4, true⟩, ⟨true, 0, []⟩⟩, ⟨2, eB, ⟨3, false⟩, cell0⟩, ⟨3, [116, 111, 116, 97, 108], ⟨3, false⟩, cell0⟩]
theorem exc (i : Nat) {p : cB} {x : List gG × Int} (hp : uH[i]? = some p) (hx : Y4[i]? = some x) : jN mD p = x := by
 rw [← Ko.1, List.getElem?_map, hp] at hx
 injection hx
theorem Zi : jN mD (uH.getD 0 eF) = (cw0, 0) := exc 0 rfl rfl
theorem Zj : jN mD (uH.getD 1 eF) = (cw1, 0) := exc 1 rfl rfl
theorem Zk : jN mD (uH.getD 2 eF) = ([], 230) := exc 2 rfl rfl
theorem Zl : jN mD (uH.getD 3 eF) = ([], 230) := exc 3 rfl rfl
theorem Zm : jN mD (uH.getD 4 eF) = ([], 220) := exc 4 rfl rfl
def Vo : cB := ⟨[], [⟨eB, [⟨1, 1, []⟩]⟩], 0⟩
theorem KE : nH Vo := ⟨fun x hx => absurd hx List.not_mem_nil, fun o ho x hx => by
 have zU := List.mem_singleton.1 ho
 subst zU
 have mq := List.mem_singleton.1 hx
 subst mq
 unfold fits; decide⟩
section
variable {w : World}
theorem Ag (hT : je w) : bF Tryz.prog 18 [] w fun v w' => v = .bool true ∧ Kept noB w w' := by
 have H := Sep.bB w
 refine JW Tryz.func18 rfl rfl rfl ?_
 refine Sr (Am ?_)
 refine Nx (Vv (Gives.build (out := aJ gq) (Fills.one rfl rfl rfl (by simp) rfl Fills.nil)) (bD H (h := fun b1 w4 H4 k3 => ?_)))
 refine aD H4 (h := fun w6 H6 => ?_)
 refine Qn (au (Sr (aZ H6 (h := ?_))))
 refine Vv (Gives.build (out := bE ⟨1, [97], ⟨3, false⟩, cell0⟩) (Fills.one rfl rfl rfl (by simp) rfl (Fills.one rfl rfl rfl (by simp) rfl (Fills.many rfl rfl (Nat.le_of_ble_eq_true rfl) rfl Fills.nil)))) (Vv (Gives.build (out := aJ ⟨1, false⟩) (Fills.one rfl rfl rfl (by simp) rfl Fills.nil)) ?_)
 refine Vv (Gives.build (out := bE ⟨2, [98], ⟨1, false⟩, cell0⟩) (Fills.one rfl rfl rfl (by simp) rfl (Fills.one rfl rfl rfl (by simp) rfl (Fills.many rfl rfl (Nat.le_of_ble_eq_true rfl) rfl Fills.nil)))) (aX H6 (xs := [.tmp 6, .tmp 8]) (out := cw0.flatMap bE) (aU.many rfl rfl (aU.many rfl rfl aU.nil)) rfl rfl rfl (fun ba wa Ha ka => ?_))
 refine aN Ha (KD wq0 (by decide) Y6 Zi ⟨some ⟨ba, 0, none⟩, 2, rfl, ⟨Nat.le_refl _, by decide⟩, Sep.gJ Ha At0 rfl⟩ (hT.keep Ha.kept)) (h := fun wb Hb kb => ?_)
 refine Vv (Gives.not rfl) (Mv ?_)
 refine dh (t := 12) rfl (fun Sa => ?_) (fun Sa => ?_)
 ·exact Bool.noConfusion Sa
 refine On (Vv (Gives.build (out := aJ ⟨4, true⟩) (Fills.one rfl rfl rfl (by simp) rfl (Fills.one rfl rfl rfl (by simp) rfl Fills.nil))) (On ?_))
 refine Vv (Gives.build (out := bK ⟨true, 0, []⟩) (Fills.one rfl rfl rfl (by simp) rfl Fills.nil)) (On ?_)
 refine Vv (Gives.build (out := bE ⟨1, [115], ⟨4, true⟩, ⟨true, 0, []⟩⟩) (Fills.one rfl rfl rfl (by simp) rfl (Fills.one rfl rfl rfl (by simp) rfl (Fills.many rfl rfl (Nat.le_of_ble_eq_true rfl) rfl (Fills.many rfl rfl (Nat.le_of_ble_eq_true rfl) rfl Fills.nil))))) (On ?_)
 refine aZ Hb (h := ?_)
 refine On (Vv (Gives.build (out := bE ⟨2, eB, ⟨3, false⟩, cell0⟩) (Fills.one rfl rfl rfl (by simp) rfl (Fills.one rfl rfl rfl (by simp) rfl (Fills.many rfl rfl (Nat.le_of_ble_eq_true rfl) rfl Fills.nil)))) (On ?_))
 refine aZ Hb (h := ?_)
 refine On (Vv (Gives.build (out := bE ⟨3, [116, 111, 116, 97, 108], ⟨3, false⟩, cell0⟩) (Fills.one rfl rfl rfl (by simp) rfl (Fills.one rfl rfl rfl (by simp) rfl (Fills.many rfl rfl (Nat.le_of_ble_eq_true rfl) rfl Fills.nil)))) (On ?_))
 refine aX Hb (xs := [.tmp 15, .tmp 17, .tmp 19]) (out := cw1.flatMap bE) (aU.many rfl rfl (aU.many rfl rfl (aU.many rfl rfl aU.nil))) rfl rfl rfl (fun bb wc Hc kc => ?_)
 refine On (aN Hc (KD wq1 (by decide) Y7 Zj ⟨some ⟨bb, 0, none⟩, 3, rfl, ⟨Nat.le_refl _, by decide⟩, Sep.gJ Hc At0 rfl⟩ (hT.keep Hc.kept)) (h := fun wd Hd kd => ?_))
 refine On (Vv (Gives.not rfl) (Pf ?_))
 refine Qn (Cd rfl (fun Ia => ?_) (fun Ia => ?_))
 ·exact Bool.noConfusion Ia
 refine Sk (au (Sr (aN Hd (Ja wq2 (by decide) Y8 Zk (hT.keep Hd.kept)) (h := fun we He ke => ?_))))
 refine Vv (Gives.not rfl) (Mv ?_)
 refine dh (t := 26) rfl (fun Sb => ?_) (fun Sb => ?_)
 ·exact Bool.noConfusion Sb
 refine On (aN He (Ja wq3 (by decide) Y9 Zl (hT.keep He.kept)) (h := fun wf Hf kf => ?_))
 refine On (Vv (Gives.not rfl) (Pf ?_))
 refine Mv ?_
 refine dh (t := 30) rfl (fun Sc => ?_) (fun Sc => ?_)
 ·exact Bool.noConfusion Sc
 refine On (aN Hf (Ja wq4 (by decide) Za Zm (hT.keep Hf.kept)) (h := fun wg Hg kg => ?_))
 refine On (Vv (Gives.not rfl) (Pf ?_))
 refine Qn (Cd rfl (fun Ib => ?_) (fun Ib => ?_))
 ·exact Bool.noConfusion Ib
 refine Sk (Sr (eX Hg Af (h := fun bc wh _ Hh kh => ?_)))
 refine Vv (Gives.build (out := aI ⟨1, 1, []⟩) (Fills.one rfl rfl rfl (by simp) rfl (Fills.one rfl rfl rfl (by simp) rfl Fills.nil))) (aX Hh (xs := [.tmp 36]) (out := [(⟨1, 1, []⟩ : bL)].flatMap aI) (aU.many rfl rfl aU.nil) rfl rfl rfl (fun bs wi Hi ki => ?_))
 refine Vv (Gives.build (out := bO (eB, .slice (some ⟨bs, 0, none⟩) 1 1)) (Fills.one rfl rfl rfl (by simp) rfl (Fills.one rfl rfl rfl (by simp) rfl Fills.nil))) (aX Hi (xs := [.tmp 38]) (out := [(eB, Value.slice (some ⟨bs, 0, none⟩) 1 1)].flatMap bO) (aU.many rfl rfl aU.nil) rfl rfl rfl (fun bo wj Hj kj => ?_))
 refine Vv (Gives.build (out := [.slice none 0 0, .slice (some ⟨bo, 0, none⟩) 1 1, I 0]) (Fills.one rfl rfl rfl (by simp) rfl Fills.nil)) ?_
 have Xj : fD _ (agg [.slice none 0 0, .slice (some ⟨bo, 0, none⟩) 1 1, I 0]) Vo := ⟨_, _, rfl, iC, [(eB, .slice (some ⟨bs, 0, none⟩) 1 1)], ⟨some ⟨bo, 0, none⟩, 1, rfl, ⟨Nat.le_refl _, by decide⟩, Sep.gJ Hj At0 rfl⟩, (lJ.nil).push (n := eB) ⟨some ⟨bs, 0, none⟩, 1, rfl, ⟨Nat.le_refl _, by decide⟩, Sep.gJ Hj At1 rfl⟩⟩
 refine eX Hj (vV (cols := mD) (p := Vo) ⟨some ⟨bc, 0, none⟩, 3, rfl, ⟨Nat.le_refl _, by decide⟩, Sep.gJ Hj At2 rfl⟩ Xj KE.1 KE.2 (by decide) (hT.keep Hj.kept)) (h := fun vo wk _ Hk kk => ?_)
 rw [show jN mD Vo = ([], 230) from Ko.2]
 refine Mv ?_
 refine Vx ?_
 refine Vx ?_
 refine Am ?_
 refine Am ?_
 refine Qn (au (Sr (Mv ?_)))
 refine Vn ?_
 refine Mv ?_
 refine aG (t := 46) rfl (fun Sd => ?_) (fun Sd => ?_)
 ·exact (Sd trivial).elim
 refine On (aN Hk (qm wn0 (by decide) Zb (hT.keep Hk.kept)) (h := fun wl Hl kl => ?_))
 refine On (Vv (Gives.not rfl) (Pf ?_))
 refine Mv ?_
 refine dh (t := 50) rfl (fun Se => ?_) (fun Se => ?_)
 ·exact Bool.noConfusion Se
 refine On (aN Hl (qm wn1 (by decide) Zc (hT.keep Hl.kept)) (h := fun wm Hm km => ?_))
 refine On (Vv (Gives.not rfl) (Pf ?_))
 refine Mv ?_
 refine dh (t := 54) rfl (fun Sf => ?_) (fun Sf => ?_)
 ·exact Bool.noConfusion Sf
 refine On (aN Hm (qm wn2 (by decide) Zd (hT.keep Hm.kept)) (h := fun wn Hn kn => ?_))
 refine On (Vv (Gives.not rfl) (Pf ?_))
 refine Mv ?_
 refine dh (t := 58) rfl (fun Sg => ?_) (fun Sg => ?_)
 ·exact Bool.noConfusion Sg
 refine On (aN Hn (qm wn3 (by decide) Ze (hT.keep Hn.kept)) (h := fun wo Ho ko => ?_))
 refine On (Vv (Gives.not rfl) (Pf ?_))
 refine Qn (Cd rfl (fun Ic => ?_) (fun Ic => ?_))
 ·exact Bool.noConfusion Ic
 refine Sk (Sr (aN Ho (qm wn4 (by decide) Zf (hT.keep Ho.kept)) (h := fun wp Hp kp => ?_)))
 refine Mv ?_
 refine dh (t := 63) rfl (fun Sh => ?_) (fun Sh => ?_)
 ·refine On (aN Hp (qm wn5 (by decide) Zg (hT.keep Hp.kept)) (h := fun wq Hq kq => ?_))
  refine Pt ?_
  refine Mv ?_
  refine dh (t := 66) rfl (fun Si => ?_) (fun Si => ?_)
  ·refine On (aN Hq (qm wn6 (by decide) Zh (hT.keep Hq.kept)) (h := fun wr Hr kr => ?_))
   refine Pt ?_
   refine Am ?_
   refine Qn (aM (ak (hR := ?_)))
   exact ⟨rfl, Hr.kept⟩
  exact absurd Si (by decide)
 exact absurd Sh (by decide)
end
end Go.Proofs.YtolaedhdjcnijaaGreatDoor
namespace Go.Mw
open Go.RowKit
section
variable {P : Program} {ρ : Operand → Value} {ty : TypeId} {w w₀ : World} {x y : Operand} {α : Type} {enc : α → List Value} {k : Nat} {l : List α} {A : Option Addr}
end
end Go.Mw
namespace Go.Proofs.YtolaedhdjcnijaaGreatDoor
open Go Go.Mw Go.Lib
set_option maxRecDepth 4000
def PZ (x : Int × Int) : List Value := [I x.1, I x.2]
instance : jU PZ 2 := ⟨fun _ => rfl⟩
section
variable {w : World}
end
section
variable {w : World}
end
section
variable {w : World}
theorem lY (s : List UInt8) {p : cB} {v : Value} (hp : fD w v p) (hpf : nH p) (hT : je w) : bF Tryz.prog 3 [v, str s] w fun v' w' => v' = .bool true ∧ Kept noB w w' := by
 have H := Sep.bB w
 obtain ⟨A0, a0, B0, b0, rfl⟩ := gy hp
 obtain ⟨q, hq⟩ : ∃ q, q = BO p := ⟨_, rfl⟩
 obtain ⟨YT, abE, hqw, hqc⟩ := KC hpf
 rw [← hq] at YT abE hqw hqc
 obtain ⟨t, ht⟩ : ∃ t, t = s.take 2000 := ⟨_, rfl⟩
 have zV : t.length ≤ 2000 := by rw [ht, List.length_take]; omega
 obtain ⟨P, hP⟩ : ∃ P, P = dX t := ⟨_, rfl⟩
 refine eU Tryz.func3 rfl rfl rfl rfl ?_
 refine Sr (dz H (cs := [.slice A0 p.wh.length a0, .slice B0 p.cols.length b0, I p.group]) rfl (h := fun b2 w2 H2 k1 => ?_))
 refine Am ?_
 refine Qn (au (bG rfl H2 (h := fun sG w6 H6 => ?_)))
 refine dD sG 0 H6 (h := ?_)
 refine Gm sG 2 ?_
 refine Gm sG 3 ?_
 refine Gp sG 4 rfl rfl (fun _ => (Gives.VA rfl)) (Gp sG 5 rfl rfl (fun _ => (Gives.U2 rfl rfl (CF s 2000))) ?_)
 refine Gp sG 6 rfl rfl (fun _ => (Gives.lq (l := s) (i := (s.take 2000).length) rfl rfl (by rw [List.length_take]; omega))) ?_
 rw [yw, ← ht]
 refine lK sG 1 [(6, true), (5, true), (4, true), (3, true), (2, true)] H6 (Dc (hp.keep H6.kept)) (h := fun x wa _ Ha ka => ?_)
 rw [← hq] at Ha
 obtain ⟨A, a, B, b, rfl⟩ := gy (Sep.sees Ha At0)
 refine ⟨av (av (av (av (av (aK))))), ?_⟩
 refine dF sG 7 [(6, true), (5, true), (4, true), (3, true), (2, true)] Ha (h := fun wb Hb => ⟨av (av (av (av (av (aK))))), ?_⟩)
 refine rX sG 8 [] (h := ⟨aK, ?_⟩)
 refine bR sG (by kernel_rfl) ?_
 refine aj (Sr (aZ Hb (h := ?_)))
 refine eX Hb (zo (p := q) (Sep.sees Hb At0) (by omega) (by omega) (fun o ho => by have := hqc o ho; omega)) (h := fun y wc _ Hc kb => ?_)
 obtain ⟨A5, a5, B5, c5, rfl⟩ := gy (Sep.sees Hc At0)
 refine bD Hc (h := fun b5 wd Hd kc => ?_)
 refine aD Hd (h := fun we He => ?_)
 refine Nx (aZ He (h := ?_))
 refine aN He (Fj (p := q) (Sep.sees He At2) YT.1 YT.2 (by omega) (hT.keep He.kept)) (h := fun wf Hf kd => ?_)
 refine Mv ?_
 refine Vx ?_
 refine Vx ?_
 refine Am ?_
 refine Am ?_
 refine Nx (aZ Hf (h := ?_))
 refine aN Hf (Fp (p := q) (Sep.sees Hf At1) YT.1 YT.2) (h := fun wg Hg ke => ?_)
 refine Mv ?_
 refine Vx ?_
 refine Vx ?_
 refine Am ?_
 refine Am ?_
 refine Nx (Mv ?_)
 refine eX Hg (sW t (.inl (by omega)) (by omega) (hT.keep Hg.kept)) (h := fun x5 wi _ Hh kf => ?_)
 rw [← hP] at Hh ⊢
 obtain ⟨A10, a10, B10, c10, rfl⟩ := gy (Sep.sees Hh At0)
 refine Mv ?_
 refine Vx ?_
 refine Vx ?_
 refine Vx ?_
 refine bD Hh (h := fun b10 wj Hi kg => ?_)
 refine aD Hi (h := fun wk Hj => ?_)
 refine Am ?_
 refine Am ?_
 refine Nx (Mv ?_)
 refine eX Hj (M6 t (by omega)) (h := fun x6 wl _ Hk kh => ?_)
 rw [← hP] at Hk ⊢
 obtain ⟨A13, a13, B13, c13, rfl⟩ := gy (Sep.sees Hk At0)
 refine Mv ?_
 refine Vx ?_
 refine Vx ?_
 refine Vx ?_
 refine bD Hk (h := fun b13 wm Hl ki => ?_)
 refine aD Hl (h := fun wn Hm => ?_)
 refine Am ?_
 refine Am ?_
 refine Nx (Mv ?_)
 refine Mv ?_
 refine Vv (Gives.iD rfl rfl) (Mv ?_)
 refine aG (t := 50) rfl (fun Sa => ?_) (fun Sa => ?_)
 ·refine On (Mv ?_)
  refine On (Mv ?_)
  refine On (Ve ?_)
  refine Pt ?_
  refine Mv ?_
  refine aG (t := 55) rfl (fun Sb => ?_) (fun Sb => ?_)
  ·refine On (aZ Hm (h := ?_))
   refine On (aZ Hm (h := ?_))
   refine On (aN Hm (zk (p := P.1) (q := P.1) (Sep.sees Hm At3) (Sep.sees Hm At1)) (h := fun wo Hn kj => ?_))
   refine Pt ?_
   refine Mv ?_
   refine aG (t := 60) rfl (fun Sc => ?_) (fun Sc => ?_)
   ·refine On (Mv ?_)
    refine On (Mv ?_)
    refine On (Ve ?_)
    refine Pt ?_
    refine Mv ?_
    refine aG (t := 65) rfl (fun Sd => ?_) (fun Sd => ?_)
    ·refine On (Mv ?_)
     refine On (Mv ?_)
     refine On (Ve ?_)
     refine Pt ?_
     refine Mv ?_
     refine aG (t := 70) rfl (fun Se => ?_) (fun Se => ?_)
     ·refine On (aZ Hn (h := ?_))
      refine On (aZ Hn (h := ?_))
      refine On (aN Hn (zk (p := q) (q := q) (Sep.sees Hn At6) (Sep.sees Hn At5)) (h := fun wp Ho kk => ?_))
      refine Pt ?_
      refine Mv ?_
      refine aG (t := 75) rfl (fun Sf => ?_) (fun Sf => ?_)
      ·refine On (aN Ho (Ag (hT.keep Ho.kept)) (h := fun wq Hp kl => ?_))
       refine Pt ?_
       refine Am ?_
       refine Qn (aM (ak (hR := ?_)))
       exact ⟨rfl, Hp.kept⟩
      exact (Sf trivial).elim
     exact (Se trivial).elim
    exact (Sd trivial).elim
   exact (Sc trivial).elim
  exact (Sb trivial).elim
 exact (Sa trivial).elim
end
end Go.Proofs.YtolaedhdjcnijaaGreatDoor
namespace Go.Mw
open Go.RowKit
section
variable {P : Program} {r : Option Nat} {n : Nat} {ops : Array Oper} {Q : Post} {rest : List Oper} {σ : St} {w w₀ : World} {S : Nat → Prop} {rs : List HP} {put : HP → List HP} {ty : TypeId} {pos : String} {after : Array Edge} {lv : List Bool} {pd : List (Nat × Bool)} {guard : Option (Nat × Bool)}
variable {α : Type} {enc : α → List Value} {k e c : Nat} {l : List α} {A : Option Addr}
theorem FC (hk : ∀ x, (enc x).length = k) (a' : α) : ∀ {l : List α} {i : Nat}, i < l.length → (l.flatMap enc).take (i * k) ++ enc a' ++ (l.flatMap enc).drop (i * k + k) = (l.set i a').flatMap enc
 | [], _, h => absurd h (by simp)
 | x :: l, 0, _ => by
  rw [Nat.zero_mul, List.take_zero, List.nil_append, Nat.zero_add, List.set_cons_zero, List.flatMap_cons, List.flatMap_cons, List.drop_left' (hk x)]
 | x :: l, i + 1, h => by
  have ih := FC hk a' (l := l) (i := i) (by simpa using h)
  have hx := hk x
  rw [List.set_cons_succ, List.flatMap_cons, List.flatMap_cons, List.take_append, List.take_of_length_le (by rw [hx, Nat.succ_mul]; omega), List.drop_append, List.drop_of_length_le (by rw [hx, Nat.succ_mul]; omega), hx, show (i + 1) * k - k = i * k by rw [Nat.succ_mul]; omega, show (i + 1) * k + k - k = i * k + k by rw [Nat.succ_mul]; omega, List.nil_append, List.append_assoc, List.append_assoc, ← List.append_assoc ((l.flatMap enc).take (i * k)), ih]
theorem Jb {ρ : Operand → Value} {x y : Operand} {T : TypeId} [h1 : Agg P T k] [hk : jU enc k] {i : Nat} (a' : α) {m : Nat} (hm : m = l.length) (H : Sep w₀ S rs w) (hat : At rs (cO e k enc (.slice A m c) l) put) (hi : i < l.length) (hx : ρ x = adr A (i * k)) (hy : ρ y = .agg (enc a').toArray) (hv : (enc a').all Value.oneCell' = true) :
    ∃ w', JX P ρ (.store T x y) ty w w' ∧ Sep w₀ S (put (cO e k enc (.slice A m c) (l.set i a'))) w' := by
  subst hm
  obtain ⟨F, hp, hS, zR⟩ := H.focus hat
  have H0 := Sep.iy hp
  obtain ⟨g, c', rest, hvv, hlen, UO, rG, yU, H1⟩ := H0.Je At0 (by omega)
  injection hvv with hA _ hc
  subst hA; subst hc
  have hb := H1.obj At0
  have O7 := jT hk.len l
  have hu : (enc a').length = k := hk.len a'
  have Rc : (i + 1) * k ≤ l.length * k := Nat.mul_le_mul_right k hi
  rw [Nat.succ_mul] at Rc
  have dJ := run_storeCells_at P g (i * k) e (enc a') 0 (l.flatMap enc ++ rest).toArray w hb (by simp only [List.size_toArray, List.length_append, O7, hu]; omega) (fun u hu => List.all_eq_true.1 hv u hu)
  have hs : (l.flatMap enc ++ rest).take (i * k) ++ enc a' ++ (l.flatMap enc ++ rest).drop (i * k + (enc a').length) = (l.set i a').flatMap enc ++ rest := by
    rw [hu, List.take_append_of_le_length (by rw [O7]; omega), List.drop_append_of_le_length (by rw [O7]; omega), ← FC hk.len a' hi]
    simp only [List.append_assoc]
  have dK : Kept (fun z => z = g) w (w.setRow g ((l.set i a').flatMap enc ++ rest).toArray) := ⟨rfl, rfl, rfl, by simp, fun j hj hS => by simp only [World.setRow, Array.getElem?_modify]; rw [if_neg (fun e => hS e.symm)]⟩
  have zU : (w.setRow g ((l.set i a').flatMap enc ++ rest).toArray).heap[g]? = some (.cells ((l.set i a').flatMap enc ++ rest).toArray e (0, 0)) := by
    simp only [World.setRow, Array.getElem?_modify, if_true, hb, Option.map_some]
  have H3 : Sep w F [blk g ((l.set i a').flatMap enc ++ rest) e] _ := H1.setObj (At0 (p := blk g (l.flatMap enc ++ rest) e) (l := [])) dK zU
  have Oe := jT hk.len (l.set i a')
  rw [List.length_set] at Oe
  have H4 := H3.Jf (n := l.length) (c := c) At0 (by rw [List.length_append, Oe]; rw [List.length_append, O7] at hlen; exact hlen) Oe rG yU
  refine ⟨w.setRow g ((l.set i a').flatMap enc ++ rest).toArray, fun _ _ _ _ => ?_, ?_⟩
  · have mq : ρ x = .pointer (some ⟨g, i * k, none⟩) := by rw [hx]; show Value.pointer (some (Addr.add ⟨g, 0, none⟩ (i * k))) = _; rw [Addr.add_lit, Nat.zero_add]
    have ER := dJ
    simp only [Nat.add_zero] at ER
    rw [hs] at ER
    simp [execOp, mq, hy, Instr.storeAt, Instr.sureAddr, storeVar, h1.size, Value.cells, hu]
    rw [ER]
    simp
  obtain ⟨h5, F5, h6, h7⟩ := H4
  refine zR _ F5 _ h5 ?_ fun b hb => h7 b hb
  have h8 := vY.1 h6
  show (yj e k (.slice (some ⟨g, 0, none⟩) l.length c) (l.set i a').length ((l.set i a').flatMap enc)).ok F5 _
  rw [List.length_set]
  exact h8
end
end Go.Mw
namespace Go.Proofs.YtolaedhdjcnijaaGreatDoor
open Go Go.Mw Go.Lib
set_option maxRecDepth 4000
theorem A9.set {m i : Nat} {r : List iB} {c : iB} (h : A9 m r) (hc : fits c.n ∧ ∀ b, okC (Ov b i).type c) : A9 m (r.set i c) := by
 refine ⟨by rw [List.length_set]; exact h.len, fun y hy => ?_, fun b j d hd => ?_⟩
 ·rcases List.mem_or_eq_of_mem_set hy with h1 | h1
  ·exact h.fit y h1
  rw [h1]; exact hc.1
 by_cases hj : i = j
 ·subst hj
  rw [List.getElem?_set_self' ] at hd
  cases hg : r[i]? with
  | none => rw [hg] at hd; cases hd
  | some z => rw [hg] at hd; simp at hd; rw [← hd]; exact hc.2 b
 rw [List.getElem?_set_ne hj] at hd; exact h.ok b j d hd
section
variable {w : World}
end
section
variable {w : World}
end
def hi0 (k a b : Int) : Int := if k = 8 then a / 4294967296 - b / 4294967296 else a / 4294967296 + b / 4294967296
section
variable {w : World}
end
section
variable {w : World}
end
section
variable {w : World}
end
end Go.Proofs.YtolaedhdjcnijaaGreatDoor
namespace Go.Mw
open Go.RowKit
section
variable {P : Program} {r : Option Nat} {n : Nat} {ops : Array Oper} {Q : Post} {rest : List Oper} {σ : St} {w w₀ : World} {S : Nat → Prop} {rs : List HP} {put : HP → List HP} {ty : TypeId} {pos : String} {after : Array Edge} {lv : List Bool} {pd : List (Nat × Bool)} {guard : Option (Nat × Bool)}
theorem Gives.Zn {ρ : Operand → Value} {x y : Operand} {t e : TypeId} [hs : dA P t e] {size bytes : Nat} [hc : Cells P e size bytes] {z : Value} [hz : Zero P e z] {k : Nat} {cs : List Value} (hx : ρ x = .int .i64 k) (hy : ρ y = .int .i64 k) (oK : madeCells z.cells (k * size) = cs.toArray) (hb : bytes * k ≤ 281474976710656) (hk : k ≤ maxLen) :
    Gives P ρ (.makeSlice t x y) ty w (.slice (some ⟨w.heap.size, 0, none⟩) k k) (w.alloc (.cells cs.toArray e)) := fun _ _ _ _ => by
  obtain ⟨i, hi, qB⟩ := Option.map_eq_some_iff.1 hc.size
  simp only [Prod.mk.injEq] at qB
  have vN : i.zero = some z := by
    have := hz.run w
    simp [zeroValue, typeInfo, hi] at this
    cases hq : i.zero with
    | none => simp [hq] at this
    | some u => simp [hq] at this; rw [this]
  have iP := run_make (P := P) w t e i z hs.und hi vN .i64 .i64 (k : Int) (k : Int) (by omega) (by omega) (by rw [qB.2, ← Int.natCast_mul]; generalize bytes * k = q at hb ⊢; omega) (by unfold maxLen at hk; omega)
  rw [Int.toNat_natCast, qB.1, oK] at iP
  simp only [execOp, hx, hy, Sem.run_bind, iP, Result.andThen_ok, Sem.run_pure]
theorem R7 {d : Nat} {x y : Operand} {t e : TypeId} [hs : dA P t e] {size bytes : Nat} [hc : Cells P e size bytes] {z : Value} [hz : Zero P e z] {k : Nat} {cs : List Value} (H : Sep w₀ S rs w) (oK : madeCells z.cells (k * size) = cs.toArray) (hk : k ≤ maxLen) (hb : bytes * k ≤ 281474976710656) (hx : evF σ x = .int .i64 k := by exact rfl) (hy : evF σ y = .int .i64 k := by exact rfl) (hd : Nat.blt d n = true := by exact rfl)
    (h : ∀ b w', Sep w₀ S (blk b cs e :: rs) w' → Kept noB w w' → FL P r n ops Q rest (upd σ d (.slice (some ⟨b, 0, none⟩) k k)) w') :
    FL P r n ops Q ({ dst := some d, op := .makeSlice t x y, type := ty, pos := pos, after := after, guard := none } :: rest) σ w :=
  eu (Gives.Zn hx hy oK hb hk) hd (h _ _ (H.alloc _) (Kept.alloc _ _))
theorem yD {α : Type} {enc : α → List Value} {k e c : Nat} {l : List α} {A : Option Addr} {x y : Operand} {T : TypeId} [h1 : Agg P T k] [hk : jU enc k] {i : Nat} (a' : α) {m : Nat} (hm : m = l.length) (H : Sep w₀ S rs w) (hat : At rs (cO e k enc (.slice A m c) l) put) (hi : i < l.length) (hv : (enc a').all Value.oneCell' = true)
    (h : ∀ w', Sep w₀ S (put (cO e k enc (.slice A m c) (l.set i a'))) w' → FL P r n ops Q rest σ w') (hx : evF σ x = adr A (i * k) := by exact rfl) (hy : evF σ y = .agg (enc a').toArray := by exact rfl) :
    FL P r n ops Q ({ dst := none, op := .store T x y, type := ty, pos := pos, after := after, guard := none } :: rest) σ w := by
  obtain ⟨w', ha, hs⟩ := Jb (P := P) (ty := ty) (T := T) a' hm H hat hi hx hy hv
  exact zY ha rfl (h w' hs)
end
end Go.Mw
namespace Go.Proofs.YtolaedhdjcnijaaGreatDoor
open Go Go.Mw Go.Lib Go.RowKit
set_option maxRecDepth 4000
section
variable {w w₀ : World} {S : Nat → Prop} {rs : List HP} {put : HP → List HP}
theorem Df {α : Type} {enc : α → List Value} {k b e m : Nat} [hk : jU enc k] {l : List α} (H : Mw.Sep w₀ S rs w) (hat : At rs (blk b (l.flatMap enc) e) put) (hm : m = l.length) (hl : l.length ≤ 100000) : dn w (.slice (some ⟨b, 0, none⟩) m m) enc k l := by
 subst hm
 exact ⟨_, _, rfl, ⟨Nat.le_refl _, by omega⟩, Sep.gJ H hat (jT hk.len l)⟩
end
/-! The words of the known expressions. -/
end Go.Proofs.YtolaedhdjcnijaaGreatDoor
namespace Go.Proofs.YtolaedhdjcnijaaGreatDoor
open Go Go.Mw Go.Lib
set_option maxRecDepth 4000
section
variable {w : World}
theorem sZ {cols : List gG} {p q : cB} {vc vp vq : Value} (hc : dn w vc bE 7 cols) (hp : fD w vp p) (hpf : nH p) (hq : fD w vq q) (YT : nH q) (hT : je w) : bF Tryz.prog 8 [vc, vp, vq] w fun v' w' => v' = .bool true ∧ Kept noB w w' := by
 have H := Sep.bB w
 obtain ⟨Ac, mc, rfl, ⟨hmc, abF⟩, hAc⟩ := hc
 obtain ⟨A1, a1, B1, b1, rfl⟩ := gy hp
 obtain ⟨A2, a2, B2, b2, rfl⟩ := gy hq
 obtain ⟨P, hP⟩ : ∃ P, P = BO p := ⟨_, rfl⟩
 obtain ⟨hPf, abG, hPw, YU⟩ := KC hpf
 rw [← hP] at hPf abG hPw YU
 obtain ⟨U, hU⟩ : ∃ U, U = BO q := ⟨_, rfl⟩
 obtain ⟨d, hd⟩ : ∃ d, d = cols.take 40 := ⟨_, rfl⟩
 have hdl : d.length ≤ 40 := by rw [hd, List.length_take]; omega
 have adS : d.length ≤ cols.length := by rw [hd, List.length_take]; omega
 have abH : Min.min ((cols.length : Nat) : Int) 40 = ((d.length : Nat) : Int) := by rw [hd, List.length_take]; omega
 obtain ⟨cr, YJ⟩ : ∃ cr, cr = jN d P := ⟨_, rfl⟩
 obtain ⟨us, hus⟩ : ∃ us, us = CG P := ⟨_, rfl⟩
 have JU : ∀ x ∈ P.wh ++ P.cols.flatMap (·.steps), fits x.n := fun x hx => by
  rcases List.mem_append.1 hx with h | h
  ·exact hPf.1 x h
  obtain ⟨o, ho, hxo⟩ := List.mem_flatMap.1 h
  exact hPf.2 o ho x hxo
 refine EU Tryz.func8 rfl rfl rfl rfl ?_
 refine Sr (dz H (cs := [.slice A1 p.wh.length a1, .slice B1 p.cols.length b1, I p.group]) rfl (h := fun b4 w2 H2 k1 => ?_))
 refine dz H2 (cs := [.slice A2 q.wh.length a2, .slice B2 q.cols.length b2, I q.group]) rfl (h := fun b5 w4 H4 k3 => ?_)
 refine Am ?_
 refine Qn (au (bG rfl H4 (h := fun ni w8 H8 => ?_)))
 refine Gm ni 0 ?_
 refine Gm ni 1 ?_
 refine Gp ni 2 rfl rfl (fun _ => (Gives.rJ rfl)) (Gp ni 3 rfl rfl (fun _ => (Gives.U2 rfl rfl abH)) ?_)
 refine Gp ni 4 rfl rfl (fun _ => (Gives.sliceTo (h := d.length) rfl rfl (by omega))) (dD ni 6 H8 (h := ?_))
 refine dD ni 8 H8 (h := ?_)
 refine lK ni 5 [(8, false), (6, false)] H8 (vI (l := d) ⟨Ac, mc, rfl, ⟨by omega, abF⟩, by rw [hd]; exact (hAc.keep H8.kept).cut 40⟩ (by omega)) (h := fun v1 wa _ Ha ka => ?_)
 obtain ⟨D1, c1, rfl, Rm, _⟩ := Sep.fJ Ha At0
 refine ⟨(eZ rfl (by kernel_rfl) (Gives.nQ (cs := [.slice A2 q.wh.length a2, .slice B2 q.cols.length b2, I q.group]) (E := 25) rfl (by first | exact Ha.obj At1 | exact Ha.obj At2) rfl rfl) rfl ((eZ rfl (by kernel_rfl) (Gives.nQ (cs := [.slice A1 p.wh.length a1, .slice B1 p.cols.length b1, I p.group]) (E := 25) rfl (by first | exact Ha.obj At2 | exact Ha.obj At3) rfl rfl) rfl (aK)))), ?_⟩
 refine lK ni 7 [(8, false)] Ha (Dc (hp.keep Ha.kept)) (h := fun x wb _ Hb kb => ?_)
 rw [← hP] at Hb
 obtain ⟨A, a, B, b, rfl⟩ := gy (Sep.sees Hb At0)
 refine ⟨(eZ rfl (by kernel_rfl) (Gives.nQ (cs := [.slice A2 q.wh.length a2, .slice B2 q.cols.length b2, I q.group]) (E := 25) rfl (by first | exact Hb.obj At1 | exact Hb.obj At2) rfl rfl) rfl (aK)), ?_⟩
 refine lK ni 9 [] Hb (Dc (hq.keep Hb.kept)) (h := fun x wc _ Hc kc => ?_)
 rw [← hU] at Hc
 obtain ⟨A', a', B', b', rfl⟩ := gy (Sep.sees Hc At0)
 refine ⟨aK, ?_⟩
 refine rX ni 10 [] (h := ⟨aK, ?_⟩)
 refine dF ni 11 [] Hc (h := fun wd Hd => ⟨aK, ?_⟩)
 refine dF ni 12 [] Hd (h := fun we He => ⟨aK, ?_⟩)
 refine bR ni (by kernel_rfl) ?_
 refine aj (fO (fun z : Nat × (Option Addr × Nat) × (Option Addr × Nat) × (Option Addr × Nat) => [(0, .slice D1 d.length c1), (4, bI b4), (5, bI b5), (7, .slice z.2.1.1 d.length z.2.1.2), (8, bI z.1)]) (fun z w' => Sep w noB [blk z.1 [.slice z.2.2.1.1 P.wh.length z.2.2.1.2, .slice z.2.2.2.1 P.cols.length z.2.2.2.2, I P.group] 25, blk b5 [.slice A' U.wh.length a', .slice B' U.cols.length b', I U.group] 25, blk b4 [.slice A P.wh.length a, .slice B P.cols.length b, I P.group] 25, qK (agg [.slice z.2.2.1.1 P.wh.length z.2.2.1.2, .slice z.2.2.2.1 P.cols.length z.2.2.2.2, I P.group]) P, qK (agg [.slice A' U.wh.length a', .slice B' U.cols.length b', I U.group]) U, qK (agg [.slice A P.wh.length a, .slice B P.cols.length b, I P.group]) P, cO 49 7 bE (.slice z.2.1.1 d.length z.2.1.2) d, cO 49 7 bE (.slice D1 d.length c1) d] w') ?_ ?_)
 ·refine bG rfl He (h := fun Sa wf Hf => ?_)
  refine Gm Sa 0 ?_
  refine dD Sa 2 Hf (h := ?_)
  refine vD Sa (e1 := 1) (e2 := 4) (by kernel_rfl) ?_ ?_
  ·refine yB Sa 1 [(2, false)] Hf (vI (l := d) (by first | exact gQ Hf At2 | exact gQ Hf At3 | exact gQ Hf At4) (by omega)) (h := fun v2 wg _ Hg kd => ?_)
   obtain ⟨D2, c2, rfl, Xc, _⟩ := Sep.fJ Hg At0
   refine ⟨(eZ rfl (by kernel_rfl) (Gives.nQ (cs := [.slice A P.wh.length a, .slice B P.cols.length b, I P.group]) (E := 25) rfl (by first | exact Hg.obj At5 | exact Hg.obj At6) rfl rfl) rfl (aK)), ?_⟩
   refine vD Sa (e1 := 3) (e2 := 4) (by kernel_rfl) ?_ ?_
   ·refine yB Sa 3 [] Hg (zo (p := P) (by first | exact Sep.sees Hg At2 | exact Sep.sees Hg At3) (by omega) (by omega) (fun o ho => by have := YU o ho; omega)) (h := fun y wi _ Hh ke => ?_)
    obtain ⟨A8, a8, B8, c8, rfl⟩ := gy (Sep.sees Hh At0)
    refine ⟨aK, ?_⟩
    refine Jm Sa 4 [] Hh (h := fun b8 wj Hi => ⟨aK, ?_⟩)
    refine Gp Sa 5 rfl rfl (fun _ => Gives.assign rfl) (dF Sa 6 [] Hi (h := fun wk Hj => ⟨aK, ?_⟩))
    refine bR Sa (by kernel_rfl) ?_
    exact aS (b8, (D2, c2), (A8, a8), (B8, c8)) ⟨rfl, rfl, rfl, rfl, rfl, trivial⟩ (by first | exact Hj.fZ.iK.fZ.fZ.qX.gT.gT.gT | exact Hj.fZ.lD.fZ.fZ.qX.gT.gT.gT | exact Hj.fZ.lD.fZ.fZ.fZ.gT.gT.gT)
   refine nW Sa 4 [(2, false)] Hg (h := fun b8 wl Hk => ⟨(eZ rfl (by kernel_rfl) (Gives.nQ (cs := [.slice A P.wh.length a, .slice B P.cols.length b, I P.group]) (E := 25) rfl (by first | exact Hk.obj At5 | exact Hk.obj At6) rfl rfl) rfl (aK)), ?_⟩)
   refine lK Sa 3 [] Hk (zo (p := P) (by first | exact Sep.sees Hk At2 | exact Sep.sees Hk At3) (by omega) (by omega) (fun o ho => by have := YU o ho; omega)) (h := fun y wm _ Hl kf => ?_)
   obtain ⟨A8, a8, B8, c8, rfl⟩ := gy (Sep.sees Hl At0)
   refine ⟨aK, ?_⟩
   refine Gp Sa 5 rfl rfl (fun _ => Gives.assign rfl) (dF Sa 6 [] Hl (h := fun wn Hm => ⟨aK, ?_⟩))
   refine bR Sa (by kernel_rfl) ?_
   exact aS (b8, (D2, c2), (A8, a8), (B8, c8)) ⟨rfl, rfl, rfl, rfl, rfl, trivial⟩ (by first | exact Hm.fZ.iK.fZ.fZ.qX.gT.gT.gT | exact Hm.fZ.lD.fZ.fZ.qX.gT.gT.gT | exact Hm.fZ.lD.fZ.fZ.fZ.gT.gT.gT)
  refine nW Sa 4 [(2, false), (0, true)] Hf (h := fun b8 wo Hn => ⟨(eZ rfl (by kernel_rfl) (Gives.nQ (cs := [.slice A P.wh.length a, .slice B P.cols.length b, I P.group]) (E := 25) rfl (by first | exact Hn.obj At5 | exact Hn.obj At6) rfl rfl) rfl (av (aK))), ?_⟩)
  refine lK Sa 1 [(2, false)] Hn (vI (l := d) (by first | exact gQ Hn At2 | exact gQ Hn At3 | exact gQ Hn At4) (by omega)) (h := fun v2 wp _ Ho kg => ?_)
  obtain ⟨D2, c2, rfl, Xc, _⟩ := Sep.fJ Ho At0
  refine ⟨(eZ rfl (by kernel_rfl) (Gives.nQ (cs := [.slice A P.wh.length a, .slice B P.cols.length b, I P.group]) (E := 25) rfl (by first | exact Ho.obj At5 | exact Ho.obj At6) rfl rfl) rfl (aK)), ?_⟩
  refine lK Sa 3 [] Ho (zo (p := P) (by first | exact Sep.sees Ho At2 | exact Sep.sees Ho At3) (by omega) (by omega) (fun o ho => by have := YU o ho; omega)) (h := fun y wq _ Hp kh => ?_)
  obtain ⟨A8, a8, B8, c8, rfl⟩ := gy (Sep.sees Hp At0)
  refine ⟨aK, ?_⟩
  refine Gp Sa 5 rfl rfl (fun _ => Gives.assign rfl) (dF Sa 6 [] Hp (h := fun wr Hq => ⟨aK, ?_⟩))
  refine bR Sa (by kernel_rfl) ?_
  exact aS (b8, (D2, c2), (A8, a8), (B8, c8)) ⟨rfl, rfl, rfl, rfl, rfl, trivial⟩ (by first | exact Hq.fZ.iK.fZ.fZ.qX.gT.gT.gT | exact Hq.fZ.lD.fZ.fZ.qX.gT.gT.gT | exact Hq.fZ.lD.fZ.fZ.fZ.gT.gT.gT)
 rintro ⟨b8, ⟨D2, c2⟩, ⟨A8, a8⟩, ⟨B8, c8⟩⟩ τ ws Hr
 dsimp only at Hr
 simp only [cZ, like, bC, bZ]
 refine Sr (Mv ?_)
 refine aZ Hr (h := ?_)
 refine eX Hr (vV (cols := d) (p := P) (gQ Hr At7) (Sep.sees Hr At5) hPf.1 hPf.2 (by omega) (hT.keep Hr.kept)) (h := fun va wt _ Hs ki => ?_)
 rw [← YJ] at Hs ⊢
 obtain ⟨Va, ca, rfl, hca, _⟩ := Sep.fJ Hs At0
 refine Mv ?_
 refine Vx ?_
 refine Vx ?_
 refine Am ?_
 refine Am ?_
 refine Nx (Mv ?_)
 refine aZ Hs (h := ?_)
 refine eX Hs (PE (cols := d) (p := P) (gQ Hs At7) (Sep.sees Hs At4)) (h := fun vb wu _ Ht kj => ?_)
 rw [← YJ] at Ht ⊢
 obtain ⟨Vb, cb, rfl, _, _⟩ := Sep.fJ Ht At0
 refine Mv ?_
 refine Vx ?_
 refine Vx ?_
 refine Am ?_
 refine Am ?_
 refine Nx (aZ Ht (h := ?_))
 refine eX Ht (Pz (p := P) (Sep.sees Ht At7) (by omega) (by omega) (fun o ho => by have := YU o ho; omega)) (h := fun vu wv _ Hu kk => ?_)
 rw [← hus] at Hu
 obtain ⟨Vu, cu, rfl, hcu, _⟩ := Sep.fJ Hu At0
 refine Am ?_
 refine Qn (au (au (bG rfl Hu (h := fun Sb ww Hv => ?_))))
 refine Gm Sb 0 ?_
 refine Gm Sb 1 ?_
 refine fQ Sb 2 [] Hv (Au (a := cr.1) (b := cr.1) (gQ Hv At2) (gQ Hv At1)) (h := fun wx Hw kl => ⟨aK, ?_⟩)
 refine Gp Sb 3 rfl rfl (fun _ => (Gives.notP rfl)) (Gm Sb 4 ?_)
 refine lC (t := 48) rfl (fun Sc => ?_) (fun Sc => ?_)
 ·exact (Sc trivial).elim
 refine Gm Sb 5 ?_
 refine Gm Sb 6 ?_
 refine Gp Sb 7 rfl rfl (fun _ => (Gives.neq rfl rfl)) (Gp Sb 8 rfl rfl (fun _ => Gives.nP rfl rfl) ?_)
 refine Gm Sb 9 ?_
 refine lC (t := 53) rfl (fun Sd => ?_) (fun Sd => ?_)
 ·exact (Sd trivial).elim
 refine Gm Sb 10 ?_
 refine dD Sb 11 Hw (h := ?_)
 refine lK Sb 12 [(10, true)] Hw (PD (p := P) (Sep.sees Hw At6) JU (by omega) (by omega) (fun o ho => by have := YU o ho; omega)) (h := fun vu2 wy _ Hx km => ?_)
 rw [← hus] at Hx
 obtain ⟨Vu2, cu2, rfl, _, _⟩ := Sep.fJ Hx At0
 refine ⟨av (aK), ?_⟩
 refine fQ Sb 13 [] Hx (QI (a := us) (b := us) (gQ Hx At1) (gQ Hx At0)) (h := fun wz Hy kn => ⟨aK, ?_⟩)
 refine Gp Sb 14 rfl rfl (fun _ => (Gives.notP rfl)) (Gp Sb 15 rfl rfl (fun _ => Gives.nP rfl rfl) ?_)
 refine Gm Sb 16 ?_
 refine lC (t := 60) rfl (fun Se => ?_) (fun Se => ?_)
 ·exact (Se trivial).elim
 refine dD Sb 17 Hy (h := ?_)
 refine dD Sb 18 Hy (h := ?_)
 refine dD Sb 20 Hy (h := ?_)
 refine dD Sb 21 Hy (h := ?_)
 refine fQ Sb 19 [(21, false), (20, false)] Hy (CS (p := P) (q := U) (Sep.sees Hy At9) (Sep.sees Hy At8)) (h := fun wA Hz ko => ⟨(eZ rfl (by kernel_rfl) (Gives.nQ (cs := [.slice A' U.wh.length a', .slice B' U.cols.length b', I U.group]) (E := 25) rfl (Hz.obj At5) rfl rfl) rfl ((eZ rfl (by kernel_rfl) (Gives.nQ (cs := [.slice A8 P.wh.length a8, .slice B8 P.cols.length c8, I P.group]) (E := 25) rfl (Hz.obj At4) rfl rfl) rfl (aK)))), ?_⟩)
 refine fQ Sb 22 [] Hz (zk (p := P) (q := U) (Sep.sees Hz At7) (Sep.sees Hz At8)) (h := fun wB HA kp => ⟨aK, ?_⟩)
 refine Gp Sb 23 rfl rfl (fun _ => (Gives.GJ rfl rfl)) (Gp Sb 24 rfl rfl (fun _ => Gives.nP rfl rfl) ?_)
 refine Gm Sb 25 ?_
 refine jP (t := 69) rfl (fun Sf => ?_) (fun Sf => ?_)
 ·exact absurd Sf (by simp)
 refine dD Sb 26 HA (h := ?_)
 refine dD Sb 27 HA (h := ?_)
 refine fQ Sb 28 [] HA (CS (p := P) (q := P) (Sep.sees HA At9) (Sep.sees HA At7)) (h := fun wC HB kq => ⟨aK, ?_⟩)
 refine Gp Sb 29 rfl rfl (fun _ => (Gives.notP rfl)) (Gp Sb 30 rfl rfl (fun _ => Gives.nP rfl rfl) ?_)
 refine bR Sb (by kernel_rfl) ?_
 refine aj (Cp rfl (fun Ia => ?_) (fun Ia => ?_))
 ·exact absurd rfl Ia
 refine Sk (au (Sr (Am ?_)))
 refine Qn (aF ?_)
 have HC := HB.fI.dS.fI.dS.lD.fI.fZ.fI
 refine bA (fun x : Nat × List gG => [(0, .slice D1 d.length c1), (4, bI b4), (7, .slice D2 d.length c2), (8, bI b8), (9, .slice Va cr.1.length ca), (13, .slice Vu us.length cu), (14, I x.1)]) (fun x w' => (x.1 ≤ cr.1.length ∧ cr.1.length = x.2.length) ∧ Sep w noB [cO 49 7 bE (.slice Va cr.1.length ca) x.2, cO 3 1 intCells (.slice Vu us.length cu) us, blk b8 [.slice A8 P.wh.length a8, .slice B8 P.cols.length c8, I P.group] 25, blk b4 [.slice A P.wh.length a, .slice B P.cols.length b, I P.group] 25, qK (agg [.slice A8 P.wh.length a8, .slice B8 P.cols.length c8, I P.group]) P, qK (agg [.slice A P.wh.length a, .slice B P.cols.length b, I P.group]) P, cO 49 7 bE (.slice D2 d.length c2) d, cO 49 7 bE (.slice D1 d.length c1) d] w') (fun x _ => cr.1.length - x.1) (0, cr.1) ⟨rfl, rfl, rfl, rfl, rfl, rfl, rfl, trivial⟩ ⟨⟨Nat.zero_le _, rfl⟩, HC⟩ (fun x τ wD hI => ?_)
 obtain ⟨i, cur⟩ := x
 obtain ⟨⟨hi, UF⟩, HC⟩ := hI
 dsimp only at hi UF HC
 try simp only [cZ, like, bC]
 refine au (Sr (Mv ?_))
 refine Mv ?_
 refine Vs ?_
 refine Vl ?_
 refine Qn (Cp rfl (fun Ib => ?_) (fun Ib => ?_))
 ·have bU : i < cur.length := by omega
  have hcap := Sep.TY HC At0
  refine Sk (au (aF (aB (Mv ?_))))
  refine Mv ?_
  refine Vv (Gives.build (out := bE ⟨-9, [], ⟨0, false⟩, cell0⟩) (Fills.one rfl rfl rfl (by simp) rfl Fills.nil)) (Vv (Gives.Es UF rfl rfl (jI UF HC At0) bU) ?_)
  refine yD (i := i) (⟨-9, [], ⟨0, false⟩, cell0⟩ : gG) UF HC At0 bU rfl (h := fun wE HD => ?_)
  refine aP (aA (aj (aB (Mv ?_))))
  refine Vv (Gives.bM rfl rfl rfl (by omega)) (Am ?_)
  refine aP ?_
  exact aC (i + 1, cur.set i ⟨-9, [], ⟨0, false⟩, cell0⟩) ⟨rfl, rfl, rfl, rfl, rfl, rfl, rfl, trivial⟩ ⟨⟨by dsimp only; omega, by rw [List.length_set]; exact UF⟩, HD⟩ (by dsimp only; omega)
 refine bq (aT (aO (aV (aj (au (Sr (Am ?_)))))))
 refine Qn (aF ?_)
 have HE := HC.fI
 refine bA (fun x : Nat × List Int => [(0, .slice D1 d.length c1), (4, bI b4), (7, .slice D2 d.length c2), (8, bI b8), (13, .slice Vu us.length cu), (15, I x.1)]) (fun x w' => (x.1 ≤ us.length ∧ us.length = x.2.length) ∧ Sep w noB [cO 3 1 intCells (.slice Vu us.length cu) x.2, blk b8 [.slice A8 P.wh.length a8, .slice B8 P.cols.length c8, I P.group] 25, blk b4 [.slice A P.wh.length a, .slice B P.cols.length b, I P.group] 25, qK (agg [.slice A8 P.wh.length a8, .slice B8 P.cols.length c8, I P.group]) P, qK (agg [.slice A P.wh.length a, .slice B P.cols.length b, I P.group]) P, cO 49 7 bE (.slice D2 d.length c2) d, cO 49 7 bE (.slice D1 d.length c1) d] w') (fun x _ => us.length - x.1) (0, us) ⟨rfl, rfl, rfl, rfl, rfl, rfl, trivial⟩ ⟨⟨Nat.zero_le _, rfl⟩, HE⟩ (fun x τ wF hI => ?_)
 obtain ⟨j, cur2⟩ := x
 obtain ⟨⟨hj, Ma⟩, HE⟩ := hI
 dsimp only at hj Ma HE
 try simp only [cZ, like, bC]
 refine au (Sr (Mv ?_))
 refine Mv ?_
 refine Vs ?_
 refine Vl ?_
 refine Qn (Cp rfl (fun Ic => ?_) (fun Ic => ?_))
 ·have UG : j < cur2.length := by omega
  have hcap := Sep.TY HE At0
  obtain ⟨z, hz⟩ := get_some UG
  refine Sk (au (aF (aB (Mv ?_))))
  refine Mv ?_
  refine Vv (Gives.Es Ma rfl rfl (jI Ma HE At0) UG) (Pp (i := j) (f := 0) (a := z) (-9) Ma HE At0 hz (by decide) rfl rfl rfl rfl (h := fun wG HF => ?_))
  refine aP (aA (aj (aB (Mv ?_))))
  refine Vv (Gives.bM rfl rfl rfl (by omega)) (Am ?_)
  refine aP ?_
  exact aC (j + 1, cur2.set j (-9)) ⟨rfl, rfl, rfl, rfl, rfl, rfl, trivial⟩ ⟨⟨by dsimp only; omega, by rw [List.length_set]; exact Ma⟩, HF⟩ (by dsimp only; omega)
 refine bq (aT (aO (aV (aj (Sr (aZ HE (h := ?_)))))))
 refine aZ HE (h := ?_)
 refine aN HE (zk (p := P) (q := P) (Sep.sees HE At4) (Sep.sees HE At3)) (h := fun wH HG kr => ?_)
 refine Mv ?_
 refine aG (t := 97) rfl (fun Sg => ?_) (fun Sg => ?_)
 ·refine On (Mv ?_)
  refine On (Mv ?_)
  refine On (aN HG (Au (a := d) (b := d) (gQ HG At6) (gQ HG At5)) (h := fun wI HH ks => ?_))
  refine Pt ?_
  refine Mv ?_
  refine aG (t := 102) rfl (fun Sh => ?_) (fun Sh => ?_)
  ·refine On (aN HH (Ag (hT.keep HH.kept)) (h := fun wJ HI kt => ?_))
   refine Pt ?_
   refine Am ?_
   refine Qn (aM (ak (hR := ?_)))
   exact ⟨rfl, HI.kept⟩
  exact (Sh trivial).elim
 exact (Sg trivial).elim
end
end Go.Proofs.YtolaedhdjcnijaaGreatDoor
