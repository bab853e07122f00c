/-
  The statements' disks of thirteen sectors: plain laws; saved, walked.
-/
import Derived.Test.YteflbohpabdjkaaSlotN
namespace Go.Proofs.Yteflbohpabdjkaa
open Go Go.Mw
set_option maxRecDepth 8000

/-- A disk that keeps some bytes under a number, and has nothing open. -/
structure Set13 (d : DM) (b : List UInt8) (n : Int) : Prop where
  wf : d.wf
  size : d.size = 13
  opn : d.opn = []
  now : d.now = d.kept
  holds : Holds (totS d.kept) 6 b n
structure SS (k : Nat) (d : DM) (b : List UInt8) (n : Int) : Prop where
  set : Set13 d b n
  alive : d.dead = false
  fail : d.fail = 0
  small : d.small k
section
variable {d : DM} {b c : List UInt8} {n : Int}
theorem Set13.boot (h : Set13 d b n) : Set13 d.boot b n := ⟨h.wf, h.size, h.opn, h.now, h.holds⟩
theorem Set13.failAt (h : Set13 d b n) (t : Int) (kp : List Int) : Set13 (d.failAt t kp) b n := by
  unfold DM.failAt
  split
  · exact h
  · split <;> exact ⟨h.wf, h.size, h.opn, h.now, h.holds⟩
theorem Set13.crash (h : Set13 d b n) (kp : List Int) : Set13 (d.crash kp) b n := by
  unfold DM.crash
  split
  · exact h
  · have hk : keptBy kp 0 d.opn d.kept = d.kept := by rw [h.opn]; rfl
    exact ⟨h.wf.fall kp, h.size, rfl, rfl, by show Holds (totS (keptBy kp 0 d.opn d.kept)) 6 b n; rw [hk]; exact h.holds⟩
theorem Set13.half (h : Set13 d b n) : half d = 6 := by unfold Go.Proofs.Yteflbohpabdjkaa.half; rw [h.size]; decide
theorem Set13.holds' (h : Set13 d b n) : Holds (totS d.now) (Go.Proofs.Yteflbohpabdjkaa.half d) b n := by rw [h.now, h.half]; exact h.holds
theorem Set13.open (h : Set13 d b n) (hd : d.dead = false) : openS d = (0, ⟨n, b.length, false⟩) := open_holds h.wf hd (by rw [h.size]; decide) h.holds'
theorem Set13.load (h : Set13 d b n) (hd : d.dead = false) : load ⟨n, b.length, false⟩ d = (b, if n = 0 then 300 else 0, ⟨n, b.length, false⟩) := load_holds h.wf hd h.holds'
theorem Set13.ok (h : Set13 d b n) : SM.ok ⟨n, b.length, false⟩ d := ok_holds (by rw [h.size]; decide) h.holds'
theorem Set13.keeps (h : Set13 d b n) (hd : d.dead = false) : keepsB ⟨n, b.length, false⟩ d b n = true ∧ keepsS ⟨n, b.length, false⟩ d n = ⟨n, b.length, false⟩ := by
  unfold keepsB keepsS
  rw [h.load hd, if_neg (show ¬ (SM.n ⟨n, b.length, false⟩ ≠ n) from fun h => h rfl), if_neg (show ¬ (SM.n ⟨n, b.length, false⟩ ≠ n) from fun h => h rfl)]
  refine ⟨?_, rfl⟩
  split
  · rename_i hz
    rw [h.holds.zero hz]
    simp [hz]
  · rename_i hz
    simp [hz]
theorem keeps_other {m : SM} {want : List UInt8} (hn : m.n ≠ n) : keepsB m d want n = false ∧ keepsS m d n = m := by
  unfold keepsB keepsS
  rw [if_pos hn, if_pos hn]
  exact ⟨rfl, rfl⟩
theorem holds_same {f g : Int → Option (List UInt8)} (hl : (b.length : Int) ≤ 768) (h : Holds (totS f) 6 c n) (hs : SameBut (1 + (n + 1) % 2 * 6) b f g) : Holds (totS g) 6 c n := by
  have hnb : (nch b : Int) ≤ 6 := by unfold nch; omega
  have hnc : (nch c : Int) ≤ 6 := by have := h.len; unfold nch; omega
  have key : ∀ k : Int, (k = 0 ∨ ∃ i : Nat, i < nch c ∧ k = 1 + n % 2 * 6 + (i : Int)) → totS g k = totS f k := by
    intro k hk
    unfold totS
    rw [hs k]
    intro i hi
    rcases (show n % 2 = 0 ∧ (n + 1) % 2 = 1 ∨ n % 2 = 1 ∧ (n + 1) % 2 = 0 by omega) with ⟨h1, h2⟩ | ⟨h1, h2⟩ <;> rw [h1] at hk <;> rw [h2] <;> rcases hk with rfl | ⟨j, hj, rfl⟩ <;> omega
  exact ⟨by rw [key 0 (.inl rfl)]; exact h.root, fun k hk => by rw [key _ (.inr ⟨k, hk, rfl⟩)]; exact h.data k hk, h.zero, h.n0, h.nm, h.len⟩
theorem holds_new {f g : Int → Option (List UInt8)} (hl : (b.length : Int) ≤ 768) (h0 : 0 < n) (h1 : n ≤ mostNum) (hs : IsNew (1 + n % 2 * 6) n b f g) : Holds (totS g) 6 b n :=
  ⟨by unfold totS; rw [hs.root]; rfl, fun k hk => by unfold totS; rw [hs.data k hk]; rfl, fun h => by omega, by omega, h1, by omega⟩
theorem small_save1 {k : Nat} (h : d.small k) : (save1 n b d).2.small (k + nch b + 3) := by
  unfold save1
  exact small_go (small_go (small_go (small_wr (x := (0, d)) h (nch b)) fun d hd => small_flush hd) fun d hd => small_write hd 0 _) fun d hd => small_flush hd
theorem save_eq {m : SM} (hb : m.bad = false) (hn : m.n ≠ mostNum) (hl : (b.length : Int) ≤ room d) : save m d b = if (save1 (m.n + 1) b d).1 ≠ 0 then ((save1 (m.n + 1) b d).1, { m with bad := true }, (save1 (m.n + 1) b d).2) else (0, ⟨m.n + 1, b.length, false⟩, (save1 (m.n + 1) b d).2) := by
  unfold save
  rw [if_neg (by rw [hb]; simp), if_neg (by rintro (h | h); omega; exact hn h)]
/-- What a Save comes to, with a fall at an operation t from here on (t above all: none). -/
theorem run_cases {k : Nat} (hS : SS k d c n) (hb : (b.length : Int) ≤ 768) (hn : n ≤ 1000) {t : Int} (ht : 1 ≤ t ∧ t ≤ 1000) (hk1 : k ≤ 10000) {kp : List Int} (hkp : kp.length ≤ k) {x : Int × SM × DM} (hx : save ⟨n, c.length, false⟩ (d.failAt t kp) b = x) :
    ((nch b : Int) + 3 < t ∧ x.1 = 0 ∧ x.2.1 = ⟨n + 1, b.length, false⟩ ∧ Set13 x.2.2 b (n + 1) ∧ x.2.2.dead = false ∨
    t ≤ (nch b : Int) + 3 ∧ x.1 = 290 ∧ x.2.1 = ⟨n, c.length, true⟩ ∧ x.2.2.dead = true ∧ (Set13 x.2.2 c n ∨ (nch b : Int) + 2 ≤ t ∧ Set13 x.2.2 b (n + 1))) ∧ x.2.2.small (k + 20) := by
  have hs := hS.small
  have hset := hS.set.failAt t kp
  have hnb : (nch b : Int) ≤ 6 := by unfold nch; omega
  have hf : d.failAt t kp = { d with fail := d.ops + t, keep := kp } := by
    unfold DM.failAt
    rw [if_neg (by rw [hS.alive]; simp), if_pos ⟨by omega, by have := hs.2.2.2; omega⟩]
  have hal : (d.failAt t kp).dead = false := by rw [hf]; exact hS.alive
  have hk : (d.failAt t kp).kept = d.kept := by rw [hf]
  have htf : (d.failAt t kp).fail - (d.failAt t kp).ops = t := by rw [hf]; show d.ops + t - d.ops = t; omega
  have hsm0 : (d.failAt t kp).small k := by rw [hf]; exact ⟨hs.1, hkp, hs.2.2.1, hs.2.2.2⟩
  generalize d.failAt t kp = e at hset hal hk htf hsm0 hx
  have hh := hset.half
  have hroom : room e = 768 := by unfold room; rw [hh]; decide
  have hr : Rest e := ⟨hset.wf, hal, hset.opn, hset.now⟩
  have hn0 := hS.set.holds.n0
  rw [save_eq rfl (by show n ≠ mostNum; unfold mostNum; omega) (by rw [hroom]; exact hb)] at hx
  have hsm : (save1 (n + 1) b e).2.small (k + 20) := (small_save1 hsm0).mono (by omega)
  have ha : area e (n + 1) = 1 + (n + 1) % 2 * 6 := by unfold area; rw [hh]
  obtain ⟨r1, r2, r3⟩ := save_run (n := n + 1) (b := b) hr (by rw [hroom]; exact hb) (by rw [hset.size]; decide)
  rw [ha, htf, hk] at r2 r3
  rw [ha, htf] at r1
  have hH : Holds (totS d.kept) 6 c n := hS.set.holds
  by_cases h1 : (nch b : Int) + 3 < t
  · obtain ⟨d', e1, hsv⟩ := r1 (.inr h1)
    rw [e1] at hsm hx
    rw [if_neg (by simp)] at hx
    subst hx
    exact ⟨.inl ⟨h1, rfl, rfl, ⟨hsv.rest.wf, hsv.size.trans hset.size, hsv.rest.opn, hsv.rest.now, holds_new hb (by omega) (by unfold mostNum; omega) hsv.new⟩, hsv.rest.alive⟩, hsm⟩
  · by_cases h2 : t ≤ (nch b : Int) + 1
    · obtain ⟨d', e1, hfl, hsm2⟩ := r2 ⟨ht.1, h2⟩
      rw [e1] at hsm hx
      dsimp only at hx
      rw [if_pos (by decide)] at hx
      subst hx
      exact ⟨.inr ⟨by omega, rfl, rfl, hfl.dead, .inl ⟨hfl.wf, hfl.size.trans hset.size, hfl.opn, hfl.now, holds_same hb hH hsm2⟩⟩, hsm⟩
    · obtain ⟨d', e1, hfl, hsm2⟩ := r3 ⟨by omega, by omega⟩
      rw [e1] at hsm hx
      dsimp only at hx
      rw [if_pos (by decide)] at hx
      subst hx
      refine ⟨.inr ⟨by omega, rfl, rfl, hfl.dead, ?_⟩, hsm⟩
      rcases hsm2 with h | h
      · exact .inl ⟨hfl.wf, hfl.size.trans hset.size, hfl.opn, hfl.now, holds_same hb hH h⟩
      · exact .inr ⟨by omega, hfl.wf, hfl.size.trans hset.size, hfl.opn, hfl.now, holds_new hb (by omega) (by unfold mostNum; omega) h⟩
/-- A Save where no fall is asked for. -/
theorem SS.save {k : Nat} (hS : SS k d c n) (hb : (b.length : Int) ≤ 768) (hn : n ≤ 1000) {x : Int × SM × DM} (hx : Go.Proofs.Yteflbohpabdjkaa.save ⟨n, c.length, false⟩ d b = x) :
    x.1 = 0 ∧ x.2.1 = ⟨n + 1, b.length, false⟩ ∧ SS (k + 10) x.2.2 b (n + 1) ∧ x.2.2.ops = d.ops + (nch b : Int) + 3 ∧ IsNew (1 + (n + 1) % 2 * 6) (n + 1) b d.kept x.2.2.kept := by
  have hs := hS.small
  have hnb : (nch b : Int) ≤ 6 := by unfold nch; omega
  have hh := hS.set.half
  have hroom : room d = 768 := by unfold room; rw [hh]; decide
  have hn0 := hS.set.holds.n0
  rw [save_eq rfl (by show n ≠ mostNum; unfold mostNum; omega) (by rw [hroom]; exact hb)] at hx
  have hsm : (save1 (n + 1) b d).2.small (k + 10) := (small_save1 (k := k) hs).mono (by omega)
  have ha : area d (n + 1) = 1 + (n + 1) % 2 * 6 := by unfold area; rw [hh]
  obtain ⟨r1, _, _⟩ := save_run (n := n + 1) (b := b) (d := d) ⟨hS.set.wf, hS.alive, hS.set.opn, hS.set.now⟩ (by rw [hroom]; exact hb) (by rw [hS.set.size]; decide)
  rw [ha, hS.fail] at r1
  obtain ⟨d', e, hsv⟩ := r1 (.inl (by have := hs.2.2.1; omega))
  rw [e] at hsm hx
  rw [if_neg (by simp)] at hx
  subst hx
  exact ⟨rfl, rfl, ⟨⟨hsv.rest.wf, hsv.size.trans hS.set.size, hsv.rest.opn, hsv.rest.now, holds_new hb (by omega) (by unfold mostNum; omega) hsv.new⟩, hsv.rest.alive, hsv.fail.trans hS.fail, hsm⟩, hsv.ops, hsv.new⟩
theorem zero_root : rootB 0 0 = zeroS := by kernel_rfl
theorem SS.new : SS 0 (DM.new 13) [] 0 :=
  ⟨⟨⟨by decide, by decide, fun _ _ h => (by cases h), fun _ _ h => (by cases h), fun _ h => (by cases h)⟩, rfl, rfl, rfl, ⟨zero_root.symm, fun k hk => absurd hk (by unfold nch; simp), fun _ => rfl, by decide, by decide, by decide⟩⟩, rfl, rfl, small_new 13⟩
theorem SS.mono {k j : Nat} (h : SS k d b n) (hk : k ≤ j) : SS j d b n := ⟨h.set, h.alive, h.fail, h.small.mono hk⟩
end
/-- What 'saved' answers. -/
structure SX where
  p : Nat
  s : Nat
  v : Value
  d : DM
  b : List UInt8
  n : Nat
def SX.ok (x : SX) : Prop := SS 100 x.d x.b x.n ∧ (x.b.length : Int) ≤ 768 ∧ x.n ≤ 8
def SX.val (x : SX) : Value := .tuple #[.pointer (some ⟨x.p, 0, none⟩), .pointer (some ⟨x.s, 0, none⟩), x.v, I x.n]
def SX.pc (x : SX) : HP := star (rowH 5 1 x.v x.b.length (x.b.map B)) (star (slotH x.s x.p ⟨x.n, x.b.length, false⟩) (diskH x.p x.d))
section
variable {p s : Nat} {d : DM} {m : SM} {F : Nat → Prop} {w w₀ : World} {S : Nat → Prop} {rs : List HP} {put : HP → List HP}
set_option maxHeartbeats 4000000 in
theorem saved_ok {A : Option Addr} {c : Nat} {l : List PutS} (hl : ∀ x ∈ l, x.fit) (hr : RowAt w A l.length 2 (putsCells l)) :
    Rets Try.prog 47 [.slice A l.length c] w fun v w' => ∃ x : SX, v = x.val ∧ (x.ok ∧ x.n = min l.length 8) ∧ Turn noB x.pc w w' := by
  have H := Sep.start0 w
  refine rets1 Try.func47 rfl rfl rfl rfl ?_
  refine FW_seq ?_
  refine FW_region ?_
  refine FL_assign (h := ?_)
  refine FL_assign (h := ?_)
  refine FL_assign (h := ?_)
  refine FL_assign (h := ?_)
  refine FL_nil (Qseq_normal ?_)
  refine FW_seq ?_
  refine FW_region ?_
  refine FL_callN H (new_ok 13 (by decide)) rfl rfl (fun p w6 _ H6 _ => ?_)
  refine FL_move (h := ?_)
  refine FL_val (Gives.extract rfl rfl) rfl ?_
  refine FL_val (Gives.extract rfl rfl) rfl ?_
  refine FL_assign (h := ?_)
  refine FL_assign (h := ?_)
  refine FL_nil (Qseq_normal ?_)
  refine FW_seq ?_
  refine FW_region ?_
  refine FL_move (h := ?_)
  obtain ⟨F2, hp2, _⟩ := H6.focus At0
  have hopen := SS.new.set.open rfl
  refine FL_callN H6 (q := fun x => openH x p (openS (DM.new 13)).2) (val := fun x : Option Nat => .tuple #[.pointer (x.map fun s => ⟨s, 0, none⟩), I (openS (DM.new 13)).1]) (φ := fun x => x.isSome = decide ((openS (DM.new 13)).1 = 0)) (openS_ok hp2) rfl rfl (fun x w14 hx H14 _ => ?_)
  rw [hopen] at hx H14 ⊢
  obtain ⟨s, rfl⟩ : ∃ s, x = some s := by cases x with | none => cases hx | some s => exact ⟨s, rfl⟩
  refine FL_move (h := ?_)
  refine FL_val (Gives.extract rfl rfl) rfl ?_
  refine FL_val (Gives.extract rfl rfl) rfl ?_
  refine FL_assign (h := ?_)
  refine FL_assign (h := ?_)
  refine FL_nil (Qseq_normal ?_)
  refine FW_seq ?_
  refine FW_seq ?_
  refine FW_region ?_
  refine FL_move (h := ?_)
  refine FL_val (Gives.neq rfl rfl) rfl ?_
  refine FL_move (h := ?_)
  first | refine FL_splitP (t := 24) rfl (fun hs23 => ?_) (fun hs23 => ?_) | refine FL_split (t := 24) rfl (fun hs23 => ?_) (fun hs23 => ?_)
  · skip
    first | exact absurd rfl hs23 | exact (hs23 trivial).elim | exact absurd hs23 (by decide) | exact absurd hs23 (by simp) | omega --done
  · skip
    refine FL_on rfl rfl ?_
    refine FL_move (h := ?_)
    refine FL_on rfl rfl ?_
    refine FL_val (Gives.neq rfl rfl) rfl ?_
    refine FL_pickF (h := ?_)
    refine FL_move (h := ?_)
    first | refine FL_splitP (t := 28) rfl (fun hs29 => ?_) (fun hs29 => ?_) | refine FL_split (t := 28) rfl (fun hs29 => ?_) (fun hs29 => ?_)
    · skip
      first | exact absurd rfl hs29 | exact (hs29 trivial).elim | exact absurd hs29 (by decide) | exact absurd hs29 (by simp) | omega --done
    · skip
      refine FL_on rfl rfl ?_
      refine FL_move (h := ?_)
      refine FL_on rfl rfl ?_
      refine FL_val (Gives.eqlNil rfl rfl) rfl ?_
      refine FL_pickF (h := ?_)
      refine FL_nil (Qseq_normal ?_)
      first | refine FW_condP rfl (fun hc34 => ?_) (fun hc34 => ?_) | refine FW_cond rfl (fun hc34 => ?_) (fun hc34 => ?_)
      · skip
        first | exact absurd rfl hc34 | exact (hc34 trivial).elim | exact absurd hc34 (by decide) | exact absurd hc34 (by simp) | omega --done
      · skip
        refine FW_skip (Qseq_normal ?_)
        refine FW_seq ?_
        refine FW_region ?_
        refine FL_assign (h := ?_)
        refine FL_nil (Qseq_normal ?_)
        refine FW_seq ?_
        refine FW_region ?_
        refine FL_assign (h := ?_)
        refine FL_nil (Qseq_normal ?_)
        refine FW_seq ?_
        refine FW_seq ?_
        refine FW_region ?_
        refine FL_assign (h := ?_)
        refine FL_nil (Qseq_normal ?_)
        refine FW_block ?_
        refine FW_loop' (fun x : Nat × DM × List UInt8 × Value => [(0, .slice A l.length c), (6, .pointer (some ⟨p, 0, none⟩)), (8, .pointer (some ⟨s, 0, none⟩)), (10, x.2.2.2), (11, I x.1), (12, I x.1)])
          (fun x w' => x.1 ≤ l.length ∧ x.1 ≤ 8 ∧ SS (10 * x.1) x.2.1 x.2.2.1 x.1 ∧ (x.2.2.1.length : Int) ≤ 768 ∧ Sep w noB [rowH 5 1 x.2.2.2 x.2.2.1.length (x.2.2.1.map B), slotH s p ⟨x.1, x.2.2.1.length, false⟩, diskH p x.2.1] w') (fun x _ => l.length - x.1) (0, DM.new 13, [], .slice none 0 0)
          ⟨rfl, rfl, rfl, rfl, rfl, rfl, trivial⟩ ⟨Nat.zero_le _, Nat.zero_le _, SS.new, by decide, H14.nilRow 5 1⟩ (fun x τ w40 hI => ?_)
        obtain ⟨i, d, b, vb⟩ := x
        obtain ⟨hi, hi8, hS, hbl, H40⟩ := hI
        dsimp only at hi hi8 hS hbl H40
        try simp only [upds, like, upd_ds, und_ds]
        refine FW_seq ?_
        refine FW_seq ?_
        refine FW_region ?_
        refine FL_move (h := ?_)
        refine FL_move (h := ?_)
        refine FL_val (Gives.lenSlice rfl) rfl ?_
        refine FL_val (Gives.lss rfl rfl) rfl ?_
        refine FL_move (h := ?_)
        first | refine FL_splitP (t := 36) rfl (fun hs46 => ?_) (fun hs46 => ?_) | refine FL_split (t := 36) rfl (fun hs46 => ?_) (fun hs46 => ?_)
        · skip
          have hc1 := hs46
          refine FL_on rfl rfl ?_
          refine FL_move (h := ?_)
          refine FL_on rfl rfl ?_
          refine FL_val (Gives.lss rfl rfl) rfl ?_
          refine FL_pickT (h := ?_)
          refine FL_nil (Qseq_normal ?_)
          first | refine FW_condP rfl (fun hc51 => ?_) (fun hc51 => ?_) | refine FW_cond rfl (fun hc51 => ?_) (fun hc51 => ?_)
          · skip
            have hlt : i < l.length := by omega
            have hlt8 : i < 8 := by omega
            have hrow := hr.keepS H40.kept (fun _ _ _ => id)
            obtain ⟨ad, hAd, _⟩ := hrow.at_ (by omega)
            subst hAd
            have hx := hl _ (List.getElem_mem hlt)
            refine FW_skip (Qseq_normal ?_)
            refine FW_seq ?_
            refine FW_block ?_
            refine FW_seq ?_
            refine FW_region ?_
            refine FL_move (h := ?_)
            refine FL_move (h := ?_)
            refine FL_val (Gives.idx rfl rfl hlt) rfl ?_
            refine FL_val (Gives.loadCN rfl ((hr.keepS H40.kept (fun _ _ _ => id)).elem rfl i hlt (us := [I l[i].from_, I l[i].many]) (putsCells_get l i hlt)) rfl) rfl ?_
            refine FL_callN H40 (putBytes_ok l[i] hx (most := 768) (by decide)) rfl rfl (fun y w58 _ H58 _ => ?_)
            obtain ⟨Ay, cy, hy, hcy, _⟩ := Sep.rowForm H58 At0
            subst hy
            refine FL_assign (h := ?_)
            refine FL_nil (Qseq_normal ?_)
            refine FW_seq ?_
            refine FW_seq ?_
            refine FW_region ?_
            refine FL_move (h := ?_)
            refine FL_move (h := ?_)
            have hpl := putS_length l[i] (most := 768)
            obtain ⟨hs1, hs2, hs3, _, _⟩ := hS.save hpl (by omega) rfl
            have h5 := H58.front1.drop0
            refine FL_call1R (h5.front2.front2.join0.front1) At0 (fun F' hp hrr hoff => saveS_ok hS.set.ok (hS.small.mono (by omega)) hcy hrr hoff hp) (h := fun w63 H0 => ?_)
            have H63 := H0.front1.star0.front2
            rw [hs2] at H63
            rw [hs1]
            refine FL_val (Gives.neq rfl rfl) rfl ?_
            refine FL_nil (Qseq_normal ?_)
            first | refine FW_condP rfl (fun hc65 => ?_) (fun hc65 => ?_) | refine FW_cond rfl (fun hc65 => ?_) (fun hc65 => ?_)
            · skip
              first | exact absurd rfl hc65 | exact (hc65 trivial).elim | exact absurd hc65 (by decide) | exact absurd hc65 (by simp) | omega --done
            · skip
              refine FW_skip (Qseq_normal ?_)
              refine FW_region ?_
              refine FL_move (h := ?_)
              first | refine FL_val (Gives.addI rfl rfl rfl (by omega)) rfl ?_ | refine FL_val (Gives.add rfl rfl) rfl ?_
              refine FL_assign (h := ?_)
              refine FL_nil (Qblk_normal (Qseq_normal ?_))
              refine FW_region ?_
              refine FL_move (h := ?_)
              first | refine FL_val (Gives.addI rfl rfl rfl (by omega)) rfl ?_ | refine FL_val (Gives.add rfl rfl) rfl ?_
              refine FL_assign (h := ?_)
              refine FL_nil ?_
              exact Qround_normal (i + 1, _, putS l[i] ((768 : Nat) : Int), _) ⟨rfl, rfl, rfl, rfl, rfl, rfl, trivial⟩ ⟨by dsimp only; omega, by dsimp only; omega, hs3.mono (by omega), hpl, H63⟩ (by dsimp only; omega)
          · skip
            have hmin : i = min l.length 8 := by omega
            refine FW_exit (Qseq_exit (Qround_exit (Qblk_exit (Qseq_normal ?_))))
            refine FW_seq ?_
            refine FW_region ?_
            refine FL_move (h := ?_)
            refine FL_move (h := ?_)
            refine FL_move (h := ?_)
            refine FL_move (h := ?_)
            refine FL_assign (h := ?_)
            refine FL_assign (h := ?_)
            refine FL_assign (h := ?_)
            refine FL_assign (h := ?_)
            refine FL_nil (Qseq_normal ?_)
            refine FW_ret (Qfn_ret (hR := ?_))
            exact ⟨⟨p, s, vb, d, b, i⟩, rfl, ⟨⟨hS.mono (by omega), hbl, hi8⟩, hmin⟩, (H40.front2.front2.join0.front1.join0).turn⟩
        · skip
          have hmin : i = min l.length 8 := by omega
          refine FL_off rfl rfl rfl ?_
          refine FL_off rfl rfl rfl ?_
          refine FL_pickF (h := ?_)
          refine FL_nil (Qseq_normal ?_)
          refine FW_cond_false rfl ?_
          refine FW_exit (Qseq_exit (Qround_exit (Qblk_exit (Qseq_normal ?_))))
          refine FW_seq ?_
          refine FW_region ?_
          refine FL_move (h := ?_)
          refine FL_move (h := ?_)
          refine FL_move (h := ?_)
          refine FL_move (h := ?_)
          refine FL_assign (h := ?_)
          refine FL_assign (h := ?_)
          refine FL_assign (h := ?_)
          refine FL_assign (h := ?_)
          refine FL_nil (Qseq_normal ?_)
          refine FW_ret (Qfn_ret (hR := ?_))
          exact ⟨⟨p, s, vb, d, b, i⟩, rfl, ⟨⟨hS.mono (by omega), hbl, hi8⟩, hmin⟩, (H40.front2.front2.join0.front1.join0).turn⟩
end
end Go.Proofs.Yteflbohpabdjkaa
