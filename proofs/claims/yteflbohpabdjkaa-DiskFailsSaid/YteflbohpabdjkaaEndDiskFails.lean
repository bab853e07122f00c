/-
  Operations up to a fall that Fail asks for are as without it, and the fall is that of Crash there: for every argument, without a condition.
-/
import Derived.Test.YteflbohpabdjkaaOpen
import Derived.Test.YteflbohpabdjkaaLawG
import Derived.Test.YteflbohpabdjkaaRows
namespace Go.Proofs.Yteflbohpabdjkaa
open Go Go.Mw Go.ChangeShapes Go.WideShapes Go.RowKit Go.ChangeAt
set_option maxRecDepth 100000

theorem diskFails_lifted (os : Os) (started : os.Started) (H : Type) (enc : TypeId × Value → H) :
    ReturnsInHanded {} Try.checked os 6 .any (Rows.diskFailsSpec.pre6 enc Try.prog Try.f6 Rows.diskFailsRow.domain false) (Rows.diskFailsSpec.post enc Try.prog Try.f6 false true false false) := by
  refine returnsInHanded_of_change (C := Try.checked) ownIs started (by kernel_rfl) Try.func6
    (ChangeSpec.witness6 (enc := enc) (C := Try.checked) false ⟨#[], #[.slice none 0 0, .int .i64 0, .slice none 0 0], []⟩ 8 (by kernel_rfl) (by kernel_rfl) (by kernel_rfl) (by kernel_rfl)) ?_
  intro W base args ds gs before hval0 hW hcnd _
  have hval : ∀ (j : Nat) t v, Try.f6.params[j]? = some t → args[j]? = some v → Value.okWide Try.prog W .any base t v := hval0
  have hW' := hW
  obtain ⟨p, q, hA0, hV, rfl, hfz, hnd⟩ := hW
  have hA : DataW.TrodAll enc Try.prog W 0 (fun _ => true) true Try.f6.params.toList args.toList ds p := hA0
  rw [Try.params6] at hA hval
  obtain ⟨v0, v1, v2, d0, d1, d2, p0, p1, p2, rfl, rfl, rfl, h0, h1, h2⟩ := trodAll_three hA
  obtain ⟨rfl, rfl⟩ := trodVars_none hV
  obtain ⟨A, c, l, rfl, _, _, hr, hl⟩ := open_puts (hval 0 _ _ rfl rfl) h0
  obtain ⟨n, rfl, hn⟩ := open_num (hval 1 _ _ rfl rfl) h1
  obtain ⟨K, ck, keep, rfl, hck, _, hk, _⟩ := open_keep (hval 2 _ _ rfl rfl) h2
  refine Calls.mono (fails_ok (c := c) hl hr hn hk hck) fun e W' he => ?_
  cases e with
  | returned v =>
    obtain ⟨rfl, hkept⟩ := he
    exact ⟨_, rfl, post_law (P := Try.prog) laidIs hW' rfl rfl Try.underlying4 (by kernel_rfl) rfl hkept (okWide_bool_mk Try.underlying4 true)⟩
  | _ => exact he.elim
theorem diskFails_holds : Rows.DiskFailsSaid :=
  OpenClaim.holds_of_wide 6 Try.f6 rfl rfl rfl rfl rfl rfl rfl ⟨rfl, rfl, rfl, rfl, rfl⟩ rfl rfl rfl rfl rfl (by kernel_rfl) Try.func6 (by kernel_rfl)
    (of_decide_eq_true (by kernel_rfl)) (by unfold Func.isWrapper; first | (rw [if_pos (by decide +kernel)]; kernel_rfl) | (rw [if_neg (by decide +kernel)]; exact ⟨rfl, rfl⟩))
    (fun os started H enc _ => diskFails_lifted os started H enc)
end Go.Proofs.Yteflbohpabdjkaa
