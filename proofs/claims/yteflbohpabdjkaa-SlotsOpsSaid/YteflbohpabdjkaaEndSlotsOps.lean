/-
  A Save makes as many operations as it writes sectors, and three more: for every argument, without a condition.
-/
import Derived.Test.YteflbohpabdjkaaOpen
import Derived.Test.YteflbohpabdjkaaOpenPut
import Derived.Test.YteflbohpabdjkaaRows
namespace Go.Proofs.Yteflbohpabdjkaa
open Go Go.Mw Go.ChangeShapes Go.WideShapes Go.RowKit Go.ChangeAt
set_option maxRecDepth 100000

theorem slotsOps_lifted (os : Os) (started : os.Started) (H : Type) (enc : TypeId × Value → H) :
    ReturnsInHanded {} Try.checked os 14 .any (Rows.slotsOpsSpec.pre6 enc Try.prog Try.f14 Rows.slotsOpsRow.domain false) (Rows.slotsOpsSpec.post enc Try.prog Try.f14 false true false false) := by
  refine returnsInHanded_of_change (C := Try.checked) ownIs started (by kernel_rfl) Try.func14
    (ChangeSpec.witness6 (enc := enc) (C := Try.checked) false ⟨#[], #[.slice none 0 0, .agg #[.int .i64 0, .int .i64 0]], []⟩ 8 (by kernel_rfl) (by kernel_rfl) (by kernel_rfl) (by kernel_rfl)) ?_
  intro W base args ds gs before hval0 hW hcnd _
  have hval : ∀ (j : Nat) t v, Try.f14.params[j]? = some t → args[j]? = some v → Value.okWide Try.prog W .any base t v := hval0
  have hW' := hW
  obtain ⟨p, q, hA0, hV, rfl, hfz, hnd⟩ := hW
  have hA : DataW.TrodAll enc Try.prog W 0 (fun _ => true) true Try.f14.params.toList args.toList ds p := hA0
  rw [Try.params14] at hA hval
  obtain ⟨v0, v1, d0, d1, p0, p1, rfl, rfl, rfl, h0, h1⟩ := trodAll_two hA
  obtain ⟨rfl, rfl⟩ := trodVars_none hV
  obtain ⟨A, c, l, rfl, _, _, hr, hl⟩ := open_putsS (hval 0 _ _ rfl rfl) h0
  obtain ⟨x, rfl, hx⟩ := open_putS (hval 1 _ _ rfl rfl) h1
  refine Calls.mono (slotsOps_ok (ca := c) hl hr hx) fun e W' he => ?_
  cases e with
  | returned v =>
    obtain ⟨rfl, hkept⟩ := he
    exact ⟨_, rfl, post_law (P := Try.prog) laidIs hW' rfl rfl Try.underlying4 (by kernel_rfl) rfl hkept (okWide_bool_mk Try.underlying4 true)⟩
  | _ => exact he.elim
theorem slotsOps_holds : Rows.SlotsOpsSaid :=
  OpenClaim.holds_of_wide 14 Try.f14 rfl rfl rfl rfl rfl rfl rfl ⟨rfl, rfl, rfl, rfl, rfl⟩ rfl rfl rfl rfl rfl (by kernel_rfl) Try.func14 (by kernel_rfl)
    (of_decide_eq_true (by kernel_rfl)) (by unfold Func.isWrapper; first | (rw [if_pos (by decide +kernel)]; kernel_rfl) | (rw [if_neg (by decide +kernel)]; exact ⟨rfl, rfl⟩))
    (fun os started H enc _ => slotsOps_lifted os started H enc)
end Go.Proofs.Yteflbohpabdjkaa
