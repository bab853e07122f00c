/-
  What was saved ahead stands in the other area, as it was, till a Save more: for every argument, without a condition.
-/
import Derived.Test.YteflbohpabdjkaaOpen
import Derived.Test.YteflbohpabdjkaaOpenPut
import Derived.Test.YteflbohpabdjkaaRows
namespace Go.Proofs.Yteflbohpabdjkaa
open Go Go.Mw Go.ChangeShapes Go.WideShapes Go.RowKit Go.ChangeAt
set_option maxRecDepth 100000

theorem slotsOther_lifted (os : Os) (started : os.Started) (H : Type) (enc : TypeId × Value → H) :
    ReturnsInHanded {} Try.checked os 11 .any (Rows.slotsOtherSpec.pre6 enc Try.prog Try.f11 Rows.slotsOtherRow.domain false) (Rows.slotsOtherSpec.post enc Try.prog Try.f11 false true false false) := by
  refine returnsInHanded_of_change (C := Try.checked) ownIs started (by kernel_rfl) Try.func11
    (ChangeSpec.witness6 (enc := enc) (C := Try.checked) false ⟨#[], #[.slice none 0 0, .agg #[.int .i64 0, .int .i64 0]], []⟩ 8 (by kernel_rfl) (by kernel_rfl) (by kernel_rfl) (by kernel_rfl)) ?_
  intro W base args ds gs before hval0 hW hcnd _
  have hval : ∀ (j : Nat) t v, Try.f11.params[j]? = some t → args[j]? = some v → Value.okWide Try.prog W .any base t v := hval0
  have hW' := hW
  obtain ⟨p, q, hA0, hV, rfl, hfz, hnd⟩ := hW
  have hA : DataW.TrodAll enc Try.prog W 0 (fun _ => true) true Try.f11.params.toList args.toList ds p := hA0
  rw [Try.params11] at hA hval
  obtain ⟨v0, v1, d0, d1, p0, p1, rfl, rfl, rfl, h0, h1⟩ := trodAll_two hA
  obtain ⟨rfl, rfl⟩ := trodVars_none hV
  obtain ⟨A, c, l, rfl, _, _, hr, hl⟩ := open_putsS (hval 0 _ _ rfl rfl) h0
  obtain ⟨x, rfl, hx⟩ := open_putS (hval 1 _ _ rfl rfl) h1
  refine Calls.mono (slotsOther_ok (ca := c) hl hr hx) fun e W' he => ?_
  cases e with
  | returned v =>
    obtain ⟨rfl, hkept⟩ := he
    exact ⟨_, rfl, post_law (P := Try.prog) laidIs hW' rfl rfl Try.underlying4 (by kernel_rfl) rfl hkept (okWide_bool_mk Try.underlying4 true)⟩
  | _ => exact he.elim
theorem slotsOther_holds : Rows.SlotsOtherSaid :=
  OpenClaim.holds_of_wide 11 Try.f11 rfl rfl rfl rfl rfl rfl rfl ⟨rfl, rfl, rfl, rfl, rfl⟩ rfl rfl rfl rfl rfl (by kernel_rfl) Try.func11 (by kernel_rfl)
    (of_decide_eq_true (by kernel_rfl)) (by unfold Func.isWrapper; first | (rw [if_pos (by decide +kernel)]; kernel_rfl) | (rw [if_neg (by decide +kernel)]; exact ⟨rfl, rfl⟩))
    (fun os started H enc _ => slotsOther_lifted os started H enc)
end Go.Proofs.Yteflbohpabdjkaa
