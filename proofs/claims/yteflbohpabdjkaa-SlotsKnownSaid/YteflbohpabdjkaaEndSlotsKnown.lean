/-
  Known sequences, and slots that are none: for every argument, without a condition.
-/
import Derived.Test.YteflbohpabdjkaaOpen
import Derived.Test.YteflbohpabdjkaaKnownV
import Derived.Test.YteflbohpabdjkaaRows
namespace Go.Proofs.Yteflbohpabdjkaa
open Go Go.Mw Go.ChangeShapes Go.WideShapes Go.RowKit Go.ChangeAt
set_option maxRecDepth 100000

theorem slotsKnown_lifted (os : Os) (started : os.Started) (H : Type) (enc : TypeId × Value → H) :
    ReturnsInHanded {} Try.checked os 16 .any (Rows.slotsKnownSpec.pre6 enc Try.prog Try.f16 Rows.slotsKnownRow.domain false) (Rows.slotsKnownSpec.post enc Try.prog Try.f16 false true false false) := by
  refine returnsInHanded_of_change (C := Try.checked) ownIs started (by kernel_rfl) Try.func16
    (ChangeSpec.witness6 (enc := enc) (C := Try.checked) false ⟨#[], #[], []⟩ 8 (by kernel_rfl) (by kernel_rfl) (by kernel_rfl) (by kernel_rfl)) ?_
  intro W base args ds gs before hval0 hW hcnd _
  have hval : ∀ (j : Nat) t v, Try.f16.params[j]? = some t → args[j]? = some v → Value.okWide Try.prog W .any base t v := hval0
  have hW' := hW
  obtain ⟨p, q, hA0, hV, rfl, hfz, hnd⟩ := hW
  have hA : DataW.TrodAll enc Try.prog W 0 (fun _ => true) true Try.f16.params.toList args.toList ds p := hA0
  rw [Try.params16] at hA hval
  obtain ⟨rfl, rfl, rfl⟩ := trodAll_none hA
  obtain ⟨rfl, rfl⟩ := trodVars_none hV
  refine Calls.mono (slotsKnown_ok) fun e W' he => ?_
  cases e with
  | returned v =>
    obtain ⟨rfl, hkept⟩ := he
    exact ⟨_, rfl, post_law (P := Try.prog) laidIs hW' rfl rfl Try.underlying4 (by kernel_rfl) rfl hkept (okWide_bool_mk Try.underlying4 true)⟩
  | _ => exact he.elim
theorem slotsKnown_holds : Rows.SlotsKnownSaid :=
  OpenClaim.holds_of_wide 16 Try.f16 rfl rfl rfl rfl rfl rfl rfl ⟨rfl, rfl, rfl, rfl, rfl⟩ rfl rfl rfl rfl rfl (by kernel_rfl) Try.func16 (by kernel_rfl)
    (of_decide_eq_true (by kernel_rfl)) (by unfold Func.isWrapper; first | (rw [if_pos (by decide +kernel)]; kernel_rfl) | (rw [if_neg (by decide +kernel)]; exact ⟨rfl, rfl⟩))
    (fun os started H enc _ => slotsKnown_lifted os started H enc)
end Go.Proofs.Yteflbohpabdjkaa
