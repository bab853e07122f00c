/-
 Known expressions: for every argument; the card.
-/
import Derived.Test.YtmkaahkbhdlniaaGreatDoorKn32
import Derived.Test.YtmkaahkbhdlniaaGreatDoorKn33
import Derived.Test.YtmkaahkbhdlniaaGreatDoorRows
import Derived.Test.YtmkaahkbhdlniaaGreatDoorCards
import Derived.Test.YtmkaahkbhdlniaaGreatDoorTie
import Derived.Deep.DeepHandedRow
import Derived.Lay
import Derived.LaidOnce
import Derived.SevenTiedAt
set_option linter.unusedVariables false
set_option linter.unusedSimpArgs false
namespace Go.Proofs.YtmkaahkbhdlniaaGreatDoor
open Go Go.Mw Go.ChangeShapes Go.WideShapes Go.RowKit Go.ChangeAt
set_option maxRecDepth 100000

theorem exprKnown_lifted (os : Os) (started : os.Started) (H : Type) (enc : TypeId × Value → H) (F : Stop.Interp) :
    ReturnsInHanded {} Tryz.checked os 12 .any ((OpenSpec.ofChange Rows.exprKnownSpec).preRow enc Tryz.prog Tryz.f12 Rows.exprKnownRow.domain false Rows.exprKnownRow.laid) (((OpenSpec.ofChange Rows.exprKnownSpec).at F).post enc Tryz.prog Tryz.f12 false true false false) := by
  refine returnsInHanded_of_row (C := Tryz.checked) (s := OpenSpec.ofChange Rows.exprKnownSpec) ownIs started (by kernel_rfl) Tryz.func12
    (ChangeSpec.witness_shaped (enc := enc) (C := Tryz.checked) (os := os) (s := Rows.exprKnownSpec) (X := fun w _ => laidMetH Tryz.prog Rows.exprKnownRow.laid w) false (World.laidAll Tryz.prog os Rows.exprKnownRow.laid) #[] 8 (World.laidAll_os _ _ _)
      (World.shaped_of_ZipB (by kernel_rfl) (by kernel_rfl)) (by kernel_rfl) (by kernel_rfl) (by kernel_rfl)
      (by rw [MakeChecks.laidMetH_plain _ _ _ (by kernel_rfl)]; exact laidMet_laidAll _ (by kernel_rfl) (by kernel_rfl))) ?_
  intro W base args ds gs before hval0 hW _ _ _ hL hsh _
  have hval : ∀ (j : Nat) t v, Tryz.f12.params[j]? = some t → args[j]? = some v → Value.okWide Tryz.prog W .any base t v := hval0
  have hT : TabsX W := tabsX_of hL hsh
  have hW' := hW
  obtain ⟨p, q, hA0, hV, rfl, hfz, hnd⟩ := hW
  have hA : DataW.TrodAll enc Tryz.prog W 0 (fun _ => true) true Tryz.f12.params.toList args.toList ds p := hA0
  rw [Tryz.params12] at hA hval
  obtain ⟨rfl, rfl, rfl⟩ := trodAll_none hA
  obtain ⟨rfl, rfl⟩ := trodVars_none hV
  refine Calls.mono (exprKnown_ok hT) fun e W' he => ?_
  cases e with
  | returned v =>
    obtain ⟨rfl, hkept⟩ := he
    exact ⟨_, rfl, post_law (P := Tryz.prog) laidIs hW' rfl rfl Tryz.underlying4 (by kernel_rfl) rfl hkept (okWide_bool_mk Tryz.underlying4 true)⟩
  | _ => exact he.elim
theorem exprKnown_f1 : facts1 Tryz.pinned.checked.prog 12 Tryz.f12 Rows.exprKnownSpec Rows.exprKnownRow = true := by kernel_rfl
theorem exprKnown_f2 : facts2 Tryz.pinned.checked.prog Tryz.f12 Rows.exprKnownSpec Rows.exprKnownRow = true := by kernel_rfl
theorem exprKnown_f3 : facts3 Tryz.pinned.checked.prog Tryz.f12 Rows.exprKnownSpec Rows.exprKnownRow = true := by kernel_rfl
theorem exprKnown_holds : Rows.ExprKnownSaid :=
 OpenClaim.holds_of_wide 12 Tryz.f12 rfl rfl rfl rfl rfl rfl rfl ⟨rfl, rfl, rfl, rfl, rfl⟩ rfl rfl rfl rfl rfl (by kernel_rfl) Tryz.func12 (joined_of exprKnown_f1 exprKnown_f2 exprKnown_f3)
  (of_decide_eq_true (by kernel_rfl)) (by unfold Func.isWrapper; first | (rw [if_pos (by decide +kernel)]; kernel_rfl) | (rw [if_neg (by decide +kernel)]; exact ⟨rfl, rfl⟩))
  (fun os started H enc _ => by rw [OpenClaim.pre_eq_preRow]; exact exprKnown_lifted os started H enc (fun _ _ _ => 0))
theorem exprKnown_card : Rows.ExprKnownCardSaid :=
 Claim7.holds_tied_plain_at .later [] [.data, .data, .data, .data, .sentinel, .sentinel, .pinned] true (true, "d39219338b0a6bcf87b120e1229af09d025bc2bfc951999ff4d7c6d5650a09a5") true exprKnown_holds (fun _ h => by cases h) (by kernel_rfl) (fun _ h => by cases h) exprKnown_row_tie rfl ⟨rfl, rfl⟩ (by kernel_rfl) rfl
  (fun f fn hf hfn => by
   obtain rfl : f = 12 := Option.some.inj ((show Tryz.prog.funcNamed "millstream/millstreamlaw22.ExprKnown" = some 12 by kernel_rfl).symm.trans hf) |>.symm
   obtain rfl : fn = Tryz.f12 := (Option.some.inj (Tryz.func12.symm.trans hfn)).symm
   exact ⟨by kernel_rfl, fun j t ht => by
    have hall : (Tryz.f12.params.toList.all fun u => !Tryz.prog.wantsStandIn u) = true := by kernel_rfl
    have hm : t ∈ Tryz.f12.params.toList := by simpa using Array.mem_of_getElem? ht
    exact (show Tryz.prog.wantsStandIn t = false by simpa using List.all_eq_true.1 hall t hm)⟩)
  (by kernel_rfl)
end Go.Proofs.YtmkaahkbhdlniaaGreatDoor
