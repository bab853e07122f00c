/-
 Plans over columns answer as the document says: for every argument; the card.
-/
import Derived.Test.YtolaedhdjcnijaaGreatDoorKt29
import Derived.Test.YtolaedhdjcnijaaGreatDoorRows
import Derived.Test.YtolaedhdjcnijaaGreatDoorCards
import Derived.Test.YtolaedhdjcnijaaGreatDoorTie
import Derived.Deep.DeepHandedRow
import Derived.Lay
import Derived.LaidOnce
import Derived.SevenTiedAt
set_option linter.unusedVariables false
set_option linter.unusedSimpArgs false
namespace Go.Proofs.YtolaedhdjcnijaaGreatDoor
open Go Go.Mw Go.ChangeShapes Go.WideShapes Go.RowKit Go.ChangeAt
set_option maxRecDepth 100000

theorem planTells_lifted (os : Os) (started : os.Started) (H : Type) (enc : TypeId × Value → H) (F : Stop.Interp) :
    ReturnsInHanded {} Tryz.checked os 8 .any ((OpenSpec.ofChange Rows.planTellsSpec).preRow enc Tryz.prog Tryz.f8 Rows.planTellsRow.domain false Rows.planTellsRow.laid) (((OpenSpec.ofChange Rows.planTellsSpec).at F).post enc Tryz.prog Tryz.f8 false true false false) := by
  refine returnsInHanded_of_row (C := Tryz.checked) (s := OpenSpec.ofChange Rows.planTellsSpec) ownIs started (by kernel_rfl) Tryz.func8
    (ChangeSpec.witness_shaped (enc := enc) (C := Tryz.checked) (os := os) (s := Rows.planTellsSpec) (X := fun w _ => laidMetH Tryz.prog Rows.planTellsRow.laid w) false (World.laidAll Tryz.prog os Rows.planTellsRow.laid) #[.slice none 0 0, .agg #[.slice none 0 0, .slice none 0 0, .int .i64 0], .agg #[.slice none 0 0, .slice none 0 0, .int .i64 0]] 8 (World.laidAll_os _ _ _)
      (World.shaped_of_ZipB (by kernel_rfl) (by kernel_rfl)) (by kernel_rfl) (by kernel_rfl) (by kernel_rfl)
      (by rw [MakeChecks.laidMetH_plain _ _ _ (by kernel_rfl)]; exact laidMet_laidAll _ (by kernel_rfl) (by kernel_rfl))) ?_
  intro W base args ds gs before hval0 hW _ _ _ hL hsh _
  have hval : ∀ (j : Nat) t v, Tryz.f8.params[j]? = some t → args[j]? = some v → Value.okWide Tryz.prog W .any base t v := hval0
  have hT : TabsX W := tabsX_of hL hsh
  have hW' := hW
  obtain ⟨p, q, hA0, hV, rfl, hfz, hnd⟩ := hW
  have hA : DataW.TrodAll enc Tryz.prog W 0 (fun _ => true) true Tryz.f8.params.toList args.toList ds p := hA0
  rw [Tryz.params8] at hA hval
  obtain ⟨v0, v1, v2, d0, d1, d2, p0, p1, p2, rfl, rfl, rfl, h0, h1, h2⟩ := trodAll_three hA
  obtain ⟨rfl, rfl⟩ := trodVars_none hV
  obtain ⟨cols, hc⟩ := open_cols (hval 0 _ _ rfl rfl) h0
  obtain ⟨p, hp, hpf⟩ := open_plan (hval 1 _ _ rfl rfl) h1
  obtain ⟨q, hq, hqf⟩ := open_plan (hval 2 _ _ rfl rfl) h2
  refine Calls.mono (planTells_ok hc hp hpf hq hqf hT) fun e W' he => ?_
  cases e with
  | returned v =>
    obtain ⟨rfl, hkept⟩ := he
    exact ⟨_, rfl, post_law (P := Tryz.prog) laidIs hW' rfl rfl Tryz.underlying4 (by kernel_rfl) rfl hkept (okWide_bool_mk Tryz.underlying4 true)⟩
  | _ => exact he.elim
theorem planTells_f1 : facts1 Tryz.pinned.checked.prog 8 Tryz.f8 Rows.planTellsSpec Rows.planTellsRow = true := by kernel_rfl
theorem planTells_f2 : facts2 Tryz.pinned.checked.prog Tryz.f8 Rows.planTellsSpec Rows.planTellsRow = true := by kernel_rfl
theorem planTells_f3 : facts3 Tryz.pinned.checked.prog Tryz.f8 Rows.planTellsSpec Rows.planTellsRow = true := by kernel_rfl
theorem planTells_holds : Rows.PlanTellsSaid :=
 OpenClaim.holds_of_wide 8 Tryz.f8 rfl rfl rfl rfl rfl rfl rfl ⟨rfl, rfl, rfl, rfl, rfl⟩ rfl rfl rfl rfl rfl (by kernel_rfl) Tryz.func8 (joined_of planTells_f1 planTells_f2 planTells_f3)
  (of_decide_eq_true (by kernel_rfl)) (by unfold Func.isWrapper; first | (rw [if_pos (by decide +kernel)]; kernel_rfl) | (rw [if_neg (by decide +kernel)]; exact ⟨rfl, rfl⟩))
  (fun os started H enc _ => by rw [OpenClaim.pre_eq_preRow]; exact planTells_lifted os started H enc (fun _ _ _ => 0))
theorem planTells_card : Rows.PlanTellsCardSaid :=
 Claim7.holds_tied_plain_at .later [] [.data, .data, .data, .data, .sentinel, .sentinel, .pinned] true (true, "91198bf6cc0e8de333061c989bf35a0541c8a92380db27846a6931efc4def83e") true planTells_holds (fun _ h => by cases h) (by kernel_rfl) (fun _ h => by cases h) planTells_row_tie rfl ⟨rfl, rfl⟩ (by kernel_rfl) rfl
  (fun f fn hf hfn => by
   obtain rfl : f = 8 := Option.some.inj ((show Tryz.prog.funcNamed "millstream/millstreamlaw23.PlanTells" = some 8 by kernel_rfl).symm.trans hf) |>.symm
   obtain rfl : fn = Tryz.f8 := (Option.some.inj (Tryz.func8.symm.trans hfn)).symm
   exact ⟨by kernel_rfl, fun j t ht => by
    have hall : (Tryz.f8.params.toList.all fun u => !Tryz.prog.wantsStandIn u) = true := by kernel_rfl
    have hm : t ∈ Tryz.f8.params.toList := by simpa using Array.mem_of_getElem? ht
    exact (show Tryz.prog.wantsStandIn t = false by simpa using List.all_eq_true.1 hall t hm)⟩)
  (by kernel_rfl)
end Go.Proofs.YtolaedhdjcnijaaGreatDoor
