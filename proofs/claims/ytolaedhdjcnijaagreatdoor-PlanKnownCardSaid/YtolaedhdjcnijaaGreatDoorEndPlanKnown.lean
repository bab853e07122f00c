/-
 Known plans: for every argument; the card.
-/
import Derived.Test.YtolaedhdjcnijaaGreatDoorKk14
import Derived.Test.YtolaedhdjcnijaaGreatDoorRows
import Derived.Test.YtolaedhdjcnijaaGreatDoorCards
import Derived.Test.YtolaedhdjcnijaaGreatDoorTie
import Derived.Deep.DeepHandedRow
import Derived.Lay
import Derived.LaidOnce
import Derived.SevenTiedAt
set_option linter.unusedVariables false
set_option linter.unusedSimpArgs false
namespace Go.Proofs.YtolaedhdjcnijaaGreatDoor
open Go Go.Mw Go.ChangeShapes Go.WideShapes Go.RowKit Go.ChangeAt
set_option maxRecDepth 100000

theorem zX (os : Os) (started : os.Started) (H : Type) (enc : TypeId × Value → H) (F : Stop.Interp) :
    ReturnsInHanded {} Tryz.checked os 10 .any ((OpenSpec.ofChange Rows.planKnownSpec).preRow enc Tryz.prog Tryz.f10 Rows.planKnownRow.domain false Rows.planKnownRow.laid) (((OpenSpec.ofChange Rows.planKnownSpec).at F).post enc Tryz.prog Tryz.f10 false true false false) := by
  refine returnsInHanded_of_row (C := Tryz.checked) (s := OpenSpec.ofChange Rows.planKnownSpec) Zp started (by kernel_rfl) Tryz.func10
    (ChangeSpec.witness_shaped (enc := enc) (C := Tryz.checked) (os := os) (s := Rows.planKnownSpec) (X := fun w _ => laidMetH Tryz.prog Rows.planKnownRow.laid w) false (World.laidAll Tryz.prog os Rows.planKnownRow.laid) #[] 8 (World.laidAll_os _ _ _)
      (World.shaped_of_ZipB (by kernel_rfl) (by kernel_rfl)) (by kernel_rfl) (by kernel_rfl) (by kernel_rfl)
      (by rw [MakeChecks.laidMetH_plain _ _ _ (by kernel_rfl)]; exact laidMet_laidAll _ (by kernel_rfl) (by kernel_rfl))) ?_
  intro W base args ds gs before hval0 hW _ _ _ hL JF _
  have yQ : ∀ (j : Nat) t v, Tryz.f10.params[j]? = some t → args[j]? = some v → Value.okWide Tryz.prog W .any base t v := hval0
  have hT : je W := Td hL JF
  have hW' := hW
  obtain ⟨p, q, hA0, hV, rfl, hfz, YC⟩ := hW
  have hA : DataW.TrodAll enc Tryz.prog W 0 (fun _ => true) true Tryz.f10.params.toList args.toList ds p := hA0
  rw [Tryz.params10] at hA yQ
  obtain ⟨rfl, rfl, rfl⟩ := trodAll_none hA
  obtain ⟨rfl, rfl⟩ := trodVars_none hV
  refine Calls.mono (Jc hT) fun e W' he => ?_
  cases e with
  | returned v =>
    obtain ⟨rfl, ZU⟩ := he
    exact ⟨_, rfl, R9 (P := Tryz.prog) XE hW' rfl rfl Tryz.underlying4 (by kernel_rfl) rfl ZU (okWide_bool_mk Tryz.underlying4 true)⟩
  | _ => exact he.elim
theorem Gz : M8 Tryz.pinned.checked.prog 10 Tryz.f10 Rows.planKnownSpec Rows.planKnownRow = true := by kernel_rfl
theorem GA : M9 Tryz.pinned.checked.prog Tryz.f10 Rows.planKnownSpec Rows.planKnownRow = true := by kernel_rfl
theorem GD : Na Tryz.pinned.checked.prog Tryz.f10 Rows.planKnownSpec Rows.planKnownRow = true := by kernel_rfl
theorem BL : Rows.PlanKnownSaid :=
 OpenClaim.holds_of_wide 10 Tryz.f10 rfl rfl rfl rfl rfl rfl rfl ⟨rfl, rfl, rfl, rfl, rfl⟩ rfl rfl rfl rfl rfl (by kernel_rfl) Tryz.func10 (P8 Gz GA GD)
  (of_decide_eq_true (by kernel_rfl)) (by unfold Func.isWrapper; first | (rw [if_pos (by decide +kernel)]; kernel_rfl) | (rw [if_neg (by decide +kernel)]; exact ⟨rfl, rfl⟩))
  (fun os started H enc _ => by rw [OpenClaim.pre_eq_preRow]; exact zX os started H enc (fun _ _ _ => 0))
theorem planKnown_card : Rows.PlanKnownCardSaid :=
 Claim7.holds_tied_plain_at .later [] [.data, .data, .data, .data, .sentinel, .sentinel, .pinned] true (true, "91198bf6cc0e8de333061c989bf35a0541c8a92380db27846a6931efc4def83e") true BL (fun _ h => by cases h) (by kernel_rfl) (fun _ h => by cases h) planKnown_row_tie rfl ⟨rfl, rfl⟩ (by kernel_rfl) rfl
  (fun f fn hf YD => by
   obtain rfl : f = 10 := Option.some.inj ((show Tryz.prog.funcNamed "millstream/millstreamlaw23.PlanKnown" = some 10 by kernel_rfl).symm.trans hf) |>.symm
   obtain rfl : fn = Tryz.f10 := (Option.some.inj (Tryz.func10.symm.trans YD)).symm
   exact ⟨by kernel_rfl, fun j t ht => by
    have lu : (Tryz.f10.params.toList.all fun u => !Tryz.prog.wantsStandIn u) = true := by kernel_rfl
    have hm : t ∈ Tryz.f10.params.toList := by simpa using Array.mem_of_getElem? ht
    exact (show Tryz.prog.wantsStandIn t = false by simpa using List.all_eq_true.1 lu t hm)⟩)
  (by kernel_rfl)
end Go.Proofs.YtolaedhdjcnijaaGreatDoor
