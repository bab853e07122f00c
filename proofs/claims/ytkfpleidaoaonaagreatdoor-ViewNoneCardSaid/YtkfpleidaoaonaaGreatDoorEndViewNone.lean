/-
 Views that are none do nothing:for every argument;the card.
-/
import Derived.Test.YtkfpleidaoaonaaGreatDoorNu1
import Derived.Test.YtkfpleidaoaonaaGreatDoorNuZNone1
import Derived.Test.YtkfpleidaoaonaaGreatDoorNu26
import Derived.Test.YtkfpleidaoaonaaGreatDoorNu27
import Derived.Test.YtkfpleidaoaonaaGreatDoorRows
import Derived.Test.YtkfpleidaoaonaaGreatDoorCards
import Derived.Test.YtkfpleidaoaonaaGreatDoorTie
import Derived.Deep.DeepHandedRow
import Derived.Lay
import Derived.LaidOnce
import Derived.SevenTiedAt
set_option linter.unusedVariables false
set_option linter.unusedSimpArgs false
namespace Go.Proofs.YtkfpleidaoaonaaGreatDoor
open Go Go.Mw Go.ChangeShapes Go.WideShapes Go.RowKit Go.ChangeAt Go.Proofs.Tryz
set_option maxRecDepth 100000
theorem MZ (os:Os) (started:os.Started) (H:Type) (enc:Td×Value->H) (F:Stop.Interp):
    ReturnsInHanded {} checked os 5 .any ((OpenSpec.ofChange Rows.viewNoneSpec).preRow enc prog f5 Rows.viewNoneRow.domain false Rows.viewNoneRow.laid) (((OpenSpec.ofChange Rows.viewNoneSpec).at F).post enc prog f5 false true false false):=by
  refine returnsInHanded_of_row (C:=checked) (s:=OpenSpec.ofChange Rows.viewNoneSpec) Tw started kR func5
    (ChangeSpec.witness_shaped (enc:=enc) (C:=checked) (os:=os) (s:=Rows.viewNoneSpec) (X:=λw _=>laidMetH prog Rows.viewNoneRow.laid w) false (World.laidAll prog os Rows.viewNoneRow.laid) #[.slice none 0 0] 8 (World.laidAll_os _ _ _)
      (World.shaped_of_ZipB kR kR) kR kR kR
      (by rw[MakeChecks.laidMetH_plain _ _ _ kR];exact laidMet_laidAll _ kR kR)) ?_
  intro W base args ds gs before hval0 hW _ _ _ hL Q7 _;have p9: ∀(j:Nat) t v,f5.params[j]? =some t->args[j]? =some v->Value.okWide prog W .any base t v:=hval0;have hT:fA W:=AU hL Q7;have hW':=hW;obtain⟨p,q,Zk,hV,rfl,hfz,hnd⟩:=hW;have hA:DataW.TrodAll enc prog W 0 (λ_=>true) true f5.params.toList args.toList ds p:=Zk;rw[params5]at hA p9;obtain⟨v0,d0,rfl,rfl,h0⟩:=trodAll_one hA;obtain⟨rfl,rfl⟩:=trodVars_none hV;obtain⟨l,hl,zI⟩:=GZ (p9 0 _ _ rfl rfl) h0;refine Calls.mono (Y0 hl hT) λe W' he=>?_;cases e with
  | returned v=>
    obtain⟨rfl,Ef⟩:=he;exact⟨_,rfl,AQ (P:=prog) K8 hW' rfl rfl underlying4 kR rfl Ef (okWide_bool_mk underlying4 true)⟩
  | _=>exact he.elim
theorem WAa:(Rows.viewNoneRow.inPlace==Tryz.pinned.checked.prog.inPlace 5)=true:=by kernel_rfl
theorem WAb:(Rows.viewNoneRow.unfollowed==Tryz.pinned.checked.prog.unfollowed 5)=true:=by kernel_rfl
theorem WAc:(Rows.viewNoneRow.recurses==Tryz.pinned.checked.prog.recurses 5)=true:=by kernel_rfl
theorem WAd:(Rows.viewNoneRow.named==Tryz.pinned.checked.prog.varsNamed 5)=true:=by kernel_rfl
theorem WA:DJ Tryz.pinned.checked.prog 5 f5 Rows.viewNoneSpec Rows.viewNoneRow=true:=by
 unfold DJ;rw[WAa,WAb,WAc,WAd];kernel_rfl
theorem WC:DK Tryz.pinned.checked.prog f5 Rows.viewNoneSpec Rows.viewNoneRow=true:=by kernel_rfl
theorem WE:DL Tryz.pinned.checked.prog f5 Rows.viewNoneSpec Rows.viewNoneRow=true:=by kernel_rfl
theorem NG:Rows.ViewNoneSaid:=
 OpenClaim.holds_of_wide 5 f5 rfl rfl rfl rfl rfl rfl rfl ⟨rfl,rfl,rfl,rfl,rfl⟩ rfl rfl rfl rfl rfl kR func5 (xU WA WC WE)
  (zba kR) (by unfold Func.isWrapper;first | (rw[zac (by decide+kernel)];kernel_rfl) | (rw[zab (by decide+kernel)];exact⟨rfl,rfl⟩))
  (λos started H enc _=>by rw[OpenClaim.pre_eq_preRow];exact MZ os started H enc (λ_ _ _=>0))
theorem viewNone_c1:Rows.viewNoneRow.wfByText (OpenSpec.ofChange Rows.viewNoneSpec)=true:=by kernel_rfl
theorem viewNone_c2:Tryz.pinned.checked.prog.mainIs=some (true,"a4f4e1d873143a65eac3f1390d82364d262e32bb347194823c2957669f2f8dfd".toList):=by kernel_rfl
theorem viewNone_c3:true=Tryz.pinned.checked.prog.looks []:=by kernel_rfl
theorem viewNone_c4:false=Rows.viewNoneRow.goesBy Tryz.pinned.checked.prog:=by kernel_rfl
theorem viewNone_card:Rows.ViewNoneCardSaid:=
 Claim7.holds_tied_plain_at .later [] [.data,.data,.data,.data,.sentinel,.sentinel,.pinned] true (true,"a4f4e1d873143a65eac3f1390d82364d262e32bb347194823c2957669f2f8dfd") true NG (λ_ h=>by cases h) viewNone_c1 (λ_ h=>by cases h) viewNone_row_tie rfl ⟨rfl,rfl⟩ viewNone_c2 rfl
  (λf fn hf Zl=>by
   obtain rfl :f=5:=Option.some.inj ((show prog.funcNamed "millstream/millstreamlaw25.ViewNone" =some 5 from kR).symm.trans hf) |>.symm;obtain rfl :fn=f5:=(Option.some.inj (func5.symm.trans Zl)).symm
   exact⟨viewNone_c3,λj t ht=>by
    have lQ:(f5.params.toList.all λu=> !prog.wantsStandIn u)=true:=kR;have hm:t∈f5.params.toList:=by simpa using zdt ht
    exact(show prog.wantsStandIn t=false by simpa using zaz.1 lQ t hm)⟩)
  viewNone_c4
end Go.Proofs.YtkfpleidaoaonaaGreatDoor
