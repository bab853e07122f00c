/-
 Items that are there and then not leave the view as it was:for every argument;the card.
-/
import Derived.Test.YtkfpleidaoaonaaGreatDoorNu1
import Derived.Test.YtkfpleidaoaonaaGreatDoorNuZBack2
import Derived.Test.YtkfpleidaoaonaaGreatDoorNu27
import Derived.Test.YtkfpleidaoaonaaGreatDoorRows
import Derived.Test.YtkfpleidaoaonaaGreatDoorCards
import Derived.Test.YtkfpleidaoaonaaGreatDoorTie
import Derived.Deep.DeepHandedRow
import Derived.Lay
import Derived.LaidOnce
import Derived.SevenTiedAt
set_option linter.unusedVariables false
set_option linter.unusedSimpArgs false
namespace Go.Proofs.YtkfpleidaoaonaaGreatDoor
open Go Go.Mw Go.ChangeShapes Go.WideShapes Go.RowKit Go.ChangeAt Go.Proofs.Tryz
set_option maxRecDepth 100000
theorem MW (os:Os) (started:os.Started) (H:Type) (enc:Td×Value->H) (F:Stop.Interp):
    ReturnsInHanded {} checked os 8 .any ((OpenSpec.ofChange Rows.viewBackSpec).preRow enc prog f8 Rows.viewBackRow.domain false Rows.viewBackRow.laid) (((OpenSpec.ofChange Rows.viewBackSpec).at F).post enc prog f8 false true false false):=by
  refine returnsInHanded_of_row (C:=checked) (s:=OpenSpec.ofChange Rows.viewBackSpec) Tw started kR func8
    (ChangeSpec.witness_shaped (enc:=enc) (C:=checked) (os:=os) (s:=Rows.viewBackSpec) (X:=λw _=>laidMetH prog Rows.viewBackRow.laid w) false (World.laidAll prog os Rows.viewBackRow.laid) #[.slice none 0 0,.agg #[.slice none 0 0,.slice none 0 0,.int .i64 0],.agg #[.slice none 0 0,.slice none 0 0]] 8 (World.laidAll_os _ _ _)
      (World.shaped_of_ZipB kR kR) kR kR kR
      (by rw[MakeChecks.laidMetH_plain _ _ _ kR];exact laidMet_laidAll _ kR kR)) ?_
  intro W base args ds gs before hval0 hW _ _ _ hL Q7 _;have p9: ∀(j:Nat) t v,f8.params[j]? =some t->args[j]? =some v->Value.okWide prog W .any base t v:=hval0;have hT:fA W:=AU hL Q7;have hW':=hW;obtain⟨p,q,Zk,hV,rfl,hfz,hnd⟩:=hW;have hA:DataW.TrodAll enc prog W 0 (λ_=>true) true f8.params.toList args.toList ds p:=Zk;rw[params8]at hA p9;obtain⟨v0,v1,v2,d0,d1,d2,p0,p1,p2,rfl,rfl,rfl,h0,h1,h2⟩:=trodAll_three hA;obtain⟨rfl,rfl⟩:=trodVars_none hV;obtain⟨cols,hc⟩:=ru (p9 0 _ _ rfl rfl) h0;obtain⟨p,hp,Kj⟩:=rz (p9 1 _ _ rfl rfl) h1;obtain⟨va,vb,la,lb,rfl,⟨ha,hb⟩,haf,hbf⟩:=PI (p9 2 _ _ rfl rfl) h2;refine Calls.mono (YW hc hp Kj ha hb haf hbf hT) λe W' he=>?_;cases e with
  | returned v=>
    obtain⟨rfl,Ef⟩:=he;exact⟨_,rfl,AQ (P:=prog) K8 hW' rfl rfl underlying4 kR rfl Ef (okWide_bool_mk underlying4 true)⟩
  | _=>exact he.elim
theorem Wxa:(Rows.viewBackRow.inPlace==Tryz.pinned.checked.prog.inPlace 8)=true:=by kernel_rfl
theorem Wxb:(Rows.viewBackRow.unfollowed==Tryz.pinned.checked.prog.unfollowed 8)=true:=by kernel_rfl
theorem Wxc:(Rows.viewBackRow.recurses==Tryz.pinned.checked.prog.recurses 8)=true:=by kernel_rfl
theorem Wxd:(Rows.viewBackRow.named==Tryz.pinned.checked.prog.varsNamed 8)=true:=by kernel_rfl
theorem Wx:DJ Tryz.pinned.checked.prog 8 f8 Rows.viewBackSpec Rows.viewBackRow=true:=by
 unfold DJ;rw[Wxa,Wxb,Wxc,Wxd];kernel_rfl
theorem Wy:DK Tryz.pinned.checked.prog f8 Rows.viewBackSpec Rows.viewBackRow=true:=by kernel_rfl
theorem Wz:DL Tryz.pinned.checked.prog f8 Rows.viewBackSpec Rows.viewBackRow=true:=by kernel_rfl
theorem ND:Rows.ViewBackSaid:=
 OpenClaim.holds_of_wide 8 f8 rfl rfl rfl rfl rfl rfl rfl ⟨rfl,rfl,rfl,rfl,rfl⟩ rfl rfl rfl rfl rfl kR func8 (xU Wx Wy Wz)
  (zba kR) (by unfold Func.isWrapper;first | (rw[zac (by decide+kernel)];kernel_rfl) | (rw[zab (by decide+kernel)];exact⟨rfl,rfl⟩))
  (λos started H enc _=>by rw[OpenClaim.pre_eq_preRow];exact MW os started H enc (λ_ _ _=>0))
theorem viewBack_c1:Rows.viewBackRow.wfByText (OpenSpec.ofChange Rows.viewBackSpec)=true:=by kernel_rfl
theorem viewBack_c2:Tryz.pinned.checked.prog.mainIs=some (true,"a4f4e1d873143a65eac3f1390d82364d262e32bb347194823c2957669f2f8dfd".toList):=by kernel_rfl
theorem viewBack_c3:true=Tryz.pinned.checked.prog.looks []:=by kernel_rfl
theorem viewBack_c4:false=Rows.viewBackRow.goesBy Tryz.pinned.checked.prog:=by kernel_rfl
theorem viewBack_card:Rows.ViewBackCardSaid:=
 Claim7.holds_tied_plain_at .later [] [.data,.data,.data,.data,.sentinel,.sentinel,.pinned] true (true,"a4f4e1d873143a65eac3f1390d82364d262e32bb347194823c2957669f2f8dfd") true ND (λ_ h=>by cases h) viewBack_c1 (λ_ h=>by cases h) viewBack_row_tie rfl ⟨rfl,rfl⟩ viewBack_c2 rfl
  (λf fn hf Zl=>by
   obtain rfl :f=8:=Option.some.inj ((show prog.funcNamed "millstream/millstreamlaw25.ViewBack" =some 8 from kR).symm.trans hf) |>.symm;obtain rfl :fn=f8:=(Option.some.inj (func8.symm.trans Zl)).symm
   exact⟨viewBack_c3,λj t ht=>by
    have lQ:(f8.params.toList.all λu=> !prog.wantsStandIn u)=true:=kR;have hm:t∈f8.params.toList:=by simpa using zdt ht
    exact(show prog.wantsStandIn t=false by simpa using zaz.1 lQ t hm)⟩)
  viewBack_c4
end Go.Proofs.YtkfpleidaoaonaaGreatDoor
