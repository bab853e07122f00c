/-
 Items in pieces are as if they were applied at once:for every argument;the card.
-/
import Derived.Test.YtkfpleidaoaonaaGreatDoorNu1
import Derived.Test.YtkfpleidaoaonaaGreatDoorNuZOnce1
import Derived.Test.YtkfpleidaoaonaaGreatDoorNu27
import Derived.Test.YtkfpleidaoaonaaGreatDoorRows
import Derived.Test.YtkfpleidaoaonaaGreatDoorCards
import Derived.Test.YtkfpleidaoaonaaGreatDoorTie
import Derived.Deep.DeepHandedRow
import Derived.Lay
import Derived.LaidOnce
import Derived.SevenTiedAt
set_option linter.unusedVariables false
set_option linter.unusedSimpArgs false
namespace Go.Proofs.YtkfpleidaoaonaaGreatDoor
open Go Go.Mw Go.ChangeShapes Go.WideShapes Go.RowKit Go.ChangeAt Go.Proofs.Tryz
set_option maxRecDepth 100000
theorem M0 (os:Os) (started:os.Started) (H:Type) (enc:Td×Value->H) (F:Stop.Interp):
    ReturnsInHanded {} checked os 7 .any ((OpenSpec.ofChange Rows.viewOnceSpec).preRow enc prog f7 Rows.viewOnceRow.domain false Rows.viewOnceRow.laid) (((OpenSpec.ofChange Rows.viewOnceSpec).at F).post enc prog f7 false true false false):=by
  refine returnsInHanded_of_row (C:=checked) (s:=OpenSpec.ofChange Rows.viewOnceSpec) Tw started kR func7
    (ChangeSpec.witness_shaped (enc:=enc) (C:=checked) (os:=os) (s:=Rows.viewOnceSpec) (X:=λw _=>laidMetH prog Rows.viewOnceRow.laid w) false (World.laidAll prog os Rows.viewOnceRow.laid) #[.slice none 0 0,.agg #[.slice none 0 0,.slice none 0 0,.int .i64 0],.slice none 0 0] 8 (World.laidAll_os _ _ _)
      (World.shaped_of_ZipB kR kR) kR kR kR
      (by rw[MakeChecks.laidMetH_plain _ _ _ kR];exact laidMet_laidAll _ kR kR)) ?_
  intro W base args ds gs before hval0 hW _ _ _ hL Q7 _;have p9: ∀(j:Nat) t v,f7.params[j]? =some t->args[j]? =some v->Value.okWide prog W .any base t v:=hval0;have hT:fA W:=AU hL Q7;have hW':=hW;obtain⟨p,q,Zk,hV,rfl,hfz,hnd⟩:=hW;have hA:DataW.TrodAll enc prog W 0 (λ_=>true) true f7.params.toList args.toList ds p:=Zk;rw[params7]at hA p9;obtain⟨v0,v1,v2,d0,d1,d2,p0,p1,p2,rfl,rfl,rfl,h0,h1,h2⟩:=trodAll_three hA;obtain⟨rfl,rfl⟩:=trodVars_none hV;obtain⟨cols,hc⟩:=ru (p9 0 _ _ rfl rfl) h0;obtain⟨p,hp,Kj⟩:=rz (p9 1 _ _ rfl rfl) h1;obtain⟨q,hq,hqf⟩:=GY (p9 2 _ _ rfl rfl) h2;refine Calls.mono (Y3 hc hp Kj hq hqf hT) λe W' he=>?_;cases e with
  | returned v=>
    obtain⟨rfl,Ef⟩:=he;exact⟨_,rfl,AQ (P:=prog) K8 hW' rfl rfl underlying4 kR rfl Ef (okWide_bool_mk underlying4 true)⟩
  | _=>exact he.elim
theorem WGa:(Rows.viewOnceRow.inPlace==Tryz.pinned.checked.prog.inPlace 7)=true:=by kernel_rfl
theorem WGb:(Rows.viewOnceRow.unfollowed==Tryz.pinned.checked.prog.unfollowed 7)=true:=by kernel_rfl
theorem WGc:(Rows.viewOnceRow.recurses==Tryz.pinned.checked.prog.recurses 7)=true:=by kernel_rfl
theorem WGd:(Rows.viewOnceRow.named==Tryz.pinned.checked.prog.varsNamed 7)=true:=by kernel_rfl
theorem WG:DJ Tryz.pinned.checked.prog 7 f7 Rows.viewOnceSpec Rows.viewOnceRow=true:=by
 unfold DJ;rw[WGa,WGb,WGc,WGd];kernel_rfl
theorem WH:DK Tryz.pinned.checked.prog f7 Rows.viewOnceSpec Rows.viewOnceRow=true:=by kernel_rfl
theorem WI:DL Tryz.pinned.checked.prog f7 Rows.viewOnceSpec Rows.viewOnceRow=true:=by kernel_rfl
theorem NH:Rows.ViewOnceSaid:=
 OpenClaim.holds_of_wide 7 f7 rfl rfl rfl rfl rfl rfl rfl ⟨rfl,rfl,rfl,rfl,rfl⟩ rfl rfl rfl rfl rfl kR func7 (xU WG WH WI)
  (zba kR) (by unfold Func.isWrapper;first | (rw[zac (by decide+kernel)];kernel_rfl) | (rw[zab (by decide+kernel)];exact⟨rfl,rfl⟩))
  (λos started H enc _=>by rw[OpenClaim.pre_eq_preRow];exact M0 os started H enc (λ_ _ _=>0))
theorem viewOnce_c1:Rows.viewOnceRow.wfByText (OpenSpec.ofChange Rows.viewOnceSpec)=true:=by kernel_rfl
theorem viewOnce_c2:Tryz.pinned.checked.prog.mainIs=some (true,"a4f4e1d873143a65eac3f1390d82364d262e32bb347194823c2957669f2f8dfd".toList):=by kernel_rfl
theorem viewOnce_c3:true=Tryz.pinned.checked.prog.looks []:=by kernel_rfl
theorem viewOnce_c4:false=Rows.viewOnceRow.goesBy Tryz.pinned.checked.prog:=by kernel_rfl
theorem viewOnce_card:Rows.ViewOnceCardSaid:=
 Claim7.holds_tied_plain_at .later [] [.data,.data,.data,.data,.sentinel,.sentinel,.pinned] true (true,"a4f4e1d873143a65eac3f1390d82364d262e32bb347194823c2957669f2f8dfd") true NH (λ_ h=>by cases h) viewOnce_c1 (λ_ h=>by cases h) viewOnce_row_tie rfl ⟨rfl,rfl⟩ viewOnce_c2 rfl
  (λf fn hf Zl=>by
   obtain rfl :f=7:=Option.some.inj ((show prog.funcNamed "millstream/millstreamlaw25.ViewOnce" =some 7 from kR).symm.trans hf) |>.symm;obtain rfl :fn=f7:=(Option.some.inj (func7.symm.trans Zl)).symm
   exact⟨viewOnce_c3,λj t ht=>by
    have lQ:(f7.params.toList.all λu=> !prog.wantsStandIn u)=true:=kR;have hm:t∈f7.params.toList:=by simpa using zdt ht
    exact(show prog.wantsStandIn t=false by simpa using zaz.1 lQ t hm)⟩)
  viewOnce_c4
end Go.Proofs.YtkfpleidaoaonaaGreatDoor
