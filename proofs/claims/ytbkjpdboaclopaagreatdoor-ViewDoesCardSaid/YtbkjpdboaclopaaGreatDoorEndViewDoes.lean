/-
 Views do as the chapter says:for every argument;the card.
-/
import Derived.Test.YtbkjpdboaclopaaGreatDoorNd31
import Derived.Test.YtbkjpdboaclopaaGreatDoorCards
import Derived.Test.YtbkjpdboaclopaaGreatDoorTie
set_option linter.all false
namespace Go.Proofs.YtbkjpdboaclopaaGreatDoor
open Go Go.Proofs.Mw Go.ChangeShapes Go.WideShapes Go.RowKit Go.ChangeAt Go.Proofs.Tryz
set_option maxRecDepth 100000
def Ls (os:Os) (started:os.Started) (H:Type) (enc:Td×Value->H) (F:Stop.Interp):
    ReturnsInHanded {} checked os 3 .any ((OpenSpec.ofChange Rows.viewDoesSpec).preRow enc prog f3 Rows.viewDoesRow.domain false Rows.viewDoesRow.laid) (((OpenSpec.ofChange Rows.viewDoesSpec).at F).post enc prog f3 false true false false):=by
  refine returnsInHanded_of_row (C:=checked) (s:=OpenSpec.ofChange Rows.viewDoesSpec) aoO started kR func3
    (ChangeSpec.witness_shaped (enc:=enc) (C:=checked) (os:=os) (s:=Rows.viewDoesSpec) (X:=λw _=>laidMetH prog Rows.viewDoesRow.laid w) false (World.laidAll prog os Rows.viewDoesRow.laid) #[.slice none 0 0,.agg #[.slice none 0 0,.slice none 0 0,.int .i64 0],.slice none 0 0] 8 (World.laidAll_os _ _ _)
      (World.shaped_of_ZipB kR kR) kR kR kR
      (by rw[MakeChecks.laidMetH_plain _ _ _ kR];exact laidMet_laidAll _ kR kR)) ?_
  intro W base args ds gs before hval0 hW _ _ _ hL Vi _;have YQ: ∀(j:Nat) t v,f3.params[j]? =some t->args[j]? =some v->Value.okWide prog W .any base t v:=hval0;have hT:gT W:=agF hL Vi;have hW':=hW;obtain⟨p,q,hA0,hV,rfl,Lh,hnd⟩:=hW;have hA:DataW.TrodAll enc prog W 0 (λ_=>true) true f3.params.toList args.toList ds p:=hA0;rw[params3]at hA YQ;obtain⟨v0,v1,v2,d0,d1,d2,p0,p1,p2,rfl,rfl,rfl,h0,h1,h2⟩:=trodAll_three hA;obtain⟨rfl,rfl⟩:=trodVars_none hV;obtain⟨cols,hc⟩:=adQ (YQ 0 _ _ rfl rfl) h0;obtain⟨p,hp,Tp⟩:=aeB (YQ 1 _ _ rfl rfl) h1;obtain⟨q,hq,hqf⟩:=aaZ (YQ 2 _ _ rfl rfl) h2;refine Calls.mono (Yx hc hp Tp hq hqf hT) λe W' he=>?_;cases e with
  | returned v=>
    obtain⟨rfl,apu⟩:=he;exact⟨_,rfl,aiA (P:=prog) amH hW' rfl rfl underlying4 kR rfl apu (okWide_bool_mk underlying4 true)⟩
  | _=>exact he.elim
def VI:(Rows.viewDoesRow.inPlace==Tryz.pinned.checked.prog.inPlace 3)=true:=by kernel_rfl
def VJ:(Rows.viewDoesRow.unfollowed==Tryz.pinned.checked.prog.unfollowed 3)=true:=by kernel_rfl
def VK:(Rows.viewDoesRow.recurses==Tryz.pinned.checked.prog.recurses 3)=true:=by kernel_rfl
def VL:(Rows.viewDoesRow.named==Tryz.pinned.checked.prog.varsNamed 3)=true:=by kernel_rfl
def VN:abf Tryz.pinned.checked.prog f3 Rows.viewDoesSpec Rows.viewDoesRow=true:=by kernel_rfl
def VO:abg Tryz.pinned.checked.prog f3 Rows.viewDoesSpec Rows.viewDoesRow=true:=by kernel_rfl
def VP:abh Tryz.pinned.checked.prog f3 Rows.viewDoesSpec Rows.viewDoesRow=true:=by kernel_rfl
def MB:Rows.ViewDoesSaid:=
 OpenClaim.holds_of_wide 3 f3 rfl rfl rfl rfl rfl rfl rfl ⟨rfl,rfl,rfl,rfl,rfl⟩ rfl rfl rfl rfl rfl kR func3 (afz VI VJ VK VL VN VO VP)
  (zbd kR) (by unfold Func.isWrapper;first | (rw[zac (by decide+kernel)];kernel_rfl) | (rw[zaa (by decide+kernel)];exact⟨rfl,rfl⟩))
  (λos started H enc _=>by rw[OpenClaim.pre_eq_preRow];exact Ls os started H enc (λ_ _ _=>0))
def VQ:Rows.viewDoesRow.wfByText (OpenSpec.ofChange Rows.viewDoesSpec)=true:=by kernel_rfl
def VR:Tryz.pinned.checked.prog.mainIs=some ((true,"52780feea3bc8a5da2b1b83ea939f4e1c265595fb6357e7d297701c5cc16eff8").1,(true,"52780feea3bc8a5da2b1b83ea939f4e1c265595fb6357e7d297701c5cc16eff8").2.toList):=by kernel_rfl
def VT:true=Tryz.pinned.checked.prog.looks []:=by kernel_rfl
def VU:false=Rows.viewDoesRow.goesBy Tryz.pinned.checked.prog:=by kernel_rfl
theorem viewDoes_card:Rows.ViewDoesCardSaid:=
 Claim7.holds_tied_plain_at .later [] [.data,.data,.data,.data,.sentinel,.sentinel,.pinned] true (true,"52780feea3bc8a5da2b1b83ea939f4e1c265595fb6357e7d297701c5cc16eff8") true MB (λ_ h=>by cases h) VQ (λ_ h=>by cases h) viewDoes_row_tie rfl ⟨rfl,rfl⟩ VR rfl
  (λf fn hf hfn=>by
   obtain rfl :f=3:=Option.some.inj ((show prog.funcNamed "millstream/millstreamlaw25.ViewDoes" =some 3 from kR).symm.trans hf) |>.symm;obtain rfl :fn=f3:=(Option.some.inj (func3.symm.trans hfn)).symm
   exact⟨VT,λj t ht=>by
    have jN:(f3.params.toList.all λu=> !prog.wantsStandIn u)=true:=kR;have hm:t∈f3.params.toList:=by simpa using Array.mem_of_getElem? ht
    exact(show prog.wantsStandIn t=false by simpa using zba.1 jN t hm)⟩)
  VU
end Go.Proofs.YtbkjpdboaclopaaGreatDoor
