/-
 Direct answers as the chapter says:for every argument;the card.
-/
import Derived.Test.YtjcgliljofbopaaGreatDoorNv29
import Derived.Test.YtjcgliljofbopaaGreatDoorCards
import Derived.Test.YtjcgliljofbopaaGreatDoorTie
set_option linter.all false
namespace Go.Proofs.YtjcgliljofbopaaGreatDoor
open Go Go.Proofs.Mw Go.ChangeShapes Go.WideShapes Go.RowKit Go.ChangeAt Go.Proofs.Tryz
set_option maxRecDepth 100000
def D9 (os:Os) (started:os.Started) (H:Type) (enc:Td×Value->H) (F:Stop.Interp):
    ReturnsInHanded {} checked os 3 .any ((OpenSpec.ofChange Rows.viewDirectsSpec).preRow enc prog f3 Rows.viewDirectsRow.domain false Rows.viewDirectsRow.laid) (((OpenSpec.ofChange Rows.viewDirectsSpec).at F).post enc prog f3 false true false false):=by
  refine returnsInHanded_of_row (C:=checked) (s:=OpenSpec.ofChange Rows.viewDirectsSpec) anM started kR func3
    (ChangeSpec.witness_shaped (enc:=enc) (C:=checked) (os:=os) (s:=Rows.viewDirectsSpec) (X:=λw _=>laidMetH prog Rows.viewDirectsRow.laid w) false (World.laidAll prog os Rows.viewDirectsRow.laid) #[.slice none 0 0,.agg #[.slice none 0 0,.slice none 0 0,.int .i64 0],.slice none 0 0] 8 (World.laidAll_os _ _ _)
      (World.shaped_of_ZipB kR kR) kR kR kR
      (by rw[MakeChecks.laidMetH_plain _ _ _ kR];exact laidMet_laidAll _ kR kR)) ?_
  intro W base args ds gs before hval0 hW _ _ _ hL UG _;have X7: ∀(j:Nat) t v,f3.params[j]? =some t->args[j]? =some v->Value.okWide prog W .any base t v:=hval0;have hT:iB W:=afJ hL UG;have hW':=hW;obtain⟨p,q,hA0,hV,rfl,KF,hnd⟩:=hW;have hA:DataW.TrodAll enc prog W 0 (λ_=>true) true f3.params.toList args.toList ds p:=hA0;rw[params3]at hA X7;obtain⟨v0,v1,v2,d0,d1,d2,p0,p1,p2,rfl,rfl,rfl,h0,h1,h2⟩:=trodAll_three hA;obtain⟨rfl,rfl⟩:=trodVars_none hV;obtain⟨cols,hc⟩:=acV (X7 0 _ _ rfl rfl) h0;obtain⟨p,hp,RG⟩:=adI (X7 1 _ _ rfl rfl) h1;obtain⟨l,hl,Dl⟩:=aac (X7 2 _ _ rfl rfl) h2;refine Calls.mono (NM hc hp RG hl Dl hT) λe W' he=>?_;cases e with
  | returned v=>
    obtain⟨rfl,aoo⟩:=he;exact⟨_,rfl,ahy (P:=prog) alE hW' rfl rfl underlying4 kR rfl aoo (okWide_bool_mk underlying4 true)⟩
  | _=>exact he.elim
def LB:(Rows.viewDirectsRow.inPlace==Tryz.pinned.checked.prog.inPlace 3)=true:=by kernel_rfl
def LC:(Rows.viewDirectsRow.unfollowed==Tryz.pinned.checked.prog.unfollowed 3)=true:=by kernel_rfl
def LD:(Rows.viewDirectsRow.recurses==Tryz.pinned.checked.prog.recurses 3)=true:=by kernel_rfl
def LG:(Rows.viewDirectsRow.named==Tryz.pinned.checked.prog.varsNamed 3)=true:=by kernel_rfl
def LH:aaq Tryz.pinned.checked.prog f3 Rows.viewDirectsSpec Rows.viewDirectsRow=true:=by kernel_rfl
def LJ:aar Tryz.pinned.checked.prog f3 Rows.viewDirectsSpec Rows.viewDirectsRow=true:=by kernel_rfl
def LK:aas Tryz.pinned.checked.prog f3 Rows.viewDirectsSpec Rows.viewDirectsRow=true:=by kernel_rfl
def EO:Rows.ViewDirectsSaid:=
 OpenClaim.holds_of_wide 3 f3 rfl rfl rfl rfl rfl rfl rfl ⟨rfl,rfl,rfl,rfl,rfl⟩ rfl rfl rfl rfl rfl kR func3 (aeG LB LC LD LG LH LJ LK)
  (zbd kR) (by unfold Func.isWrapper;first | (rw[zac (by decide+kernel)];kernel_rfl) | (rw[zab (by decide+kernel)];exact⟨rfl,rfl⟩))
  (λos started H enc _=>by rw[OpenClaim.pre_eq_preRow];exact D9 os started H enc (λ_ _ _=>0))
def LP:Rows.viewDirectsRow.wfByText (OpenSpec.ofChange Rows.viewDirectsSpec)=true:=by kernel_rfl
def LQ:Tryz.pinned.checked.prog.mainIs=some ((true,"95139a18581ac53840fad28d0999505c1e547928950cd90450e09999d955a387").1,(true,"95139a18581ac53840fad28d0999505c1e547928950cd90450e09999d955a387").2.toList):=by kernel_rfl
def LU:true=Tryz.pinned.checked.prog.looks []:=by kernel_rfl
def LW:false=Rows.viewDirectsRow.goesBy Tryz.pinned.checked.prog:=by kernel_rfl
theorem viewDirects_card:Rows.ViewDirectsCardSaid:=
 Claim7.holds_tied_plain_at .later [] [.data,.data,.data,.data,.sentinel,.sentinel,.pinned] true (true,"95139a18581ac53840fad28d0999505c1e547928950cd90450e09999d955a387") true EO (λ_ h=>by cases h) LP (λ_ h=>by cases h) viewDirects_row_tie rfl ⟨rfl,rfl⟩ LQ rfl
  (λf fn hf hfn=>by
   obtain rfl :f=3:=Option.some.inj ((show prog.funcNamed "millstream/millstreamlaw25.ViewDirects" =some 3 from kR).symm.trans hf) |>.symm;obtain rfl :fn=f3:=(Option.some.inj (func3.symm.trans hfn)).symm
   exact⟨LU,λj t ht=>by
    have jE:(f3.params.toList.all λu=> !prog.wantsStandIn u)=true:=kR;have hm:t∈f3.params.toList:=by simpa using Array.mem_of_getElem? ht
    exact(show prog.wantsStandIn t=false by simpa using zaz.1 jE t hm)⟩)
  LW
end Go.Proofs.YtjcgliljofbopaaGreatDoor
