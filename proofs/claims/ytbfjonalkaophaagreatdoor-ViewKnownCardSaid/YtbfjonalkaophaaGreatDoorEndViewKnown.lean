/-
 Known views:for every argument;the card.
-/
import Derived.Test.YtbfjonalkaophaaGreatDoorNk32
import Derived.Test.YtbfjonalkaophaaGreatDoorCards
import Derived.Test.YtbfjonalkaophaaGreatDoorTie
set_option linter.all false
namespace Go.Proofs.YtbfjonalkaophaaGreatDoor
open Go Go.Proofs.Mw Go.ChangeShapes Go.WideShapes Go.RowKit Go.ChangeAt Go.Proofs.Tryz
set_option maxRecDepth 100000
def Gr (os:Os) (started:os.Started) (H:Type) (enc:Td×Value->H) (F:Stop.Interp):
    ReturnsInHanded {} checked os 3 .any ((OpenSpec.ofChange Rows.viewKnownSpec).preRow enc prog f3 Rows.viewKnownRow.domain false Rows.viewKnownRow.laid) (((OpenSpec.ofChange Rows.viewKnownSpec).at F).post enc prog f3 false true false false):=by
  refine returnsInHanded_of_row (C:=checked) (s:=OpenSpec.ofChange Rows.viewKnownSpec) ak0 started kR func3
    (ChangeSpec.witness_shaped (enc:=enc) (C:=checked) (os:=os) (s:=Rows.viewKnownSpec) (X:=λw _=>laidMetH prog Rows.viewKnownRow.laid w) false (World.laidAll prog os Rows.viewKnownRow.laid) #[] 8 (World.laidAll_os _ _ _)
      (World.shaped_of_ZipB kR kR) kR kR kR
      (by rw[MakeChecks.laidMetH_plain _ _ _ kR];exact laidMet_laidAll _ kR kR)) ?_
  intro W base args ds u before k f _ _ _ i c _;have S: ∀(j:Nat) t v,f3.params[j]? =some t->args[j]? =some v->Value.okWide prog W .any base t v:=k;have l:gK W:=aeF i c;have b:=f;obtain⟨p,q,a,m,rfl,n,o⟩:=f;have d:DataW.TrodAll enc prog W 0 (λ_=>true) true f3.params.toList args.toList ds p:=a;rw[params3]at d S;obtain⟨rfl,rfl,rfl⟩:=trodAll_none d;obtain⟨rfl,rfl⟩:=trodVars_none m;refine Calls.mono (TW l) λe r g=>?_;cases e with
  | returned v=>
    obtain⟨rfl,h⟩:=g;exact⟨_,rfl,agI (P:=prog) ajn b rfl rfl underlying4 kR rfl h (okWide_bool_mk underlying4 true)⟩
  | _=>exact g.elim
def Rj:(Rows.viewKnownRow.inPlace==Tryz.pinned.checked.prog.inPlace 3)=true:=by kernel_rfl
def Rl:(Rows.viewKnownRow.unfollowed==Tryz.pinned.checked.prog.unfollowed 3)=true:=by kernel_rfl
def Rm:(Rows.viewKnownRow.recurses==Tryz.pinned.checked.prog.recurses 3)=true:=by kernel_rfl
def Rn:(Rows.viewKnownRow.named==Tryz.pinned.checked.prog.varsNamed 3)=true:=by kernel_rfl
def Ro:ZT Tryz.pinned.checked.prog f3 Rows.viewKnownSpec Rows.viewKnownRow=true:=by kernel_rfl
def Rp:ZU Tryz.pinned.checked.prog f3 Rows.viewKnownSpec Rows.viewKnownRow=true:=by kernel_rfl
def Rq:ZW Tryz.pinned.checked.prog f3 Rows.viewKnownSpec Rows.viewKnownRow=true:=by kernel_rfl
def KN:Rows.ViewKnownSaid:=
 OpenClaim.holds_of_wide 3 f3 rfl rfl rfl rfl rfl rfl rfl ⟨rfl,rfl,rfl,rfl,rfl⟩ rfl rfl rfl rfl rfl kR func3 (adI Rj Rl Rm Rn Ro Rp Rq)
  (zbe kR) (by unfold Func.isWrapper;first | (rw[zac (by decide+kernel)];kernel_rfl) | (rw[zab (by decide+kernel)];exact⟨rfl,rfl⟩))
  (λo started H e _=>by rw[OpenClaim.pre_eq_preRow];exact Gr o started H e (λ_ _ _=>0))
def Rt:Rows.viewKnownRow.wfByText (OpenSpec.ofChange Rows.viewKnownSpec)=true:=by kernel_rfl
def Ru:Tryz.pinned.checked.prog.mainIs=some ((true,"935a40698ab8ce4cd131720b28cef56d01c15ad45b94f3ffcf08d5ba3d84f244").1,(true,"935a40698ab8ce4cd131720b28cef56d01c15ad45b94f3ffcf08d5ba3d84f244").2.toList):=by kernel_rfl
def Rv:true=Tryz.pinned.checked.prog.looks []:=by kernel_rfl
def Rw:false=Rows.viewKnownRow.goesBy Tryz.pinned.checked.prog:=by kernel_rfl
theorem viewKnown_card:Rows.ViewKnownCardSaid:=
 Claim7.holds_tied_plain_at .later [] [.data,.data,.data,.data,.sentinel,.sentinel,.pinned] true (true,"935a40698ab8ce4cd131720b28cef56d01c15ad45b94f3ffcf08d5ba3d84f244") true KN (λ_ h=>by cases h) Rt (λ_ h=>by cases h) viewKnown_row_tie rfl ⟨rfl,rfl⟩ Ru rfl
  (λf S a w=>by
   obtain rfl :f=3:=Option.some.inj ((show prog.funcNamed "millstream/millstreamlaw25.ViewKnown" =some 3 from kR).symm.trans a) |>.symm;obtain rfl :S=f3:=(Option.some.inj (func3.symm.trans w)).symm
   exact⟨Rv,λj t c=>by
    have k:(f3.params.toList.all λu=> !prog.wantsStandIn u)=true:=kR;have b:t∈f3.params.toList:=by simpa using Array.mem_of_getElem? c
    exact(show prog.wantsStandIn t=false by simpa using zaz.1 k t b)⟩)
  Rw
end Go.Proofs.YtbfjonalkaophaaGreatDoor
