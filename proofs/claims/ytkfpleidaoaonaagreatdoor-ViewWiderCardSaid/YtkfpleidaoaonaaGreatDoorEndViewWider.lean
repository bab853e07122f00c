/-
 Wider columns,and columns that are not used,change nothing in the view:for every argument;the card.
-/
import Derived.Test.YtkfpleidaoaonaaGreatDoorNw1
import Derived.Test.YtkfpleidaoaonaaGreatDoorNw25
import Derived.Test.YtkfpleidaoaonaaGreatDoorRows
import Derived.Test.YtkfpleidaoaonaaGreatDoorCards
import Derived.Test.YtkfpleidaoaonaaGreatDoorTie
import Derived.Deep.DeepHandedRow
import Derived.Lay
import Derived.LaidOnce
import Derived.SevenTiedAt
set_option linter.unusedVariables false
set_option linter.unusedSimpArgs false
namespace Go.Proofs.YtkfpleidaoaonaaGreatDoor
open Go Go.Mw Go.ChangeShapes Go.WideShapes Go.RowKit Go.ChangeAt Go.Proofs.Tryz
set_option maxRecDepth 100000
theorem ED (os:Os) (started:os.Started) (H:Type) (enc:Td×Value->H) (F:Stop.Interp):
    ReturnsInHanded {} checked os 10 .any ((OpenSpec.ofChange Rows.viewWiderSpec).preRow enc prog f10 Rows.viewWiderRow.domain false Rows.viewWiderRow.laid) (((OpenSpec.ofChange Rows.viewWiderSpec).at F).post enc prog f10 false true false false):=by
  refine returnsInHanded_of_row (C:=checked) (s:=OpenSpec.ofChange Rows.viewWiderSpec) alf started kR func10
    (ChangeSpec.witness_shaped (enc:=enc) (C:=checked) (os:=os) (s:=Rows.viewWiderSpec) (X:=λw _=>laidMetH prog Rows.viewWiderRow.laid w) false (World.laidAll prog os Rows.viewWiderRow.laid) #[.slice none 0 0,.agg #[.slice none 0 0,.slice none 0 0,.int .i64 0],.slice none 0 0] 8 (World.laidAll_os _ _ _)
      (World.shaped_of_ZipB kR kR) kR kR kR
      (by rw[MakeChecks.laidMetH_plain _ _ _ kR];exact laidMet_laidAll _ kR kR)) ?_
  intro W base args ds gs before hval0 hW _ _ _ hL hsh _;have VE: ∀(j:Nat) t v,f10.params[j]? =some t->args[j]? =some v->Value.okWide prog W .any base t v:=hval0;have hT:gQ W:=aeR hL hsh;have hW':=hW;obtain⟨p,q,hA0,hV,rfl,hfz,hnd⟩:=hW;have hA:DataW.TrodAll enc prog W 0 (λ_=>true) true f10.params.toList args.toList ds p:=hA0;rw[params10]at hA VE;obtain⟨v0,v1,v2,d0,d1,d2,p0,p1,p2,rfl,rfl,rfl,h0,h1,h2⟩:=trodAll_three hA;obtain⟨rfl,rfl⟩:=trodVars_none hV;obtain⟨cols,hc⟩:=abD (VE 0 _ _ rfl rfl) h0;obtain⟨p,hp,hpf⟩:=abF (VE 1 _ _ rfl rfl) h1;obtain⟨l,hl,Jw⟩:=XU (VE 2 _ _ rfl rfl) h2;refine Calls.mono (Q0 hc hp hpf hl Jw hT) λe W' he=>?_;cases e with
  | returned v=>
    obtain⟨rfl,alC⟩:=he;exact⟨_,rfl,aeO (P:=prog) ajo hW' rfl rfl underlying4 kR rfl alC (okWide_bool_mk underlying4 true)⟩
  | _=>exact he.elim
theorem Pv:(Rows.viewWiderRow.inPlace==Tryz.pinned.checked.prog.inPlace 10)=true:=by kernel_rfl
theorem Pw:(Rows.viewWiderRow.unfollowed==Tryz.pinned.checked.prog.unfollowed 10)=true:=by kernel_rfl
theorem Px:(Rows.viewWiderRow.recurses==Tryz.pinned.checked.prog.recurses 10)=true:=by kernel_rfl
theorem Py:(Rows.viewWiderRow.named==Tryz.pinned.checked.prog.varsNamed 10)=true:=by kernel_rfl
theorem Pz:XV Tryz.pinned.checked.prog f10 Rows.viewWiderSpec Rows.viewWiderRow=true:=by kernel_rfl
theorem PD:XW Tryz.pinned.checked.prog f10 Rows.viewWiderSpec Rows.viewWiderRow=true:=by kernel_rfl
theorem PE:XY Tryz.pinned.checked.prog f10 Rows.viewWiderSpec Rows.viewWiderRow=true:=by kernel_rfl
theorem Jl:Rows.ViewWiderSaid:=
 OpenClaim.holds_of_wide 10 f10 rfl rfl rfl rfl rfl rfl rfl ⟨rfl,rfl,rfl,rfl,rfl⟩ rfl rfl rfl rfl rfl kR func10 (abH Pv Pw Px Py Pz PD PE)
  (zba kR) (by unfold Func.isWrapper;first | (rw[zac (by decide+kernel)];kernel_rfl) | (rw[zab (by decide+kernel)];exact⟨rfl,rfl⟩))
  (λos started H enc _=>by rw[OpenClaim.pre_eq_preRow];exact ED os started H enc (λ_ _ _=>0))
theorem PG:Rows.viewWiderRow.wfByText (OpenSpec.ofChange Rows.viewWiderSpec)=true:=by kernel_rfl
theorem PI:Tryz.pinned.checked.prog.mainIs=some ((true,"a4f4e1d873143a65eac3f1390d82364d262e32bb347194823c2957669f2f8dfd").1,(true,"a4f4e1d873143a65eac3f1390d82364d262e32bb347194823c2957669f2f8dfd").2.toList):=by kernel_rfl
theorem PK:true=Tryz.pinned.checked.prog.looks []:=by kernel_rfl
theorem PL:false=Rows.viewWiderRow.goesBy Tryz.pinned.checked.prog:=by kernel_rfl
theorem viewWider_card:Rows.ViewWiderCardSaid:=
 Claim7.holds_tied_plain_at .later [] [.data,.data,.data,.data,.sentinel,.sentinel,.pinned] true (true,"a4f4e1d873143a65eac3f1390d82364d262e32bb347194823c2957669f2f8dfd") true Jl (λ_ h=>by cases h) PG (λ_ h=>by cases h) viewWider_row_tie rfl ⟨rfl,rfl⟩ PI rfl
  (λf fn hf hfn=>by
   obtain rfl :f=10:=Option.some.inj ((show prog.funcNamed "millstream/millstreamlaw25.ViewWider" =some 10 from kR).symm.trans hf) |>.symm;obtain rfl :fn=f10:=(Option.some.inj (func10.symm.trans hfn)).symm
   exact⟨PK,λj t ht=>by
    have jN:(f10.params.toList.all λu=> !prog.wantsStandIn u)=true:=kR;have hm:t∈f10.params.toList:=by simpa using Array.mem_of_getElem? ht
    exact(show prog.wantsStandIn t=false by simpa using zbf.1 jN t hm)⟩)
  PL
end Go.Proofs.YtkfpleidaoaonaaGreatDoor
