/-
 Without groups the view of two lists is the sum of both views:for every argument;the card.
-/
import Derived.Test.YtkfpleidaoaonaaGreatDoorNu1
import Derived.Test.YtkfpleidaoaonaaGreatDoorNuZAdds1
import Derived.Test.YtkfpleidaoaonaaGreatDoorNu27
import Derived.Test.YtkfpleidaoaonaaGreatDoorRows
import Derived.Test.YtkfpleidaoaonaaGreatDoorCards
import Derived.Test.YtkfpleidaoaonaaGreatDoorTie
import Derived.Deep.DeepHandedRow
import Derived.Lay
import Derived.LaidOnce
import Derived.SevenTiedAt
set_option linter.unusedVariables false
set_option linter.unusedSimpArgs false
namespace Go.Proofs.YtkfpleidaoaonaaGreatDoor
open Go Go.Mw Go.ChangeShapes Go.WideShapes Go.RowKit Go.ChangeAt Go.Proofs.Tryz
set_option maxRecDepth 100000
theorem MV (os:Os) (started:os.Started) (H:Type) (enc:Td×Value->H) (F:Stop.Interp):
    ReturnsInHanded {} checked os 9 .any ((OpenSpec.ofChange Rows.viewAddsSpec).preRow enc prog f9 Rows.viewAddsRow.domain false Rows.viewAddsRow.laid) (((OpenSpec.ofChange Rows.viewAddsSpec).at F).post enc prog f9 false true false false):=by
  refine returnsInHanded_of_row (C:=checked) (s:=OpenSpec.ofChange Rows.viewAddsSpec) Tw started kR func9
    (ChangeSpec.witness_shaped (enc:=enc) (C:=checked) (os:=os) (s:=Rows.viewAddsSpec) (X:=λw _=>laidMetH prog Rows.viewAddsRow.laid w) false (World.laidAll prog os Rows.viewAddsRow.laid) #[.slice none 0 0,.agg #[.slice none 0 0,.slice none 0 0,.int .i64 0],.agg #[.slice none 0 0,.slice none 0 0]] 8 (World.laidAll_os _ _ _)
      (World.shaped_of_ZipB kR kR) kR kR kR
      (by rw[MakeChecks.laidMetH_plain _ _ _ kR];exact laidMet_laidAll _ kR kR)) ?_
  intro W base args ds gs before hval0 hW _ _ _ hL Q7 _;have p9: ∀(j:Nat) t v,f9.params[j]? =some t->args[j]? =some v->Value.okWide prog W .any base t v:=hval0;have hT:fA W:=AU hL Q7;have hW':=hW;obtain⟨p,q,Zk,hV,rfl,hfz,hnd⟩:=hW;have hA:DataW.TrodAll enc prog W 0 (λ_=>true) true f9.params.toList args.toList ds p:=Zk;rw[params9]at hA p9;obtain⟨v0,v1,v2,d0,d1,d2,p0,p1,p2,rfl,rfl,rfl,h0,h1,h2⟩:=trodAll_three hA;obtain⟨rfl,rfl⟩:=trodVars_none hV;obtain⟨cols,hc⟩:=ru (p9 0 _ _ rfl rfl) h0;obtain⟨p,hp,Kj⟩:=rz (p9 1 _ _ rfl rfl) h1;obtain⟨va,vb,la,lb,rfl,⟨ha,hb⟩,haf,hbf⟩:=PI (p9 2 _ _ rfl rfl) h2;refine Calls.mono (YV hc hp Kj ha hb haf hbf hT) λe W' he=>?_;cases e with
  | returned v=>
    obtain⟨rfl,Ef⟩:=he;exact⟨_,rfl,AQ (P:=prog) K8 hW' rfl rfl underlying4 kR rfl Ef (okWide_bool_mk underlying4 true)⟩
  | _=>exact he.elim
theorem Wua:(Rows.viewAddsRow.inPlace==Tryz.pinned.checked.prog.inPlace 9)=true:=by kernel_rfl
theorem Wub:(Rows.viewAddsRow.unfollowed==Tryz.pinned.checked.prog.unfollowed 9)=true:=by kernel_rfl
theorem Wuc:(Rows.viewAddsRow.recurses==Tryz.pinned.checked.prog.recurses 9)=true:=by kernel_rfl
theorem Wud:(Rows.viewAddsRow.named==Tryz.pinned.checked.prog.varsNamed 9)=true:=by kernel_rfl
theorem Wu:DJ Tryz.pinned.checked.prog 9 f9 Rows.viewAddsSpec Rows.viewAddsRow=true:=by
 unfold DJ;rw[Wua,Wub,Wuc,Wud];kernel_rfl
theorem Wv:DK Tryz.pinned.checked.prog f9 Rows.viewAddsSpec Rows.viewAddsRow=true:=by kernel_rfl
theorem Ww:DL Tryz.pinned.checked.prog f9 Rows.viewAddsSpec Rows.viewAddsRow=true:=by kernel_rfl
theorem NC:Rows.ViewAddsSaid:=
 OpenClaim.holds_of_wide 9 f9 rfl rfl rfl rfl rfl rfl rfl ⟨rfl,rfl,rfl,rfl,rfl⟩ rfl rfl rfl rfl rfl kR func9 (xU Wu Wv Ww)
  (zba kR) (by unfold Func.isWrapper;first | (rw[zac (by decide+kernel)];kernel_rfl) | (rw[zab (by decide+kernel)];exact⟨rfl,rfl⟩))
  (λos started H enc _=>by rw[OpenClaim.pre_eq_preRow];exact MV os started H enc (λ_ _ _=>0))
theorem viewAdds_c1:Rows.viewAddsRow.wfByText (OpenSpec.ofChange Rows.viewAddsSpec)=true:=by kernel_rfl
theorem viewAdds_c2:Tryz.pinned.checked.prog.mainIs=some (true,"a4f4e1d873143a65eac3f1390d82364d262e32bb347194823c2957669f2f8dfd".toList):=by kernel_rfl
theorem viewAdds_c3:true=Tryz.pinned.checked.prog.looks []:=by kernel_rfl
theorem viewAdds_c4:false=Rows.viewAddsRow.goesBy Tryz.pinned.checked.prog:=by kernel_rfl
theorem viewAdds_card:Rows.ViewAddsCardSaid:=
 Claim7.holds_tied_plain_at .later [] [.data,.data,.data,.data,.sentinel,.sentinel,.pinned] true (true,"a4f4e1d873143a65eac3f1390d82364d262e32bb347194823c2957669f2f8dfd") true NC (λ_ h=>by cases h) viewAdds_c1 (λ_ h=>by cases h) viewAdds_row_tie rfl ⟨rfl,rfl⟩ viewAdds_c2 rfl
  (λf fn hf Zl=>by
   obtain rfl :f=9:=Option.some.inj ((show prog.funcNamed "millstream/millstreamlaw25.ViewAdds" =some 9 from kR).symm.trans hf) |>.symm;obtain rfl :fn=f9:=(Option.some.inj (func9.symm.trans Zl)).symm
   exact⟨viewAdds_c3,λj t ht=>by
    have lQ:(f9.params.toList.all λu=> !prog.wantsStandIn u)=true:=kR;have hm:t∈f9.params.toList:=by simpa using zdt ht
    exact(show prog.wantsStandIn t=false by simpa using zaz.1 lQ t hm)⟩)
  viewAdds_c4
end Go.Proofs.YtkfpleidaoaonaaGreatDoor
