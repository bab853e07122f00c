/-
 What makes a row of a view:called;walked.
-/
import Derived.Test.YtkfpleidaoaonaaGreatDoorNu1
import Derived.Test.YtkfpleidaoaonaaGreatDoorNu3
import Derived.Test.YtkfpleidaoaonaaGreatDoorNu23
import Derived.Test.YtkfpleidaoaonaaGreatDoorNu22
import Derived.Test.YtkfpleidaoaonaaGreatDoorNu19
import Derived.Test.YtkfpleidaoaonaaGreatDoorNu9
import Derived.Test.YtkfpleidaoaonaaGreatDoorNu18
import Derived.Test.YtkfpleidaoaonaaGreatDoorNu12
set_option linter.unusedVariables false
set_option linter.unusedSimpArgs false
namespace Go.Proofs.YtkfpleidaoaonaaGreatDoor
open Go Go.Mw Go.Lib Tryz
set_option maxRecDepth 4000
attribute [local irreducible] FW FL FG FGn gu gy dh gH Qfn Gives
section
variable {w:Wd}
theorem acD {b1 bs b:Nat} {cs:LV} {E1 E E2:Td} {cv sv vr:Value} {cols:List bL} {l:List bJ} {r:List aI} (h1:jo w b1 [aA b] E1) (hb:jo w b (cv::cs) E) (hs:jo w bs [sv] E2) (hc:aM w cv aR 7 cols) (hl:aM w sv aD 3 l) (hr:aM w vr aj 3 r) (hf:jX r) (hx:bK l) (hT:fA w):
    aN prog 89 [vr,aA b1,aA bs] w λu w'=>u=.tuple #[agg (aj (oL cols l r).1),I (oL cols l r).2]/\Kept noB w w':=by
  have H:=Sep.aL w;refine VL func89 rfl rfl rfl rfl ?_;refine Sr (aW H (h:=λb4 w2 H2 k1=>?_));refine Zb1 ?_;refine Ds (λCv w6 H6=>?_);refine G0 (Gt rfl (Gives.xZ rfl (h1.keep H6.kept) rfl) ?_);refine Zb2 ?_;refine GS (Gt rfl (Gives.xZ rfl (hb.keep H6.kept) rfl) ?_);refine GS (Gt rfl (Gives.xZ rfl (hs.keep H6.kept) rfl) ?_);refine Zb1 ?_;refine iZ Cv 6 _ H6 (ah7 (hc.keep H6.kept) (hl.keep H6.kept) (hr.keep H6.kept) hf hx (hT.keep H6.kept).utf) (h:=λwa Ha ka=>⟨sT,?_⟩);refine Zb2 ?_;refine eH Cv 9 _ Ha (us:=aj (oL cols l r).1) (h:=λwb Hb=>⟨sT,?_⟩);refine Za1 ?_;refine dP Cv kR ?_;refine aU (fu (aX (h:=?_)));exact⟨_,jh Hb,rfl,Hb.kept⟩
theorem ag8 (vr:Value):aN prog 91 [vr] w λu w'=>u=.tuple #[agg (aj ⟨false,1,[]⟩),I 0]/\Kept noB w w':=by
 have H:=Sep.aL w;refine sI func91 rfl rfl rfl rfl ?_;refine Sr (aW H (h:=λb2 w2 H2 k1=>?_));refine Zb1 ?_;refine Vb (aj ⟨false,1,[]⟩) ?_;refine au H2 (h:=λw6 H6=>?_);refine Am ?_;refine Qn (fu (aX (h:=?_)));exact⟨_,jh H6,rfl,H6.kept⟩
theorem Tk {b1 b:Nat} {cs:LV} {E1 E:Td} {cv vr pf:Value} {cols:List bL} {l:List bJ} {r:List aI} (Kj:oU w b1 pf l) (h1:jo w b1 [aA b] E1) (hb:jo w b (cv::cs) E) (hc:aM w cv aR 7 cols) (hr:aM w vr aj 3 r) (hf:jX r) (hx:bK l) (hT:fA w):
    ∃(f:FuncId) (us:LV),pf=.func (.func f) #[] us.toArray/\bC prog f/\aN prog f ([]++[vr]++us) w λu w'=>u=.tuple #[agg (aj (FE cols l r).1),I (FE cols l r).2]/\Kept noB w w':=by
  unfold oU at Kj;unfold FE
  by_cases e:l=[]
  . rw[zac e]at Kj |-
    subst Kj;exact⟨_,[],rfl,inferInstance,ag8 vr⟩
  rw[zab e]at Kj ⊢;obtain⟨bs,sv,rfl,hs,hsv⟩:=Kj;exact⟨_,[aA b1,aA bs],rfl,inferInstance,acD h1 hb hs hc hsv hr hf hx hT⟩
theorem aaQ {cols:List bL} {r:List aI} {l:List jL} {o:jL} (h:(iw cols r l).2=0):iw cols r (l++[o])=if(oL cols o.steps r).2≠0 then([],(oL cols o.steps r).2)else((iw cols r l).1++[(oL cols o.steps r).1],0):=by
 induction l with
 | nil=>
  show(if(oL cols o.steps r).2≠0 then([],(oL cols o.steps r).2)else if(0:Int)≠0 then([],0)else([(oL cols o.steps r).1],0))=_
  split
  .rfl
  rfl
 | cons x l ih=>
  rw[iw]at h;rw[zcc,iw,iw]
  split at h
  .rename_i h1;exact zat h h1
  rename_i h1;rw[zab h1,zab h1]
  split at h
  .rename_i h2;exact zat h h2
  rename_i h2;rw[zab h2,ih (Decidable.of_not_not h2)]
  split
  .rename_i h3;first | rfl | rw[zac h3]
  rename_i h3;rw[zab (λh=>h rfl)];rfl
theorem aes {cols:List bL} {r:List aI} {l m:List jL} (h:(iw cols r l).2≠0):iw cols r (l++m)=([],(iw cols r l).2):=by
 induction l with
 | nil=>exact zat rfl h
 | cons x l ih=>
  rw[iw]at h;rw[zcc,iw,iw]
  split at h
  .rename_i h1;rw[zac h1,zac h1]
  rename_i h1;rw[zab h1,zab h1]
  split at h
  .rename_i h2
   rw[zac h2,ih h2,zac h2]
  exact zat rfl h
theorem ag9 {b b1 bp b4:Nat} {cs:LV} {E:Td} {cv vr pf gv:Value} {gl:LV} {cols:List bL} {p:aZ} {r:List aI} {T1 T2 T3:Td} (h1:jo w b1 [aA b] T1) (hbp:jo w bp [pf] T2) (Kj:oU w b1 pf p.wh) (hb4:jo w b4 [gv] T3) (hgv:aM w gv KW 1 gl) (V9:qX w b1 gl p.cols)
    (hb:jo w b (cv::cs) E) (hc:aM w cv aR 7 cols) (hr:aM w vr aj 3 r) (hf:jX r) (MU:bK p.wh) (Jh: ∀o∈p.cols,bK o.steps) (hn:p.cols.length<=100) (hT:fA w):
    aN prog 92 [vr,aA b1,aA bp,aA b4] w λu w'=>∃x:Value,u=.tuple #[x,.bool (jm cols p r).2.1,I (jm cols p r).2.2]/\True/\Turn noB (bW 52 3 aj x (jm cols p r).1) w w':=by
  have H:=Sep.aL w;obtain⟨G,cG,rfl,⟨hcG,avc⟩,hG⟩:=hgv;have avd:=V9.1;obtain⟨fp,us,rfl,G7,_⟩:=Tk Kj h1 hb hc hr hf MU hT;refine CV func92 rfl rfl rfl rfl ?_;refine Zb3 ?_;refine ig (h1.keep H.kept) (h:=?_);refine Zb2 ?_;refine ig (hb.keep H.kept) (h:=?_);refine Mv ?_;refine aF H (J2 (hc.keep H.kept) (hr.keep H.kept) hf (hT.keep H.kept).utf) (h:=λwa Ha k9=>?_);refine Za3 ?_;refine Qn (Cp rfl (λIa=>?_) (λIa=>?_))
  . have ay:jm cols p r=([],false,gD cols r):=by unfold jm;rw[zac Ia]
    refine Zb4 ?_;exact⟨.slice none 0 0,by rw[ay];rfl,trivial,by rw[ay];exact(Sep.lZ Ha 52 3 aj).turn⟩
  have hrc:=Ia;refine Zb0 ?_;refine ig (hbp.keep Ha.kept) (h:=?_);refine Mv ?_;obtain⟨fp2,us2,he2,asy,uz⟩:=Tk (b:=b) (cols:=cols) (oU.keep Kj Ha.kept) (h1.keep Ha.kept) (hb.keep Ha.kept) (hc.keep Ha.kept) (hr.keep Ha.kept) hf MU (hT.keep Ha.kept);refine fB (he:=asy) (fs:=[]) (cs:=us2) (vals:=[vr]) he2 uz rfl rfl (λv' wb hv=>?_);obtain⟨rfl,eB⟩:=hv;have Hb:=Ha.keep eB;obtain⟨pc,rY⟩: ∃pc,pc=FE cols p.wh r:=⟨_,rfl⟩;rw[<-rY];refine Zb3 ?_;refine aW Hb (h:=λb9 wc Hc ka=>?_);refine au Hc (h:=λwd Hd=>?_);refine Zb4 ?_;refine aC (t:=31) rfl (λSa=>?_) (λSa=>?_)
  . refine Zb7 ?_
    have ay:jm cols p r=([],false,pc.2):=by
      unfold jm;rw[zab hrc,<-rY,zac];exact .inl (by assumption)
    exact⟨.slice none 0 0,by rw[ay];rfl,trivial,by rw[ay];exact(Sep.lZ Hd 52 3 aj).first.turn⟩
  refine Zb4 ?_;refine iN (t:=35) rfl (λSb=>?_) (λSb=>?_)
  . refine Zb5 ?_
    have ay:jm cols p r=([],false,pc.2):=by
      unfold jm;rw[zab hrc,<-rY,zac];exact .inr (.inl (by assumption))
    exact⟨.slice none 0 0,by rw[ay];rfl,trivial,by rw[ay];exact(Sep.lZ Hd 52 3 aj).first.turn⟩
  refine Za4 ?_;refine Qn (Cp rfl (λIb=>?_) (λIb=>?_))
  . refine Zb4 ?_
    have ay:jm cols p r=([],false,pc.2):=by
      unfold jm;rw[zab hrc,<-rY,zac];exact .inr (.inr (by assumption))
    exact⟨.slice none 0 0,by rw[ay];rfl,trivial,by rw[ay];exact(Sep.lZ Hd 52 3 aj).first.turn⟩
  refine Zb0 ?_;have alA: ¬(pc.2≠0\/pc.1.null=true\/pc.1.n=0):=by simp_all
  refine ig (hb4.keep Hd.kept) (h:=?_);refine Zb2 ?_;refine aP (λx:(OA×Nat)×Nat=>[(0,vr),(5,.slice x.1.1 (iw cols r (p.cols.take x.2)).1.length x.1.2),(6,.bool false),(7,I pc.2),(41,.slice G gl.length cG),(42,I gl.length),(43,I x.2)]) (λx w'=>(x.2<=gl.length/\(iw cols r (p.cols.take x.2)).2=0/\(iw cols r (p.cols.take x.2)).1.length<=x.2)/\Mw.Sep w noB [bW 52 3 aj (.slice x.1.1 (iw cols r (p.cols.take x.2)).1.length x.1.2) (iw cols r (p.cols.take x.2)).1] w') (λx _=>gl.length-x.2) ((none,0),0) tR ⟨⟨zak _,rfl,zbf _⟩,(Sep.lZ Hd 52 3 aj).first⟩ (λx τ we hI=>?_);obtain⟨⟨X,cX⟩,i⟩:=x;obtain⟨⟨hi,Qj,V8⟩,He⟩:=hI;dsimp only at hi Qj V8 He
  try simp only[dA,like,bB,bY]
  refine Za1 ?_;refine Qn (fC (Cp rfl (λIc=>?_) (λIc=>?_)))
  . have bX:i<gl.length:=oM
    obtain⟨g,hg⟩:=get_some bX;obtain⟨o,ho⟩:=get_some (l:=p.cols) (show i<p.cols.length from oM);obtain⟨bs,sv,rfl,hbs,hsv⟩:=V9.2 i g o hg ho;have tF:p.cols.take (i+1)=p.cols.take i++[o]:=by rw[zav,ho,zdd]
    have hcs:=aaQ (o:=o) Qj;rw[<-tF]at hcs;obtain⟨ev,hev⟩: ∃ev,ev=oL cols o.steps r:=⟨_,rfl⟩;rw[<-hev]at hcs;refine Zb0 ?_;refine Vv (Gives.mK rfl rfl hG bX) (Vv (Gives.iJ (f:=0) rfl (Sep.aL _) (hG.keep He.kept) hg rfl) ?_);refine Zb3 ?_;refine fB (fs:=[]) (cs:=[aA b1,aA bs]) (vals:=[vr]) rfl (acD (b:=b) (cols:=cols) (l:=o.steps) (h1.keep He.kept) (hb.keep He.kept) (hbs.keep He.kept) (hc.keep He.kept) (hsv.keep He.kept) (hr.keep He.kept) hf (Jh o (zao ho)) (hT.keep He.kept)) rfl rfl (λv' wf hv=>?_);obtain⟨rfl,eB⟩:=hv;have Hf:=He.keep eB;rw[<-hev];refine Zb3 ?_;refine aW Hf (h:=λb12 wg Hg kb=>?_);refine au Hg (h:=λwi Hh=>?_);refine Za3 ?_;refine Qn (Cp rfl (λId=>?_) (λId=>?_))
    . rw[zac Id]at hcs
      have Ul:(iw cols r (p.cols.take (i+1))).2≠0:=by rw[hcs];exact Id
      have aiZ:=aes (m:=p.cols.drop (i+1)) Ul;rw[zbx,hcs]at aiZ
      have ay:jm cols p r=([],false,ev.2):=by
        unfold jm;rw[zab hrc,<-rY,zab alA,aiZ,zac Id]
      refine Zb4 ?_;exact⟨.slice none 0 0,by rw[ay];rfl,trivial,by rw[ay];exact(Sep.lZ Hh 52 3 aj).first.turn⟩
    rw[zab Id]at hcs;refine Zb1 ?_;refine iA Hh (cs:=aj ev.1) (h:=?_);refine Bs Hh ([ev.1].flatMap aj) (λbq wj Hi kc=>?_);refine gP Hi (news:=[ev.1]) At1 (by unfold maxLen;simp only[zan];omega) (by simp only[zan];omega) (cells_one (λ_=>rfl) _) (h:=?_);intro v59 wk Hj;rw[show(iw cols r (p.cols.take i)).1++[ev.1]=(iw cols r (p.cols.take (i+1))).1 by rw[hcs]]at Hj;obtain⟨X2,cX2,rfl,_,_⟩:=Sep.eO Hj At1;refine Zb1 ?_;refine Vc ((i+1:Nat):Int) ?_;refine Zb1 ?_;exact ak ((X2,cX2),i+1) tR ⟨⟨dO,by dsimp only;rw[hcs],by dsimp only;rw[hcs];dsimp only;rw[zad,zan];omega⟩,Hj.eF⟩ dO
  have qp:p.cols.take i=p.cols:=zaf oM;rw[qp]at Qj He
  have ay:jm cols p r=((iw cols r p.cols).1,true,0):=by
    unfold jm;rw[zab hrc,<-rY,zab alA,zab (λh=>h Qj)]
  refine Zb4 ?_;exact⟨_,by rw[ay];rfl,trivial,by rw[ay,qp];exact He.turn⟩
end
theorem aaR {cols:List bL} {p:aZ} {l:List aH} {x:aH} (h:(cB cols p l).2=0):
    cB cols p (l++[x])=if(jm cols p x.row).2.2≠0 then([],(jm cols p x.row).2.2)else((cB cols p l).1++(if(jm cols p x.row).2.1=true then [⟨(jm cols p x.row).1,x.w⟩]else []),0):=by
  induction l with
  | nil=>
    show(if(jm cols p x.row).2.2≠0 then([],(jm cols p x.row).2.2)else if(0:Int)≠0 then([],0)else if(jm cols p x.row).2.1=true then([⟨(jm cols p x.row).1,x.w⟩],0)else(([]:List aH),0))=_
    split
    . rfl
    rw[zab dC]
    split<;>rfl
  | cons y l ih=>
    rw[cB]at h;rw[zcc,cB,cB]
    split at h
    . rename_i h1;exact zat h h1
    rename_i h1;rw[zab h1,zab h1]
    split at h
    . rename_i h2;exact zat h h2
    rename_i h2;rw[zab h2,ih (Decidable.of_not_not h2)]
    split
    . rename_i h3;first | rfl | rw[zac h3]
    rename_i h3;rw[zab (λh=>h rfl)]
    split<;>split<;>rfl
theorem aaS {cols:List bL} {p:aZ} {l m:List aH} (h:(cB cols p l).2≠0):cB cols p (l++m)=([],(cB cols p l).2):=by
 induction l with
 | nil=>exact zat rfl h
 | cons y l ih=>
  rw[cB]at h;rw[zcc,cB,cB]
  split at h
  .rename_i h1;rw[zac h1,zac h1]
  rename_i h1;rw[zab h1,zab h1]
  split at h
  .rename_i h2
   rw[zac h2,ih h2,zac h2]
  split at h<;>exact zat rfl h
structure mg (p:aZ) (T:List aH):Prop where
 tell:(dK p.group p.cols.length T).2=0
 items: ∀o∈T,OT p.cols.length o
 few:T.length<=100
theorem ajS {n:Nat} {o:aH} (h:OT n o):iM o.row:=λc hc=>by
 have:=h.2.2 c hc;unfold GA fits at this;exact⟨this.1,oM⟩
theorem Yh (b:Nat):yG prog 104 (aA b) "millstream/view.put" 388 (aA b):=λw=>kR
theorem Yi (b:Nat):yG prog 110 (aA b) "millstream/view.put" 392 (aA b):=λw=>kR
theorem VD (b:Nat):yG prog 104 (aA b) "millstream/view.rows" 389 (aA b):=λw=>kR
theorem VE (b:Nat):yG prog 110 (aA b) "millstream/view.rows" 393 (aA b):=λw=>kR
section
variable {w:Wd} {F:NP}
theorem OV {w0:Wd} {S:NP} {rs:List HP} {kv:Value} {p:aZ} {T:List aH} (H:Mw.Sep w0 S (vk kv p T::rs) w): ∃t b,kv=.iface t (aA b):=by
 unfold vk at H
 split at H
 .obtain⟨x,H1⟩:=Sep.ex0 H
  obtain⟨h,_⟩:=Sep.tJ H1.dG;exact⟨_,_,h⟩
 obtain⟨x,H1⟩:=Sep.ex0 H;obtain⟨h,_⟩:=Sep.tJ H1.dG;exact⟨_,_,h⟩
theorem ajT {kv v:Value} {p:aZ} {T m:List aH} (hp:(vk kv p T).ok F w) (hm:BP w F v m) (hT: ∀w1,Kept F w w1->fA w1) (Un:1<=p.cols.length/\p.cols.length<=16/\ -1<=p.group/\p.group<=p.cols.length) (hv:mg p T) (hmo: ∀o∈m,OT p.cols.length o) (yV:m.length<=100):
    ∃(t:Td) (b:Nat) (f:FuncId),kv=.iface t (aA b)/\yG prog t (aA b) "millstream/view.put" f (aA b)/\bC prog f/\aN prog f [aA b,v] w λu w'=>∃x:Value×List Held,u=.tuple #[x.1,I (jd p.group p.cols.length T m).2]/\x.2.map (·.2)=(jd p.group p.cols.length T m).1/\Turn F (star (dR x.1 x.2) (vk kv p (if(jd p.group p.cols.length T m).2=0 then T++m else T))) w w':=by
  have H:=Sep.dZ hp;unfold vk at H
  by_cases hg:p.group<0
  . rw[zac hg]at H
    obtain⟨⟨b,tv⟩,H1⟩:=Sep.ex0 H;obtain⟨rfl,H2⟩:=Sep.tJ H1.dG;have hnT:(dY T).2=0:=by have:=hv.tell;unfold dK at this;rw[zac hg]at this;exact this
    have Fb:=ag6 (n:=p.cols.length) (m:=m) hg hnT;obtain⟨F0,uI,iK,aQ⟩:=H2.focus At0;have CP: ∀w1,Kept F0 w w1->Kept F w w1:=λw1 h1=>Mw.Kept.into (Kept.refl _ _) iK h1;refine⟨_,b,_,rfl,Yh b,inferInstance,aN.mono (XD uI (λw1 h1=>hm.is w1 (CP w1 h1)) ?_ oM ?_ (λo ho=>(hmo o ho).1) ?_ (λo ho=>by rw[(hmo o ho).2.1];omega)) λu w' hu=>?_⟩
    . exact zcp (JB T) (by have:=hv.few;omega)
    . exact λo ho=>by have h:=zba ((qE (l:=T)).2.2 o ho);unfold fits;omega
    . exact λo ho=>by obtain⟨q,hq,e⟩:=KO ho;rw[<-e,(hv.items q hq).2.1];omega
    obtain⟨⟨x,kv2⟩,rfl,hx,hk,F1,hq,hs⟩:=hu;rw[Fb]at hx hq ⊢;dsimp only at hx hq ⊢;exact⟨x,rfl,hx,((zQ hg ((aQ _ F1 _ hk hq hs).dG.aJ.dG)).aJ.bI).turn⟩
  rw[zab hg]at H;obtain⟨⟨b,bg,bh⟩,H1⟩:=Sep.ex0 H;obtain⟨rfl,H2⟩:=Sep.tJ H1.dG;obtain⟨F0,uI,iK,aQ⟩:=H2.focus At0;have CP: ∀w1,Kept F0 w w1->Kept F w w1:=λw1 h1=>Mw.Kept.into (Kept.refl _ _) iK h1;have hmg:=agB (m:=m) hg hv.tell;have Fz:yX (p.cols.length-p.group.toNat) (T.map (fE p.group.toNat))=true:=((lK hg).1 hv.tell).2;have hm0:BP w F0 v m:=by obtain⟨r,hr⟩:=hm;exact⟨r,λw1 h1=>hr w1 (CP w1 h1)⟩
  refine⟨_,b,_,rfl,Yi b,inferInstance,aN.mono (QS uI hm0 (λw1 h1=>hT w1 (CP w1 h1)) oM oM (λo ho=>⟨(hmo o ho).1,by rw[(hmo o ho).2.1];omega,ajS (hmo o ho)⟩) yV Fz) λu w' hu=>?_⟩;obtain⟨x,rfl,hx,hk,F1,hq,hs⟩:=hu;rw[hmg];refine⟨x,rfl,hx,((zR (b:=b) (bg:=bg) (bh:=bh) hg (T:=if(Ak p.group.toNat (p.cols.length-p.group.toNat) (T.map (fE p.group.toNat)) (m.map (fE p.group.toNat))).2=0 then T++m else T) ?_).aJ.bI).turn⟩;have h1:=(aQ _ F1 _ hk hq hs).dG.aJ.dG
  have e:(if(Ak p.group.toNat (p.cols.length-p.group.toNat) (T.map (fE p.group.toNat)) (m.map (fE p.group.toNat))).2=0 then T++m else T).map (fE p.group.toNat)=if(Ak p.group.toNat (p.cols.length-p.group.toNat) (T.map (fE p.group.toNat)) (m.map (fE p.group.toNat))).2=0 then T.map (fE p.group.toNat)++m.map (fE p.group.toNat)else T.map (fE p.group.toNat):=by
    split
    . rw[zam]
    rfl
  rw[e];exact h1
theorem aha {kv:Value} {p:aZ} {T:List aH} (hp:(vk kv p T).ok F w) (Un:1<=p.cols.length/\p.cols.length<=16/\ -1<=p.group/\p.group<=p.cols.length) (hv:mg p T):
    ∃(t:Td) (b:Nat) (f:FuncId),kv=.iface t (aA b)/\yG prog t (aA b) "millstream/view.rows" f (aA b)/\bC prog f/\aN prog f [aA b] w λu w'=>∃x:Value×List Held,u=x.1/\x.2.map (·.2)=(dK p.group p.cols.length T).1/\Turn F (star (dR x.1 x.2) (vk kv p T)) w w':=by
  have H:=Sep.dZ hp;unfold vk at H
  by_cases hg:p.group<0
  . rw[zac hg]at H
    obtain⟨⟨b,tv⟩,H1⟩:=Sep.ex0 H;obtain⟨rfl,H2⟩:=Sep.tJ H1.dG;have e:dK p.group p.cols.length T=dY T:=by unfold dK;rw[zac hg]
    obtain⟨F0,uI,iK,aQ⟩:=H2.focus At0;refine⟨_,b,_,rfl,VD b,inferInstance,aN.mono (Vw uI ?_ ?_) λu w' hu=>?_⟩
    . exact zcp (JB T) (by have:=hv.few;omega)
    . exact λo ho=>by obtain⟨q,hq,e⟩:=KO ho;rw[<-e,(hv.items q hq).2.1];omega
    obtain⟨x,rfl,hx,hk,F1,hq,hs⟩:=hu;rw[e];exact⟨x,rfl,hx,((zQ hg ((aQ _ F1 _ hk hq hs).dG.aJ.dG)).aJ.bI).turn⟩
  rw[zab hg]at H;obtain⟨⟨b,bg,bh⟩,H1⟩:=Sep.ex0 H;obtain⟨rfl,H2⟩:=Sep.tJ H1.dG;obtain⟨F0,uI,iK,aQ⟩:=H2.focus At0;refine⟨_,b,_,rfl,VE b,inferInstance,aN.mono (OQ uI (by rw[zae];have:=hv.few;omega) (nM ((lK hg).1 hv.tell).1) oM) λu w' hu=>?_⟩;obtain⟨x,rfl,hx,hk,F1,hq,hs⟩:=hu;rw[jS hg hv.tell];exact⟨x,rfl,hx,((zR hg ((aQ _ F1 _ hk hq hs).dG.aJ.dG)).aJ.bI).turn⟩
theorem Dv {b:Nat} {cols:List bL} {p:aZ} {T:List aH} (hp:(jq b cols p T).ok F w) (fq:(bQ cols p).2=0) (hv:mg p T):
    aN prog 27 [aA b] w λu w'=>∃x:Value×List Held,u=x.1/\x.2.map (·.2)=(dK p.group p.cols.length T).1/\Turn F (star (dR x.1 x.2) (jq b cols p T)) w w':=by
  obtain⟨z,kv,fv,o1,H⟩:=OU (Sep.dZ hp);obtain⟨t0,b0,rfl⟩:=OV H.aJ;refine eP func27 rfl rfl rfl rfl ?_;refine Zb2 ?_;refine aF H (OJ (H.obj At0) (.inr ⟨rfl,t0,_,rfl⟩)) (h:=λw4 H4 k3=>?_);refine Qn ?_
  first | refine Cp rfl (λQh=>?_) (λQh=>?_) | refine Cd rfl (λQh=>?_) (λQh=>?_)
  . exact Bool.noConfusion Qh
  refine Zb2 ?_
  first | refine Vv (Gives.ou rfl) rfl ?_ | refine dU (Gives.field rfl) rfl ?_ | refine dU (Gives.DN rfl) rfl ?_ | refine dU (Gives.p8 rfl (by assumption) oM) ?_
  refine ig (H4.obj At0) (h:=?_);obtain⟨F0,uI,iK,aQ⟩:=H4.focus At1;obtain⟨t,bk,f,hkv,nY,G7,uz⟩:=aha uI (qG fq) hv;refine Yf (he:=G7) (vals:=[]) hkv nY uz rfl rfl (λv' wa Kh=>?_);obtain⟨x,rfl,hx,jH,F1,jA,jO⟩:=Kh;have Ha:=aQ _ F1 _ jH jA jO;refine Zb1 ?_;exact⟨x,rfl,hx,((AL (Ha.aJ.dG.bN.bF.bN)).aJ.bI).turn⟩
theorem xO {b:Nat} {cols:List bL} {p:aZ} {T l:List aH} {v:Value} (hp:(jq b cols p T).ok F w) (hl:BP w F v l) (hT: ∀w1,Kept F w w1->fA w1) (fq:(bQ cols p).2=0) (MU:bK p.wh) (Jh: ∀o∈p.cols,bK o.steps) (hv:mg p T) (zI: ∀x∈l,bR x) (Uk:l.length<=100):
    aN prog 24 [aA b,v] w λu w'=>∃x:Value×List Held,u=.tuple #[x.1,I (dB cols p T l).2]/\x.2.map (·.2)=(dB cols p T l).1/\Turn F (star (dR x.1 x.2) (jq b cols p (dw cols p T l))) w w':=by
  obtain⟨z,kv,fv,o1,H⟩:=OU (Sep.dZ hp);obtain⟨t0,b0,asA⟩:=OV H.aJ;have Un:=qG fq;obtain⟨r,hrr⟩:=hl;obtain⟨⟨A,c,rfl,⟨hc,hc'⟩,_⟩,ZC⟩:=hrr w (Kept.refl _ _);have xk:=ZC.len;refine dS func24 rfl rfl rfl rfl ?_;refine Zb3 ?_;refine aF H (OJ (H.obj At0) (.inr ⟨rfl,t0,_,asA⟩)) (h:=λw5 H5 k4=>?_);refine Qn ?_
  first | refine Cp rfl (λLB=>?_) (λLB=>?_) | refine Cd rfl (λLB=>?_) (λLB=>?_)
  . exact Bool.noConfusion LB
  refine Zb2 ?_
  first | refine Vv (Gives.ou rfl) rfl ?_ | refine dU (Gives.field rfl) rfl ?_ | refine dU (Gives.DN rfl) rfl ?_ | refine dU (Gives.p8 rfl (by assumption) oM) ?_
  refine Mv ?_;refine Vv (Gives.makeFunc (us:=[aA b]) (vs:=[]) rfl rfl) ?_;obtain⟨F0,uI,iK,aQ⟩:=((H5.aJ).bF.bF.bI).focus At0;refine aS (ame uI oM) rfl rfl (λv' wa Kh=>?_);obtain⟨gv,jH,F1,jA,jO⟩:=Kh;have Ha:=(aQ _ F1 _ jH jA jO).dG;obtain⟨b1,bp,b4,rfl,_⟩:=(Sep.sees Ha At1).2;have Ha:=Sep.tN (Y:=λw=>nQ w z cols p (bQ cols p).1/\VB w b b1 bp b4 p) Ha At1 (λw h=>⟨h.1,aem h.2⟩);refine Zb4 ?_;refine aP (λx:(OA×Nat)×List Held×Nat=>[(0,aA b),(6,.slice x.1.1 (eU x.2.1).length x.1.2),(20,.slice A r.length c),(21,I r.length),(22,I x.2.2)]) (λx w'=>(x.2.2<=r.length/\(cB cols p (l.take x.2.2)).2=0/\x.2.1.map (·.2)=(cB cols p (l.take x.2.2)).1)/\Mw.Sep w F [bW 82 2 av (.slice x.1.1 (eU x.2.1).length x.1.2) (eU x.2.1),Mc x.2.1,blk b (vg z p.group kv 1 0 0 (Mi b1 bp b4)) 75,(iC λw=>nQ w z cols p (bQ cols p).1/\VB w b b1 bp b4 p),vk kv p T] w') (λx _=>r.length-x.2.2) ((none,0),[],0) tR ⟨⟨zak _,rfl,rfl⟩,Sep.ny (fK Ha) 82 2⟩ (λx τ wb hI=>?_);obtain⟨⟨X,cX⟩,LM,i⟩:=x;obtain⟨⟨hi,hi0,hLM⟩,Hb⟩:=hI;dsimp only at hi hi0 hLM Hb
  have avi:LM.length<=i:=by
    have h1:=zaw List.length hLM;rw[zae]at h1;have h2:=uP (cols:=cols) (p:=p) (l.take i);rw[zag]at h2;omega
  have hLr:(eU LM).length=LM.length:=zae _
  try simp only[dA,like,bB,bY]
  refine Za1 ?_;refine Qn (fC ?_)
  first | refine Cp rfl (λIa=>?_) (λIa=>?_) | refine Cd rfl (λIa=>?_) (λIa=>?_)
  . have bX:i<r.length:=oM
    obtain⟨o,ho⟩:=get_some (l:=l) (show i<l.length from oM);have ZP:=zI o (zao ho);obtain⟨vo,Qp,Jg⟩:=ZC.get ho
    have akQ: ∀w1,Kept F w w1->aM w1 vo aj 3 o.row:=λw1 h1=>by
      obtain⟨vo2,Wn,am0⟩:=(hrr w1 h1).2.get ho;rw[Qp]at Wn;injection Wn with Wn
      injection Wn with e1 e2
      rw[e1];exact am0
    obtain⟨V,cv,rfl,_,_⟩:=Jg;have tF:l.take (i+1)=l.take i++[o]:=by rw[zav,ho,zdd]
    have Qt:=aaR (x:=o) hi0;rw[<-tF]at Qt;obtain⟨md,hmd⟩: ∃md,md=jm cols p o.row:=⟨_,rfl⟩;rw[<-hmd]at Qt;refine Zb0 ?_;refine Vv (Gives.mK rfl rfl (cO (hrr _ Hb.kept).1) bX) (Vv (Gives.jQ rfl (Sep.aL _) (cO (hrr _ Hb.kept).1) Qp) ?_);refine aW Hb (h:=λb8 wc Hc ka=>?_);refine au Hc (h:=λwd Hd=>?_);refine Zb0 ?_;refine Ds (λSa we He=>?_);refine Zb2 ?_
    first | refine Gp Sa 2 rfl rfl (λ_=>(Gives.ou rfl)) kR ?_ | refine FGp Sa 2 rfl rfl (λ_=>(Gives.field rfl)) kR ?_ | refine FGp Sa 2 rfl rfl (λ_=>(Gives.DN rfl)) kR ?_ | refine FGp Sa 2 rfl rfl (λ_=>(Gives.p8 rfl (by assumption) oM)) ?_
    first | refine aa6 Sa 3 He (h:=?_) | refine Gl Sa 3 rfl rfl (Gives.iJ rfl He (by assumption) (by assumption) rfl) kR ?_ | refine FGl Sa 3 rfl rfl (Gives.Lg rfl He (by assumption) (by assumption) rfl) ?_
    first | refine Gp Sa 4 rfl rfl (λ_=>(Gives.ou rfl)) kR ?_ | refine FGp Sa 4 rfl rfl (λ_=>(Gives.field rfl)) kR ?_ | refine FGp Sa 4 rfl rfl (λ_=>(Gives.DN rfl)) kR ?_ | refine FGp Sa 4 rfl rfl (λ_=>(Gives.p8 rfl (by assumption) oM)) ?_
    first | refine aa6 Sa 5 He (h:=?_) | refine Gl Sa 5 rfl rfl (Gives.iJ rfl He (by assumption) (by assumption) rfl) kR ?_ | refine FGl Sa 5 rfl rfl (Gives.Lg rfl He (by assumption) (by assumption) rfl) ?_
    obtain⟨pf,gw,gl,g1,⟨gbp,gpf⟩,⟨gb4,ggv⟩,ggl⟩:=(Sep.sees He At4).2;refine jc Sa 6 _ (y:=.tmp 30) (fs:=[]) (cs:=[aA b1,aA bp,aA b4]) (vals:=[.slice V o.row.length cv]) rfl (ag9 (cols:=cols) (p:=p) (r:=o.row) (b:=b) (E:=75) g1 gbp gpf gb4 ggv ggl (He.obj At3) (Sep.sees He At4).1.1 (akQ _ He.kept) ZP.2 MU Jh oM (hT _ He.kept)) (h:=λv' wf Kh=>?_);obtain⟨xv,rfl,_,jH,F1,jA,jO⟩:=Kh;have Hf:=He.new jH jA (λb hb=>(jO b hb).resolve_left id);rw[<-hmd]at Hf ⊢;obtain⟨XR,cR,rfl,_,_⟩:=Sep.eO Hf At0;refine⟨sT,?_⟩;refine Za9 ?_;refine Qn ?_
    first | refine Cp rfl (λIb=>?_) (λIb=>?_) | refine Cd rfl (λIb=>?_) (λIb=>?_)
    . rw[zac Ib]at Qt
      have sN:(cB cols p (l.take (i+1))).2≠0:=by rw[Qt];exact Ib
      have gQ:=aaS (m:=l.drop (i+1)) sN;rw[zbx,Qt]at gQ;have hap:dB cols p T l=([],md.2.2):=by unfold dB;rw[gQ,zac Ib]
      have Cu:dw cols p T l=T:=by unfold dw;rw[hap,zab Ib]
      refine Zb3 ?_;exact⟨(.slice none 0 0,[]),by rw[hap];rfl,by rw[hap];rfl,by
      rw[Cu];have h1:=Sep.tN (Y:=λw=>nQ w z cols p (bQ cols p).1/\(((1:Int)=0/\Mi b1 bp b4=.nilFunc)\/((1:Int)=1/\sF w b (Mi b1 bp b4) p))) Hf At5 (λw h=>⟨h.1,.inr ⟨rfl,_,_,_,rfl,h.2⟩⟩);exact(Sep.ny (fK (AL (h1.mX.mM.mM)).first) 82 2).bI.bI.turn⟩
    rw[zab Ib]at Qt;refine Za1 ?_;refine Qn ?_
    first | refine Cp rfl (λIc=>?_) (λIc=>?_) | refine Cd rfl (λIc=>?_) (λIc=>?_)
    . rw[zac Ic]at Qt
      refine Zb2 ?_
      first | refine Vv (Gives.ou rfl) rfl ?_ | refine dU (Gives.field rfl) rfl ?_ | refine dU (Gives.DN rfl) rfl ?_ | refine dU (Gives.p8 rfl (by assumption) oM) ?_
      first | refine acw Hf (h:=?_) | refine Vv (Gives.iJ rfl Hf (by assumption) (by assumption) rfl) rfl ?_ | refine dU (Gives.Lg rfl Hf (by assumption) (by assumption) rfl) ?_
      refine Vb (av (.slice XR md.1.length cR,o.w)) ?_;refine Bs Hf ([(Value.slice XR md.1.length cR,o.w)].flatMap av) (λbq wg Hg kb=>?_);refine gP Hg (news:=[(Value.slice XR md.1.length cR,o.w)]) At2 (by unfold maxLen;simp only[zan];omega) (by simp only[zan];omega) (λu hu=>zaz.1 (show([(Value.slice XR md.1.length cR,o.w)].flatMap av).all Value.oneCell'=true from rfl) u hu) (h:=?_);intro v47 wi Hh;obtain⟨X2,cX2,rfl,_,_⟩:=Sep.eO Hh At2
      have hLe:eU LM++[(Value.slice XR md.1.length cR,o.w)]=eU (LM++[(Value.slice XR md.1.length cR,⟨md.1,o.w⟩)]):=by
        unfold eU;rw[zam];rfl
      refine Zb1 ?_;refine Vc ((i+1:Nat):Int) ?_;refine Zb1 ?_;have h1:=(nN (x:=.slice XR md.1.length cR) (o:=⟨md.1,o.w⟩) (Hh.aJ.eF.bF.aJ)).aJ;rw[hLe]at h1;exact ak ((X2,cX2),LM++[(.slice XR md.1.length cR,⟨md.1,o.w⟩)],i+1) ⟨rfl,by rw[<-hLe];rfl,rfl,rfl,rfl,trivial⟩ ⟨⟨dO,by dsimp only;rw[Qt],by dsimp only;rw[Qt,zam,hLM];rfl⟩,h1⟩ dO
    rw[zab (by rw[Ic];decide),zci]at Qt;refine Zb0 ?_;refine Vc ((i+1:Nat):Int) ?_;refine Zb1 ?_;exact ak ((X,cX),LM,i+1) tR ⟨⟨dO,by dsimp only;rw[Qt],by dsimp only;rw[Qt];exact hLM⟩,Hf.eF.eF⟩ dO
  have qp:l.take i=l:=zaf oM;rw[qp]at hi0 hLM;have hap:dB cols p T l=jd p.group p.cols.length T (cB cols p l).1:=by unfold dB;rw[zab (λh=>h hi0)]
  refine Zb2 ?_
  first | refine Vv (Gives.ou rfl) rfl ?_ | refine dU (Gives.field rfl) rfl ?_ | refine dU (Gives.DN rfl) rfl ?_ | refine dU (Gives.p8 rfl (by assumption) oM) ?_
  refine ig (Hb.obj At2) (h:=?_);refine Mv ?_;have hmo: ∀o∈(cB cols p l).1,OT p.cols.length o:=ED Jh zI;have yV:(cB cols p l).1.length<=100:=zcp (uP l) Uk;have Hi:=Hb.bI;obtain⟨F0,uI,iK,Uq,aQ⟩:=Sep.BM Hi At2;have CP: ∀w1,Kept F0 _ w1->Kept F w w1:=λw1 h1=>Mw.Kept.into Hi.kept iK h1
  obtain⟨t,bk,f,hkv,nY,G7,uz⟩:=ajT (v:=.slice X (eU LM).length cX) (m:=(cB cols p l).1) uI ⟨eU LM,λw1 h1=>by
    obtain⟨Fq,F1,F2,_,_,g1,g2⟩:=Uq w1 h1;refine⟨iE g1,?_⟩;have:=qF g2;rw[hLM]at this;exact this⟩ (λw1 h1=>hT w1 (CP w1 h1)) Un hv hmo yV
  refine Yf (he:=G7) (vals:=[.slice X (eU LM).length cX]) hkv nY uz rfl rfl (λv' wj Kh=>?_);obtain⟨x,rfl,hx,jH,F1,jA,jO⟩:=Kh;have Hi:=aQ _ F1 _ jH jA jO;rw[<-hap]at hx Hi ⊢;refine Zb4 ?_;have h1:=Sep.tN (Y:=λw=>nQ w z cols p (bQ cols p).1/\(((1:Int)=0/\Mi b1 bp b4=.nilFunc)\/((1:Int)=1/\sF w b (Mi b1 bp b4) p))) Hi At2 (λw h=>⟨h.1,.inr ⟨rfl,_,_,_,rfl,h.2⟩⟩);exact⟨x,rfl,hx,((AL (h1.eF.bF.dG.bN.bF.bN)).aJ.bI).turn⟩
end
theorem holds_nil (p:aZ):mg p []:=⟨by rw[Dg],λo ho=>zat ho zaj,zak _⟩
theorem oV {cols:List bL} {p:aZ} {T l:List aH} (hv:mg p T) (Jh: ∀o∈p.cols,bK o.steps) (zI: ∀x∈l,bR x) (hn:T.length+l.length<=100):mg p (dw cols p T l):=by
 refine⟨Dn hv.tell,λo ho=>?_,?_⟩
 .unfold dw at ho
  split at ho
  .rcases zbh.1 ho with ho | ho
   .exact hv.items o ho
   exact ED Jh zI o ho
  exact hv.items o ho
 unfold dw
 split
 .rw[zad]
  have:=uP (cols:=cols) (p:=p) l;omega
 omega
section
variable {w:Wd}
theorem Dw {cols:List bL} {p:aZ} {vc vp:Value} (hc:aM w vc aR 7 cols) (Uo:cols.length<=1000) (hp:eG w vp p) (MU:bK p.wh) (Jh: ∀o∈p.cols,bK o.steps) (hn:p.cols.length<=100) (Ei:p.wh.length<=1000) (Je: ∀o∈p.cols,o.steps.length<=1000) (hT:fA w):
    aN Tryz.prog 19 [vc,vp] w λu w'=>∃pv:Value,u=.tuple #[pv,I (bQ cols p).2]/\Kept noB w w'/\((bQ cols p).2≠0->pv=.pointer none)/\((bQ cols p).2=0->∃b:Nat,pv=aA b/\Turn noB (jq b cols p []) w w'):=
  aN.mono (ajR hc Uo hp MU Jh hn Ei Je hT) λu w' h=>by
    by_cases e:(bQ cols p).2=0
    . obtain⟨b,rfl,ht⟩:=h.2 e
      exact⟨aA b,by rw[e],ht.1,λh=>zat e h,λ_=>⟨b,rfl,ht⟩⟩
    obtain⟨rfl,hk⟩:=h.1 e;exact⟨.pointer none,rfl,hk,λ_=>rfl,λh=>zat h e⟩
theorem oW {cols:List bL} {p:aZ} {l:List aH} {vc vp v:Value} (hc:aM w vc aR 7 cols) (Uo:cols.length<=1000) (hp:eG w vp p) (hl:cZ w v l) (MU:bK p.wh) (Jh: ∀o∈p.cols,bK o.steps) (hn:p.cols.length<=100) (Ei:p.wh.length<=1000) (Je: ∀o∈p.cols,o.steps.length<=1000) (zI: ∀x∈l,bR x) (Uk:l.length<=100) (hT:fA w):
    aN Tryz.prog 13 [vc,vp,v] w λu w'=>∃x:Value×List Held,u=.tuple #[x.1,I (dX cols p l).2]/\x.2.map (·.2)=(dX cols p l).1/\Turn noB (dR x.1 x.2) w w':=by
  have fZ:=hp;obtain⟨vw,vq,rfl,hw,r,hr,gW⟩:=hp;obtain⟨W,cw,rfl,_,_⟩:=id hw;obtain⟨A,m,rfl,_,_⟩:=id hr;obtain⟨q,hq,hqr⟩:=hl;have H:=Sep.aL w;refine tH Tryz.func13 rfl rfl rfl rfl ?_;refine Sr (dz H (cs:=[.slice W p.wh.length cw,.slice A r.length m,I p.group]) rfl (h:=λb4 w2 H2 k1=>?_));refine Zb3 ?_;refine iA H2 (cs:=[.slice W p.wh.length cw,.slice A r.length m,I p.group]) (h:=?_);refine aS (Dw (hc.keep H2.kept) Uo (fZ.keep H2.kept) MU Jh hn Ei Je (hT.keep H2.kept)) rfl rfl (λv' w8 hv=>?_);obtain⟨pv,rfl,eB,_,hb⟩:=hv
  have asB:(bQ cols p).2=0->∃b:Nat,pv=aA b/\Mw.Sep w noB (jq b cols p []::_) w8:=λh=>by
    obtain⟨b,rfl,jH,F1,jA,jO⟩:=hb h;exact⟨b,rfl,H2.new jH jA (λb hb=>(jO b hb).resolve_left id)⟩
  have H8:=H2.keep eB;refine Za7 ?_;refine Qn (Cp rfl (λIa=>?_) (λIa=>?_))
  . have Ib:=Ia
    have hd:dX cols p l=([],(bQ cols p).2):=by unfold dX;rw[zac Ib]
    refine Zb3 ?_;exact⟨(.slice none 0 0,[]),by rw[hd];rfl,by rw[hd];rfl,(Sep.ny (fK H8) 82 2).bI.first.turn⟩
  have fq:(bQ cols p).2=0:=Decidable.of_not_not Ia;obtain⟨b,rfl,Ha⟩:=asB fq;refine Zb2 ?_;obtain⟨F0,uI,iK,aQ⟩:=Ha.focus At0;have CP: ∀w1,Kept F0 _ w1->Kept noB w w1:=λw1 h1=>Mw.Kept.into Ha.kept iK h1;refine aS (xO uI ⟨q,λw1 h1=>⟨hq.keep (CP w1 h1),hqr.keep (CP w1 h1)⟩⟩ (λw1 h1=>hT.keep (CP w1 h1)) fq MU Jh (holds_nil p) zI Uk) rfl rfl (λv' wa hv=>?_);obtain⟨x,rfl,hx,jH,F1,jA,jO⟩:=hv;have Hb:=aQ _ F1 _ jH jA jO;refine Za7 ?_;refine Qn (Cp rfl (λIc=>?_) (λIc=>?_))
  . have Id:=Ic
    have hd:dX cols p l=([],(dB cols p [] l).2):=by unfold dX;rw[zab (λh=>h fq),zac Id]
    refine Zb3 ?_;exact⟨(.slice none 0 0,[]),by rw[hd];rfl,by rw[hd];rfl,(Sep.ny (fK Hb) 82 2).bI.first.turn⟩
  have ha0:(dB cols p [] l).2=0:=Decidable.of_not_not Ic;have hd:dX cols p l=((dK p.group p.cols.length (dw cols p [] l)).1,0):=by unfold dX;rw[zab (λh=>h fq),zab (λh=>h ha0)]
  refine Zb1 ?_;have Hc:=Hb.dG;obtain⟨F2,am3,hS2,aiY⟩:=Hc.focus At1;refine aS (Dv am3 fq (oV (holds_nil p) Jh zI (by simpa using Uk))) rfl rfl (λv' wb hv=>?_);obtain⟨y,rfl,hy,hk2,F3,tC,Qv⟩:=hv;have Hc:=aiY _ F3 _ hk2 tC Qv;refine Zb2 ?_;exact⟨y,by rw[hd];rfl,by rw[hd];exact hy,Hc.aJ.dG.first.turn⟩
end
section
variable {w:Wd}
end
section
variable {w:Wd}
end
theorem ahb {sums:Nat} {E:List dH}: ∀x∈lI sums E,x.w=1:=λx hx=>by
 unfold lI at hx;obtain⟨k,_,rfl⟩:=zaq.1 hx;rfl
theorem ahc {keys sums:Nat} {E:List dH} (h: ∀x∈E,x.key.length=keys): ∀x∈lI sums E,x.row.length=keys+(sums+1):=λx hx=>by
 unfold lI at hx;obtain⟨k,hk,rfl⟩:=zaq.1 hx;obtain⟨y,hy,rfl⟩:=sP.1 (zbw.1 hk).1;unfold Na;dsimp only;rw[zad,zae,zdu,h y hy]
theorem Tm: ∀E:List dH,(uZ E).length<=E.length
 | []=>zbf _
 | x::E=>by
  have h1:=Tm E;have h2:=Ov x.key (uZ E);rw[uZ,zal];omega
theorem ahd {sums:Nat} {E:List dH}:(lI sums E).length<=E.length:=by
 unfold lI;rw[zae];exact zcp (zdw _ _) (Tm E)
structure aqt where
 cv:Value
 wv:Value
 pv:Value
 ov:Value
 iv:Value
 rI:List (Value×Int)
section
variable {w w0:Wd} {S:NP} {rs:List HP} {b:Nat} {cols:List bL} {p:aZ} {J:List aH}
end
section
variable {w:Wd}
end
section
variable {w:Wd}
end
/-! The plans. -/


set_option maxRecDepth 8000
/-! The chapter's examples. -/
section
variable {w:Wd}
end
def mQ (s:L8):L8×L8:=(Bu s).getD (s,[])
theorem yH {s:L8} (h:Bu s=none):mQ s=(s,[]):=by unfold mQ;rw[h];rfl
theorem BR {s a b:L8} (h:Bu s=some (a,b)):mQ s=(a,b):=by unfold mQ;rw[h];rfl
def Dx:L8:=[119,104,101,114,101]
def QV:L8:=[111,117,116]
def Dy:L8:=[103,114,111,117,112]
def pX (t:L8):Option (List bJ):=if(fQ t).2=0/\(fQ t).1≠[]then some (fQ t).1 else none
def aaT (s:L8):Option jL:=if(mQ s).1=QV/\jE (mQ (mQ s).2).1=true then(pX (mQ (mQ s).2).2).map λl=>⟨(mQ (mQ s).2).1,l⟩else none
def tT (t:L8):Option Int:=if t=oJ then some (-1)else(sj t).map λn:Nat=>((n:Nat):Int)
def mR (p:aZ) (st:Int) (s:L8):Option (aZ×Int):=
 if st=0 then(if(mQ s).1=Dx then(if(mQ s).2=oJ then some (p,1)else(pX (mQ s).2).map λl=>(⟨l,p.cols,p.group⟩,1))else none)
 else if st=2/\(mQ s).1=Dy then(tT (mQ s).2).map λg=>(⟨p.wh,p.cols,g⟩,3)
 else if st=1\/st=2 then(aaT s).map λo=>(⟨p.wh,p.cols++[o],p.group⟩,2)
 else none
def goG (p:aZ) (st:Int):List (L8)->Option (aZ×Int)×Nat
 | []=>(some (p,st),0)
 | x::l=>match mR p st x with
  | none=>(none,0)
  | some (p',st')=>((goG p' st' l).1,(goG p' st' l).2+1)
def yI (l:List (L8)):Option (aZ×Int):=l.foldl (λo x=>o.bind λr=>mR r.1 r.2 x) (some (oI,0))
theorem OW (l:List (L8)) (x:L8):yI (l++[x])=(yI l).bind λr=>mR r.1 r.2 x:=by
 unfold yI;rw[List.foldl_append];rfl
theorem KY: ∀(l m:List (L8)) (p:aZ) (st:Int) (q:aZ) (t:Int),goG p st l=(some (q,t),l.length)->goG p st (l++m)=((goG q t m).1,(goG q t m).2+l.length)
 | [],m,p,st,q,t,h=>by
  unfold goG at h;injection h with h _
  injection h with h
  injection h with h1 h2
  subst h1;subst h2;rfl
 | x::l,m,p,st,q,t,h=>by
  rw[zcc];rw[goG]at h ⊢;cases hl:mR p st x with
  | none=>rw[hl]at h;injection h with h;cases h
  | some r=>
   obtain⟨p',st'⟩:=r;rw[hl]at h;dsimp only at h ⊢;injection h with h1 h2
   rw[zal]at h2;rw[KY l m p' st' q t (Prod.ext h1 dO),zal];exact Prod.ext rfl dO
theorem acE {α:Type} {l:List α} (h:l≠[]): ∃m x,l=m++[x]:=⟨l.dropLast,l.getLast h,(List.dropLast_concat_getLast h).symm⟩
theorem run_go: ∀(l:List (L8)) {q:aZ} {t:Int},yI l=some (q,t)->goG oI 0 l=(some (q,t),l.length):=by
 intro l
 have key: ∀n (l:List (L8)),l.length=n->∀{q:aZ} {t:Int},yI l=some (q,t)->goG oI 0 l=(some (q,t),l.length):=by
  intro n
  induction n with
  | zero=>
   intro l hl q t h;have:=zbi hl;subst this;injection h with h
   injection h with h1 h2
   subst h1;subst h2;rfl
  | succ n ih=>
   intro l hl q t h;obtain⟨m,x,rfl⟩: ∃m x,l=m++[x]:=acE (by intro e;rw[e]at hl;cases hl);rw[OW]at h;obtain⟨⟨p',t'⟩,h1,h2⟩:=zdx.1 h;rw[KY m [x] oI 0 p' t' (ih m (by rw[zad,zan]at hl;omega) h1)];dsimp only at h2;unfold goG;rw[h2];dsimp only;unfold goG;rw[zad,zan];exact Prod.ext rfl dO
 exact λ{q t} h=>key l.length l rfl h
/-! The words of a line. -/
theorem ahe {s a b:L8} (h:Bu s=some (a,b)):s=a++[32]++b:=by
 unfold Bu at h;obtain⟨i,hi,h⟩:=zbb.1 h;injection h with h1 h2
 subst h1;subst h2;rw[List.idxOf?,zdc]at hi;obtain⟨bX,h32,_⟩:=hi;have e:s[i]=32:=by simpa using h32
 conv=>lhs;rw[<-zbx i s,zbq bX,e]
 simp
theorem ahf {s:L8} (h:Bu s=none): ∀c∈s,c≠32:=by
 unfold Bu at h;rw[zfh,List.idxOf?,zed]at h;intro c hc e;have:=h c hc;rw[e]at this;simp at this
theorem KZ {w s:L8} (hw: ∀c∈w,c≠32):yg (w++[32]) s=(Bu s).bind λx=>if x.1=w then some x.2 else none:=by
 cases hc:Bu s with
 | none=>
  cases ha:yg (w++[32]) s with
  | none=>rfl
  | some t=>
   have:=XM ha;exact zat rfl (ahf hc 32 (by rw[this];simp))
 | some x=>
  obtain⟨a,b⟩:=x;show _=if a=w then some b else none
  by_cases e:a=w
  .rw[zac e,ahe hc,e,Bz]
  rw[zab e];cases ha:yg (w++[32]) s with
  | none=>rfl
  | some t=>
   have h1:=XM ha;rw[h1,XO hw]at hc;injection hc with hc
   injection hc with hc _
   exact zat hc.symm e
theorem aeu:fQ []=([],0):=by rw[<-Ru];decide+kernel
theorem EG:pX []=none:=by unfold pX;rw[aeu];simp
theorem OX:([]:L8)≠oJ:=by unfold oJ;simp
theorem aaU {p:aZ} {s:L8} (h:p.wh=[]):mR p 0 s=(Ky s).map λl=>(⟨l,p.cols,p.group⟩,1):=by
 have e:UO=Dx++[32]:=rfl;unfold mR Ky;rw[zac rfl,e,KZ dC];cases hc:Bu s with
 | none=>
  rw[yH hc];show(if s=Dx then(if([]:L8)=oJ then _ else _)else none)=_
  rw[zab OX,EG]
  split<;>rfl
 | some x=>
  obtain⟨a,b⟩:=x;rw[BR hc];dsimp only;show(if a=Dx then(if b=oJ then _ else _)else none)=Option.map _ (((if a=Dx then some b else none)).bind _)
  by_cases e1:a=Dx
  .rw[zac e1,zac e1]
   show _=Option.map _ (if b=[]then none else if b=oJ then some []else if(fQ b).2=0 then some (fQ b).1 else none)
   by_cases e2:b=[]
   .rw[zac e2,e2,zab OX,EG,Option.map_none]
   rw[zab e2]
   by_cases e3:b=oJ
   .rw[zac e3,zac e3]
    show some (p,(1:Int))=some (⟨[],p.cols,p.group⟩,1)
    rw[<-h]
   rw[zab e3,zab e3];unfold pX
   by_cases e4:(fQ b).2=0
   .rw[zac e4,zac ⟨e4,aaw e4 e2⟩]
   rw[zab e4,zab λh=>e4 h.1,Option.map_none]
  rw[zab e1,zab e1];rfl
theorem VF (s:L8):aaT s=Ob s:=by
 have e:aai=QV++[32]:=rfl;unfold aaT Ob;rw[e,KZ dC];cases hc:Bu s with
 | none=>
  rw[yH hc];dsimp only;rw[yH (s:=[]) rfl];dsimp only;rw[EG];show(if s=QV/\jE []=true then none else none)=none
  split<;>rfl
 | some x=>
  obtain⟨a,b⟩:=x;rw[BR hc];dsimp only;show _=((if a=QV then some b else none)).bind _
  by_cases e1:a=QV
  .rw[zac e1]
   show _=(Bu b).bind _
   cases hb:Bu b with
   | none=>
    rw[yH hb];dsimp only;rw[EG];show(if a=QV/\jE b=true then none else none)=none
    split<;>rfl
   | some y=>
    obtain⟨n,t⟩:=y;rw[BR hb];show(if a=QV/\jE n=true then Option.map _ (pX t)else none)=if(fQ t).2=0/\(fQ t).1≠[]/\jE n=true then some (⟨n,(fQ t).1⟩:jL)else none
    unfold pX
    by_cases e2:jE n=true
    .rw[zac ⟨e1,e2⟩]
     by_cases e3:(fQ t).2=0/\(fQ t).1≠[]
     .rw[zac e3,zac ⟨e3.1,e3.2,e2⟩];rfl
     rw[zab e3,zab λh=>e3 ⟨h.1,h.2.1⟩];rfl
    rw[zab λh=>e2 h.2,zab λh=>e2 h.2.2]
  rw[zab λh=>e1 h.1,zab e1];rfl
theorem aev:tT []=none:=by
 unfold tT sj;rw[zab OX];have :decDigits 0≠([]:L8):=tY 0;show Option.map _ (if decDigits 0=[]/\_ then _ else none)=none
 rw[zab λh=>this h.1];rfl
theorem aew (s:L8):(if(mQ s).1=Dy then tT (mQ s).2 else none)=zN s:=by
 have e:N9=Dy++[32]:=rfl;unfold zN;rw[e,KZ dC];cases hc:Bu s with
 | none=>
  rw[yH hc];dsimp only;rw[aev];show(if s=Dy then none else none)=none
  split<;>rfl
 | some x=>
  obtain⟨a,b⟩:=x;rw[BR hc];show(if a=Dy then tT b else none)=((if a=Dy then some b else none)).bind _
  by_cases e1:a=Dy
  .rw[zac e1,zac e1];rfl
  rw[zab e1,zab e1];rfl
theorem ahg {p:aZ} {st:Int} {s:L8} {o:jL} (gQ:st=1\/st=2) (h:Ob s=some o):mR p st s=some (⟨p.wh,p.cols++[o],p.group⟩,2):=by
 have h':=h;rw[<-VF]at h
 have hw:(mQ s).1=QV:=by
  unfold aaT at h
  split at h
  .rename_i e;exact e.1
  cases h
 unfold mR;rw[zab oM,zab (λh1=>zat (hw.symm.trans h1.2) dC),zac gQ,h];rfl
theorem aaV {p:aZ} {s:L8} (h:Ob s=none):mR p 1 s=none:=by
 unfold mR;rw[zab dC,zab (λh=>zat h.1 dC),zac (.inl rfl),VF,h];rfl
theorem aex {p:aZ} {s:L8} (h:Ob s=none):mR p 2 s=(zN s).map λg=>(⟨p.wh,p.cols,g⟩,3):=by
 unfold mR;rw[zab dC,<-aew]
 by_cases e:(mQ s).1=Dy
 .rw[zac ⟨rfl,e⟩,zac e]
 rw[zab λh=>e h.2,zac (.inr rfl),VF,h,zab e];rfl
theorem aey {p:aZ} {s:L8}:mR p 3 s=none:=by
 unfold mR;rw[zab dC,zab (λh=>zat h.1 dC),zab dC]
theorem acF: ∀(l:List (L8)) (p:aZ) (st:Int),st=1\/st=2->goG p st l=
    if l.length<=(nH l).length then(some (⟨p.wh,p.cols++nH l,p.group⟩,if(nH l).length=0 then st else 2),(nH l).length)
    else if st=1/\(nH l).length=0 then(none,0)
    else match zN (l.getD (nH l).length [])with
      | none=>(none,(nH l).length)
      | some g=>if l.length=(nH l).length+1 then(some (⟨p.wh,p.cols++nH l,g⟩,3),(nH l).length+1)else(none,(nH l).length+1)
  | [],p,st,_=>by
    unfold goG nH;simp
  | x::l,p,st,gQ=>by
    cases ho:Ob x with
    | some o=>
      have hc:nH (x::l)=o::nH l:=by rw[nH,ho]
      rw[goG,ahg gQ ho,hc];dsimp only;rw[acF l _ 2 (.inr rfl)];simp only[zal,Nat.add_le_add_iff_right,zga,Nat.add_right_cancel_iff];rw[zab (show ¬((nH l).length+1=0)from oM),zab (show ¬(st=1/\(nH l).length+1=0)from oM),zab (show ¬((2:Int)=1/\(nH l).length=0)from oM)]
      split
      . simp
      cases zN (l.getD (nH l).length [])with
      | none=>rfl
      | some g=>dsimp only;split<;>simp
    | none=>
      have hc:nH (x::l)=[]:=by rw[nH,ho]
      rw[goG,hc];simp only[zal,zcq,zex];rw[zab oM]
      rcases gQ with rfl | rfl
      . rw[aaV ho,zac sM]
      rw[aex ho,zab dC];cases zN x with
      | none=>rfl
      | some g=>
        show((goG _ 3 l).1,(goG _ 3 l).2+1)=if l.length+1=0+1 then _ else _
        cases l with
        | nil=>simp[goG]
        | cons y l=>rw[goG,aey,zab sM]
theorem OY {s:L8} (hs:s.length<=1048576):tK s=match goG oI 0 (if(lJ s).2=true then(lJ s).1 else(lJ s).1.dropLast)with
    | (none,n)=>(oI,(n:Int),4)
    | (some r,n)=>if(lJ s).2=false\/r.2≠3 then(oI,(n:Int),4)else if Fj r.1=false then(oI,0,2)else(r.1,0,0):=by
  obtain⟨ls,whole,hl⟩: ∃ls whole,lJ s=(ls,whole):=⟨_,_,rfl⟩;have hdl:ls.dropLast=ls.take (ls.length-1):=List.dropLast_eq_take;unfold tK;rw[zab oM,hl];dsimp only;obtain⟨many,hm⟩: ∃many,many=if whole=true then ls.length else ls.length-1:=⟨_,rfl⟩
  have am4:many<=ls.length:=by rw[hm];split<;>omega
  have tF:(if whole=true then ls else ls.dropLast)=ls.take many:=by
    rw[hm]
    split
    . rw[zbl]
    exact hdl
  rw[<-hm,tF]
  by_cases h0:many<1
  . rw[zac h0,show many=0 from oM,zdo]
    unfold goG;dsimp only;rw[zac (.inr dC)];rfl
  rw[zab h0];cases ls with
  | nil=>simp at am4;omega
  | cons x l=>
    obtain⟨m,rfl⟩: ∃m,many=m+1:=⟨many-1,oM⟩;rw[zde,zex,goG,aaU rfl,List.drop_one,List.tail_cons];cases hw:Ky x with
    | none=>rfl
    | some wv=>
      dsimp only[Option.map];rw[acF _ _ 1 (.inl rfl)];have yV:(l.take m).length=m:=by rw[zag];rw[zal]at am4;omega
      obtain⟨cs,hcs⟩: ∃cs,cs=nH (l.take m):=⟨_,rfl⟩;rw[<-hcs,yV]
      by_cases h1:m<=cs.length
      . rw[zac h1,zac (.inl oM)]
        dsimp only;rw[zac (.inr (by split<;>decide)),zgj]
      rw[zab h1]
      by_cases h2:cs.length=0
      . rw[zac (.inr h2),zac ⟨rfl,h2⟩,h2]
      rw[zab oM,zab (λh=>h2 h.2)]
      have hgd:(x::l).getD (1+cs.length) []=(l.take m).getD cs.length []:=by
        rw[zgj,zga,zau,zau,zcn,zac oM]
      rw[hgd];cases zN ((l.take m).getD cs.length [])with
      | none=>dsimp only;rw[zgj]
      | some g=>
        dsimp only
        by_cases h3:m=cs.length+1
        . rw[zac h3]
          dsimp only;show(if 1+cs.length+1<l.length+1 then _ else _)=if whole=false\/¬((3:Int)=3)then _ else _
          cases whole with
          | true=>
            rw[zac rfl,zal]at hm;rw[zab oM,zab (show ¬(true=false\/¬(3:Int)=3)from sM)];rfl
          | false=>
            rw[zab dC,zal]at hm;rw[zac oM,zac (.inl rfl),zgj 1]
        rw[zab h3];dsimp only;rw[zac (by rw[zal];rw[zal]at am4;omega),zgj 1]
theorem aaW {s:L8} {p:aZ} {st:Int} (hs:s.length<=1048576) (hw:(lJ s).2=true) (h:yI (lJ s).1=some (p,st)):
    tK s=if st≠3 then(oI,((lJ s).1.length:Int),4)else if Fj p=false then(oI,0,2)else(p,0,0):=by
  rw[OY hs,zac hw,run_go _ h];dsimp only;rw[hw]
  by_cases e:st=3
  . rw[zab (show ¬(true=false\/st≠3) by simp[e]),zab (show ¬st≠3 from λh=>h e)]
  rw[zac (.inr e),zac e]
theorem aaX {s:L8} {p:aZ} {st:Int} {pre l:List (L8)} {x:L8} (hs:s.length<=1048576) (hl:(if(lJ s).2=true then(lJ s).1 else(lJ s).1.dropLast)=pre++x::l) (h:yI pre=some (p,st)) (hx:mR p st x=none):
    tK s=(oI,(pre.length:Int),4):=by
  rw[OY hs,hl,KY pre _ _ _ _ _ (run_go _ h),goG,hx];dsimp only;rw[zds]
theorem aaY {s:L8} {p:aZ} {st:Int} (hs:s.length<=1048576) (hw:(lJ s).2=false) (h:yI (lJ s).1.dropLast=some (p,st)):
    tK s=(oI,((lJ s).1.dropLast.length:Int),4):=by
  rw[OY hs,hw,zab dC,run_go _ h];dsimp only;rw[zac (.inl rfl)]
theorem vB {t:L8} {n:Int}:(atoiAll t=.ok n/\0<=n/\itoa n=t/\n<=1048576)↔(sj t).map (λn:Nat=>((n:Nat):Int))=some n:=by
 constructor
 .rintro⟨_,h0,h1,h2⟩
  unfold itoa at h1;rw[zab oM]at h1;unfold sj;rw[<-h1,zA];show Option.map _ (if decDigits n.toNat=decDigits n.toNat/\n.toNat<=1048576 then some n.toNat else none)=_
  rw[zac ⟨rfl,oM⟩];show some ((n.toNat:Nat):Int)=some n
  rw[zcw h0]
 intro h;obtain⟨m,h1,rfl⟩:=zbb.1 h;unfold sj at h1;obtain⟨k,hk,h1⟩:=zdx.1 h1
 split at h1
 .rename_i e
  injection h1 with h1
  subst h1;refine⟨?_,oM,by unfold itoa;rw[zab oM,zdv];exact e.1,oM⟩;rw[<-e.1];have iF:=tY k;have asD:=rQ k;cases hd:decDigits k with
  | nil=>exact zat hd iF
  | cons c r=>
   have hc:=asD c (by rw[hd];simp);unfold yO at hc;simp only[decide_eq_true_eq,zbv]at hc
   have hm:parseMag (decDigits k)=.ok k:=by
    rw[parseMag,zab iF,Ca _ 0 k (zA k) oM]
   rw[hd]at hm;unfold atoiAll;dsimp only;rw[zab oM,hm];dsimp only;rw[zab oM,zab oM,zab oM]
 cases h1
section
variable {w:Wd}
end
end Go.Proofs.YtkfpleidaoaonaaGreatDoor
