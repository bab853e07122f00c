/-
 The law ViewBack;walked.
-/
import Derived.Test.YtkfpleidaoaonaaGreatDoorNu1
import Derived.Test.YtkfpleidaoaonaaGreatDoorNuZBack1
import Derived.Test.YtkfpleidaoaonaaGreatDoorNu27
import Derived.Test.YtkfpleidaoaonaaGreatDoorNu3
set_option linter.unusedVariables false
set_option linter.unusedSimpArgs false
namespace Go.Proofs.YtkfpleidaoaonaaGreatDoor
open Go Go.Mw Go.Lib
set_option maxRecDepth 4000
attribute [local irreducible] FW FL FG FGn gu gy dh gH Qfn Gives
section
variable {w:Wd}
set_option maxHeartbeats 2000000 in
theorem YW {cols:List bL} {p:aZ} {la lb:List aH} {vc v va vb:Value} (hc:aM w vc aR 7 cols) (hp:eG w v p) (Kj:iR p) (ha:cZ w va la) (hb:cZ w vb lb) (haf: ∀x∈la,bR x) (hbf: ∀x∈lb,bR x) (hT:fA w):aN Tryz.prog 8 [vc,v,agg [va,vb]] w λv' w'=>v'=.bool true/\Kept noB w w':=by
 have H:=Sep.aL w;obtain⟨A0,a0,B0,b0,rfl⟩:=mE hp;have C:=xJ cols Kj;have nU: ∀wx,Kept noB w wx->fA wx:=λwx h=>hT.keep h;obtain⟨Ra,hRa⟩: ∃Ra,Ra=jf la:=⟨_,rfl⟩;obtain⟨Rb,hRb⟩: ∃Rb,Rb=jf lb:=⟨_,rfl⟩;have ZF:=oG haf;have ZG:=oG hbf;have hac:=oF la;have hbc:=oF lb;rw[<-hRa]at ZF hac;rw[<-hRb]at ZG hbc;obtain⟨co,hco⟩: ∃co,co=cols.take 12:=⟨_,rfl⟩;obtain⟨pc,rY⟩: ∃pc,pc=fJ p:=⟨_,rfl⟩;rw[<-hco,<-rY]at C;refine tH Tryz.func8 rfl rfl rfl rfl ?_;refine Sr (dz H (cs:=[.slice A0 p.wh.length a0,.slice B0 p.cols.length b0,I p.group]) rfl (h:=λb4 w2 H2 k1=>?_));refine dz H2 (cs:=[va,vb]) rfl (h:=λb5 w4 H4 k3=>?_);refine Zb1 ?_;refine Ds (λiI w8 H8=>?_);refine Zb1 ?_;refine nC iI 2 H8 (h:=?_);refine dL iI 1 [(2,false)] H8 (qN (hc.keep H8.kept)) (h:=λx1 wa _ Ha ka=>⟨aO Ha (h:=aK),?_⟩);rw[<-hco]at Ha;refine dL iI 3 _ Ha (pF (hp.keep Ha.kept)) (h:=λx2 wb _ Hb kb=>⟨sT,?_⟩);rw[<-rY]at Hb;refine dL iI 4 _ Hb (aii C (lu Hb At1) (Sep.sees Hb At0) (nU _ Hb.kept)) (h:=λpv wc _ Hc kc=>⟨sT,?_⟩);refine Za7 ?_;refine Qn (Cp rfl (λIa=>?_) (λIa=>?_))
 .refine Sr (aF Hc (iH (nU _ Hc.kept)) (h:=λwd Hd kd=>?_))
  refine Zb1 ?_;exact⟨rfl,Hd.kept⟩
 have fq:(bQ co pc).2=0:=Decidable.of_not_not Ia;obtain⟨bv,hbv,Hm⟩:=Ec Hc fq;subst hbv;have He:=Hm;refine Zb1 ?_;refine Vv (Gives.Bv (i:=0) rfl rfl oM) (Zb1 ?_);refine dx He (rO (ha.keep He.kept)) (h:=λx4 we hx4 Hf ke=>?_);rw[<-hRa]at hx4;refine aS (Eb (l:=Ra) Hf.aJ.aJ hx4 nU fq C.fit (holds_nil pc) ZF oM) rfl rfl (λv' wf hv=>?_);obtain⟨x5,rfl,hx5,Hg⟩:=hv;have hG:FQ pc (dw co pc [] Ra) (0+10):=FQ.step ⟨holds_nil pc,zbf 0⟩ C.fit ZF hac oM;obtain⟨T0,hT0⟩: ∃T0,T0=dw co pc [] Ra:=⟨_,rfl⟩;rw[<-hT0]at hG Hg;refine Zb1 ?_;refine aS (zH Hg.aJ fq hG.hold) rfl rfl (λv' wg hv=>?_);obtain⟨x9,rfl,hx9,Hh⟩:=hv;refine Zb3 ?_;refine Vv (Gives.Bv (i:=1) rfl rfl oM) (Zb1 ?_);refine dx Hh (rO (hb.keep Hh.kept)) (h:=λx12 wi Ri Hi kf=>?_);rw[<-hRb]at Ri;obtain⟨v12,L12⟩:=x12;dsimp only at Ri Hi;obtain⟨r12,ai2⟩: ∃r12,r12=eU L12:=⟨_,rfl⟩;have Hr:=GX Hi At0;rw[Ri,<-ai2]at Hr;have Hi:Mw.Sep w noB [qH v12 r12 Rb,dR x9.1 x9.2,jq bv co pc T0] _:=Sep.firsts (l:=[_,_,_]) Hr;have h12:=Sep.sees Hi At0;obtain⟨⟨A12,c12,rfl,_,_⟩,_⟩:=id h12;have avw:=h12.2.len;refine Zb2 ?_;have Hj:=Sep.lZ (Sep.lZ Hi 82 2 av) 82 2 av;refine aP (λx:Nat×Value×Value=>[(7,aA bv),(9,x9.1),(10,x.2.1),(11,x.2.2),(12,.slice A12 r12.length c12),(13,I x.1)]) (λx w'=>x.1<=r12.length/\Mw.Sep w noB [bW 82 2 av x.2.1 (l8 (r12.take x.1)),bW 82 2 av x.2.2 (zU (l8 (r12.take x.1))),qH (.slice A12 r12.length c12) r12 Rb,dR x9.1 x9.2,jq bv co pc T0] w') (λx _=>r12.length-x.1) (0,.slice none 0 0,.slice none 0 0) tR ⟨zak _,Hj⟩ (λx τ wj hI=>?_)
 obtain⟨i,v10,v11⟩:=x;obtain⟨hi,Hj⟩:=hI;dsimp only at hi Hj;have hN:=Sep.sees Hj At2;have hkl:=aij (r:=r12.take i);rw[zag]at hkl
 try simp only[dA,like,bB,bY]
 refine Za4 ?_;refine Qn (Cp rfl (λIb=>?_) (λIb=>?_))
 .have bX:i<r12.length:=oM
  obtain⟨x,hx⟩:=get_some bX;obtain⟨xv,xn⟩:=x;obtain⟨o,ho⟩:=get_some (show i<Rb.length from oM);obtain⟨X,cX,hxv,_,_⟩:=hN.2.2 i _ o hx ho;dsimp only at hxv;subst hxv
  have hxw:xn=o.w:=by
   have:=zaw (λz=>z[i]?) hN.2.1;simp only[zcf,hx,ho,zdf]at this;injection this
  have ZP:=(ZG o (zao ho)).1;rw[<-hxw]at ZP;have Qt:=afc hx;dsimp only at Qt
  have rA: ∀u∈[(Value.slice X o.row.length cX,xn)].flatMap av,u.oneCell'=true:=λu hu=>Ev hN.2 u (by
   rw[zda]at hu ⊢;obtain⟨y,hy,hu⟩:=hu;rw[zay]at hy;subst hy;exact⟨_,zao hx,hu⟩)
  refine Zb2 ?_;refine Vv (Gives.mK rfl rfl (cO hN.1) bX) (Vv (Gives.p8 rfl (cO hN.1) oM) ?_);refine Vv (Gives.iJ (i:=i) (f:=1) rfl (Sep.aL _) (cO hN.1) hx rfl) (Vn ?_);refine Qn (Cp rfl (λIc=>?_) (λIc=>?_))
  .have iF:xn≠ -9223372036854775808:=Ic
   rw[zac iF]at Qt;refine Zb3 ?_;refine Vv (Gives.mK rfl rfl (cO hN.1) bX) (Vv (Gives.jQ rfl (Sep.aL _) (cO hN.1) hx) ?_);refine Bs Hj ([(Value.slice X o.row.length cX,xn)].flatMap av) (λbs wk Hk kg=>?_);refine gP Hk (news:=[(Value.slice X o.row.length cX,xn)]) At0 (by unfold maxLen;simp;omega) (by simp;omega) rA (h:=?_);intro v10' wl Hl;rw[<-Qt]at Hl;have hN:=Sep.sees Hl At2;refine Zb1 ?_;refine Ds (λSa wm Hn=>?_);refine Zb3 ?_;refine Gp Sa 3 rfl rfl (λ_=>(Gives.mK rfl rfl (cO (Sep.sees Hn At2).1) bX)) (Gp Sa 4 rfl rfl (λ_=>(Gives.p8 rfl (cO (Sep.sees Hn At2).1) oM)) ?_);refine Gl Sa 5 rfl rfl (Gives.iJ (i:=i) (f:=0) rfl (Sep.aL _) (cO (Sep.sees Hn At2).1) hx rfl) (Zb2 ?_);refine Gp Sa 8 rfl rfl (λ_=>(Gives.mK rfl rfl (cO (Sep.sees Hn At2).1) bX)) (Gp Sa 9 rfl rfl (λ_=>(Gives.p8 rfl (cO (Sep.sees Hn At2).1) oM)) ?_);refine Gl Sa 10 rfl rfl (Gives.iJ (i:=i) (f:=1) rfl (Sep.aL _) (cO (Sep.sees Hn At2).1) hx rfl) (Gp Sa 11 rfl rfl (λ_=>(Gives.aou (c:= -xn) rfl (by unfold fits at ZP;show IntKind.i64.wrap (0-xn)= -xn;rw[wrap64 ⟨oM,oM⟩];omega))) ?_);refine Gb Sa 12 (av (Value.slice X o.row.length cX, -xn)) ?_;refine bU Sa 13 _ Hn (xs:=[.tmp 72]) (out:=[(Value.slice X o.row.length cX, -xn)].flatMap av) (bE.many rfl rfl bE.nil) rfl rfl rfl (h:=λbs2 wn Ho=>⟨sT,?_⟩);have hnl:(zU (l8 (r12.take i))).length=(l8 (r12.take i)).length:=zae _;refine jN Sa 14 _ Ho (news:=[(Value.slice X o.row.length cX, -xn)]) At1 (by unfold maxLen;simp;omega) (by simp;omega) (λu hu=>zaz.1 (show([(Value.slice X o.row.length cX, -xn)].flatMap av).all Value.oneCell'=true from rfl) u hu) (h:=λv11' wo Hp=>?_)
   rw[show zU (l8 (r12.take i))++[(Value.slice X o.row.length cX, -xn)]=zU (l8 (r12.take (i+1))) by rw[Qt];unfold zU;rw[zam];rfl]at Hp;refine⟨sT,?_⟩;refine yP Sa 15 _ (h:=⟨sT,?_⟩);refine Zb1 ?_;refine Vc ((i+1:Nat):Int) ?_;refine Zb1 ?_;exact ak (i+1,_,_) tR ⟨dO,Hp⟩ dO
  have iF: ¬xn≠ -9223372036854775808:=Ic;rw[zab iF,zci]at Qt;rw[<-Qt]at Hj;refine Zb1 ?_;refine Vc ((i+1:Nat):Int) ?_;refine Zb1 ?_;exact ak (i+1,_,_) tR ⟨dO,Hj⟩ dO
 have qp:i=r12.length:=oM;rw[qp,zbl]at Hj;have Hq:=ail Hj;obtain⟨Ws,hnf⟩:=abC ZG;have hkn:=abB (l:=Rb);have hnn:=aik (pG Rb);have hGn:=hG.few;have hG1:FQ pc (dw co pc T0 (pG Rb)) (0+10+10):=hG.step C.fit Ws oM oM;have hG2:FQ pc (dw co pc (dw co pc T0 (pG Rb)) (qm (pG Rb))) (0+10+10+10):=hG1.step C.fit hnf oM oM;have avx:=hG1.few;have sa1:=vD fq C.fit hG.hold Ws;have sa2:=vD fq C.fit hG1.hold hnf;refine Zb2 ?_;refine aS (TW (l:=pG Rb) Hq.bF.aJ (λw h=>h.1) nU fq C.fit hG.hold Ws oM) rfl rfl (λv' wp hv=>?_);obtain⟨x14,rfl,ab3,Hs⟩:=hv;obtain⟨A14,c14,apn⟩:=lT Hs;obtain⟨v14,L14⟩:=x14;dsimp only at apn ab3 Hs;subst apn;refine Za7 ?_;refine Qn (Cp rfl (λId=>?_) (λId=>?_))
 .have sN:=Id
  have G8:L14=[]:=by
   rw[Ls sN]at ab3;exact zcx.1 ab3
  subst G8;have Cu:dw co pc T0 (pG Rb)=T0:=zab sN;rw[Cu]at Hs;refine Zb4 ?_;refine aC (t:=86) rfl (λSb=>?_) (λSb=>?_)
  .refine Zb1 ?_
   refine aS (zH Hs.aJ fq hG.hold) rfl rfl (λv' wq hv=>?_);obtain⟨x16,rfl,anh,Ht⟩:=hv;refine Zb1 ?_;refine aF Ht (nR (anh▸dn Ht At0) (hx9▸dn Ht At4)) (h:=λwr Hu kh=>?_);refine Zb2 ?_;refine aC (t:=92) rfl (λSc=>?_) (λSc=>?_)
   .refine On (aF Hu (iH (nU _ Hu.kept)) (h:=λws Hv ki=>?_))
    refine Zb2 ?_;exact⟨rfl,Hv.kept⟩
   exact aB Sc
  exact aB Sb
 have tq:(dB co pc T0 (pG Rb)).2=0:=Decidable.of_not_not Id;refine Zb2 ?_;refine aS (TW (l:=qm (pG Rb)) Hs.aJ.bF (λw h=>h.2) nU fq C.fit hG1.hold hnf oM) rfl rfl (λv' wt hv=>?_);obtain⟨x16,rfl,anh,Hw⟩:=hv;refine Za7 ?_;refine Qn (Cp rfl (λIe=>?_) (λIe=>?_))
 .have h50:(dB co pc (dw co pc T0 (pG Rb)) (qm (pG Rb))).2=50:=(aic hG.hold.tell tq).resolve_left Ie
  refine Zb3 ?_;refine aC (t:=105) rfl (λSd=>?_) (λSd=>?_)
  .refine On (aF Hw (iH (nU _ Hw.kept)) (h:=λwu Hx kj=>?_))
   refine Zb2 ?_;exact⟨rfl,Hx.kept⟩
  exact zat h50 Sd
 have ai3:(dB co pc (dw co pc T0 (pG Rb)) (qm (pG Rb))).2=0:=Decidable.of_not_not Ie;refine Zb2 ?_;refine dx Hw (agf (ab3▸dn Hw At3) (anh▸dn Hw At0) sa1 sa2 oM oM Bc Bc) (h:=λx18 wv ZJ Hy kk=>?_);rw[aif hG.hold.tell tq ai3]at ZJ ⊢;obtain⟨A18,c18,apo⟩:=lT Hy;obtain⟨v18,L18⟩:=x18;dsimp only at apo ZJ Hy;obtain rfl :L18=[]:=zcx.1 ZJ;subst apo;refine Zb8 ?_;refine aC (t:=116) rfl (λSe=>?_) (λSe=>?_)
 .refine Zb5 ?_
  refine aC (t:=121) rfl (λSf=>?_) (λSf=>?_)
  .refine Zb1 ?_
   have hbt:=TV tq ai3;refine aS (zH Hy.bF fq hG2.hold) rfl rfl (λv' ww hv=>?_);obtain⟨x21,rfl,ai4,Hz⟩:=hv;rw[hbt]at ai4;refine Zb1 ?_;refine aF Hz (nR (ai4▸dn Hz At0) (hx9▸dn Hz At6)) (h:=λwy HA kl=>?_);refine Zb2 ?_;refine aC (t:=127) rfl (λSg=>?_) (λSg=>?_)
   .refine On (aF HA (iH (nU _ HA.kept)) (h:=λwz HB km=>?_))
    refine Zb2 ?_;exact⟨rfl,HB.kept⟩
   exact aB Sg
  exact aB Sf
 exact aB Se
end
end Go.Proofs.YtkfpleidaoaonaaGreatDoor
