/-
 The law ViewDoes;walked.
-/
import Derived.Test.YtbkjpdboaclopaaGreatDoorNd30
set_option linter.all false
set_option maxRecDepth 4000
namespace Go.Proofs.Mw
open Go.Lib
attribute [local irreducible] FW FL FG FGn jJ jO fC lJ Qfn Gives
structure Given (cols:List bT) (p:aW) (J:List aG) (i:Nat):Prop where
 good:(bN cols p J).2=0
 few:J.length<=10*i
 fit: ∀x∈J,dR x
 hold:lF p (bN cols p J).1
variable {cols:List bT}
def afo {p:aW}:Given cols p [] 0:=⟨rfl,zai _,λ_ h=>zas h zam,holds_nil p⟩
def aa0 {p:aW} {J l:List aG} {i:Nat} (h:Given cols p J i) (hf:rM p) (hl: ∀x∈l,dR x) (hn:l.length<=10) (hi:i<9):Given cols p (if(fq cols p (bN cols p J).1 l).2=0 then J++l else J) (i+1):=by
 have h1:=h.few;refine⟨afa h.good,?_,?_,?_⟩
 .split
  .rw[zad];omega
  omega
 .split
  .intro x hx
   rcases zbk.1 hx with hx | hx
   .exact h.fit x hx
   exact hl x hx
  exact h.fit
 rw[<-RS h.good];have:=nJ (cols:=cols) (p:=p) J;exact oW h.hold hf.2 hl oM
variable {w:Wd}
set_option maxHeartbeats 1000000 in
theorem Yx {p:aW} {q:List (List aG)} {vc v vl:Value} (hc:aJ w vc aM 7 cols) (hp:fZ w v p) (Tp:rM p) (hl:GQ w vl q) (Fx: ∀l∈q,∀x∈l,dR x) (hT:gT w):Rk Tryz.prog 3 [vc,v,vl] w (.bool true):=by
 have H:=Sep.aH w;obtain⟨A0,a0,B0,b0,rfl⟩:=aaT hp;have C:=akP cols Tp;have hTx: ∀wx,Kept noB w wx->gT wx:=λwx h=>hT.keep h;obtain⟨r,hr,hrq,yL⟩:=hl;obtain⟨Q,cq,rfl,⟨hq,hq'⟩,hQ⟩:=hr;obtain⟨co,hco⟩: ∃co,co=cols.take 12:=⟨_,rfl⟩;obtain⟨pc,qy⟩: ∃pc,pc=zk p:=⟨_,rfl⟩;rw[<-hco,<-qy]at C;have hgp:pc.group=p.group:=by rw[qy];rfl
 refine D9 Tryz.func3 ?_;refine Sr (bB H (cs:=[.slice A0 p.wh.length a0,.slice B0 p.cols.length b0,I p.group]) rfl (h:=λb4 w2 H2 k1=>?_));refine Am ?_;refine Qn (dB (λx:Value×Nat×Value×Value×List zl=>[(0,vc),(2,.slice Q r.length cq),(4,av b4),(7,x.1),(8,av x.2.1)]) (λx w'=>x.2.2.2.2.map (·.2)=pc.cols/\Mw.Sep w noB [NW x.2.2.1 x.2.2.2.1 pc.wh x.2.2.2.2,aU 49 7 aM x.1 co,blk x.2.1 [x.2.2.1,x.2.2.2.1,I p.group] 26,blk b4 [.slice A0 p.wh.length a0,.slice B0 p.cols.length b0,I p.group] 26] w') ?_ ?_)
 .refine Dz (λD6 w7 H7=>?_)
  refine V1 ?_;refine jU D6 2 H7 (h:=?_);refine jQ D6 (e1:=1) (e2:=4) kR ?_ ?_
  .refine j3 D6 1 [(2,false)] H7 (BZ (hc.keep H7.kept)) (h:=λx1 wa _ Ha k9=>⟨sU,?_⟩)
   rw[<-hco]at Ha;refine jQ D6 (e1:=3) (e2:=4) kR ?_ ?_
   .refine j3 D6 3 _ Ha (xV (hp.keep Ha.kept)) (h:=λx2 wb Kv Hb ka=>?_)
    obtain⟨vw2,vq2,L2⟩:=x2;dsimp only at Kv Hb;rw[<-qy]at Kv Hb;obtain⟨W2,c2,Z2,e2,rfl,rfl⟩:=uG Hb;refine⟨sT,?_⟩;refine r9 D6 4 _ Hb (h:=λb8 wc Hc=>⟨sT,?_⟩);refine V1 ?_;refine bM D6 6 _ Hc (us:=[.slice W2 pc.wh.length c2,.slice Z2 (mG L2).length e2,I p.group]) (h:=λwd He=>⟨sT,?_⟩);refine V0 ?_
    first
    | exact au (x1,b8,_,_,L2) tR ⟨Kv,He⟩
    | exact au (x1,b8,_,_,L2) tR ⟨Kv,He.aO.aF⟩
    | exact au (x1,b8,_,_,L2) tR ⟨Kv,He.aO.aO⟩
   refine jE D6 4 [(2,false)] Ha (h:=λb8 we Hf=>⟨sU,?_⟩);refine eB D6 3 _ Hf (xV (hp.keep Hf.kept)) (h:=λx2 wf Kv Hg kb=>?_);obtain⟨vw2,vq2,L2⟩:=x2;dsimp only at Kv Hg;rw[<-qy]at Kv Hg;obtain⟨W2,c2,Z2,e2,rfl,rfl⟩:=uG Hg;refine⟨sT,?_⟩;refine Gp D6 5 rfl rfl (λ_=>Gives.assign rfl) (bM D6 6 _ Hg (us:=[.slice W2 pc.wh.length c2,.slice Z2 (mG L2).length e2,I p.group]) (h:=λwg Hh=>⟨sT,?_⟩));refine V0 ?_
   first
   | exact au (x1,b8,_,_,L2) tR ⟨Kv,Hh⟩
   | exact au (x1,b8,_,_,L2) tR ⟨Kv,Hh.aO.aF⟩
   | exact au (x1,b8,_,_,L2) tR ⟨Kv,Hh.aO.aO⟩
  refine jE D6 4 [(2,false),(0,true)] H7 (h:=λb8 wi Hi=>⟨sU,?_⟩);refine eB D6 1 [(2,false)] Hi (BZ (hc.keep Hi.kept)) (h:=λx1 wj _ Hj kc=>⟨sU,?_⟩);rw[<-hco]at Hj;refine eB D6 3 _ Hj (xV (hp.keep Hj.kept)) (h:=λx2 wk Kv Hk kd=>?_);obtain⟨vw2,vq2,L2⟩:=x2;dsimp only at Kv Hk;rw[<-qy]at Kv Hk;obtain⟨W2,c2,Z2,e2,rfl,rfl⟩:=uG Hk;refine⟨sT,?_⟩;refine Gp D6 5 rfl rfl (λ_=>Gives.assign rfl) (bM D6 6 _ Hk (us:=[.slice W2 pc.wh.length c2,.slice Z2 (mG L2).length e2,I p.group]) (h:=λwl Hl=>⟨sT,?_⟩));refine V0 ?_
  first
  | exact au (x1,b8,_,_,L2) tR ⟨Kv,Hl⟩
  | exact au (x1,b8,_,_,L2) tR ⟨Kv,Hl.aO.aF⟩
  | exact au (x1,b8,_,_,L2) tR ⟨Kv,Hl.aO.aO⟩
 rintro⟨v7,b8,vw2,vq2,L2⟩ τ wm ⟨Kv,Hm⟩;dsimp only at Kv Hm;obtain⟨W2,c2,Z2,e2,rfl,rfl⟩:=uG Hm;refine Lp ?_;refine V2 ?_;have hP2:fZ wm (agg [.slice W2 pc.wh.length c2,.slice Z2 (mG L2).length e2,I p.group]) pc:=by rw[<-hgp];exact aaV Hm At0 Kv
 refine Nz (aro C (jq Hm At1) hP2 (hTx _ Hm.kept)) (λpv wn _ Hn ke=>?_);obtain⟨a,rfl,ha⟩:=afm Hn;refine Dz (λSa wo Ho=>?_);refine V1 ?_;refine jU Sa 2 Ho (h:=?_);refine eB Sa 1 [(2,false)] Ho (BZ (hc.keep Ho.kept)) (h:=λx3 wp _ Hp kf=>⟨sU,?_⟩);rw[<-hco]at Hp;refine eB Sa 3 _ Hp (aaH (hp.keep Hp.kept)) (h:=λx4 wq _ Hq kg=>⟨sT,?_⟩);rw[<-qy]at Hq;refine eB Sa 4 _ Hq (ao4 C (jq Hq At1) (Sep.sees Hq At0)) (h:=λpv0 wr _ Hr kh=>⟨sT,?_⟩);refine V7 ?_;refine aL (aio Hr.jC.jC (by have:=C.wh;omega) (by have:=zay List.length Kv;rw[zae]at this;have:=C.outs;omega) (λb hb=>by have:=C.st b.2 (Kv▸zar.2 ⟨b,hb,rfl⟩);omega) (by have:=C.cs;omega)) rfl rfl (λv' ws hv=>?_);obtain⟨rfl,Hs⟩:=hv;refine Sz (λSb=>?_) (λSb=>?_)
 .exact aB Sb
 refine O6 ?_;refine Qn (Cd rfl (λIe=>?_) (λIe=>?_))
 .exfalso
  rw[ha]at Ie;simp at Ie
 refine Cz (λIf=>?_) (λIf=>?_)
 .refine Kz (RZ (hTx _ Hs.kept)) (λwt Ht ki=>?_)
  refine V1 ?_;exact⟨rfl,Ht.kept⟩
 have dN:(aZ co pc).2=0:=Decidable.of_not_not If;obtain⟨bd,rfl,Hm1⟩:=Oy Hs dN;obtain⟨bv,hbv,Hm2⟩:=Oy Hm1.aS dN;injection hbv with hbv
 subst hbv;have Hu:Mw.Sep w noB [jZ bv co pc [],oq bd co pc []] ws:=Sep.firsts (l:=[_,_]) Hm2;refine V1 ?_;refine aL (acP Hu (by have:=C.outs;omega)) rfl rfl (λv' wu hv=>?_);obtain⟨x9,rfl,Hv⟩:=hv;obtain⟨K9,k9,rfl,hk9,_⟩:=Sep.bH Hv At0;obtain⟨cv0,wv0,pv0',ov0,iv0,rI0,Hv⟩:=vP Hv.aO;refine Kz (NR (jq Hv At3) (Sep.sees Hv At2).1.2.2) (λww Hw kj=>?_);refine Cz (λIg=>?_) (λIg=>?_)
 .exact aB Ig
 refine V1 ?_;have Hx:=(rV Hw).aF;have hol:=R3 (cols:=co) (p:=pc);have hou:=C.outs;refine aI (λx:Nat×List bT=>[(2,.slice Q r.length cq),(9,av bv),(11,av bd),(13,.slice K9 (aZ co pc).1.length k9),(14,I x.1)]) (λx w'=>(x.1<=(aZ co pc).1.length/\(aZ co pc).1.length=x.2.length)/\Mw.Sep w noB [aU 49 7 aM (.slice K9 (aZ co pc).1.length k9) x.2,oq bd co pc [],jZ bv co pc []] w') (λx _=>(aZ co pc).1.length-x.1) (0,(aZ co pc).1) tR ⟨⟨zai _,rfl⟩,Hx⟩ (λx τ wy hI=>?_);obtain⟨i,s'⟩:=x;obtain⟨⟨hi,hm⟩,Hx⟩:=hI;dsimp only at hi hm Hx;refine Lp ?_;refine Cz (λIh=>?_) (λIh=>?_)
 .have aX:i<(aZ co pc).1.length:=oM
  refine V2 ?_;refine Vb (aM ⟨-1,[],⟨0,false⟩,⟨false,0,[]⟩⟩) ?_;refine Vv (Gives.LB (l:=s') (enc:=aM) hm rfl rfl (j5 hm Hx At0) oM) (rP (i:=i) (enc:=aM) ⟨-1,[],⟨0,false⟩,⟨false,0,[]⟩⟩ hm Hx At0 oM rfl (h:=λwz Hy=>?_));refine V1 ?_;refine Vc ((i+1:Nat):Int) ?_;refine V1 ?_;exact aj (i+1,s'.set i ⟨-1,[],⟨0,false⟩,⟨false,0,[]⟩⟩) tR ⟨⟨dO,by dsimp only;rw[zcy];exact hm⟩,Hy⟩ dO
 refine Tx (Jd (Bp (Je (iK (dB (λ_:aaR×List aG=>[(9,av bv),(11,av bd)]) (λx w'=>Mw.Sep w noB [jZ bv co pc (bN co pc x.2).1,blk bd (tL x.1.cv x.1.wv x.1.pv pc.group x.1.ov x.1.iv) 43,aU 60 2 aA x.1.iv x.1.rI,fP λw=>Ch w x.1.cv x.1.wv x.1.pv x.1.ov x.1.rI co pc x.2] w') ?_ ?_)))))
 .refine V1 ?_
  refine aI (λx:Nat×List aG=>[(2,.slice Q r.length cq),(9,av bv),(11,av bd),(15,I x.1)]) (λx w'=>(x.1<=r.length/\x.1<=6/\Given co pc x.2 x.1)/\Mw.Sep w noB [jZ bv co pc (bN co pc x.2).1,oq bd co pc x.2] w') (λx _=>r.length-x.1) (0,[]) tR ⟨⟨zai _,zai _,afo⟩,Hx.bI.aF⟩ (λx τ wD hI=>?_);obtain⟨i,J⟩:=x;obtain⟨⟨hi,hi6,hG⟩,Hz⟩:=hI;dsimp only at hi hi6 hG Hz;refine Lp ?_;refine Sz (λSc=>?_) (λSc=>?_)
  .have aqg:=Sc
   refine Cz (λIi=>?_) (λIi=>?_)
   .have aX:i<r.length:=oM
    have hi5:i<6:=by have h:=Ii;omega
    obtain⟨xv,hx⟩:=get_some aX;obtain⟨l,hli⟩:=get_some (show i<q.length from oM);have hxl:=yL i xv l hx hli;have alF:=afj (Fx l (zag hli));have atP:=afh l;have aqs:=afi (l:=l);have hJn:=hG.few;have hTn:=nJ (cols:=co) (p:=pc) J;have hG2:=aa0 hG C.fit alF atP oM;refine Nz (Yd (hxl.keep Hz.kept)) (λx6 wE hx6 HA kk=>?_);refine V3 ?_;refine aL (ail (l:=uf l) HA hx6 hTx dN C.fit hG.hold alF oM) rfl rfl (λv' wF hv=>?_);obtain⟨x7,rfl,hx7,HB⟩:=hv;refine Nz (Yd (hxl.keep HB.kept)) (λx8 wG hx8 HC kl=>?_);refine aL (afl (l:=uf l) HC.gu.aF hx8 dN C.fit hG.good hG.hold hG.fit alF (λb hb=>by have:=aqs b hb;omega) oM) rfl rfl (λv' wH hv=>?_);obtain⟨x9,rfl,hx9,HD⟩:=hv;refine V6 ?_;refine aL (Ox (l:=uf l) HD.jC hx6 oM (λb hb=>by have:=aqs b hb;omega)) rfl rfl (λv' wI hv=>?_);obtain⟨rfl,HE⟩:=hv;refine Kz (xU (l:=(fq co pc (bN co pc J).1 (uf l)).1) (m:=(fq co pc (bN co pc J).1 (uf l)).1) (hx7▸gU HE At3) (hx9▸gU HE At0)) (λwJ HF km=>?_);refine Sz (λSd=>?_) (λSd=>?_)
    .exact aB Sd
    refine Cz (λIj=>?_) (λIj=>?_)
    .exact aB Ij
    refine V1 ?_;have Kw:=Yv dN C.fit hG.hold alF;refine aL (Ox HF.aS hx7 (by have:=Kw.few;omega) (λb hb=>by have:=Kw.row b hb;omega)) rfl rfl (λv' wK hv=>?_);obtain⟨rfl,HG⟩:=hv;refine V1 ?_;have hvh:=hG2.hold;rw[RS hG.good]at HG;refine aL (akQ HG.aS dN hvh) rfl rfl (λv' wL hv=>?_);obtain⟨x10,rfl,aqt,HH⟩:=hv;refine V3 ?_;refine aL (ain HH.aS dN C.fit hG2.good hG2.hold hG2.fit (by have:=hG2.few;omega)) rfl rfl (λv' wM hv=>?_);obtain⟨x11,rfl,atS,HI⟩:=hv;refine Kz (xU (aqt▸gU HI At2) (atS▸gU HI At0)) (λwN HJ kn=>?_);refine Cz (λIk=>?_) (λIk=>?_)
    .exact aB Ik
    refine V1 ?_;have aqu:=aaY dN hvh;have Bl:=hvh.few;refine aL (Ox HJ.aO aqt (by have:=aqu.few;omega) (λb hb=>by have:=aqu.row b hb;omega)) rfl rfl (λv' wO hv=>?_);obtain⟨rfl,HK⟩:=hv;refine V1 ?_;refine Vc ((i+1:Nat):Int) ?_;refine V1 ?_;exact aj (i+1,if(fq co pc (bN co pc J).1 (uf l)).2=0 then J++uf l else J) tR ⟨⟨dO,dO,hG2⟩,Sep.firsts (l:=[_,_]) HK.aF.aO⟩ dO
   refine V0 ?_;obtain⟨cv1,wv1,pv1,ov1,iv1,rI1,Hd⟩:=vP Hz.aF;exact au (⟨cv1,wv1,pv1,ov1,iv1,rI1⟩,J) tR Hd.aS
  refine V1 ?_;obtain⟨cv1,wv1,pv1,ov1,iv1,rI1,Hd⟩:=vP Hz.aF;exact au (⟨cv1,wv1,pv1,ov1,iv1,rI1⟩,J) tR Hd.aS
 rintro⟨⟨cv1,wv1,pv1,ov1,iv1,rI1⟩,J⟩ τ wP HL;dsimp only at HL;refine Lp ?_;refine Dz (λSe wQ HM=>?_);refine V1 ?_;refine Gm Se 2 ?_;refine V3 ?_;refine p8 Se 1 [(5,false),(4,true),(3,true),(2,true)] rfl kR (acP HM (by have:=C.outs;omega)) rfl kR kR (λv' wR hv=>?_);obtain⟨xc,rfl,HN⟩:=hv;refine⟨sL,?_⟩;refine dA Se 6 _ HN (NR (jq HN At0) (Sep.sees HN At4).1.2.2) (h:=λwS HO ko=>⟨sT,?_⟩);refine V1 ?_;refine fK (t:=135) rfl (λSf=>?_) (λSf=>?_)
 .refine dA Se 8 _ HO (RZ (hTx _ HO.kept)) (h:=λwT HQ kp=>⟨sT,?_⟩)
  refine V2 ?_;exact⟨rfl,HQ.kept⟩
 exact aB Sf
end Go.Proofs.Mw
