/-
 The law ViewDoes;walked.
-/
import Derived.Test.YtbfjonalkaophaaGreatDoorNk30
set_option linter.all false
set_option maxRecDepth 4000
namespace Go.Proofs.Mw
open Go.Lib Go.Proofs.Tryz
attribute [local irreducible] FW FL FG FGn jX lg gD l7 Qfn ah
structure Given (cols:List bF) (p:aU) (J:List aH) (i:Nat):Prop where
 good:(bL cols p J).2=0
 few:J.length<=10*i
 fit: ∀x∈J,dQ x
 hold:lG p (bL cols p J).1
variable {cols:List bF} {p:aU}
def adt:Given cols p [] 0:=⟨rfl,zai _,λ_ h=>zas h zal,holds_nil p⟩
variable {i:Nat}
def Zy {J l:List aH} (h:Given cols p J i) (e:mQ p) (d: ∀x∈l,dQ x) (g:l.length<=10) (hi:i<9):Given cols p (if(dN cols p (bL cols p J).1 l).2=0 then J++l else J) (i+1):=by
 have f:=h.few;refine⟨adi h.good,?_,?_,?_⟩
 .split
  .rw[zad];omega
  omega
 .split
  .intro x c
   rcases zbh.1 c with c | c
   .exact h.fit x c
   exact d x c
  exact h.fit
 rw[<-QL h.good];have:=mP (cols:=cols) (p:=p) J;exact l5 h.hold e.2 d oM
variable {w:Wd}
variable {vc vl:Value}
set_option maxHeartbeats 1000000 in
theorem BP {q:List (List aH)} {v:Value} (hc:aP w vc aL 7 cols) (hp:fK w v p) (hpf:mQ p) (hl:qR w vl q) (hlf: ∀l∈q,∀x∈l,dQ x) (hT:gK w):Rk Tryz.prog 6 [vc,v,vl] w (.bool true):=by
 have H:=Sep.aI w;obtain⟨A0,a0,B0,b0,rfl⟩:=rT hp;have C:=Li cols hpf;have A: ∀wx,aS noB w wx->gK wx:=λwx h=>hT.aK h;obtain⟨r,hr,hrq,EO⟩:=hl;obtain⟨Q,cq,rfl,⟨hq,hq'⟩,hQ⟩:=hr;obtain⟨co,E⟩: ∃co,co=cols.take 12:=⟨_,rfl⟩;obtain⟨e,o⟩: ∃e,e=sS p:=⟨_,rfl⟩;rw[<-E,<-o]at C;have hgp:e.group=p.group:=by rw[o];rfl
 refine uU Tryz.func6 ?_;refine Sr (bK H (cs:=[.slice A0 p.wh.length a0,.slice B0 p.cols.length b0,I p.group]) rfl (h:=λb4 w2 H2 k1=>?_));refine Am ?_;refine Qn (dU (λx:Value×Nat×Value×Value×List zk=>[(0,vc),(2,.slice Q r.length cq),(4,aC b4),(7,x.1),(8,aC x.2.1)]) (λx w'=>x.2.2.2.2.map (·.2)=e.cols/\Mw.Sep w noB [Nc x.2.2.1 x.2.2.2.1 e.wh x.2.2.2.2,aY 50 7 aL x.1 co,blk x.2.1 [x.2.2.1,x.2.2.2.1,I p.group] 32,blk b4 [.slice A0 p.wh.length a0,.slice B0 p.cols.length b0,I p.group] 32] w') ?_ ?_)
 .refine Dz (λc w7 H7=>?_)
  refine V1 ?_;refine gY c 2 H7 (h:=?_);refine jw c (e1:=1) (e2:=4) kR ?_ ?_
  .refine jS c 1 [(2,false)] H7 (qy (hc.aK H7.au)) (h:=λu wa _ Ha k9=>⟨sU,?_⟩)
   rw[<-E]at Ha;refine jw c (e1:=3) (e2:=4) kR ?_ ?_
   .refine jS c 3 _ Ha (xQ (hp.aK Ha.au)) (h:=λx2 wb d Hb ka=>?_)
    obtain⟨vw2,vq2,L⟩:=x2;dsimp only at d Hb;rw[<-o]at d Hb;obtain⟨W,S,Z,e2,rfl,rfl⟩:=uG Hb;refine⟨sT,?_⟩;refine rX c 4 _ Hb (h:=λs wc Hc=>⟨sT,?_⟩);refine V1 ?_;refine cu c 6 _ Hc (us:=[.slice W e.wh.length S,.slice Z (ng L).length e2,I p.group]) (h:=λwd He=>⟨sT,?_⟩);refine V0 ?_
    first
    | exact aA (u,s,_,_,L) tR ⟨d,He⟩
    | exact aA (u,s,_,_,L) tR ⟨d,He.aR.aJ⟩
    | exact aA (u,s,_,_,L) tR ⟨d,He.aR.aR⟩
   refine jR c 4 [(2,false)] Ha (h:=λs we Hf=>⟨sU,?_⟩);refine dF c 3 _ Hf (xQ (hp.aK Hf.au)) (h:=λx2 wf d Hg kb=>?_);obtain⟨vw2,vq2,L⟩:=x2;dsimp only at d Hg;rw[<-o]at d Hg;obtain⟨W,S,Z,e2,rfl,rfl⟩:=uG Hg;refine⟨sT,?_⟩;refine Gp c 5 rfl rfl (λ_=>ah.assign rfl) (cu c 6 _ Hg (us:=[.slice W e.wh.length S,.slice Z (ng L).length e2,I p.group]) (h:=λwg Hh=>⟨sT,?_⟩));refine V0 ?_
   first
   | exact aA (u,s,_,_,L) tR ⟨d,Hh⟩
   | exact aA (u,s,_,_,L) tR ⟨d,Hh.aR.aJ⟩
   | exact aA (u,s,_,_,L) tR ⟨d,Hh.aR.aR⟩
  refine jR c 4 [(2,false),(0,true)] H7 (h:=λs wi Hi=>⟨sU,?_⟩);refine dF c 1 [(2,false)] Hi (qy (hc.aK Hi.au)) (h:=λu wj _ Hj kc=>⟨sU,?_⟩);rw[<-E]at Hj;refine dF c 3 _ Hj (xQ (hp.aK Hj.au)) (h:=λx2 wk d Hk kd=>?_);obtain⟨vw2,vq2,L⟩:=x2;dsimp only at d Hk;rw[<-o]at d Hk;obtain⟨W,S,Z,e2,rfl,rfl⟩:=uG Hk;refine⟨sT,?_⟩;refine Gp c 5 rfl rfl (λ_=>ah.assign rfl) (cu c 6 _ Hk (us:=[.slice W e.wh.length S,.slice Z (ng L).length e2,I p.group]) (h:=λwl Hl=>⟨sT,?_⟩));refine V0 ?_
  first
  | exact aA (u,s,_,_,L) tR ⟨d,Hl⟩
  | exact aA (u,s,_,_,L) tR ⟨d,Hl.aR.aJ⟩
  | exact aA (u,s,_,_,L) tR ⟨d,Hl.aR.aR⟩
 rintro⟨v7,s,vw2,vq2,L⟩ τ wm ⟨d,Hm⟩;dsimp only at d Hm;obtain⟨W,S,Z,e2,rfl,rfl⟩:=uG Hm;refine Lp ?_;refine V2 ?_;have hP2:fK wm (agg [.slice W e.wh.length S,.slice Z (ng L).length e2,I p.group]) e:=by rw[<-hgp];exact Zv Hm At0 d
 refine Nz (alo C (gP Hm At1) hP2 (A _ Hm.au)) (λpv wn _ Hn ke=>?_);obtain⟨a,rfl,ha⟩:=ads Hn;refine Dz (λSa wo Ho=>?_);refine V1 ?_;refine gY Sa 2 Ho (h:=?_);refine dF Sa 1 [(2,false)] Ho (qy (hc.aK Ho.au)) (h:=λx3 wp _ Hp kf=>⟨sU,?_⟩);rw[<-E]at Hp;refine dF Sa 3 _ Hp (vP (hp.aK Hp.au)) (h:=λx4 wq _ Hq kg=>⟨sT,?_⟩);rw[<-o]at Hq;refine dF Sa 4 _ Hq (alp C (gP Hq At1) (Sep.dh Hq At0)) (h:=λpv0 wr _ Hr kh=>⟨sT,?_⟩);refine V7 ?_;refine aO (ags Hr.iy.iy IK (by have:=zay List.length d;rw[zae]at this;have:=C.outs;omega) (λb D=>by have:=C.st b.2 (d▸zav.2 ⟨b,D,rfl⟩);omega) IW) rfl rfl (λN ws f=>?_);obtain⟨rfl,Hs⟩:=f;refine Sz (λSb=>?_) (λSb=>?_)
 .exact aB Sb
 refine O6 ?_;refine Qn (Cd rfl (λIe=>?_) (λIe=>?_))
 .exfalso
  rw[ha]at Ie;simp at Ie
 refine Cz (λIf=>?_) (λIf=>?_)
 .refine Kz (nY (A _ Hs.au)) (λwt Ht ki=>?_)
  refine V1 ?_;exact⟨rfl,Ht.au⟩
 have g:(bD co e).2=0:=Decidable.of_not_not If;obtain⟨Y,rfl,Hm1⟩:=F6 Hs g;obtain⟨k,T,Hm2⟩:=F6 Hm1.bB g;injection T with T
 subst T;have Hu:Mw.Sep w noB [j4 k co e [],om Y co e []] ws:=Sep.firsts (l:=[_,_]) Hm2;refine V1 ?_;refine aO (aa8 Hu Iw) rfl rfl (λN wu f=>?_);obtain⟨x9,rfl,Hv⟩:=f;obtain⟨K9,k9,rfl,hk9,_⟩:=Sep.bX Hv At0;obtain⟨cv0,wv0,pv0',ov0,iv0,rI0,Hv⟩:=vR Hv.aR;refine Kz (M7 (gP Hv At3) (Sep.dh Hv At2).1.2.2) (λww Hw kj=>?_);refine Cz (λIg=>?_) (λIg=>?_)
 .exact aB Ig
 refine V1 ?_;have Hx:=(rR Hw).aJ;have hol:=QT (cols:=co) (p:=e);have hou:=C.outs;refine aM (λx:Nat×List bF=>[(2,.slice Q r.length cq),(9,aC k),(11,aC Y),(13,.slice K9 (bD co e).1.length k9),(14,I x.1)]) (λx w'=>(x.1<=(bD co e).1.length/\(bD co e).1.length=x.2.length)/\Mw.Sep w noB [aY 50 7 aL (.slice K9 (bD co e).1.length k9) x.2,om Y co e [],j4 k co e []] w') (λx _=>(bD co e).1.length-x.1) (0,(bD co e).1) tR ⟨⟨zai _,rfl⟩,Hx⟩ (λx τ wy hI=>?_);obtain⟨i,s'⟩:=x;obtain⟨⟨hi,hm⟩,Hx⟩:=hI;dsimp only at hi hm Hx;refine Lp ?_;refine Cz (λIh=>?_) (λIh=>?_)
 .have yL:i<(bD co e).1.length:=oM
  refine V2 ?_;refine Vb (aL ⟨-1,[],⟨0,false⟩,⟨false,0,[]⟩⟩) ?_;refine Vv (ah.yA (l:=s') (enc:=aL) hm rfl rfl (dZ hm Hx At0) oM) (rM (i:=i) (enc:=aL) ⟨-1,[],⟨0,false⟩,⟨false,0,[]⟩⟩ hm Hx At0 oM rfl (h:=λwz Hy=>?_));refine V3 ?_;exact ak (i+1,s'.set i ⟨-1,[],⟨0,false⟩,⟨false,0,[]⟩⟩) tR ⟨⟨dO,by dsimp only;rw[zdb];exact hm⟩,Hy⟩ dO
 refine K3 (Cn (xD (Co (ig (dU (λ_:Zr×List aH=>[(9,aC k),(11,aC Y)]) (λx w'=>Mw.Sep w noB [j4 k co e (bL co e x.2).1,blk Y (tO x.1.cv x.1.wv x.1.pv e.group x.1.ov x.1.iv) 73,aY 25 2 aD x.1.iv x.1.rI,fA λw=>BM w x.1.cv x.1.wv x.1.pv x.1.ov x.1.rI co e x.2] w') ?_ ?_)))))
 .refine V1 ?_
  refine aM (λx:Nat×List aH=>[(2,.slice Q r.length cq),(9,aC k),(11,aC Y),(15,I x.1)]) (λx w'=>(x.1<=r.length/\x.1<=6/\Given co e x.2 x.1)/\Mw.Sep w noB [j4 k co e (bL co e x.2).1,om Y co e x.2] w') (λx _=>r.length-x.1) (0,[]) tR ⟨⟨zai _,zai _,adt⟩,Hx.bN.aJ⟩ (λx τ wD hI=>?_);obtain⟨i,J⟩:=x;obtain⟨⟨hi,hi6,z⟩,Hz⟩:=hI;dsimp only at hi hi6 z Hz;refine Lp ?_;refine Sz (λSc=>?_) (λSc=>?_)
  .have amf:=Sc
   refine Cz (λIi=>?_) (λIi=>?_)
   .have yL:i<r.length:=oM
    have hi5:i<6:=by have h:=Ii;omega
    obtain⟨xv,hx⟩:=aN yL;obtain⟨l,hli⟩:=aN (show i<q.length from oM);have hxl:=EO i xv l hx hli;have j:=Dn (hlf l (zag hli));have aoB:=Dm l;have P:=JE (l:=l);have hJn:=z.few;have hTn:=mP (cols:=co) (p:=e) J;have n:=Zy z C.fit j aoB oM;refine Nz (vO (hxl.aK Hz.au)) (λx6 wE hx6 HA kk=>?_);refine V3 ?_;refine aO (Xn (l:=lX l) HA hx6 A g C.fit z.hold j oM) rfl rfl (λN wF f=>?_);obtain⟨x7,rfl,hx7,HB⟩:=f;refine Nz (vO (hxl.aK HB.au)) (λx8 wG hx8 HC kl=>?_);refine aO (adq (l:=lX l) HC.eZ.aJ hx8 g C.fit z.good z.hold z.fit j (λb D=>by have:=P b D;omega) oM) rfl rfl (λN wH f=>?_);obtain⟨x9,rfl,hx9,HD⟩:=f;refine V6 ?_;refine aO (ND (l:=lX l) HD.iy hx6 oM (λb D=>by have:=P b D;omega)) rfl rfl (λN wI f=>?_);obtain⟨rfl,HE⟩:=f;refine Kz (qx (l:=(dN co e (bL co e J).1 (lX l)).1) (m:=(dN co e (bL co e J).1 (lX l)).1) (hx7▸cZ HE At3) (hx9▸cZ HE At0)) (λwJ HF km=>?_);refine Sz (λSd=>?_) (λSd=>?_)
    .exact aB Sd
    refine Cz (λIj=>?_) (λIj=>?_)
    .exact aB Ij
    refine V1 ?_;have XO:=BO g C.fit z.hold j;refine aO (ND HF.bB hx7 (by have:=XO.few;omega) (λb D=>by have:=XO.row b D;omega)) rfl rfl (λN wK f=>?_);obtain⟨rfl,HG⟩:=f;refine V1 ?_;have X:=n.hold;rw[QL z.good]at HG;refine aO (TS HG.bB g X) rfl rfl (λN wL f=>?_);obtain⟨x10,rfl,V,HH⟩:=f;refine V3 ?_;refine aO (agr HH.bB g C.fit n.good n.hold n.fit (by have:=n.few;omega)) rfl rfl (λN wM f=>?_);obtain⟨x11,rfl,aoC,HI⟩:=f;refine Kz (qx (V▸cZ HI At2) (aoC▸cZ HI At0)) (λwN HJ kn=>?_);refine Cz (λIk=>?_) (λIk=>?_)
    .exact aB Ik
    refine V1 ?_;have R:=ED g X;have hfw:=X.few;refine aO (ND HJ.aR V (by have:=R.few;omega) (λb D=>by have:=R.row b D;omega)) rfl rfl (λN wO f=>?_);obtain⟨rfl,HK⟩:=f;refine V3 ?_;exact ak (i+1,if(dN co e (bL co e J).1 (lX l)).2=0 then J++lX l else J) tR ⟨⟨dO,dO,n⟩,Sep.firsts (l:=[_,_]) HK.aJ.aR⟩ dO
   refine V0 ?_;obtain⟨y,O,K,G,F,M,Hd⟩:=vR Hz.aJ;exact aA (⟨y,O,K,G,F,M⟩,J) tR Hd.bB
  refine V1 ?_;obtain⟨y,O,K,G,F,M,Hd⟩:=vR Hz.aJ;exact aA (⟨y,O,K,G,F,M⟩,J) tR Hd.bB
 rintro⟨⟨y,O,K,G,F,M⟩,J⟩ τ wP HL;dsimp only at HL;refine Lp ?_;refine Dz (λSe wQ HM=>?_);refine V1 ?_;refine Gm Se 2 ?_;refine V3 ?_;refine p8 Se 1 [(5,false),(4,true),(3,true),(2,true)] rfl kR (aa8 HM Iw) rfl kR kR (λN wR f=>?_);obtain⟨xc,rfl,HN⟩:=f;refine⟨sL,?_⟩;refine dS Se 6 _ HN (M7 (gP HN At0) (Sep.dh HN At4).1.2.2) (h:=λwS HO ko=>⟨sT,?_⟩);refine V1 ?_;refine gu (t:=135) rfl (λSf=>?_) (λSf=>?_)
 .refine dS Se 8 _ HO (nY (A _ HO.au)) (h:=λwT HQ kp=>⟨sT,?_⟩)
  refine V2 ?_;exact⟨rfl,HQ.au⟩
 exact aB Sf
def agu (w:Wd) (v:Value):Prop:=∀w',aS noB w w'->Rk Tryz.prog 60 [v] w' (.bool true)
def agu.aK {w w':Wd} {v:Value} (h:agu w v) (e:aS noB w w'):agu w' v:=λf c=>h f (e.trans c λ_ d=>d.elim)
variable {v:Value}
variable {l:List aH}
def QU {T:List aH}:isZ (dN cols p T l).1:=by
 unfold dN
 split
 .exact⟨List.Pairwise.nil,λx h=>zas h zal,λx h=>zas h zal⟩
 exact aeR
structure QV (p:aU) (T:List aH) (k:Nat):Prop where
 hold:lG p T
 few:T.length<=k
def ZA {cols:List bF} {p:aU} {T l:List aH}:(eU cols p T l).length<=T.length+l.length:=by
 unfold eU
 split
 .have:=mP (cols:=cols) (p:=p) l
  rw[zad];omega
 omega
def QV.step {T:List aH} {k n:Nat} (h:QV p T k) (c:mQ p) (d: ∀x∈l,dQ x) (f:l.length<=n) (e:k+n<=100):QV p (eU cols p T l) (k+n):=by
 have:=h.few;have:=ZA (cols:=cols) (p:=p) (T:=T) (l:=l);exact⟨l5 h.hold c.2 d oM,oM⟩
section
variable {w w0:Wd} {S:NP} {rs:List HP} {put:HP->List HP} {a b l:List aH} {v va vb:Value} {k m:Nat}
def OO {L:List fH} (H:Mw.Sep w0 S (dB v L::rs) w): ∃A c,v=.slice A L.length c:=by
 obtain⟨A,c,e,_,_⟩:=Sep.bX H.bW At0;exact⟨A,c,by rw[e,aW,zae]⟩
def adu (d:dM w va a) (e:dM w vb b) (s:nK k a) (c:nK m b) (n:k<=500) (o:m<=500) (z:isZ a) (g:isZ b):
    aX prog 31 [va,vb] w λu f=>∃x:Value×List fH,u=.tuple #[x.1,I (Uu a b).2]/\x.2.map (·.2)=(Uu a b).1/\cO noB (dB x.1 x.2) w f:=by
  have i:=s.few;have j:=c.few;rw[<-Tx z g];exact Qs d e oM oM s.fit c.fit (λx h=>by have:=s.row x h;omega) (λx h=>by have:=c.row x h;omega)
def agv (h:dM w v l) (s:nK k l) (d:k<=1000) (z:isZ l):Rk prog 32 [v] w (I 0):=by
 have c:=s.few;have:=Jm h oM;rw[zac (yO z)]at this;exact this
end
set_option maxHeartbeats 1000000 in
theorem TT {q:List (List aH)} (hc:aP w vc aL 7 cols) (hp:fK w v p) (a:mQ p) (hl:qR w vl q) (k: ∀l∈q,∀x∈l,dQ x) (hT:gK w):Rk prog 8 [vc,v,vl] w (.bool true):=by
 have H:=Sep.aI w;obtain⟨A0,a0,B0,b0,rfl⟩:=rT hp;have C:=Li cols a;have n: ∀wx,aS noB w wx->gK wx:=λwx h=>hT.aK h;obtain⟨r,hr,hrq,m⟩:=hl;obtain⟨Q,cq,rfl,⟨hq,hq'⟩,hQ⟩:=hr;obtain⟨co,F⟩: ∃co,co=cols.take 12:=⟨_,rfl⟩;obtain⟨g,K⟩: ∃g,g=sS p:=⟨_,rfl⟩;rw[<-F,<-K]at C;refine uU func8 ?_;refine Sr (bK H (cs:=[.slice A0 p.wh.length a0,.slice B0 p.cols.length b0,I p.group]) rfl (h:=λb4 w2 H2 k1=>?_));refine Dz (λe w6 O=>?_);refine V1 ?_;refine gY e 2 O (h:=?_);refine dF e 1 [(2,false)] O (qy (hc.aK O.au)) (h:=λx1 w9 _ P k8=>⟨sU,?_⟩);rw[<-F]at P;refine dF e 3 _ P (vP (hp.aK P.au)) (h:=λx2 wa _ D ka=>⟨sT,?_⟩);rw[<-K]at D;refine dF e 4 _ D (alo C (gP D At1) (Sep.dh D At0) (n _ D.au)) (h:=λpv wb _ Hb kb=>⟨sT,?_⟩);refine V6 ?_;refine aM (λx:Value×Nat×List aH=>[(2,.slice Q r.length cq),(7,x.1),(8,I (bD co g).2),(9,I x.2.1)]) (λx w'=>(x.2.1<=r.length/\x.2.1<=6/\QV g x.2.2 (10*x.2.1))/\Mw.Sep w noB [AZ ((bD co g).2=0) x.1 λb=>j4 b co g x.2.2] w') (λx _=>r.length-x.2.1) (pv,0,[]) tR ⟨⟨zai _,zai _,holds_nil g,zai _⟩,Hb.first⟩ (λx τ wc hI=>?_);obtain⟨pv,i,T⟩:=x;obtain⟨⟨hi,Y,s⟩,E⟩:=hI;dsimp only at hi Y s E;refine Lp ?_;refine Sz (λSa=>?_) (λSa=>?_)
 .have amf:=Sa
  refine Sz (λSb=>?_) (λSb=>?_)
  .have hi5:=Sb
   refine Cz (λIe=>?_) (λIe=>?_)
   .have c:(bD co g).2=0:=Ie
    have S:i<r.length:=oM;have arB:i<6:=oM;obtain⟨bv,rfl,Hd⟩:=F6 E c;obtain⟨xv,hx⟩:=aN S;obtain⟨l,G⟩:=aN (show i<q.length from oM);have hxl:=m i xv l hx G;have o:=Dn (k l (zag G));have J:=Dm l;have hTn:=s.few;have j:QV g (eU co g T (lX l)) (10*i+10):=s.step C.fit o J oM;have sa:=BO c C.fit s.hold o;have st:=ED c s.hold;have su:=ED c j.hold;have arC:=j.few;refine V1 ?_;refine aO (TS Hd c s.hold) rfl rfl (λv' wd M=>?_);obtain⟨x10,rfl,y,He⟩:=M;refine Nz (vO (hxl.aK He.au)) (λx6 we X Hf kc=>?_);refine aO (Xn (l:=lX l) Hf.aR.aJ X n c C.fit s.hold o oM) rfl rfl (λv' wf M=>?_);obtain⟨x11,rfl,d,R⟩:=M;obtain⟨A11,c11,u⟩:=OO R;obtain⟨v11,L⟩:=x11;dsimp only at u d R;subst u;refine V6 ?_;refine aO (TS R.aJ c j.hold) rfl rfl (λv' wg M=>?_);obtain⟨x13,rfl,f,N⟩:=M;refine Cz (λV=>?_) (λV=>?_)
    .have t:=V
     have Z:L.length=0:=by
      rw[ab5 t]at d;have:=zay List.length d
      rwa [zae]at this
     have W:eU co g T (lX l)=T:=zab t;rw[W]at f;refine Sz (λSc=>?_) (λSc=>?_)
     .exact zas Sc (by rw[Z];decide)
     refine Kz (FR (y▸cZ N At4) (f▸cZ N At0)) (λwi Hi kd=>?_);refine Cz (λIg=>?_) (λIg=>?_)
     .exact aB Ig
     refine V3 ?_;exact ak (aC bv,i+1,eU co g T (lX l)) tR ⟨⟨dO,dO,j⟩,by first | exact Sep.firsts (l:=[_]) (zx Hi.aJ c) | exact Sep.firsts (l:=[_]) (zx Hi.aR c)⟩ dO
    have A:(dN co g T (lX l)).2=0:=Decidable.of_not_not V;refine Nz (adu (y▸cZ N At4) (d▸cZ N At2) st sa oM oM (Br s.hold.tell) QU) (λx14 wj z Hj ke=>?_);rw[VF s.hold.tell A]at z ⊢;refine Sz (λSd=>?_) (λSd=>?_)
    .exact aB Sd
    refine Kz (FR (z▸cZ Hj At0) (f▸cZ Hj At1)) (λwk Hk kf=>?_);refine Sz (λSe=>?_) (λSe=>?_)
    .exact aB Se
    refine Kz (agv (d▸cZ Hk At3) sa oM QU) (λwl Hl kg=>?_);refine Sz (λSf=>?_) (λSf=>?_)
    .exact aB Sf
    refine Kz (agv (f▸cZ Hl At1) su oM (Br j.hold.tell)) (λwm Hm kh=>?_);refine Cz (λIh=>?_) (λIh=>?_)
    .exact aB Ih
    refine V3 ?_;exact ak (aC bv,i+1,eU co g T (lX l)) tR ⟨⟨dO,dO,j⟩,by first | exact Sep.firsts (l:=[_]) (zx Hm.aJ c) | exact Sep.firsts (l:=[_]) (zx Hm.aR c)⟩ dO
   refine Kz (nY (n _ E.au)) (λwn Hn ki=>?_);refine V1 ?_;exact⟨rfl,Hn.au⟩
  refine Kz (nY (n _ E.au)) (λwo Ho kj=>?_);refine V1 ?_;exact⟨rfl,Ho.au⟩
 refine Kz (nY (n _ E.au)) (λwp Hp kk=>?_);refine V1 ?_;exact⟨rfl,Hp.au⟩
structure aoI where
 i:Nat
 s:VG
 l2:List aH
 v1:Value
 v2:Value
 v3:Value
 r1:List (Value×Int)
 r2:List (Value×Int)
 L:List fH
structure QW (cols:List bF) (p:aU) (i:Nat) (s:VG) (l2:List aH):Prop where
 good:goodRun cols p s
 perm:s.all.Perm l2
 len:s.all.length<=10*i
 fit: ∀y∈s.all,dQ y
 held:QV p s.T (10*i)
 outs:nK (130*i) s.outs
def QW.step {s:VG} {t:List aH} (h:QW cols p i s t) (d:(bD cols p).2=0) (f:mQ p) (e: ∀x∈l,dQ x) (j:l.length<=10) (hi:i<6) (g:(dN cols p s.T l).2=0):
    QW cols p (i+1) ⟨eU cols p s.T l,s.all++l,s.outs++(dN cols p s.T l).1⟩ (l++t):=by
  have c:=ae0 (l:=l) h.good;unfold R7 at c;rw[zac g]at c;have o:=h.len;have q:=h.held.few;refine⟨c,(h.perm.append_right l).trans List.perm_append_comm,by dsimp only;rw[zad];omega,λy n=>(zbh.1 n).elim (h.fit y) (e y),h.held.step f e j oM,?_⟩;exact(h.outs.app (BO d f h.held.hold e)).mono oM
def QW.same {s:VG} {l:List aH} (h:QW cols p i s l):QW cols p (i+1) s l:=
 ⟨h.good,h.perm,by have:=h.len;omega,h.fit,⟨h.held.hold,by have:=h.held.few;omega⟩,h.outs.mono oM⟩
section
variable {w w0:Wd} {S:NP} {rs:List HP} {put:HP->List HP} {v:Value} {L:List fH} {l:List aH}
end
def gM.tail {x:Value×Int} {o:aH} {r:List (Value×Int)} (h:gM w (x::r) (o::l)):x.2=o.w/\aP w x.1 aj 3 o.row/\gM w r l:=by
 obtain⟨c,d⟩:=h;rw[zbc,zbc]at c;injection c with e f
 exact⟨e,d 0 x o rfl rfl,f,λi y p j g=>d (i+1) y p j g⟩
def gM.cons {o:aH} {r:List (Value×Int)} (c:aP w v aj 3 o.row) (h:gM w r l):gM w ((v,o.w)::r) (o::l):=gM.app (.one c) h
variable {w0:Wd} {S:NP} {rs:List HP} {b:Nat} {cols:List bF} {p:aU} {T l:List aH} {r:List (Value×Int)} {X:Wd->Prop}
def oJ (l:List bF) (i:Nat):List bF:=(l.take i).map pJ++l.drop i
def ZB {l:List bF}:(oJ l i).length=l.length:=by
 unfold oJ;rw[zad,zae,zah,zbm];omega
def adv {l:List bF} {i:Nat} {c:bF} (h:l[i]? =some c):(oJ l i)[i]? =some c:=by
 have hi:=fP h;unfold oJ;rw[zbx IL,zae,zah,zcf oM,zdw,sQ h];rfl
def ZC {l:List bF} {c:bF} (h:l[i]? =some c):(oJ l i).set i (pJ c)=oJ l (i+1):=by
 have hi:=fP h;unfold oJ;rw[zdq _ _ IL,zae,zah,zcf oM,zdw,sQ h,zcz,zaq,h];simp
def Xo {l:List bF} {c:bF} (h:l[i]? =some c) (d:c.type.kind≠2):oJ l i=oJ l (i+1):=by
 have :pJ c=c:=by unfold pJ Fu;rw[zab d]
 unfold oJ;rw[sQ h,zaq,h];simp[this]
def ZE {l:List bF} (h:i=l.length):oJ l i=l.map pJ:=by
 unfold oJ;rw[h,zbo,zds,zbt]
def Xp (k:Int): ∀l:List Int,(mK k l).length<=l.length+1
 | []=>by simp[mK]
 | x::l=>by
  have:=Xp k l;rw[mK]
  split
  .rw[zat,zat];omega
  split<;>simp
def D5: ∀(l:List bH) (a:List Int),(l.foldl (λa x=>mK x.n a) a).length<=a.length+l.length
 | [],a=>zbk _
 | x::l,a=>by
  have h:=D5 l (mK x.n a);have c:=Xp x.n a;rw[List.foldl_cons,zat];omega
def Xq {g j:Type} {f:g->List j} {k:Nat}: ∀{l:List g},(∀x∈l,(f x).length<=k)->(l.flatMap f).length<=k*l.length
 | [],_=>sM
 | x::l,h=>by
  have d:=Xq (f:=f) (k:=k) (l:=l) λy c=>h y (zap _ c);have e:=h x zak;rw[zbi,zad,zat,Nat.mul_succ];omega
def agw (C:JF cols p):(Mh p).length<=1400:=by
 have h:=D5 ((p.wh++p.cols.flatMap (·.steps)).filter λx=>decide (x.kind=1)) [];have c:((p.wh++p.cols.flatMap (·.steps)).filter λx=>decide (x.kind=1)).length<=_:=zee _ _;have d:(p.cols.flatMap (·.steps)).length<=70*p.cols.length:=Xq C.st;have e:=C.wh;have f:=C.outs;rw[zad]at c;rw[zci]at h;show(tC _).length<=1400
 unfold tC;omega
def yG (d:Int):bF:=⟨d,[],⟨4,false⟩,⟨false,0,[]⟩⟩
def mV (i:Nat):aF:=⟨false,0,([120,121,122]:L8).take (i%4)⟩
def o9 (n:Nat):List aF:=(List.range n).map mV
def adw (d:Int) (i:Nat):fB (yG d).type (mV i)=0:=by
 have h: ∀k:Nat,k<4->fB ⟨4,false⟩ ⟨false,0,([120,121,122]:L8).take k⟩=0:=dC;exact h (i%4) (Nat.mod_lt _ dC)
def xV (n:Nat):(o9 n).length=n:=by unfold o9;rw[zae,zdu]
def adx {o:aH} (h:l[i]? =some o):xL (l.take (i+1)) (o9 (i+1))=xL (l.take i) (o9 i)++[⟨o.row++[mV i],o.w⟩]:=by
 have hi:=fP h;unfold xL;rw[zaq,h,show o9 (i+1)=o9 i++[mV i] by unfold o9;rw[List.range_succ,zan];rfl,zct,List.zipWith_append (by rw[xV,zah];omega)];rfl
def agx (h: ∀x∈l,dQ x): ∀x∈xL l (o9 l.length),dQ x:=λx f=>by
 unfold xL at f;obtain⟨j,n,e⟩:=zfy.1 f;rw[List.getElem_zipWith]at e;rw[List.length_zipWith]at n;subst e;obtain⟨g,i⟩:=h l[j] (zgd _);refine⟨g,λc d=>?_⟩
 rcases zbh.1 d with d | d
 .exact i c d
 rw[zaw]at d;subst d;unfold o9;rw[List.getElem_map];exact⟨by show(-9223372036854775808:Int)<=0;decide,by show(0:Int)<=9223372036854775807;decide⟩
def agy {l:List aH}:(xL l (o9 l.length)).length=l.length:=by
 unfold xL;rw[List.length_zipWith,xV,Nat.min_self]
set_option maxHeartbeats 2000000 in
theorem TU (hc:aP w vc aL 7 cols) (hp:fK w v p) (hpf:mQ p) (hl:dM w vl l) (hlf: ∀x∈l,dQ x) (hT:gK w):Rk Tryz.prog 10 [vc,v,vl] w (.bool true):=by
  have H:=Sep.aI w;obtain⟨A0,a0,B0,b0,rfl⟩:=rT hp;have hc0:=hc;obtain⟨Kc,m,rfl,⟨hm,Gj⟩,hA⟩:=hc;have N:=Li cols hpf;have V: ∀wx,aS noB w wx->gK wx:=λwx h=>hT.aK h;obtain⟨R,hR⟩: ∃R,R=lX l:=⟨_,rfl⟩;have hqf:=Dn hlf;have hqn:=Dm l;have hqr:=JE (l:=l);rw[<-hR]at hqf hqn hqr;obtain⟨n,hn⟩: ∃n:Nat,n=min cols.length 11:=⟨_,rfl⟩;have aoD:min (cols.length:Int) 11=(n:Int):=oM;obtain⟨co,hco⟩: ∃co,co=cols.take n:=⟨_,rfl⟩;have hcl:co.length=n:=by rw[hco,zah];omega
  obtain⟨g,hpc⟩: ∃g,g=sS p:=⟨_,rfl⟩;rw[<-hpc]at N;have C:JF co g:=⟨N.fit,oM,N.outs,N.wh,N.st⟩;have Cw:JF (co.map pJ) g:=⟨N.fit,by rw[zae];omega,N.outs,N.wh,N.st⟩;refine uU Tryz.func10 ?_;refine Sr (bK H (cs:=[.slice A0 p.wh.length a0,.slice B0 p.cols.length b0,I p.group]) rfl (h:=λP w2 H2 k1=>?_));refine Dz (λq w6 H6=>?_);refine V3 ?_;refine Gp q 3 rfl rfl (λ_=>(ah.abY rfl rfl aoD)) (Gp q 4 rfl rfl (λ_=>(ah.sliceTo (h:=n) rfl rfl oM)) ?_);refine gY q 6 H6 (h:=?_);refine dF q 5 [(6,false)] H6 (qL (Db (m:=n) (hc0.aK H6.au) oM) Io) (h:=λx1 wa _ Ha ka=>⟨sU,?_⟩);rw[<-hco]at Ha;refine dF q 7 _ Ha (vP (hp.aK Ha.au)) (h:=λx2 wb _ Hb kb=>?_);rw[<-hpc]at Hb;obtain⟨W,G,Z,e2,rfl⟩:=rT (Sep.dh Hb At0);refine⟨sT,?_⟩;refine rA q 8 _ (h:=⟨sT,?_⟩);refine cu q 9 _ Hb (us:=[.slice W g.wh.length G,.slice Z g.cols.length e2,I g.group]) (h:=λwc Hc=>⟨sT,?_⟩);refine Nz (vO (hl.aK Hc.au)) (λx7 wd hx7 Hd kc=>?_);rw[<-hR]at hx7;have Hr:=Ez Hd At0;rw[hx7]at Hr;obtain⟨v7,L7⟩:=x7;dsimp only at hx7 Hr;obtain⟨r,hr7⟩: ∃r,r=aW L7:=⟨_,rfl⟩;rw[<-hr7]at Hr;obtain⟨⟨A,Q,rfl,_,_⟩,_⟩:=id (Sep.dh Hr At0);have h7n:=(Sep.dh Hr At0).2.len;have Hd:=Hr;refine Nz (xU (l:=R) C (gP Hd At2) (Sep.dh Hd At1) ⟨r,Sep.dh Hd At0⟩ hqf oM (V _ Hd.au)) (λt we hx8 He kd=>?_);refine Nz (qL (gP He At3) oM) (λx10 wf _ Hf ke=>?_);obtain⟨O,a,hK0,_,_⟩:=Sep.bX Hf At4
  subst hK0;obtain⟨K1,k1,rfl,_,_⟩:=Sep.bX Hf At0;refine V2 ?_;refine aM (λi:Nat=>[(0,.slice O co.length a),(4,aC P),(7,.slice A r.length Q),(8,t.1),(9,I (fI co g R).2),(10,.slice K1 co.length k1),(11,I i)]) (λi w'=>i<=co.length/\Mw.Sep w noB [aY 50 7 aL (.slice K1 co.length k1) (oJ co i),dB t.1 t.2,nJ (.slice A r.length Q) r R,y7 (agg [.slice W g.wh.length G,.slice Z g.cols.length e2,I g.group]) g,aY 50 7 aL (.slice O co.length a) co,blk P [.slice W g.wh.length G,.slice Z g.cols.length e2,I g.group] 32] w') (λi _=>co.length-i) 0 tR ⟨zai _,Hf⟩ (λi τ wg hI=>?_);obtain⟨hi,F⟩:=hI;have s:co.length=(oJ co i).length:=ZB.symm;refine Lp ?_;refine Cz (λIe=>?_) (λIe=>?_)
  . have yL:i<co.length:=oM
    obtain⟨c,T⟩:=aN yL;have hwi:=adv T;refine V2 ?_;refine Vv (ah.yA (l:=oJ co i) (enc:=aL) s rfl rfl (dZ s F At0) oM) (Vv (ah.oO rfl (dZ s F At0) oM) ?_);refine Vv (ah.oO rfl (dZ s F At0) oM) (Vv (ah.yh (i:=i) (f:=2) rfl (dZ s F At0) hwi rfl) ?_);refine Ve ?_;refine Cz (λIf=>?_) (λIf=>?_)
    . have hk2:c.type.kind=2:=If
      have hwc:pJ c=⟨c.id,c.name,⟨3,c.type.null⟩,c.dflt⟩:=by unfold pJ Fu;rw[zac hk2]
      have hws:=ZC T;rw[hwc]at hws;refine V2 ?_;refine Vv (ah.yA (l:=oJ co i) (enc:=aL) s rfl rfl (dZ s F At0) oM) (Vv (ah.oO rfl (dZ s F At0) oM) ?_);refine Vv (ah.oO rfl (dZ s F At0) oM) (GZ (enc:=aL) (l:=oJ co i) (f:=2) ⟨c.id,c.name,⟨3,c.type.null⟩,c.dflt⟩ s F At0 hwi dC rfl rfl rfl rfl (h:=λwi Hh=>?_));rw[hws]at Hh;refine V3 ?_;exact ak (i+1) tR ⟨oM,Hh⟩ oM
    have hws:=Xo T If;rw[hws]at F;refine V3 ?_;exact ak (i+1) tR ⟨oM,F⟩ oM
  rw[ZE oM]at F;refine K3 (Cn (xD (Co (ig (dU (λ_:Unit=>[(0,.slice O co.length a),(4,aC P),(7,.slice A r.length Q),(8,t.1),(9,I (fI co g R).2)]) (λ_ w'=>Mw.Sep w noB [dB t.1 t.2,nJ (.slice A r.length Q) r R,y7 (agg [.slice W g.wh.length G,.slice Z g.cols.length e2,I g.group]) g,aY 50 7 aL (.slice O co.length a) co,blk P [.slice W g.wh.length G,.slice Z g.cols.length e2,I g.group] 32] w') ?_ ?_)))))
  . refine Cz (λIg=>?_) (λIg=>?_)
    . have hd0:(fI co g R).2=0:=Ig
      refine Nz (xU (l:=R) Cw (gP F At0) (Sep.dh F At3) ⟨r,Sep.dh F At2⟩ hqf oM (V _ F.au)) (λx12 wj amm Hi kf=>?_);rw[VL hd0]at amm ⊢;refine Sz (λSa=>?_) (λSa=>?_)
      . exact zas hd0 Sa
      refine Kz (FR (hx8▸cZ Hi At2) (amm▸cZ Hi At0)) (λwk Hj kg=>?_);refine Cz (λIh=>?_) (λIh=>?_)
      . exact aB Ih
      refine V0 ?_;exact aA () tR Hj.bN.bN
    refine V0 ?_;exact aA () tR F.bN
  intro _ τ wl Hk;refine Lp ?_;refine Nz (acy (Sep.dh Hk At2) Iw IK (λo ho=>by have:=C.st o ho;omega)) (λx15 wm _ Hl kh=>?_);obtain⟨K5,k5,rfl,hk5,_⟩:=Sep.bX Hl At0;have arG:=Sep.aen Hl At0;have huf:=agw C;have hup:=Ck (g.wh++g.cols.flatMap (·.steps));obtain⟨us,hus⟩: ∃us,us=Mh g:=⟨_,rfl⟩;rw[show tC (g.wh++g.cols.flatMap (·.steps))=us from hus.symm]at hup;rw[<-hus]at Hl hk5 huf ⊢;refine V2 ?_;refine aM (λx:Nat×Int=>[(0,.slice O co.length a),(4,aC P),(7,.slice A r.length Q),(8,t.1),(9,I (fI co g R).2),(14,I x.2),(15,.slice K5 us.length k5),(16,I x.1)]) (λx w'=>(x.1<=us.length/\1<=x.2/\x.2<=x.1+1/\∀u∈us.take x.1,u≠x.2)/\Mw.Sep w noB [aY 3 1 intCells (.slice K5 us.length k5) us,dB t.1 t.2,nJ (.slice A r.length Q) r R,y7 (agg [.slice W g.wh.length G,.slice Z g.cols.length e2,I g.group]) g,aY 50 7 aL (.slice O co.length a) co,blk P [.slice W g.wh.length G,.slice Z g.cols.length e2,I g.group] 32] w') (λx _=>us.length-x.1) (0,1) tR ⟨⟨zai _,Int.le_refl _,Int.le_refl _,λu hu=>zas hu zal⟩,Hl⟩ (λx τ wn hI=>?_);obtain⟨i,d⟩:=x;obtain⟨⟨hi,hd1,hdi,hne⟩,Hm⟩:=hI;dsimp only at hi hd1 hdi hne Hm;refine Lp ?_;refine Cz (λIi=>?_) (λIi=>?_)
  . have yL:i<us.length:=oM
    obtain⟨u,hu⟩:=aN yL;have htk:us.take (i+1)=us.take i++[u]:=by rw[zaq,hu];rfl
    refine V2 ?_;refine Vv (ah.fT (l:=us) rfl rfl (eF Hm At0) yL) (Vv (ah.Ce rfl (Sep.aI _) (eF Hm At0) hu rfl) ?_);refine Cz (λIj=>?_) (λIj=>?_)
    . have hud:u=d:=Ij
      have E: ∀v∈us.take (i+1),v≠d+1:=λv k=>by
        rw[htk]at k
        rcases zbh.1 k with k | k
        . have aku:v<u:=by
            obtain⟨j,hj,e⟩:=zfy.1 k;rw[zah]at hj;rw[List.getElem_take]at e;have hj2:us[i]? =some us[i]:=zaa yL;rw[hj2]at hu;injection hu with hu
            rw[<-e,<-hu];exact zfd.1 hup j i _ _ oM
          omega
        rw[zaw]at k;omega
      refine V1 ?_;refine Vc (d+1) ?_;refine V2 ?_;refine Vc ((i+1:Nat):Int) ?_;refine V1 ?_
      first
      | exact ak (i+1,d+1) tR ⟨⟨dO,dO,dO,E⟩,Hm⟩ dO
      | exact ak (i+1,d) tR ⟨⟨dO,dO,dO,E⟩,Hm⟩ dO
    have hud:u≠d:=Ij
    have E: ∀v∈us.take (i+1),v≠d:=λv k=>by
      rw[htk]at k
      rcases zbh.1 k with k | k
      . exact hne v k
      rw[zaw]at k;omega
    refine V1 ?_;refine Vc ((i+1:Nat):Int) ?_;refine V1 ?_
    first
    | exact ak (i+1,d+1) tR ⟨⟨dO,dO,dO,E⟩,Hm⟩ dO
    | exact ak (i+1,d) tR ⟨⟨dO,dO,dO,E⟩,Hm⟩ dO
  rw[zaj oM]at hne;have hnu: ∀y∈g.wh++g.cols.flatMap (·.steps),y.kind=1->(yG d).id≠y.n:=λy hy hk e=>hne y.n (by rw[hus];exact uQ.2 ⟨y,hy,hk,rfl⟩) e.symm;have Cx:JF (co++[yG d]) g:=⟨N.fit,by rw[zad,hcl];show n+1<=12;omega,N.outs,N.wh,N.st⟩;refine Nz (qL (gP Hm At4) oM) (λx17 wo _ Ho ki=>?_);refine Mv ?_;refine Vb (aG ⟨4,false⟩) ?_;refine Vv (ah.build (out:=aL (yG d)) (bQ.one rfl rfl rfl sM rfl (bQ.many rfl rfl (zbd rfl) rfl bQ.nil))) (Bs Ho ([yG d].flatMap aL) (λbs wp Hq kj=>?_));refine eH Hq (news:=[yG d]) At0 kJ kM (dW (λ_=>rfl) _) (h:=?_);intro K wq Hs;have Hs:Mw.Sep w noB [aY 50 7 aL K (co++[yG d]),dB t.1 t.2,nJ (.slice A r.length Q) r R,y7 (agg [.slice W g.wh.length G,.slice Z g.cols.length e2,I g.group]) g,aY 50 7 aL (.slice O co.length a) co,blk P [.slice W g.wh.length G,.slice Z g.cols.length e2,I g.group] 32] wq:=Hs.aJ.bN;refine V2 ?_;refine aM (λi:Nat=>[(0,.slice O co.length a),(4,aC P),(7,.slice A r.length Q),(8,t.1),(9,I (fI co g R).2),(14,I d),(17,K),(18,I i)]) (λi w'=>i<=co.length/\Mw.Sep w noB [aY 50 7 aL K (co++[yG d]),dB t.1 t.2,nJ (.slice A r.length Q) r R,y7 (agg [.slice W g.wh.length G,.slice Z g.cols.length e2,I g.group]) g,aY 50 7 aL (.slice O co.length a) co,blk P [.slice W g.wh.length G,.slice Z g.cols.length e2,I g.group] 32] w') (λi _=>co.length-i) 0 tR ⟨zai _,Hs⟩ (λi τ wr hI=>?_)
  obtain⟨hi2,Ht⟩:=hI;refine Lp ?_;refine Cz (λIk=>?_) (λIk=>?_)
  . have aku:i<co.length:=oM
    obtain⟨c,T⟩:=aN aku;refine V2 ?_;refine Vv (ah.fT (l:=co) rfl rfl (eF Ht At4) aku) (Vv (ah.oO rfl (eF Ht At4) oM) ?_);refine Vv (ah.yh (i:=i) (f:=0) rfl (eF Ht At4) T rfl) (Cz (λIl=>?_) (λIl=>?_))
    . refine Kz (nY (V _ Ht.au)) (λws Hu kk=>?_)
      refine V1 ?_;exact⟨rfl,Hu.au⟩
    refine V3 ?_;exact ak (i+1) tR ⟨oM,Ht⟩ oM
  refine V2 ?_;have Hn:=Sep.iX (bU Ht) 25 2 aD;refine aM (λx:Nat×Value×List fH=>[(0,.slice O co.length a),(4,aC P),(7,.slice A r.length Q),(8,t.1),(9,I (fI co g R).2),(17,K),(19,x.2.1),(20,I x.1)]) (λx w'=>(x.1<=r.length/\x.2.2.map (·.2)=xL (R.take x.1) (o9 x.1)/\∀y∈R.take x.1,co.length=y.row.length)/\Mw.Sep w noB [aY 25 2 aD x.2.1 (aW x.2.2),lW x.2.2,nJ (.slice A r.length Q) r R,aY 50 7 aL K (co++[yG d]),dB t.1 t.2,y7 (agg [.slice W g.wh.length G,.slice Z g.cols.length e2,I g.group]) g,aY 50 7 aL (.slice O co.length a) co,blk P [.slice W g.wh.length G,.slice Z g.cols.length e2,I g.group] 32] w') (λx _=>r.length-x.1) (0,.slice none 0 0,[]) tR ⟨⟨zai _,rfl,λy hy=>zas hy zal⟩,Hn.bB.bB.eZ.eZ.eZ⟩ (λx τ wt hI=>?_);obtain⟨i,v19,L⟩:=x;obtain⟨⟨hi3,D,hrw⟩,Hv⟩:=hI;dsimp only at hi3 D hrw Hv;refine Lp ?_;refine Cz (λIm=>?_) (λIm=>?_)
  . have M:i<r.length:=oM
    obtain⟨o,ho⟩:=aN (show i<R.length from oM);obtain⟨x,J⟩:=aN M;obtain⟨xv,xn⟩:=x;have hN:=Sep.dh Hv At2;obtain⟨X,cX,hxv,_,_⟩:=hN.2.2 i _ o J ho;dsimp only at hxv;subst hxv
    have hxw:xn=o.w:=by
      have:=zay (λz=>z[i]?) hN.2.1;simp only[zbw,J,ho,zdk]at this;injection this
    have arO:=hqr o (zag ho);refine V2 ?_;refine Vv (ah.fT rfl rfl (bJ (Sep.dh Hv At2).1) M) (Vv (ah.oO rfl (bJ (Sep.dh Hv At2).1) oM) ?_);refine Vv (ah.dY (i:=i) (f:=0) rfl (Sep.aI _) (bJ (Sep.dh Hv At2).1) J rfl) (Cz (λIn=>?_) (λIn=>?_))
    . refine Kz (nY (V _ Hv.au)) (λwu Hx kl=>?_)
      refine V1 ?_;exact⟨rfl,Hx.au⟩
    have EO:co.length=o.row.length:=by have h:=In;omega
    refine Dz (λS wv Hy=>?_);refine F7 (List.replicate 12 true++[false]++List.replicate 5 true++List.replicate 4 false) [(17,false),(16,true),(15,true),(14,true),(13,true),(0,true)] (λz:Value×Nat=>[(0,.slice O co.length a),(4,aC P),(7,.slice A r.length Q),(8,t.1),(9,I (fI co g R).2),(17,K),(19,v19),(20,I i),(130,v19),(136,z.1),(141,.slice (some ⟨z.2,0,none⟩) 1 1),(146,adr A (i*2+1)),(147,I xn)]) (λz w'=>Mw.Sep w noB [blk z.2 ([mV i].flatMap aj) 48,aY 48 3 aj z.1 o.row,aY 25 2 aD v19 (aW L),lW L,nJ (.slice A r.length Q) r R,aY 50 7 aL K (co++[yG d]),dB t.1 t.2,y7 (agg [.slice W g.wh.length G,.slice Z g.cols.length e2,I g.group]) g,aY 50 7 aL (.slice O co.length a) co,blk P [.slice W g.wh.length G,.slice Z g.cols.length e2,I g.group] 32] w') ?_ ?_
    . rintro⟨y,bs⟩ τ ww Hz
      dsimp only at Hz ⊢;refine gZ S 12 [(17,false),(16,true),(15,true),(14,true),(13,true),(0,true)] Hz (news:=[mV i]) At0 kJ kM (dW (λ_=>rfl) _) (h:=λv142 wy HA=>?_);obtain⟨Y,cY,rfl,_,_⟩:=Sep.bX HA At0;refine⟨(bE rfl kR (ah.dY (i:=i) (f:=1) rfl (Sep.aI _) (show Mw.Rd _ A aD 2 r from by first | exact bJ (Sep.dh HA At2).1 | exact bJ (Sep.dh HA At3).1 | exact bJ (Sep.dh HA At4).1) J rfl) rfl (av (av (av (av (av (dw))))))),?_⟩;refine Gb S 18 (aD (.slice Y (o.row++[mV i]).length cY,xn)) ?_;refine Gz S 19 _ HA ([(Value.slice Y (o.row++[mV i]).length cY,xn)].flatMap aD) (h:=λbs2 wz HB=>⟨sT,?_⟩)
      have apK:(aW L).length=i:=by
        have:=zay List.length D;rw[zae]at this;unfold aW;rw[zae,this];unfold xL;rw[List.length_zipWith,xV,zah];omega
      refine gZ S 20 _ HB (news:=[(Value.slice Y (o.row++[mV i]).length cY,xn)]) At1 kJ kM (λu hu=>zaz.1 (show([(Value.slice Y (o.row++[mV i]).length cY,xn)].flatMap aD).all Value.oneCell'=true from rfl) u hu) (h:=λv150 wD Hw=>?_);have Hp:=iO (x:=.slice Y (o.row++[mV i]).length cY) (o:=⟨o.row++[mV i],o.w⟩) Hw.aR.aJ;rw[hxw,show aW L++[(Value.slice Y (o.row++[mV i]).length cY,o.w)]=aW (L++[(Value.slice Y (o.row++[mV i]).length cY,(⟨o.row++[mV i],o.w⟩:aH))]) by unfold aW;rw[zan];rfl]at Hp;have HC:=Hp.aJ;have aoF:(L++[(Value.slice Y (o.row++[mV i]).length cY,(⟨o.row++[mV i],o.w⟩:aH))]).map (·.2)=xL (R.take (i+1)) (o9 (i+1)):=by rw[adx ho,zan,D];rfl
      refine⟨sT,?_⟩;refine rA S 21 _ (h:=⟨sT,?_⟩);refine V3 ?_;exact ak (i+1,v150,_) tR ⟨⟨dO,aoF,λy hy=>by
      rw[show R.take (i+1)=R.take i++[o] by rw[zaq,ho];rfl]at hy
      rcases zbh.1 hy with hy | hy
      . exact hrw y hy
      rw[zaw]at hy;rw[hy];exact EO⟩,HC⟩ dO
    intro K12;refine Gm S 0 ?_;refine V2 ?_;refine Gp S 3 rfl rfl (λ_=>(ah.fT rfl rfl (bJ (Sep.dh Hy At2).1) M)) (Gp S 4 rfl rfl (λ_=>(ah.oO rfl (bJ (Sep.dh Hy At2).1) oM)) ?_);refine Gl S 5 rfl rfl (ah.dY (i:=i) (f:=0) rfl (Sep.aI _) (bJ (Sep.dh Hy At2).1) J rfl) (Gm S 7 ?_);refine Gp S 8 rfl rfl (λ_=>(ah.NV (b:=4) rfl rfl oM)) (Gp S 9 rfl rfl (λ_=>(ah.qP (l:=[120,121,122]) (i:=i%4) rfl rfl (by show i%4<=3;omega))) ?_);refine Gb S 10 (aj (mV i)) ?_;refine Gm S 13 ?_;refine V1 ?_;refine Gp S 15 rfl rfl (λ_=>(ah.fT rfl rfl (bJ (Sep.dh Hy At2).1) M)) (Gp S 16 rfl rfl (λ_=>(ah.oO rfl (bJ (Sep.dh Hy At2).1) oM)) ?_);refine Gl S 17 rfl rfl (ah.dY (i:=i) (f:=1) rfl (Sep.aI _) (bJ (Sep.dh Hy At2).1) J rfl) (jw S (e1:=6) (e2:=11) kR ?_ ?_)
    . refine jS S 6 [(17,false),(16,true),(15,true),(14,true),(13,true),(10,true),(9,true),(8,true),(7,true),(0,true)] Hy (lV (l:=o.row) (by first | exact(Sep.dh Hy At2).2.2 i _ o J ho | exact(Sep.dh Hy At3).2.2 i _ o J ho) oM) (h:=λy wE _ HD km=>⟨(bE rfl kR (ah.dY (i:=i) (f:=1) rfl (Sep.aI _) (show Mw.Rd _ A aD 2 r from by first | exact bJ (Sep.dh HD At2).1 | exact bJ (Sep.dh HD At3).1 | exact bJ (Sep.dh HD At4).1) J rfl) rfl (av (av (av (av (av (av (av (av (av (dw))))))))))),?_⟩)
      refine Gz S 11 [(17,false),(16,true),(15,true),(14,true),(13,true),(0,true)] HD ([mV i].flatMap aj) (h:=λbs wF HE=>⟨(bE rfl kR (ah.dY (i:=i) (f:=1) rfl (Sep.aI _) (show Mw.Rd _ A aD 2 r from by first | exact bJ (Sep.dh HE At2).1 | exact bJ (Sep.dh HE At3).1 | exact bJ (Sep.dh HE At4).1) J rfl) rfl (av (av (av (av (av (dw))))))),?_⟩);exact K12 (_,bs) _ _ tR HE rfl
    refine dX S 11 [(17,false),(16,true),(15,true),(14,true),(13,true),(5,false),(4,true),(3,true),(2,true),(1,true),(0,true)] Hy (xs:=[.tmp 140]) (out:=[mV i].flatMap aj) (dI.many rfl rfl dI.nil) rfl rfl rfl (h:=λbs wG HF=>⟨(bE rfl kR (ah.dY (i:=i) (f:=1) rfl (Sep.aI _) (show Mw.Rd _ A aD 2 r from by first | exact bJ (Sep.dh HF At2).1 | exact bJ (Sep.dh HF At3).1 | exact bJ (Sep.dh HF At4).1) J rfl) rfl (av (av (av (av ((bE rfl kR (ah.dY (i:=i) (f:=0) rfl (Sep.aI _) (show Mw.Rd _ A aD 2 r from by first | exact bJ (Sep.dh HF At2).1 | exact bJ (Sep.dh HF At3).1 | exact bJ (Sep.dh HF At4).1) J rfl) rfl (av (av (av (av (av (dw))))))))))))),?_⟩);refine dF S 6 [(17,false),(16,true),(15,true),(14,true),(13,true),(0,true)] HF (lV (l:=o.row) (by first | exact(Sep.dh HF At2).2.2 i _ o J ho | exact(Sep.dh HF At3).2.2 i _ o J ho) oM) (h:=λy wH _ HG kn=>⟨(bE rfl kR (ah.dY (i:=i) (f:=1) rfl (Sep.aI _) (show Mw.Rd _ A aD 2 r from by first | exact bJ (Sep.dh HG At2).1 | exact bJ (Sep.dh HG At3).1 | exact bJ (Sep.dh HG At4).1) J rfl) rfl (av (av (av (av (av (dw))))))),?_⟩);exact K12 (_,bs) _ _ tR HG.aJ rfl
  have hiR:i=R.length:=oM;rw[hiR,zbo]at D hrw;refine V3 ?_;have hmL:=agy (l:=R);refine Nz (xU (l:=xL R (o9 R.length)) Cx (gP Hv At3) (Sep.dh Hv At5) (D▸cZ Hv.aZ At0) (agx hqf) oM (V _ Hv.au)) (λx21 wI amn HH ko=>?_)
  rw[VQ hnu hrw (λe he=>by
    obtain⟨j,_,rfl⟩:=zav.1 he;exact adw d j) (xV _).symm]at amn |-
  refine Sz (λSc=>?_) (λSc=>?_)
  . refine Kz (FR (hx8▸cZ HH At5) (amn▸cZ HH At0)) (λwJ HI kp=>?_)
    refine Sz (λSd=>?_) (λSd=>?_)
    . refine On (Kz (nY (V _ HI.au)) (λwK HJ kq=>?_))
      refine V2 ?_;exact⟨rfl,HJ.au⟩
    exact aB Sd
  exact aB Sc
end Go.Proofs.Mw
