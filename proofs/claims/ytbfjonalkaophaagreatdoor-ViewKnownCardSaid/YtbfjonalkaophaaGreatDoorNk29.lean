/-
 The document's view:items made,and told;walked.
-/
import Derived.Test.YtbfjonalkaophaaGreatDoorNk28
set_option linter.all false
set_option maxRecDepth 4000
namespace Go.Proofs.Mw
open Go.Lib Go.Proofs.Tryz
attribute [local irreducible] FW FL FG FGn jX lg gD l7 Qfn ah
def afY {g:Int} {n:Nat} {T:List aH} (h: ¬g<0):(dP g n T).2=KT g.toNat (n-g.toNat) (T.map (fV g.toNat)):=by
 unfold dP KT;rw[zab h,zgm];simp only[Function.comp_def]
 split
 .rfl
 split<;>rfl
variable {w:Wd}
variable {cv iv ov pv v wv:Value} {l:List aH}
def TN {b:Nat} {E:Td} {cols:List bF} {p:aU} {q:List (L8×Value)} (hb:iB w b (tO cv wv pv p.group ov iv) E) (hc:aP w cv aL 7 cols) (hP:oI w wv pv q p) (hl:dM w v l) (R:bY p.wh) (Q: ∀o∈p.cols,bY o.steps) (hn:p.cols.length<=100) (V: ∀x∈l,dQ x) (hln:l.length<=1000):
    aX prog 63 [aC b,v] w λu F=>∃x:Value×List fH,u=.tuple #[x.1,I (bL cols p l).2]/\x.2.map (·.2)=(bL cols p l).1/\cO noB (dB x.1 x.2) w F:=by
  obtain⟨r,hr,j⟩:=hl;obtain⟨A,c,rfl,⟨hcA,aml⟩,N⟩:=hr;have EO:=j.len;have H:=Sep.aI w;refine dn func63 ?_;refine V4 ?_;refine aM (λx:(OA×Nat)×List fH×Nat=>[(0,aC b),(1,.slice A r.length c),(6,.slice x.1.1 (aW x.2.1).length x.1.2),(7,I x.2.2)]) (λx F=>(x.2.2<=r.length/\(bL cols p (l.take x.2.2)).2=0/\x.2.1.map (·.2)=(bL cols p (l.take x.2.2)).1)/\Mw.Sep w noB [aY 25 2 aD (.slice x.1.1 (aW x.2.1).length x.1.2) (aW x.2.1),lW x.2.1] F) (λx _=>r.length-x.2.2) ((none,0),[],0) tR ⟨⟨zai _,rfl,rfl⟩,Sep.gQ (bU H) 25 2⟩ (λx τ w6 hI=>?_);obtain⟨⟨X,cX⟩,L,i⟩:=x;obtain⟨⟨hi,hi0,a⟩,n⟩:=hI;dsimp only at hi hi0 a n
  have aoq:L.length<=i:=by
    have M:=zay List.length a;rw[zae]at M;have h2:=mP (cols:=cols) (p:=p) (l.take i);rw[zah]at h2;omega
  have hLr:(aW L).length=L.length:=zae _;refine Lp ?_;refine Cz (λIe=>?_) (λIe=>?_)
  . have C:i<r.length:=oM
    obtain⟨o,W⟩:=aN (l:=l) (show i<l.length from oM);have Y:=V o (zag W);obtain⟨vo,G,Z⟩:=j.get W;have S:l.take (i+1)=l.take i++[o]:=by rw[zaq,W,zct]
    have k:=Nk (x:=o) hi0;rw[<-S]at k;obtain⟨d,D⟩: ∃d,d=gI cols p o.row:=⟨_,rfl⟩;rw[<-D]at k;refine V3 ?_;refine Vv (ah.fT rfl rfl N C) (V1 ?_);refine Vv (ah.dY (f:=0) rfl (Sep.aI _) (N.aK n.au) G rfl) (Nz (afX (hb.aK n.au) (hc.aK n.au) (hP.aK n.au) (Z.aK n.au) Y.2 R Q hn) (λxv wa _ t ka=>?_));rw[<-D]at t ⊢;obtain⟨e,g,rfl,_,_⟩:=Sep.bX t At0;refine Cz (λK=>?_) (λK=>?_)
    . rw[zac K]at k
      have Ig:=K;have z:(bL cols p (l.take (i+1))).2≠0:=by rw[k];exact Ig
      have s:=Nl (m:=l.drop (i+1)) z;rw[zbs,k]at s;refine V3 ?_;exact⟨(.slice none 0 0,[]),by rw[s];rfl,by rw[s];rfl,(Sep.gQ (bU t) 25 2).aZ.first.bf⟩
    rw[zab K]at k;refine O1 ?_;refine Qn (Cd rfl (λO=>?_) (λO=>?_))
    . rw[zac O]at k
      refine V4 ?_;refine Vv (ah.fT rfl rfl N C) (V1 ?_);refine Vv (ah.dY (f:=1) rfl (Sep.aI _) (N.aK t.au) G rfl) (Vb (aD (.slice e d.1.length g,o.w)) ?_);refine Bs t ([(Value.slice e d.1.length g,o.w)].flatMap aD) (λbq wb Hb kb=>?_);refine eH Hb (news:=[(Value.slice e d.1.length g,o.w)]) At1 kJ kM (λu hu=>zaz.1 (show([(Value.slice e d.1.length g,o.w)].flatMap aD).all Value.oneCell'=true from rfl) u hu) (h:=?_);intro v47 wc J;obtain⟨X2,P,rfl,_,_⟩:=Sep.bX J At1
      have y:aW L++[(Value.slice e d.1.length g,o.w)]=aW (L++[(Value.slice e d.1.length g,⟨d.1,o.w⟩)]):=by
        unfold aW;rw[zan];rfl
      refine V2 ?_;refine Vc ((i+1:Nat):Int) ?_;refine V1 ?_;have M:=(iO (x:=.slice e d.1.length g) (o:=⟨d.1,o.w⟩) (J.aR.aJ)).aJ;rw[y]at M;exact ak ((X2,P),L++[(.slice e d.1.length g,⟨d.1,o.w⟩)],i+1) ⟨rfl,rfl,by rw[<-y];rfl,rfl,trivial⟩ ⟨⟨dO,by dsimp only;rw[k],by dsimp only;rw[k,zan,a];rfl⟩,M⟩ dO
    rw[zab (by rw[O];decide),zbt]at k;refine V3 ?_;exact ak ((X,cX),L,i+1) tR ⟨⟨dO,by dsimp only;rw[k],by dsimp only;rw[k];exact a⟩,t.bN⟩ dO
  have T:l.take i=l:=zaj oM;rw[T]at hi0 a;refine V3 ?_;exact⟨(_,L),by rw[hi0];rfl,a,n.aZ.bf⟩
theorem Nq {b:Nat} {E:Td} {p:aU} {q:List (L8×Value)} {T:List aH} (hb:iB w b (tO cv wv pv p.group ov iv) E) (hP:oI w wv pv q p) (hl:dM w v T) (hnm:1<=p.cols.length/\p.cols.length<=16/\ -1<=p.group/\p.group<=p.cols.length) (s: ∀o∈T,Bu p.cols.length o) (hTn:T.length<=100):
    aX prog 65 [aC b,v] w λu w'=>∃x:Value×List fH,u=.tuple #[x.1,I (dP p.group p.cols.length T).2]/\x.2.map (·.2)=(dP p.group p.cols.length T).1/\cO noB (dB x.1 x.2) w w':=by
  have hl0:=hl;obtain⟨r,hr,L⟩:=hl;obtain⟨A,c,rfl,⟨hcA,aml⟩,hA⟩:=hr;have EO:=L.len;obtain⟨hw,hq,S⟩:=hP;obtain⟨Q,cq,rfl,_,_⟩:=hq;have hql:=S.len;have H:=Sep.aI w;refine dn func65 ?_;refine V6 ?_;refine eP (hb.aK H.au) (h:=?_);refine Cz (λIe=>?_) (λIe=>?_)
  . have hg:p.group<0:=Ie
    have K:dP p.group p.cols.length T=dJ T:=by unfold dP;rw[zac hg]
    refine Nz (BI (hl0.aK H.au) oM (λo j=>(s o j).1) (λo j=>by rw[(s o j).2.1];omega)) (λy wa C Ha ka=>?_);refine V4 ?_;exact⟨y,by rw[K];rfl,by rw[K];exact C,Ha.bf⟩
  have hg: ¬p.group<0:=Ie;have hgn:(p.group.toNat:Int)=p.group:=zcv oM;have hte:=afY (n:=p.cols.length) (T:=T) hg;refine V5 ?_;refine eP (hb.aK H.au) (h:=?_);refine V2 ?_;refine Vc ((p.cols.length-p.group.toNat:Nat):Int) ?_;refine aO (Zd p.group ((p.cols.length-p.group.toNat:Nat):Int)) rfl rfl (λv' wb hv=>?_);obtain⟨bg,rfl,P,F1,Y,F⟩:=hv.2 ⟨oM,oM,oM,oM⟩;have Hb:=H.new P Y (λb hb=>(F b hb).resolve_left id);rw[zdv]at Hb;refine V7 ?_;refine aM (λx:(OA×Nat)×List xA×Nat=>[(1,.slice A r.length c),(6,I p.group),(7,aC bg),(9,.slice x.1.1 x.2.1.length x.1.2),(10,I x.2.2)]) (λx w'=>(x.2.2<=r.length/\x.2.1.map (·.2.2)=(T.take x.2.2).map (fV p.group.toNat)/\zh w x.2.1)/\Mw.Sep w noB [aY 180 3 qE (.slice x.1.1 x.2.1.length x.1.2) x.2.1,blk bg (zi p.group.toNat (p.cols.length-p.group.toNat) (.slice none 0 0)) 252] w') (λx _=>r.length-x.2.2) ((none,0),[],0) tR ⟨⟨zai _,rfl,λz D=>zas D zal⟩,Sep.iX Hb 180 3 qE⟩ (λx τ wc hI=>?_);obtain⟨⟨X,cX⟩,Z,i⟩:=x;obtain⟨⟨hi,d,O⟩,Hc⟩:=hI;dsimp only at hi d O Hc
  have hZl:Z.length=i:=by
    have a:=zay List.length d;rw[zae,zae,zah]at a;omega
  refine Lp ?_;refine Cz (λIf=>?_) (λIf=>?_)
  . have R:i<r.length:=oM
    obtain⟨o,j⟩:=aN (l:=T) (show i<T.length from oM);have hoo:=s o (zag j);have hol:=hoo.2.1;obtain⟨vo,hvo,J⟩:=L.get j;have aou:=J;obtain⟨V,M,rfl,⟨hcv,aok⟩,_⟩:=aou;obtain⟨z,D⟩: ∃z:xA,z=(.slice V p.group.toNat M,.slice (if M=p.group.toNat then V else V.map (·.add (p.group.toNat*3))) (o.row.length-p.group.toNat) (M-p.group.toNat),fV p.group.toNat o):=⟨_,rfl⟩
    have aov:zh w (Z++[z]):=λy C=>by
      rcases zbh.1 C with C | C
      . exact O y C
      rw[zaw]at C;subst C;rw[D];refine⟨?_,Xb J oM⟩;have h2:=Db (m:=p.group.toNat) J oM;have h3:(o.row.take p.group.toNat).length=p.group.toNat:=by rw[zah];omega
      exact h2
    have hzm:(Z++[z]).map (·.2.2)=(T.take (i+1)).map (fV p.group.toNat):=by rw[zan,d,zaq,j,D,zan];rfl
    refine Dz (λSa wd Hd=>?_);refine V3 ?_;refine GS (Gn rfl (λ_=>ah.fT rfl rfl hA R) ?_);refine V1 ?_;refine GS (Gt rfl (ah.dY (f:=0) rfl (Sep.aI _) (hA.aK Hd.au) hvo rfl) ?_);refine V1 ?_;refine GS (Gn rfl (λ_=>ah.sliceTo (h:=p.group.toNat) rfl (by rw[hgn];rfl) oM) ?_);refine V2 ?_;refine GS (Gn rfl (λ_=>ah.fT rfl rfl hA R) ?_);refine V1 ?_;refine GS (Gt rfl (ah.dY (f:=0) rfl (Sep.aI _) (hA.aK Hd.au) hvo rfl) ?_);refine V1 ?_;refine GS (Gn rfl (λ_=>ah.sliceFrom (l:=p.group.toNat) rfl (by rw[hgn];rfl) oM) ?_);refine V2 ?_;refine GS (Gn rfl (λ_=>ah.fT rfl rfl hA R) ?_);refine V1 ?_;refine GS (Gt rfl (ah.dY (f:=1) rfl (Sep.aI _) (hA.aK Hd.au) hvo rfl) ?_);refine Gp Sa 20 rfl rfl (λ_=>ah.build (out:=qE z) (by subst D;exact(bQ.one rfl rfl rfl sM rfl (bQ.one rfl rfl rfl sM rfl (bQ.one rfl rfl rfl sM rfl bQ.nil))))) (Gz Sa 21 _ Hd ([z].flatMap qE) (h:=λbs we He=>⟨sT,?_⟩));refine gZ Sa 22 _ He (news:=[z]) At0 kJ kM (by subst D;exact(λu hu=>zaz.1 (show([_].flatMap qE).all Value.oneCell'=true from rfl) u hu)) (h:=λv65 wf Hf=>?_);obtain⟨X2,cX2,rfl,_,_⟩:=Sep.bX Hf At0;refine⟨sT,?_⟩;refine rA Sa 23 _ (h:=⟨sT,?_⟩);refine V3 ?_;exact ak ((X2,cX2),Z++[z],i+1) tR ⟨⟨dO,hzm,aov⟩,Hf⟩ dO
  have Gq:i=T.length:=oM;rw[Gq,zbo]at d
  have hzo: ∀z∈Z,∃o∈T,z.2.2=fV p.group.toNat o:=λz D=>by
    have a:z.2.2∈Z.map (·.2.2):=zdj D;rw[d]at a;obtain⟨o,j,e⟩:=zav.1 a;exact⟨o,j,e.symm⟩
  refine V2 ?_;obtain⟨F0,hpF,hS0,hQ0,W⟩:=Sep.BA Hc At0;have hK0: ∀w1,aS F0 _ w1->aS noB w w1:=λw1 a=>Mw.aS.into Hc.au hS0 a
  refine aO (TJ (Z:=Z) hpF (λw1 a=>by obtain⟨Fq,h2⟩:=hQ0 w1 a;exact nH h2) (λw1 a=>O.aK (hK0 w1 a)) oM oM (λz D=>by
      obtain⟨o,j,e⟩:=hzo z D;rw[e];exact⟨(s o j).1,λc hc=>((s o j).2.2 c (zeq hc)).1⟩) oM) rfl rfl (λv' wg hv'=>?_)
  obtain⟨xo,gv,G,rfl,hG,P,F1,Y,F⟩:=hv';rw[d]at hG ⊢;rw[<-hte]at hG ⊢;have Hg:=(W _ F1 _ P Y F).bN.bW;refine Cz (λIg=>?_) (λIg=>?_)
  . have Ih:=Ig
    have hb1:=VA Ih;refine V3 ?_;exact⟨(.slice none 0 0,[]),rfl,by rw[hb1];rfl,(Sep.gQ (bU Hg) 25 2).aZ.first.bf⟩
  have t:(dP p.group p.cols.length T).2=0:=Decidable.of_not_not Ig;have N:=hG t;have K:=jJ hg t;refine V1 ?_
  have hgl:G.length<=100:=by
    have a:=zay List.length N;rw[zae]at a;unfold aeY at a;rw[zae]at a;have h2:=zo (T.map (fV p.group.toNat));rw[zae]at h2;omega
  have hgs: ∀g∈G,g.2.2.1.length<=400/\g.2.2.2.length<=400:=λg hg2=>by
    have a:g.2.2∈G.map (·.2.2):=zdj hg2;rw[N]at a;obtain⟨k,hk,e⟩:=zav.1 a;obtain⟨x,hx,e2⟩:=(oV _).1 hk;have h3:=lT ((jQ hg).1 t).1 x hx;rw[<-e];exact⟨by dsimp only;rw[<-e2];omega,by dsimp only;rw[lQ];omega⟩
  refine Nz (WW (Hg.obj At0) (Sep.dh Hg At1).1 (Sep.dh Hg At1).2 oM hgs) (λy wh C Hh kb=>?_);rw[N,ab4 (lT ((jQ hg).1 t).1)]at C;refine V2 ?_;exact⟨y,by rw[t];rfl,by rw[K];exact C,Hh.first.bf⟩
def adh (e:isZ l) (k: ∀x∈l,x.w=1):tN (-1) l=(yu l,0):=by
 have c:(l.map λx=>(⟨x.row, -1*x.w⟩:aH))=yu l:=zcu λx h=>by rw[k x h];rfl
 have a:(l.all λx=>bM (-1*x.w))=true:=zaz.2 λx h=>by rw[k x h];decide
 unfold tN;rw[zac (yO e),zac a,c,zeu.2];intro x h;unfold yu at h;obtain⟨y,d,rfl⟩:=zav.1 h;have f:=k y d;exact zau dO
def ah4 (c:isZ l) (a: ∀x∈l,x.w=1):isZ (yu l):=by
 refine⟨?_,λx h=>?_,λx h=>?_⟩
 .have e:(yu l).map (·.row)=l.map (·.row):=by unfold yu;rw[zdn];rfl
  rw[e];exact c.1
 .unfold yu at h
  obtain⟨y,k,rfl⟩:=zav.1 h;dsimp only;rw[a y k];decide
 unfold yu at h;obtain⟨y,k,rfl⟩:=zav.1 h;dsimp only;rw[a y k];decide
def Nr {sums:Nat} {E:List bT}: ∀x∈mE sums E,x.w=1:=λx h=>by
 unfold mE at h;obtain⟨k,_,rfl⟩:=zav.1 h;rfl
def Ns {keys sums:Nat} {E:List bT} (h: ∀x∈E,x.key.length=keys): ∀x∈mE sums E,x.row.length=keys+(sums+1):=λx a=>by
 unfold mE at a;obtain⟨k,c,rfl⟩:=zav.1 a;obtain⟨y,d,rfl⟩:=ql.1 (zca.1 c).1;unfold abp;dsimp only;rw[zad,zae,zdu,h y d]
def QI: ∀E:List bT,(sw E).length<=E.length
 | []=>zbk _
 | x::E=>by
  have h:=QI E;have k:=MW x.key (sw E);rw[sw,zat];omega
def Nt {sums:Nat} {E:List bT}:(mE sums E).length<=E.length:=by
 unfold mE;rw[zae];exact zcl (zee _ _) (QI E)
def uM {p:aU} (h:fK w (agg [wv,pv,I p.group]) p): ∃r,oI w wv pv r p:=by
 obtain⟨d,v,e,k,r,a,c⟩:=h;injection e with e
 simp at e;obtain⟨rfl,rfl⟩:=e;exact⟨r,k,a,c⟩
def BM (w:Wd) (cv wv pv ov:Value) (rI:List (Value×Int)) (cols:List bF) (p:aU) (J:List aH):Prop:=(aP w cv aL 7 cols/\fK w (agg [wv,pv,I p.group]) p/\aP w ov aL 7 (bD cols p).1)/\gM w rI J
structure Zr where
 cv:Value
 wv:Value
 pv:Value
 ov:Value
 iv:Value
 rI:List (Value×Int)
def om (b:Nat) (cols:List bF) (p:aU) (J:List aH):HP:=exH λz:Zr=>dx (blk b (tO z.cv z.wv z.pv p.group z.ov z.iv) 73) (dx (aY 25 2 aD z.iv z.rI) (fA λw=>BM w z.cv z.wv z.pv z.ov z.rI cols p J))
variable {w0:Wd} {S:NP} {rs:List HP} {b:Nat} {cols:List bF} {p:aU} {J:List aH}
def rR {r:List (Value×Int)} (H:Mw.Sep w0 S (blk b (tO cv wv pv p.group ov iv) 73::aY 25 2 aD iv r::fA (λw=>BM w cv wv pv ov r cols p J)::rs) w):Mw.Sep w0 S (om b cols p J::rs) w:=
 Sep.tZ (p:=λz:Zr=>dx (blk b (tO z.cv z.wv z.pv p.group z.ov z.iv) 73) (dx (aY 25 2 aD z.iv z.rI) (fA λw=>BM w z.cv z.wv z.pv z.ov z.rI cols p J))) ⟨cv,wv,pv,ov,iv,r⟩ (H.aR.aR.aZ.aJ.aZ)
def vR (H:Mw.Sep w0 S (om b cols p J::rs) w): ∃(c k h o iv:Value) (r:List (Value×Int)),Mw.Sep w0 S (blk b (tO c k h p.group o iv) 73::aY 25 2 aD iv r::fA (λw=>BM w c k h o r cols p J)::rs) w:=by
 obtain⟨⟨c,k,h,o,iv,r⟩,a⟩:=Sep.ex0 H;exact⟨c,k,h,o,iv,r,a.bW.aJ.bW.aR⟩
variable {F:NP}
def aa1 {vc vp:Value} (N:aP w vc aL 7 cols) (z:cols.length<=1000) (Q:fK w vp p) (hn:p.cols.length<=100) (D:p.wh.length<=1000) (x: ∀o∈p.cols,o.steps.length<=1000):
    aX prog 19 [vc,vp] w λu T=>∃i:Value,u=.tuple #[i,I (bD cols p).2]/\aS noB w T/\((bD cols p).2≠0->i=.pointer none)/\((bD cols p).2=0->∃b:Nat,i=aC b/\cO noB (om b cols p []) w T):=by
  have g:=Q;obtain⟨vw,vq,rfl,hw,r,hr,R⟩:=Q;obtain⟨W,t,rfl,_,_⟩:=id hw;obtain⟨A,m,rfl,_,_⟩:=id hr;have H:=Sep.aI w;refine dn func19 ?_;refine Sr (bK H (cs:=[.slice W p.wh.length t,.slice A r.length m,I p.group]) rfl (h:=λX w2 j k1=>?_));refine V3 ?_;refine gF j (cs:=[.slice W p.wh.length t,.slice A r.length m,I p.group]) (h:=?_);refine Nz (acB (N.aK j.au) (g.aK j.au)) (λvo w8 _ G k7=>?_);obtain⟨O,co,rfl,_,_⟩:=Sep.bX G At0;refine Cz (λs=>?_) (λs=>?_)
  . have V:=s
    refine V3 ?_;exact⟨_,rfl,G.au,λ_=>rfl,λh=>zas h V⟩
  have f:(bD cols p).2=0:=Decidable.of_not_not s;refine Dz (λS wa l=>?_);refine V1 ?_;refine gY S 2 l (h:=?_);refine Gm S 4 ?_;refine dF S 1 [(4,true),(2,false)] l (qL (N.aK l.au) z) (h:=λy wb _ n ka=>?_);obtain⟨Y,e,rfl,_,_⟩:=Sep.bX n At0;refine⟨sU,?_⟩;refine dF S 3 _ n (afi (g.aK n.au) hn D x) (h:=λy wc _ K kb=>?_);have v:fK _ y p:=Sep.dh K At0;obtain⟨wv,i,rfl,E,q,C,_⟩:=v;obtain⟨d,k,rfl,_,_⟩:=E;obtain⟨P,c,rfl,_,_⟩:=C;refine⟨sT,?_⟩;refine Gp S 5 rfl rfl (λ_=>(ah.build (out:=tO (.slice Y cols.length e) (.slice d p.wh.length k) (.slice P q.length c) p.group (.slice O (bD cols p).1.length co) (.slice none 0 0)) (bQ.one rfl rfl rfl sM rfl (bQ.many rfl rfl (zbd rfl) rfl (bQ.one rfl rfl rfl (zbd rfl) rfl bQ.nil))))) (M4 S 6 _ K (cs:=tO (.slice Y cols.length e) (.slice d p.wh.length k) (.slice P q.length c) p.group (.slice O (bD cols p).1.length co) (.slice none 0 0)) rfl rfl (h:=λb wd L=>⟨sT,?_⟩));refine V2 ?_;have F:Mw.Sep w noB [blk b (tO (.slice Y cols.length e) (.slice d p.wh.length k) (.slice P q.length c) p.group (.slice O (bD cols p).1.length co) (.slice none 0 0)) 73,y7 (agg [.slice d p.wh.length k,.slice P q.length c,I p.group]) p,aY 50 7 aL (.slice Y cols.length e) cols,aY 50 7 aL (.slice O (bD cols p).1.length co) (bD cols p).1,blk X [.slice W p.wh.length t,.slice A r.length m,I p.group] 32] wd:=by first | exact L | exact L.aR.aJ
  have J:=dz (dz F At2) At3;have h2:=Sep.jN (Z:=λw=>aP w (.slice Y cols.length e) aL 7 cols/\fK w (agg [.slice d p.wh.length k,.slice P q.length c,I p.group]) p) (J.aJ.aR) (λw a b=>⟨a,b⟩);have M:=Sep.jN (Z:=λw=>BM w (.slice Y cols.length e) (.slice d p.wh.length k) (.slice P q.length c) (.slice O (bD cols p).1.length co) [] cols p []) (h2.aR.aJ) (λw a b=>⟨⟨a.1,a.2,b⟩,gM.nil⟩);exact⟨_,by rw[f];rfl,M.au,λh=>zas f h,λ_=>⟨b,rfl,(rR ((Sep.iX M 25 2 aD).aR)).first.bf⟩⟩
def QJ (C:(om b cols p J).ok F w) (i:(bD cols p).2=0) (l:bY p.wh) (j: ∀o∈p.cols,bY o.steps) (v:(bL cols p J).2=0) (r:lG p (bL cols p J).1) (f: ∀x∈J,dQ x) (A:J.length<=100):
    aX prog 29 [aC b] w λu E=>∃x:Value×List fH,u=x.1/\x.2.map (·.2)=(dP p.group p.cols.length (bL cols p J).1).1/\cO F (dx (dB x.1 x.2) (om b cols p J)) w E:=by
  obtain⟨M,W,Q,P,iv,D,H⟩:=vR (Sep.dA C);have m:=nE i;refine dL func29 ?_;refine V5 ?_;refine eP (H.obj At0) (h:=?_);have k:=Sep.dh H At2;obtain⟨q,g⟩:=uM k.1.2.1;refine Nz (TN (H.obj At0) k.1.1 g ⟨D,gP H At1,k.2⟩ l j oM f oM) (λy T s d N=>?_);obtain⟨X,K⟩:=y;dsimp only at s d ⊢;refine V7 ?_;have e:=Sep.dh d At3;obtain⟨R,c⟩:=uM e.1.2.1;have a:=cZ d At0;rw[s]at a;refine Nz (Nq (d.obj At1) c a m r.items r.few) (λz V t n O=>?_);obtain⟨G,L⟩:=z;dsimp only at t n ⊢;refine V7 ?_;exact⟨(G,L),rfl,t,((rR (n.aJ.bN.bB.bB.bB)).aJ.aZ.first).bf⟩
def nJ (v:Value) (r:List (Value×Int)) (l:List aH):HP:=fA λw=>aP w v aD 2 r/\gM w r l
section
variable {w w0:Wd} {S:NP} {rs:List HP} {put:HP->List HP}
def Ez {L:List fH} (H:Mw.Sep w0 S rs w) (k:At rs (dB v L) put):Mw.Sep w0 S (put (nJ v (aW L) (L.map (·.2)))) w:=Sep.look H k λ_ _ h=>by
 obtain⟨F,d,_,_,a,c⟩:=h;exact⟨nH a,vD c⟩
end
set_option maxHeartbeats 1000000 in
theorem QK (hp:(om b cols p J).ok F w) (hl: ∀w1,aS F w w1->dM w1 v l) (hck:(bD cols p).2=0) (hfw:bY p.wh) (O: ∀o∈p.cols,bY o.steps) (hJ0:(bL cols p J).2=0) (s:lG p (bL cols p J).1) (hJf: ∀x∈J,dQ x) (hlf: ∀x∈l,dQ x) (hlr: ∀x∈l,x.row.length<=1000) (hn:J.length+l.length<=100):
    aX Tryz.prog 25 [aC b,v] w λu w'=>∃x:Value×List fH,u=.tuple #[x.1,I (dN cols p (bL cols p J).1 l).2]/\x.2.map (·.2)=(dN cols p (bL cols p J).1 l).1/\cO F (dx (dB x.1 x.2) (om b cols p (if(dN cols p (bL cols p J).1 l).2=0 then J++l else J))) w w':=by
  obtain⟨cv,wv,pv,ov,iv,r,H⟩:=vR (Sep.dA hp);have hnm:=nE hck;obtain⟨T,hT⟩: ∃T,T=(bL cols p J).1:=⟨_,rfl⟩;rw[<-hT]at s ⊢;have hTn:T.length<=J.length:=by rw[hT];exact mP J
  obtain⟨IV,cI,rfl,_,_⟩:=Sep.bX H At1;obtain⟨m,hm⟩: ∃m,m=(bL cols p l).1:=⟨_,rfl⟩;have hmn:m.length<=l.length:=by rw[hm];exact mP l
  have Q: ∀o∈m,Bu p.cols.length o:=by rw[hm];exact y5 O hlf
  have hTm: ∀o∈T++m,Bu p.cols.length o:=λo j=>(zbh.1 j).elim (s.items o) (Q o);refine dn Tryz.func25 ?_;refine V6 ?_;refine eP (H.obj At0) (h:=?_);have M:=Sep.dh H At2;obtain⟨q,hPA⟩:=uM M.1.2.1;refine Nz (TN (H.obj At0) M.1.1 hPA ⟨r,gP H At1,M.2⟩ hfw O oM hJf oM) (λy w9 hy K k8=>?_);obtain⟨yv,Ly⟩:=y;rw[<-hT]at hy;dsimp only at hy K ⊢;have K:=Ez K At0;rw[hy]at K;refine V7 ?_;have hF1:=Sep.dh K At3;obtain⟨q1,aow⟩:=uM hF1.1.2.1;refine Nz (TN (K.obj At1) hF1.1.1 aow (hl _ K.au) hfw O oM hlf oM) (λz wa hz t ka=>?_);obtain⟨zv,L⟩:=z;rw[<-hm]at hz;dsimp only at hz t ⊢;obtain⟨ZV,cz,rfl,_,_⟩:=Sep.bX t.bW At0;have t:=Ez t At0;rw[hz]at t;refine Cz (λIe=>?_) (λIe=>?_)
  . have If:=Ie
    have d:dN cols p T l=([],(bL cols p l).2):=by unfold dN;rw[zac If]
    refine V3 ?_;exact⟨(.slice none 0 0,[]),by rw[d];rfl,by rw[d];rfl,by
    rw[d,zab If];exact(Sep.gQ (bU (rR (t.bN.bN)).first) 25 2).aZ.aZ.bf⟩
  have hi0:(bL cols p l).2=0:=Decidable.of_not_not Ie;have d:dN cols p T l=iL p.group p.cols.length T m:=by unfold dN;rw[zab (λh=>h hi0),hm]
  refine V1 ?_;have hTI:dM wa yv T:=⟨_,(Sep.dh t At1).1,(Sep.dh t At1).2⟩;refine Nz (DX hTI oM (λo j=>by rw[(s.items o j).2.1];omega)) (λy wb N Y kb=>?_);obtain⟨cv2,Lc⟩:=y;dsimp only at N Y ⊢;have Y:=Y.bW;have ara:(aW Lc).length=T.length:=by unfold aW;rw[zae,<-N,zae]
  have arb:(aW L).length=m.length:=by unfold aW;rw[zae,<-hz,zae]
  refine Mv ?_;have aox: ∀u∈(aW L).flatMap aD,u.oneCell'=true:=uE (Sep.dh Y At2).2;refine Qc (v:=cv2) (k:=(aW Lc).length) (m:=(aW L).length) (c:=cz) (xs:=(aW Lc).flatMap aD) (news:=(aW L).flatMap aD) (A:=ZV) Y rfl rfl At0 (bJ (Sep.dh Y At2).1) aox (h63:=by unfold maxLen;omega) (hbytes:=by omega) (h:=?_);intro v41 wc C;rw[<-zbu,<-zad]at C;have C:Mw.Sep w F (aY 25 2 aD v41 (aW Lc++aW L)::_) wc:=C;refine V3 ?_
  have ad8:gM wc (aW Lc++aW L) (T++m):=by
    have h1:=oG C At1;rw[N]at h1;exact h1.app (Sep.dh C At2).2
  have hF2:=Sep.dh C At6;obtain⟨q2,aoy⟩:=uM hF2.1.2.1;refine Nz (Nq (C.obj At4) aoy ⟨_,gP C At0,ad8⟩ hnm hTm I6) (λz wd XM i kc=>?_);obtain⟨nv,Ln⟩:=z;dsimp only at XM i ⊢;have i:=i.aJ.bN.aJ.bN;refine Cz (λIg=>?_) (λIg=>?_)
  . have Ih:=Ig
    have e:iL p.group p.cols.length T m=([],(dP p.group p.cols.length (T++m)).2):=by unfold iL;rw[zac Ih]
    refine V3 ?_;exact⟨(.slice none 0 0,[]),by rw[d,e];rfl,by rw[d,e];rfl,by
    rw[d,e,zab Ih];exact(Sep.gQ (bU (rR (i.bN.bN.bN)).first) 25 2).aZ.aZ.bf⟩
  have g:(dP p.group p.cols.length (T++m)).2=0:=Decidable.of_not_not Ig;refine O1 ?_;refine Qn (dU (λx:Value×List fH=>[(0,aC b),(1,v),(13,x.1)]) (λx w'=>(x.2.map (·.2)=(iL p.group p.cols.length T m).1/\(iL p.group p.cols.length T m).2=0)/\Mw.Sep w F [dB x.1 x.2,blk b (tO cv wv pv p.group ov (.slice IV r.length cI)) 73,aY 25 2 aD (.slice IV r.length cI) r,fA λw=>BM w cv wv pv ov r cols p J] w') ?_ ?_)
  . refine V4 ?_
    refine eP (i.obj At3) (h:=?_);refine Vl ?_;refine Cz (λIi=>?_) (λIi=>?_)
    . have G:p.group<0:=Ii
      have e:iL p.group p.cols.length T m=dJ m:=by unfold iL;rw[zab (λh=>h g),zac G]
      refine V1 ?_;have hmI:dM wd (.slice ZV (aW L).length cz) m:=⟨_,(Sep.dh i At1).1,(Sep.dh i At1).2⟩;refine Nz (BI hmI oM (λo j=>(Q o j).1) (λo j=>by rw[(Q o j).2.1];omega)) (λz we f He kd=>?_);obtain⟨xv,Lx⟩:=z;rw[<-e]at f ⊢;dsimp only at f He ⊢;refine Cz (λIj=>?_) (λIj=>?_)
      . have Ik:=Ij
        have hmb:=VB Ik;refine V3 ?_;exact⟨(.slice none 0 0,[]),by rw[d];rfl,by rw[d,hmb];rfl,by
        rw[d,zab Ik];exact(Sep.gQ (bU (rR (He.bN.bN.bN.bN)).first) 25 2).aZ.aZ.bf⟩
      have P:(iL p.group p.cols.length T m).2=0:=Decidable.of_not_not Ij;refine V2 ?_;exact aA (xv,Lx) tR ⟨⟨f,P⟩,He.aJ.bN.aJ.bN.aJ.bN⟩
    have G: ¬p.group<0:=Ii;have e:iL p.group p.cols.length T m=dJ ((dP p.group p.cols.length (T++m)).1++yu (dP p.group p.cols.length T).1):=by unfold iL;rw[zab (λh=>h g),zab G]
    have P:(iL p.group p.cols.length T m).2=0:=by rw[Yr G s.tell,g]
    have V:=jJ G s.tell;have R:=jJ G g;have hkT:=lT ((jQ G).1 s.tell).1;have hkM:=lT ((jQ G).1 g).1;have hzT:isZ (dP p.group p.cols.length T).1:=Br s.tell;have hzM:isZ (dP p.group p.cols.length (T++m)).1:=Br g;have n: ∀x∈(dP p.group p.cols.length T).1,x.w=1:=by rw[V];exact Nr
    have h1M: ∀x∈(dP p.group p.cols.length (T++m)).1,x.w=1:=by rw[R];exact Nr
    have hrT: ∀x∈(dP p.group p.cols.length T).1,x.row.length<=1000:=by rw[V];exact λx f=>by rw[Ns hkT x f];omega
    have hrM: ∀x∈(dP p.group p.cols.length (T++m)).1,x.row.length<=1000:=by rw[R];exact λx f=>by rw[Ns hkM x f];omega
    have hlT:(dP p.group p.cols.length T).1.length<=100:=by
      rw[V];have:=Nt (sums:=p.cols.length-p.group.toNat) (E:=T.map (fV p.group.toNat));rw[zae]at this;dsimp only;omega
    have hlM:(dP p.group p.cols.length (T++m)).1.length<=100:=by
      rw[R];have:=Nt (sums:=p.cols.length-p.group.toNat) (E:=(T++m).map (fV p.group.toNat));rw[zae,zad]at this;dsimp only;omega
    refine V2 ?_;have hF3:=Sep.dh i At5;obtain⟨q3,aoz⟩:=uM hF3.1.2.1;have aoA:dM wd yv T:=⟨_,(Sep.dh i At2).1,(Sep.dh i At2).2⟩;refine Nz (Nq (i.obj At3) aoz aoA hnm s.items s.few) (λz wf j Hf ke=>?_);obtain⟨ov2,Lo⟩:=z;dsimp only at j Hf ⊢;refine V6 ?_;have hoI:=cZ Hf At0;rw[j]at hoI;refine Nz (ajB hoI oM (λo h=>by rw[n o h];exact⟨dC,dC⟩) hrT) (λz wg W Hg kf=>?_);obtain⟨tv,Lt⟩:=z;rw[adh hzT n]at W;dsimp only at W Hg ⊢;refine V7 ?_;have hnI:=cZ Hg At2;rw[XM]at hnI;have htI:=cZ Hg At0;rw[W]at htI
    have hnw: ∀o∈yu (dP p.group p.cols.length T).1,cB o.w/\o.row.length<=1000:=λo h=>by
      unfold yu at h;obtain⟨x,f,rfl⟩:=zav.1 h;exact⟨by dsimp only;rw[n x f];exact⟨dC,dC⟩,hrT x f⟩
    refine Nz (ahS hnI htI oM (by unfold yu;rw[zae];omega) (λo h=>by rw[h1M o h];exact⟨dC,dC⟩) (λo h=>(hnw o h).1) hrM (λo h=>(hnw o h).2)) (λz wi f Hh kg=>?_);obtain⟨xv,Lx⟩:=z;rw[Tx hzM (ah4 hzT n),show Uu (dP p.group p.cols.length (T++m)).1 (yu (dP p.group p.cols.length T).1)=iL p.group p.cols.length T m from e.symm]at f;dsimp only at f Hh ⊢;refine V4 ?_;exact aA (xv,Lx) tR ⟨⟨f,P⟩,Hh.aJ.bN.aJ.bN.aJ.bN.aJ.bN.aJ.bN⟩
  rintro⟨xv,Lx⟩ τ wj hI;obtain⟨⟨hx1,hx2⟩,Hi⟩:=hI;dsimp only at hx1 Hi;refine Lp ?_;refine Dz (λSa wk Hj=>?_);refine V6 ?_;refine dF Sa 6 [(4,false),(3,true),(2,true),(1,true),(0,true)] Hj (DX (hl _ Hj.au) oM hlr) (h:=λy wl hk D kh=>?_);obtain⟨kv,S⟩:=y;dsimp only at hk D;have D:=D.bW;obtain⟨KV,ck,rfl,_,_⟩:=Sep.bX D At0;refine⟨sL,?_⟩;have hrk:=oG D At1;rw[hk]at hrk;have aro:(aW S).length=l.length:=by unfold aW;rw[zae,<-hk,zae]
  have arp:r.length=J.length:=(Sep.dh D At5).2.len;refine agb Sa 7 [(0,true)] (v:=.slice IV r.length cI) (k:=r.length) (m:=(aW S).length) (c:=ck) (xs:=r.flatMap aD) (news:=(aW S).flatMap aD) (A:=KV) D (bJ (gP D At0)) (uE hrk) kS oM (hat:=At4) (h:=λv90 wm Hl=>?_);rw[<-zbu,<-zad]at Hl;obtain⟨IX,cX,rfl,_,_⟩:=Sep.bX (l:=r++aW S) (enc:=aD) (k:=2) Hl At4;refine⟨sT,?_⟩;refine V2 ?_;refine mJ Sa 10 _ Hl (h:=λwn Hm=>⟨sT,?_⟩);refine V3 ?_;exact⟨(xv,Lx),by rw[d,hx2];rfl,by rw[d];exact hx1,by
  rw[d,zac hx2];have h1:=Sep.look Hm.bN At0 (X:=λw=>gM w (aW S) l) (λF w h=>by have:=vD h;rw[hk]at this;exact this);have h2:=Sep.jN (Z:=λw=>BM w cv wv pv ov (r++aW S) cols p (J++l)) (h1.eZ) (λw a b=>⟨a.1,a.2.app b⟩);exact((rR (h2.bB.bB)).aJ.aZ.first).bf⟩
def QL {cols:List bF} {p:aU} (k:(bL cols p J).2=0):eU cols p (bL cols p J).1 l=(bL cols p (if(dN cols p (bL cols p J).1 l).2=0 then J++l else J)).1:=by
 unfold eU
 split
 .rename_i h
  rw[zY k (sG h).1]
 rfl
def adi (k:(bL cols p J).2=0):(bL cols p (if(dN cols p (bL cols p J).1 l).2=0 then J++l else J)).2=0:=by
 split
 .rename_i h
  rw[zY k (sG h).1]
 exact k
def Zt {vc vp:Value} (hc:aP w vc aL 7 cols) (X:cols.length<=1000) (hp:fK w vp p) (hl:dM w v l) (C:bY p.wh) (e: ∀o∈p.cols,bY o.steps) (hn:p.cols.length<=100) (hw1:p.wh.length<=1000) (V: ∀o∈p.cols,o.steps.length<=1000) (g: ∀x∈l,dQ x) (S: ∀x∈l,x.row.length<=1000) (i:l.length<=100):
    aX prog 34 [vc,vp,v] w λu w'=>∃x:Value×List fH,u=.tuple #[x.1,I (fI cols p l).2]/\x.2.map (·.2)=(fI cols p l).1/\cO noB (dB x.1 x.2) w w':=by
  have F:=hp;obtain⟨vw,vq,rfl,hw,r,hr,ad8⟩:=hp;obtain⟨W,cw,rfl,_,_⟩:=id hw;obtain⟨A,m,rfl,_,_⟩:=id hr;have H:=Sep.aI w;refine uU func34 ?_;refine Sr (bK H (cs:=[.slice W p.wh.length cw,.slice A r.length m,I p.group]) rfl (h:=λb4 w2 t k1=>?_));refine V3 ?_;refine gF t (cs:=[.slice W p.wh.length cw,.slice A r.length m,I p.group]) (h:=?_);refine aO (aa1 (hc.aK t.au) X (F.aK t.au) hn hw1 V) rfl rfl (λv' w8 G=>?_);obtain⟨pv,rfl,Z,_,T⟩:=G
  have D:(bD cols p).2=0->∃b:Nat,pv=aC b/\Mw.Sep w noB (om b cols p []::_) w8:=λh=>by
    obtain⟨b,rfl,f,F1,q,s⟩:=T h;exact⟨b,rfl,t.new f q (λb T=>(s b T).resolve_left id)⟩
  have H8:=t.aK Z;refine Cz (λN=>?_) (λN=>?_)
  . have If:=N
    have d:fI cols p l=([],(bD cols p).2):=by unfold fI;rw[zac If]
    refine V3 ?_;exact⟨(.slice none 0 0,[]),by rw[d];rfl,by rw[d];rfl,(Sep.gQ (bU H8) 25 2).aZ.first.bf⟩
  have k:(bD cols p).2=0:=Decidable.of_not_not N;obtain⟨b,rfl,Ha⟩:=D k;refine V2 ?_;obtain⟨F0,J,R,j⟩:=Ha.bG At0;have Q: ∀K,aS F0 _ K->aS noB w K:=λK P=>Mw.aS.into Ha.au R P;refine aO (QK J (λK P=>hl.aK (Q K P)) k C e rfl (holds_nil p) (λx hx=>zas hx zal) g S (by simpa using i)) rfl rfl (λv' wa G=>?_);obtain⟨x,rfl,hx,f,F1,q,s⟩:=G;have M:=j _ F1 _ f q s;rw[show(bL cols p []).1=([]:List aH)from rfl]at hx M ⊢;refine Cz (λO=>?_) (λO=>?_)
  . have Ih:=O
    have d:fI cols p l=([],(dN cols p [] l).2):=by unfold fI;rw[zab (λh=>h k),zac Ih]
    refine V3 ?_;exact⟨(.slice none 0 0,[]),by rw[d];rfl,by rw[d];rfl,(Sep.gQ (bU M) 25 2).aZ.first.bf⟩
  have c:(dN cols p [] l).2=0:=Decidable.of_not_not O;have d:fI cols p l=((dP p.group p.cols.length (eU cols p [] l)).1,0):=by unfold fI;rw[zab (λh=>h k),zab (λh=>h c)]
  have z:eU cols p [] l=(bL cols p l).1:=by unfold eU;rw[zac c];rfl
  refine V1 ?_;have a:=l5 (cols:=cols) (holds_nil p) e g (by simpa using i);rw[z]at a;have L:=M.bW;rw[zac c,zby]at L;obtain⟨F2,E,hS2,n⟩:=L.bG At1;refine aO (QJ E k C e (sG c).1 a g i) rfl rfl (λv' wb G=>?_);obtain⟨y,rfl,hy,Y,F3,hq2,hs2⟩:=G;have L:=n _ F3 _ Y hq2 hs2;refine V2 ?_;exact⟨y,by rw[d];rfl,by rw[d,z];exact hy,L.aJ.bW.first.bf⟩
def ah5 {T l want:List aH} {e:Int} {X:Value} (M:(j4 b cols p T).ok F w) (L:Aq w F v l) (A: ∀h,aS F w h->dM h X want) (K: ∀h,aS F w h->gK h) (g:(bD cols p).2=0) (j:bY p.wh) (i: ∀o∈p.cols,bY o.steps) (z:lG p T) (n: ∀x∈l,dQ x) (q:l.length<=100):
    aX prog 41 [aC b,I e,v,X] w λu P=>u=.bool (decide ((dN cols p T l).1=want)&&decide ((dN cols p T l).2=e))/\cO F (j4 b cols p (eU cols p T l)) w P:=by
  have H:=Sep.dA M;refine yM func41 ?_;refine V3 ?_;obtain⟨E,s,f,k⟩:=H.bG At0;have c: ∀h,aS E _ h->aS F w h:=λh a=>Mw.aS.into H.au f a;obtain⟨r,N⟩:=L;refine aO (Jz s ⟨r,λh a=>N h (c h a)⟩ (λh a=>K h (c h a)) g j i z n q) rfl rfl (λR V z=>?_);obtain⟨x,rfl,O,m,G,t,y⟩:=z;have C:=(k _ G _ m t y).bW;refine V7 ?_;have d:=cZ C At0;rw[O]at d;refine Kz (qx d (A _ C.au)) (λW D Q=>?_);refine Mv ?_;refine Sz (λS=>?_) (λS=>?_)
  . refine V5 ?_
    exact⟨by simp_all[fU],D.bN.bf⟩
  refine V2 ?_;exact⟨by simp_all[fU],D.bN.bf⟩
variable {v1:Value} {n1:Int} {r1:List aF}
def jF (H:Mw.Sep w0 S (blk b ([(v1,n1)].flatMap aD) 25::aY 48 3 aj v1 r1::rs) w):Mw.Sep w0 S (nJ (.slice (some ⟨b,0,none⟩) 1 1) [(v1,n1)] [⟨r1,n1⟩]::rs) w:=by
 have h:=rJ (x:=v1) (o:=⟨r1,n1⟩) ((Jb H).aR);have c:=dz (l:=[(v1,n1)]) (enc:=aD) (k:=2) (Sep.nC (n:=1) (s:=2) h.aJ At0 rfl dC) At0;exact Sep.jN c λw a b=>⟨a,b⟩
def jk {v:Value} {d:Int} {r:List aF} (H:Mw.Sep w0 S (blk b ([(v1,n1),(v,d)].flatMap aD) 25::aY 48 3 aj v r::aY 48 3 aj v1 r1::rs) w):Mw.Sep w0 S (nJ (.slice (some ⟨b,0,none⟩) 2 2) [(v1,n1),(v,d)] [⟨r1,n1⟩,⟨r,d⟩]::rs) w:=by
 have h:=rJ (x:=v1) (o:=⟨r1,n1⟩) ((Jb H).bB);have h:=rJ (x:=v) (o:=⟨r,d⟩) (h.aR);have c:=dz (l:=[(v1,n1),(v,d)]) (enc:=aD) (k:=2) (Sep.nC (n:=2) (s:=2) h.aJ At0 rfl dC) At0;exact Sep.jN c λw a b=>⟨a,b⟩
def uN {v f:Value} {d e:Int} {r g:List aF} (H:Mw.Sep w0 S (blk b ([(v1,n1),(v,d),(f,e)].flatMap aD) 25::aY 48 3 aj f g::aY 48 3 aj v r::aY 48 3 aj v1 r1::rs) w):Mw.Sep w0 S (nJ (.slice (some ⟨b,0,none⟩) 3 3) [(v1,n1),(v,d),(f,e)] [⟨r1,n1⟩,⟨r,d⟩,⟨g,e⟩]::rs) w:=by
 have h:=rJ (x:=v1) (o:=⟨r1,n1⟩) ((Jb H).eZ);have h:=rJ (x:=v) (o:=⟨r,d⟩) (h.bB);have h:=rJ (x:=f) (o:=⟨g,e⟩) (h.aR);have c:=dz (l:=[(v1,n1),(v,d),(f,e)]) (enc:=aD) (k:=2) (Sep.nC (n:=3) (s:=2) h.aJ At0 rfl dC) At0;exact Sep.jN c λw a b=>⟨a,b⟩
def Dg (H:Mw.Sep w0 S rs w):Mw.Sep w0 S (nJ (.slice none 0 0) [] []::rs) w:=Sep.pU H λw=>⟨mR _ _ _,gM.nil⟩
def xS {T li lw:List aH} {L K:List (Value×Int)} {e:Int} {M N:Value} (H:Mw.Sep w0 S (dx (nJ N K lw) (nJ M L li)::j4 b cols p T::rs) w) (D: ∀y,aS S w0 y->gK y) (i:(bD cols p).2=0) (l:bY p.wh) (j: ∀o∈p.cols,bY o.steps) (G:lG p T) (n: ∀x∈li,dQ x) (q:li.length<=100):
    aX prog 41 [aC b,I e,M,N] w λu v=>u=.bool (decide ((dN cols p T li).1=lw)&&decide ((dN cols p T li).2=e))/\Mw.Sep w0 S (j4 b cols p (eU cols p T li)::rs) v:=by
  obtain⟨z,r,g,c,a⟩:=Sep.BA H At0;have f: ∀h,aS z w h->aS S w0 h:=λh k=>Mw.aS.into H.au g k;refine aX.mono (ah5 (want:=lw) r ⟨L,λh k=>?_⟩ (λh k=>?_) (λh k=>D h (f h k)) i l j G n q) λu v E=>?_
  . obtain⟨C,F,A,_,_,_,d⟩:=c h k
    exact sJ d
  . obtain⟨C,F,A,_,_,d,_⟩:=c h k
    exact⟨K,(sJ d).1,(sJ d).2⟩
  obtain⟨rfl,m,F,s,t⟩:=E;exact⟨rfl,(a _ F _ m s t).bN⟩
def JA (h:Int):aX prog 38 [I h] w λu c=>∃x:Value,u=agg (aD (x,h))/\True/\cO noB (aY 48 3 aj x [iQ aV]) w c:=by
 have H:=Sep.aI w;refine pI func38 ?_;refine Az (λe i a f=>?_);refine Nx (Vb (aj (iQ aV)) ?_);refine Bs a ([iQ aV].flatMap aj) (λb j d g=>?_);refine Mv ?_;refine Vb (aD (.slice (some ⟨b,0,none⟩) 1 1,h)) ?_;refine Tz (λl k=>?_);refine V0 ?_;exact⟨_,gT k,_,rfl,trivial,(Sep.nC (n:=1) (s:=3) k At0 rfl dC).first.bf⟩
def nX (c:aF) (k a d:Int):aX prog 39 [agg (aj c),I k,I a,I d] w λu g=>∃x:Value,u=agg (aD (x,d))/\True/\cO noB (aY 48 3 aj x [c,vQ k,vQ a]) w g:=by
 have H:=Sep.aI w;refine aj1 func39 ?_;refine Sr (bK H (cs:=aj c) rfl (h:=λl t i o=>?_));refine Az (λm v e q=>?_);refine Nx (gF e (cs:=aj c) (h:=?_));refine Mv ?_;refine Vb (aj (vQ k)) ?_;refine Mv ?_;refine Vb (aj (vQ a)) ?_;refine Bs e ([c,vQ k,vQ a].flatMap aj) (λb y j r=>?_);refine Mv ?_;refine Vb (aD (.slice (some ⟨b,0,none⟩) 3 3,d)) ?_;refine Tz (λz f=>?_);refine V0 ?_;exact⟨_,gT f,_,rfl,trivial,(Sep.nC (n:=3) (s:=3) f At0 rfl dC).first.bf⟩
def JB {t:L8} (N:textOf p t=true) (a:(bD pQ p).2=0) (Q:p.wh.length<=100) (f: ∀o∈p.cols,o.steps.length<=100) (C:gK w):aX prog 40 [str t] w λu R=>∃b:Nat,u=aC b/\True/\cO noB (j4 b pQ p []) w R:=by
 obtain⟨M,⟨i,g⟩,O⟩:=zn N;have K:=nE a;have H:=Sep.aI w;refine dL func40 ?_;refine Nz (Er t (.inl oM) oM (C.aK H.au)) (λx T _ s Z=>?_);rw[M]at s ⊢;have d:fK T x p:=Sep.dh s At0;obtain⟨vw,vc,rfl,r,q,n,_⟩:=d;obtain⟨W,z,rfl,_,_⟩:=r;obtain⟨A,y,rfl,_,_⟩:=n;refine Az (λY wa D J=>?_);refine iF D (us:=[.slice W p.wh.length z,.slice A q.length y,I p.group]) (h:=λwb X=>?_);refine Dz (λS wc v=>?_);refine gY S 1 v (h:=?_);refine dF S 0 [(1,false)] v Ap (h:=λtv V _ c ka=>⟨sU,?_⟩);have k:fK V (agg [.slice W p.wh.length z,.slice A q.length y,I p.group]) p:=Sep.dh c At2;refine p8 S 2 [] rfl kR (Np (gP c At0) dC k i g oM oM (λo L=>by have:=f o L;omega) (C.aK c.au)) rfl kR kR (λv' we P=>?_);obtain⟨pv,rfl,G,_,e⟩:=P;obtain⟨b,rfl,j,F,l,m⟩:=e a;have E:=c.new j l (λb e=>(m b e).resolve_left id);refine⟨sT,?_⟩;refine V7 ?_;exact⟨b,rfl,trivial,E.first.bf⟩
end Go.Proofs.Mw
