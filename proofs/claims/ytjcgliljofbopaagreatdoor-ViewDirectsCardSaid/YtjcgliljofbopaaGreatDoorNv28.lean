/-
 Items put to a view,a view's rows;walked.
-/
import Derived.Test.YtjcgliljofbopaaGreatDoorNv27
set_option linter.all false
set_option maxRecDepth 4000
namespace Go.Proofs.Mw
open Go.Lib Go.Proofs.Tryz
attribute [local irreducible] FW FL FG FGn jK jO fI lU Qfn Gives
variable {cols:List bY} {p:aU} {l:List aH}
def NA {x:aH} (h:(dN cols p l).2=0):
    dN cols p (l++[x])=if(gK cols p x.row).2.2≠0 then([],(gK cols p x.row).2.2)else((dN cols p l).1++(if(gK cols p x.row).2.1=true then [⟨(gK cols p x.row).1,x.w⟩]else []),0):=by
  induction l with
  | nil=>
    show(if(gK cols p x.row).2.2≠0 then([],(gK cols p x.row).2.2)else if(0:Int)≠0 then([],0)else if(gK cols p x.row).2.1=true then([⟨(gK cols p x.row).1,x.w⟩],0)else(([]:List aH),0))=_
    split
    . rfl
    rw[zab dC]
    split<;>rfl
  | cons y l ih=>
    rw[dN]at h;rw[zcd,dN,dN]
    split at h
    . rename_i h1;exact zar h h1
    rename_i h1;rw[zab h1,zab h1]
    split at h
    . rename_i h2;exact zar h h2
    rename_i h2;rw[zab h2,ih (Decidable.of_not_not h2)]
    split
    . rename_i h3;first | rfl | rw[zac h3]
    rename_i h3;rw[zab (λh=>h rfl)]
    split<;>split<;>rfl
def NC {l m:List aH} (h:(dN cols p l).2≠0):dN cols p (l++m)=([],(dN cols p l).2):=by
 induction l with
 | nil=>exact zar rfl h
 | cons y l ih=>
  rw[dN]at h;rw[zcd,dN,dN]
  split at h
  .rename_i h1;rw[zac h1,zac h1]
  rename_i h1;rw[zab h1,zab h1]
  split at h
  .rename_i h2
   rw[zac h2,ih h2,zac h2]
  split at h<;>exact zar rfl h
structure pU (p:aU) (T:List aH):Prop where
 tell:(fq p.group p.cols.length T).2=0
 items: ∀o∈T,Bj p.cols.length o
 few:T.length<=100
def ajz {n:Nat} {o:aH} (h:Bj n o):gH o.row:=λc hc=>by
 have:=h.2.2 c hc;unfold El fits at this;exact⟨this.1,oM⟩
def Xt (b:Nat):vD prog 68 (ay b) "millstream/view.put" 316 (ay b):=λw=>kR
def Xu (b:Nat):vD prog 91 (ay b) "millstream/view.put" 357 (ay b):=λw=>kR
def Ub (b:Nat):vD prog 68 (ay b) "millstream/view.rows" 317 (ay b):=λw=>kR
def Uc (b:Nat):vD prog 91 (ay b) "millstream/view.rows" 358 (ay b):=λw=>kR
variable {w:Wd} {F:NP}
variable {T:List aH}
def ND {w0:Wd} {S:NP} {rs:List HP} {kv:Value} (H:Mw.Sep w0 S (sj kv p T::rs) w): ∃t b,kv=.iface t (ay b):=by
 unfold sj at H
 split at H
 .obtain⟨x,k⟩:=Sep.ex0 H
  obtain⟨h,_⟩:=Sep.tC k.bL;exact⟨_,_,h⟩
 obtain⟨x,k⟩:=Sep.ex0 H;obtain⟨h,_⟩:=Sep.tC k.bL;exact⟨_,_,h⟩
def ajA {kv v:Value} {T m:List aH} (hp:(sj kv p T).ok F w) (hm:zU w F v m) (hT: ∀w1,Kept F w w1->iB w1) (RJ:1<=p.cols.length/\p.cols.length<=16/\ -1<=p.group/\p.group<=p.cols.length) (hv:pU p T) (Yo: ∀o∈m,Bj p.cols.length o) (Gy:m.length<=100):
    ∃(t:Td) (b:Nat) (f:FuncId),kv=.iface t (ay b)/\vD prog t (ay b) "millstream/view.put" f (ay b)/\qm prog f/\aR prog f [ay b,v] w λu w'=>∃x:Value×List Held,u=.tuple #[x.1,I (jR p.group p.cols.length T m).2]/\x.2.map (·.2)=(jR p.group p.cols.length T m).1/\Turn F (star (dV x.1 x.2) (sj kv p (if(jR p.group p.cols.length T m).2=0 then T++m else T))) w w':=by
  have H:=Sep.bR hp;unfold sj at H
  by_cases hg:p.group<0
  . rw[zac hg]at H
    obtain⟨⟨b,tv⟩,k⟩:=Sep.ex0 H;obtain⟨rfl,S⟩:=Sep.tC k.bL;have hnT:(dh T).2=0:=by have:=hv.tell;unfold fq at this;rw[zac hg]at this;exact this
    have Dm:=agN (n:=p.cols.length) (m:=m) hg hnT;obtain⟨F0,vN,gV,aK⟩:=S.focus At0;have EK: ∀w1,Kept F0 w w1->Kept F w w1:=λw1 h1=>Mw.Kept.into (Kept.refl _ _) gV h1;refine⟨_,b,_,rfl,Xt b,eT,aR.mono (WY vN (λw1 h1=>hm.is w1 (EK w1 h1)) ?_ oM ?_ (λo ho=>(Yo o ho).1) ?_ (λo ho=>by rw[(Yo o ho).2.1];omega)) λu w' hu=>?_⟩
    . exact zda (Nc T) (by have:=hv.few;omega)
    . exact λo ho=>by have h:=zbd ((yj (l:=T)).2.2 o ho);unfold fits;omega
    . exact λo ho=>by obtain⟨q,hq,e⟩:=Jm ho;rw[<-e,(hv.items q hq).2.1];omega
    obtain⟨⟨x,kv2⟩,rfl,hx,hk,F1,hq,hs⟩:=hu;rw[Dm]at hx hq ⊢;dsimp only at hx hq ⊢;exact⟨x,rfl,hx,((xR hg ((aK _ F1 _ hk hq hs).bL.aG.bL)).aG.aQ).turn⟩
  rw[zab hg]at H;obtain⟨⟨b,bg,bh⟩,k⟩:=Sep.ex0 H;obtain⟨rfl,S⟩:=Sep.tC k.bL;obtain⟨F0,vN,gV,aK⟩:=S.focus At0;have EK: ∀w1,Kept F0 w w1->Kept F w w1:=λw1 h1=>Mw.Kept.into (Kept.refl _ _) gV h1;have hmg:=af4 (m:=m) hg hv.tell;have Dw:vO (p.cols.length-p.group.toNat) (T.map (eY p.group.toNat))=true:=((jS hg).1 hv.tell).2;have hm0:zU w F0 v m:=by obtain⟨r,hr⟩:=hm;exact⟨r,λw1 h1=>hr w1 (EK w1 h1)⟩
  refine⟨_,b,_,rfl,Xu b,eT,aR.mono (Pg vN hm0 (λw1 h1=>hT w1 (EK w1 h1)) oM oM (λo ho=>⟨(Yo o ho).1,by rw[(Yo o ho).2.1];omega,ajz (Yo o ho)⟩) Gy Dw) λu w' hu=>?_⟩;obtain⟨x,rfl,hx,hk,F1,hq,hs⟩:=hu;rw[hmg];refine⟨x,rfl,hx,((xS (b:=b) (bg:=bg) (bh:=bh) hg (T:=if(yF p.group.toNat (p.cols.length-p.group.toNat) (T.map (eY p.group.toNat)) (m.map (eY p.group.toNat))).2=0 then T++m else T) ?_).aG.aQ).turn⟩;have h1:=(aK _ F1 _ hk hq hs).bL.aG.bL
  have e:(if(yF p.group.toNat (p.cols.length-p.group.toNat) (T.map (eY p.group.toNat)) (m.map (eY p.group.toNat))).2=0 then T++m else T).map (eY p.group.toNat)=if(yF p.group.toNat (p.cols.length-p.group.toNat) (T.map (eY p.group.toNat)) (m.map (eY p.group.toNat))).2=0 then T.map (eY p.group.toNat)++m.map (eY p.group.toNat)else T.map (eY p.group.toNat):=by
    split
    . rw[zai]
    rfl
  rw[e];exact h1
def ag2 {kv:Value} (hp:(sj kv p T).ok F w) (RJ:1<=p.cols.length/\p.cols.length<=16/\ -1<=p.group/\p.group<=p.cols.length) (hv:pU p T):
    ∃(t:Td) (b:Nat) (f:FuncId),kv=.iface t (ay b)/\vD prog t (ay b) "millstream/view.rows" f (ay b)/\qm prog f/\aR prog f [ay b] w λu w'=>∃x:Value×List Held,u=x.1/\x.2.map (·.2)=(fq p.group p.cols.length T).1/\Turn F (star (dV x.1 x.2) (sj kv p T)) w w':=by
  have H:=Sep.bR hp;unfold sj at H
  by_cases hg:p.group<0
  . rw[zac hg]at H
    obtain⟨⟨b,tv⟩,k⟩:=Sep.ex0 H;obtain⟨rfl,S⟩:=Sep.tC k.bL;have e:fq p.group p.cols.length T=dh T:=by unfold fq;rw[zac hg]
    obtain⟨F0,vN,gV,aK⟩:=S.focus At0;refine⟨_,b,_,rfl,Ub b,eT,aR.mono (TV vN ?_ ?_) λu w' hu=>?_⟩
    . exact zda (Nc T) (by have:=hv.few;omega)
    . exact λo ho=>by obtain⟨q,hq,e⟩:=Jm ho;rw[<-e,(hv.items q hq).2.1];omega
    obtain⟨x,rfl,hx,hk,F1,hq,hs⟩:=hu;rw[e];exact⟨x,rfl,hx,((xR hg ((aK _ F1 _ hk hq hs).bL.aG.bL)).aG.aQ).turn⟩
  rw[zab hg]at H;obtain⟨⟨b,bg,bh⟩,k⟩:=Sep.ex0 H;obtain⟨rfl,S⟩:=Sep.tC k.bL;obtain⟨F0,vN,gV,aK⟩:=S.focus At0;refine⟨_,b,_,rfl,Uc b,eT,aR.mono (Nu vN (by rw[zaf];have:=hv.few;omega) (mE ((jS hg).1 hv.tell).1) oM) λu w' hu=>?_⟩;obtain⟨x,rfl,hx,hk,F1,hq,hs⟩:=hu;rw[jH hg hv.tell];exact⟨x,rfl,hx,((xS hg ((aK _ F1 _ hk hq hs).bL.aG.bL)).aG.aQ).turn⟩
variable {b:Nat}
def Xv {T:List aH} (hp:(qW b cols p T).ok F w) (dX:(bX cols p).2=0) (hv:pU p T):
    aR prog 13 [ay b] w λu w'=>∃x:Value×List Held,u=x.1/\x.2.map (·.2)=(fq p.group p.cols.length T).1/\Turn F (star (dV x.1 x.2) (qW b cols p T)) w w':=by
  obtain⟨z,kv,fv,o1,H⟩:=Nw (Sep.bR hp);obtain⟨t0,b0,rfl⟩:=ND H.aG;refine cK func13 ?_;refine Kz (Xn (H.obj At0) (.inr ⟨rfl,t0,_,rfl⟩)) (λ_ k _=>?_);refine Qn (Cd rfl (λS=>?_) (λS=>?_))
  . exact Bool.noConfusion S
  refine Zb3 ?_;refine dM (k.obj At0) (h:=?_);obtain⟨F0,vN,gV,aK⟩:=k.focus At1;obtain⟨t,bk,f,hkv,Lu,EG,qP⟩:=ag2 vN (qh dX) hv;refine XK (he:=EG) (vals:=[]) hkv Lu qP rfl rfl (λv' _ KZ=>?_);obtain⟨x,rfl,hx,lI,F1,lq,S⟩:=KZ;have k:=aK _ F1 _ lI lq S;refine Zb1 ?_;exact⟨x,rfl,hx,((yR (k.aG.bL.aX.aN.aX)).aG.aQ).turn⟩
variable {v:Value}
theorem Rc (hp:(qW b cols p T).ok F w) (hl:zU w F v l) (hT: ∀w1,Kept F w w1->iB w1) (dX:(bX cols p).2=0) (Ai:aZ p.wh) (vM: ∀o∈p.cols,aZ o.steps) (hv:pU p T) (Dl: ∀x∈l,fJ x) (Yi:l.length<=100):
    aR prog 12 [ay b,v] w λu w'=>∃x:Value×List Held,u=.tuple #[x.1,I (gP cols p T l).2]/\x.2.map (·.2)=(gP cols p T l).1/\Turn F (star (dV x.1 x.2) (qW b cols p (iP cols p T l))) w w':=by
  obtain⟨z,kv,fv,o1,H⟩:=Nw (Sep.bR hp);obtain⟨t0,b0,asu⟩:=ND H.aG;have RJ:=qh dX;obtain⟨r,hrr⟩:=hl;obtain⟨⟨A,c,rfl,⟨hc,hc'⟩,_⟩,Yt⟩:=hrr w (Kept.refl _ _);have zi:=Yt.len;refine bQ func12 ?_;refine Kz (Xn (H.obj At0) (.inr ⟨rfl,t0,_,asu⟩)) (λ_ k _=>?_);refine Qn (Cd rfl (λS=>?_) (λS=>?_))
  . exact Bool.noConfusion S
  refine Zb4 ?_;refine Vv (Gives.makeFunc (us:=[ay b]) (vs:=[]) rfl rfl) ?_;obtain⟨F0,vN,gV,aK⟩:=((k.aG).aN.aN.aQ).focus At0;refine aL (alV vN oM) rfl rfl (λv' _ KZ=>?_);obtain⟨gv,lI,F1,lq,S⟩:=KZ;have k:=(aK _ F1 _ lI lq S).bL;obtain⟨b1,bp,b4,rfl,_⟩:=(Sep.sees k At1).2;have k:=Sep.qF (Y:=λw=>lG w z cols p (bX cols p).1/\Ua w b b1 bp b4 p) k At1 (λw h=>⟨h.1,ad9 h.2⟩);refine Zb4 ?_;refine aI (λx:(OA×Nat)×List Held×Nat=>[(0,ay b),(6,.slice x.1.1 (aO x.2.1).length x.1.2),(20,.slice A r.length c),(21,I r.length),(22,I x.2.2)]) (λx w'=>(x.2.2<=r.length/\(dN cols p (l.take x.2.2)).2=0/\x.2.1.map (·.2)=(dN cols p (l.take x.2.2)).1)/\Mw.Sep w F [aY 39 2 aA (.slice x.1.1 (aO x.2.1).length x.1.2) (aO x.2.1),nU x.2.1,blk b (r9 z p.group kv 1 0 0 (Kn b1 bp b4)) 87,(fQ λw=>lG w z cols p (bX cols p).1/\Ua w b b1 bp b4 p),sj kv p T] w') (λx _=>r.length-x.2.2) ((none,0),[],0) tR ⟨⟨zak _,rfl,rfl⟩,Sep.fT (bD k) 39 2⟩ (λx τ _ hI=>?_);obtain⟨⟨X,cX⟩,LM,i⟩:=x;obtain⟨⟨hi,hi0,hLM⟩,k⟩:=hI;dsimp only at hi hi0 hLM k
  have asv:LM.length<=i:=by
    have h1:=zaw List.length hLM;rw[zaf]at h1;have h2:=rA (cols:=cols) (p:=p) (l.take i);rw[zah]at h2;omega
  have hLr:(aO LM).length=LM.length:=zaf _;refine Lp ?_;refine Cz (λa=>?_) (λa=>?_)
  . have aS:i<r.length:=oM
    obtain⟨o,ho⟩:=get_some (l:=l) (show i<l.length from oM);have Ls:=Dl o (zag ho);obtain⟨vo,zh,Dp⟩:=Yt.get ho
    have akw: ∀w1,Kept F w w1->aJ w1 vo ah 3 o.row:=λw1 h1=>by
      obtain⟨vo2,UU,amZ⟩:=(hrr w1 h1).2.get ho;rw[zh]at UU;injection UU with UU
      injection UU with e1 e2
      rw[e1];exact amZ
    obtain⟨V,cv,rfl,_,_⟩:=Dp;have xY:l.take (i+1)=l.take i++[o]:=by rw[zay,ho,zcw]
    have nu:=NA (x:=o) hi0;rw[<-xY]at nu;obtain⟨md,hmd⟩: ∃md,md=gK cols p o.row:=⟨_,rfl⟩;rw[<-hmd]at nu;refine Zb0 ?_;refine Vv (Gives.fF rfl rfl (eO (hrr _ k.kept).1) aS) (Vv (Gives.iH rfl (Sep.aF _) (eO (hrr _ k.kept).1) zh) ?_);refine Az (λb8 _ _ _=>?_);refine Tz (λ_ _=>?_);refine Dz (λa _ d=>?_);refine Zb6 ?_;obtain⟨pf,gw,gl,g1,⟨gbp,gpf⟩,⟨gb4,ggv⟩,ggl⟩:=(Sep.sees d At4).2;refine jU a 6 _ (y:=.tmp 30) (fs:=[]) (cs:=[ay b1,ay bp,ay b4]) (vals:=[.slice V o.row.length cv]) rfl (ag1 (cols:=cols) (p:=p) (r:=o.row) (b:=b) (E:=87) g1 gbp gpf gb4 ggv ggl (d.obj At3) (Sep.sees d At4).1.1 (akw _ d.kept) Ls.2 Ai vM oM (hT _ d.kept)) (h:=λv' _ KZ=>?_);obtain⟨xv,rfl,_,lI,F1,lq,S⟩:=KZ;have a:=d.new lI lq (λb hb=>(S b hb).resolve_left id);rw[<-hmd]at a ⊢;obtain⟨XR,cR,rfl,_,_⟩:=Sep.bJ a At0;refine⟨sT,?_⟩;refine Cz (λd=>?_) (λd=>?_)
    . rw[zac d]at nu
      have jN:(dN cols p (l.take (i+1))).2≠0:=by rw[nu];exact d
      have dJ:=NC (m:=l.drop (i+1)) jN;rw[zbs,nu]at dJ;have Pz:gP cols p T l=([],md.2.2):=by unfold gP;rw[dJ,zac d]
      have sZ:iP cols p T l=T:=by unfold iP;rw[Pz,zab d]
      refine Zb3 ?_;exact⟨(.slice none 0 0,[]),by rw[Pz];rfl,by rw[Pz];rfl,by
      rw[sZ];have h1:=Sep.qF (Y:=λw=>lG w z cols p (bX cols p).1/\(((1:Int)=0/\Kn b1 bp b4=.nilFunc)\/((1:Int)=1/\pR w b (Kn b1 bp b4) p))) a At5 (λw h=>⟨h.1,.inr ⟨rfl,_,_,_,rfl,h.2⟩⟩);exact(Sep.fT (bD (yR (h1.jY.jZ.jZ)).first) 39 2).aQ.aQ.turn⟩
    rw[zab d]at nu;refine Za1 ?_;refine Qn (Cd rfl (λd=>?_) (λd=>?_))
    . rw[zac d]at nu
      refine Zb4 ?_;refine Vb (aA (.slice XR md.1.length cR,o.w)) ?_;refine Bs a ([(Value.slice XR md.1.length cR,o.w)].flatMap aA) (λbq _ e _=>?_);refine dG e (news:=[(Value.slice XR md.1.length cR,o.w)]) At2 (by unfold maxLen;simp only[zae];omega) (by simp only[zae];omega) (λu hu=>zaz.1 (show([(Value.slice XR md.1.length cR,o.w)].flatMap aA).all Value.oneCell'=true from rfl) u hu) (h:=?_);intro v47 e e;obtain⟨X2,cX2,rfl,_,_⟩:=Sep.bJ e At2
      have Cj:aO LM++[(Value.slice XR md.1.length cR,o.w)]=aO (LM++[(Value.slice XR md.1.length cR,⟨md.1,o.w⟩)]):=by
        unfold aO;rw[zai];rfl
      refine Zb1 ?_;refine Vc ((i+1:Nat):Int) ?_;refine Zb1 ?_;have h1:=(iR (x:=.slice XR md.1.length cR) (o:=⟨md.1,o.w⟩) (e.aG.bH.aN.aG)).aG;rw[Cj]at h1;exact aj ((X2,cX2),LM++[(.slice XR md.1.length cR,⟨md.1,o.w⟩)],i+1) ⟨rfl,by rw[<-Cj];rfl,rfl,rfl,rfl,trivial⟩ ⟨⟨dO,by dsimp only;rw[nu],by dsimp only;rw[nu,zai,hLM];rfl⟩,h1⟩ dO
    rw[zab (by rw[d];decide),zbw]at nu;refine Zb0 ?_;refine Vc ((i+1:Nat):Int) ?_;refine Zb1 ?_;exact aj ((X,cX),LM,i+1) tR ⟨⟨dO,by dsimp only;rw[nu],by dsimp only;rw[nu];exact hLM⟩,a.bH.bH⟩ dO
  have jF:l.take i=l:=zaj oM;rw[jF]at hi0 hLM;have Pz:gP cols p T l=jR p.group p.cols.length T (dN cols p l).1:=by unfold gP;rw[zab (λh=>h hi0)]
  refine Zb3 ?_;refine dM (k.obj At2) (h:=?_);refine Mv ?_;have Yo: ∀o∈(dN cols p l).1,Bj p.cols.length o:=CO vM Dl;have Gy:(dN cols p l).1.length<=100:=zda (rA l) Yi;have e:=k.aQ;obtain⟨F0,vN,gV,hQ0,aK⟩:=Sep.Ja e At2;have EK: ∀w1,Kept F0 _ w1->Kept F w w1:=λw1 h1=>Mw.Kept.into e.kept gV h1
  obtain⟨t,bk,f,hkv,Lu,EG,qP⟩:=ajA (v:=.slice X (aO LM).length cX) (m:=(dN cols p l).1) vN ⟨aO LM,λw1 h1=>by
    obtain⟨Fq,F1,F2,_,_,g1,g2⟩:=hQ0 w1 h1;refine⟨nL g1,?_⟩;have:=yG g2;rw[hLM]at this;exact this⟩ (λw1 h1=>hT w1 (EK w1 h1)) RJ hv Yo Gy
  refine XK (he:=EG) (vals:=[.slice X (aO LM).length cX]) hkv Lu qP rfl rfl (λv' _ KZ=>?_);obtain⟨x,rfl,hx,lI,F1,lq,S⟩:=KZ;have e:=aK _ F1 _ lI lq S;rw[<-Pz]at hx e ⊢;refine Zb4 ?_;have h1:=Sep.qF (Y:=λw=>lG w z cols p (bX cols p).1/\(((1:Int)=0/\Kn b1 bp b4=.nilFunc)\/((1:Int)=1/\pR w b (Kn b1 bp b4) p))) e At2 (λw h=>⟨h.1,.inr ⟨rfl,_,_,_,rfl,h.2⟩⟩);exact⟨x,rfl,hx,((yR (h1.bH.aN.bL.aX.aN.aX)).aG.aQ).turn⟩
def holds_nil (p:aU):pU p []:=⟨by rw[afZ],λo ho=>zar ho zan,zak _⟩
def oK {cols:List bY} (hv:pU p T) (vM: ∀o∈p.cols,aZ o.steps) (Dl: ∀x∈l,fJ x) (hn:T.length+l.length<=100):pU p (iP cols p T l):=by
 refine⟨Wi hv.tell,λo ho=>?_,?_⟩
 .unfold iP at ho
  split at ho
  .rcases zbk.1 ho with ho | ho
   .exact hv.items o ho
   exact CO vM Dl o ho
  exact hv.items o ho
 unfold iP
 split
 .rw[zad]
  have:=rA (cols:=cols) (p:=p) l;omega
 omega
variable {vc vp:Value}
def Xw (hc:aJ w vc aP 7 cols) (LA:cols.length<=1000) (hp:gX w vp p) (Ai:aZ p.wh) (vM: ∀o∈p.cols,aZ o.steps) (hn:p.cols.length<=100) (Au:p.wh.length<=1000) (OP: ∀o∈p.cols,o.steps.length<=1000) (hT:iB w):
    aR Tryz.prog 11 [vc,vp] w λu w'=>∃pv:Value,u=.tuple #[pv,I (bX cols p).2]/\Kept noB w w'/\((bX cols p).2≠0->pv=.pointer none)/\((bX cols p).2=0->∃b:Nat,pv=ay b/\Turn noB (qW b cols p []) w w'):=
  aR.mono (ajy hc LA hp Ai vM hn Au OP hT) λu w' h=>by
    by_cases e:(bX cols p).2=0
    . obtain⟨b,rfl,ht⟩:=h.2 e
      exact⟨ay b,by rw[e],ht.1,λh=>zar e h,λ_=>⟨b,rfl,ht⟩⟩
    obtain⟨rfl,hk⟩:=h.1 e;exact⟨.pointer none,rfl,hk,λ_=>rfl,λh=>zar h e⟩
def pV {cols:List bY} {p:aU} {l:List aH} (hc:aJ w vc aP 7 cols) (LA:cols.length<=1000) (hp:gX w vp p) (hl:dI w v l) (Ai:aZ p.wh) (vM: ∀o∈p.cols,aZ o.steps) (hn:p.cols.length<=100) (Au:p.wh.length<=1000) (OP: ∀o∈p.cols,o.steps.length<=1000) (Dl: ∀x∈l,fJ x) (Yi:l.length<=100) (hT:iB w):
    aR Tryz.prog 5 [vc,vp,v] w λu w'=>∃x:Value×List Held,u=.tuple #[x.1,I (iQ cols p l).2]/\x.2.map (·.2)=(iQ cols p l).1/\Turn noB (dV x.1 x.2) w w':=by
  have eD:=hp;obtain⟨vw,vq,rfl,hw,r,hr,eF⟩:=hp;obtain⟨W,cw,rfl,_,_⟩:=id hw;obtain⟨A,m,rfl,_,_⟩:=id hr;obtain⟨q,hq,hqr⟩:=hl;have H:=Sep.aF w;refine AP Tryz.func5 ?_;refine Sr (bB H (cs:=[.slice W p.wh.length cw,.slice A r.length m,I p.group]) rfl (h:=λb4 _ k _=>?_));refine Zb3 ?_;refine fE k (cs:=[.slice W p.wh.length cw,.slice A r.length m,I p.group]) (h:=?_);refine aL (Xw (hc.keep k.kept) LA (eD.keep k.kept) Ai vM hn Au OP (hT.keep k.kept)) rfl rfl (λv' S hv=>?_);obtain⟨pv,rfl,bZ,_,hb⟩:=hv
  have am1:(bX cols p).2=0->∃b:Nat,pv=ay b/\Mw.Sep w noB (qW b cols p []::_) S:=λh=>by
    obtain⟨b,rfl,lI,F1,lq,S⟩:=hb h;exact⟨b,rfl,k.new lI lq (λb hb=>(S b hb).resolve_left id)⟩
  have a:=k.keep bZ;refine Cz (λk=>?_) (λk=>?_)
  . have c:=k
    have hd:iQ cols p l=([],(bX cols p).2):=by unfold iQ;rw[zac c]
    refine Zb3 ?_;exact⟨(.slice none 0 0,[]),by rw[hd];rfl,by rw[hd];rfl,(Sep.fT (bD a) 39 2).aQ.first.turn⟩
  have dX:(bX cols p).2=0:=Decidable.of_not_not k;obtain⟨b,rfl,c⟩:=am1 dX;refine Zb2 ?_;obtain⟨F0,vN,gV,aK⟩:=c.focus At0;have EK: ∀k,Kept F0 _ k->Kept noB w k:=λk h1=>Mw.Kept.into c.kept gV h1;refine aL (Rc vN ⟨q,λk h1=>⟨hq.keep (EK k h1),hqr.keep (EK k h1)⟩⟩ (λk h1=>hT.keep (EK k h1)) dX Ai vM (holds_nil p) Dl Yi) rfl rfl (λv' _ hv=>?_);obtain⟨x,rfl,hx,lI,F1,lq,S⟩:=hv;have k:=aK _ F1 _ lI lq S;refine Cz (λS=>?_) (λS=>?_)
  . have c:=S
    have hd:iQ cols p l=([],(gP cols p [] l).2):=by unfold iQ;rw[zab (λh=>h dX),zac c]
    refine Zb3 ?_;exact⟨(.slice none 0 0,[]),by rw[hd];rfl,by rw[hd];rfl,(Sep.fT (bD k) 39 2).aQ.first.turn⟩
  have ha0:(gP cols p [] l).2=0:=Decidable.of_not_not S;have hd:iQ cols p l=((fq p.group p.cols.length (iP cols p [] l)).1,0):=by unfold iQ;rw[zab (λh=>h dX),zab (λh=>h ha0)]
  refine Zb1 ?_;have c:=k.bL;obtain⟨F2,aiu,hS2,Yu⟩:=c.focus At1;refine aL (Xv aiu dX (oK (holds_nil p) vM Dl (by simpa using Yi))) rfl rfl (λv' _ hv=>?_);obtain⟨y,rfl,hy,hk2,F3,p8,k⟩:=hv;have c:=Yu _ F3 _ hk2 p8 k;refine Zb2 ?_;exact⟨y,by rw[hd];rfl,by rw[hd];exact hy,c.aG.bL.first.turn⟩
def u7 (cv wv pv:Value) (g:Int) (ov iv:Value):LV:=[cv,wv,pv,I g,ov,iv]
variable {cv iv ov pv wv:Value} {q:List (L8×Value)}
theorem ag3 {E:Td} {vr:Value} {r:List aC} (hb:gM w b (u7 cv wv pv p.group ov iv) E) (hc:aJ w cv aP 7 cols) (hP:nV w wv pv q p) (hr:aJ w vr ah 3 r) (hf:jw r) (Ai:aZ p.wh) (vM: ∀o∈p.cols,aZ o.steps) (hn:p.cols.length<=100):
    aR Tryz.prog 62 [ay b,vr] w λu w'=>∃x:Value,u=.tuple #[x,.bool (gK cols p r).2.1,I (gK cols p r).2.2]/\True/\Turn noB (aY 41 3 ah x (gK cols p r).1) w w':=by
  have H:=Sep.aF w;obtain⟨hw,hq,eF⟩:=hP;obtain⟨W,cw,rfl,_,_⟩:=id hw;obtain⟨A,c,rfl,⟨hcA,apc⟩,hA⟩:=hq;have zi:=eF.len;refine bQ Tryz.func62 ?_;refine Zb6 ?_;refine dM (hb.keep H.kept) (h:=?_);refine Mv ?_;refine Kz (Oj (hc.keep H.kept) (hr.keep H.kept)) (λ_ k _=>?_);refine Cz (λS=>?_) (λS=>?_)
  . have ak:gK cols p r=([],false,fH cols r):=by unfold gK;rw[zac S]
    refine Zb4 ?_;exact⟨.slice none 0 0,by rw[ak];rfl,trivial,by rw[ak];exact(Sep.iW k 41 3 ah).turn⟩
  have Yy:=S;refine Sk (dD (λ_:Unit=>[(0,ay b),(1,vr)]) (λ_ w'=>(¬((qV cols p.wh r).2≠0\/(qV cols p.wh r).1.null=true\/(qV cols p.wh r).1.n=0))/\Mw.Sep w noB [] w') ?_ ?_)
  . refine Zb4 ?_
    refine dM (hb.keep k.kept) (h:=?_);refine Cz (λS=>?_) (λS=>?_)
    . have hwn: ¬p.wh=[]:=λe=>by have h:=S;rw[e]at h;simp at h
      have hpa:qV cols p.wh r=mJ cols p.wh r:=by unfold qV;rw[zab hwn]
      obtain⟨pc,rH⟩: ∃pc,pc=qV cols p.wh r:=⟨_,rfl⟩;rw[<-rH]at hpa;refine dD (λx:Nat=>[(0,ay b),(1,vr),(4,.slice none 0 0),(5,.bool false),(6,I 0),(8,ay x),(9,I pc.2)]) (λx w'=>Mw.Sep w noB [blk x (ah pc.1) 41] w') ?_ ?_
      . refine Dz (λS _ a=>?_)
        refine Zb3 ?_;refine GS (Gt rfl (Gives.mW rfl (hb.keep a.kept) rfl) ?_);refine Zb4 ?_;refine GS (Gt rfl (Gives.mW rfl (hb.keep a.kept) rfl) ?_);refine Zb1 ?_;refine j4 S (e1:=10) (e2:=14) kR ?_ ?_
        . refine Ot S 10 _ a (Cy (hc.keep a.kept) (hw.keep a.kept) (hr.keep a.kept) hf Ai) (h:=λ_ d _=>?_)
          rw[<-hpa];refine⟨sT,?_⟩;refine Zb3 ?_;refine tZ S 14 _ d (h:=λb8 _ d=>⟨sT,?_⟩);refine bN S 15 _ d (h:=λ_ d=>⟨sT,?_⟩);refine Zb1 ?_;exact au _ tR d
        refine lM S 14 [(9,true),(8,false),(7,true),(6,true),(5,true),(4,true),(3,false),(2,true),(1,true),(0,true)] a (h:=λb8 _ d=>⟨av ((bK rfl kR (Gives.mW rfl (hb.keep d.kept) rfl) rfl (av (av (av (av ((bK rfl kR (Gives.mW rfl (hb.keep d.kept) rfl) rfl (av (av (av (eu)))))))))))),?_⟩);refine dB S 10 _ d (Cy (hc.keep d.kept) (hw.keep d.kept) (hr.keep d.kept) hf Ai) (h:=λ_ d _=>?_);rw[<-hpa];refine⟨sT,?_⟩;refine Zb3 ?_;refine bN S 15 _ d (h:=λ_ d=>⟨sT,?_⟩);refine Zb1 ?_;exact au _ tR d
      rintro b8 τ d d;refine Lp ?_;refine Cz (λS=>?_) (λS=>?_)
      . refine Zb4 ?_
        have ak:gK cols p r=([],false,pc.2):=by
          unfold gK;rw[zab Yy,<-rH,zac (.inl (by assumption))]
        exact⟨.slice none 0 0,by rw[ak];rfl,trivial,by rw[ak];exact(Sep.iW d 41 3 ah).first.turn⟩
      refine Zb3 ?_;refine dH (t:=49) rfl (λS=>?_) (λS=>?_)
      . refine Zb4 ?_
        have eD:pc.2=0:=Decidable.of_not_not (by assumption)
        have ak:gK cols p r=([],false,0):=by
          unfold gK;rw[zab Yy,<-rH,zac (by simp_all),eD]
        exact⟨.slice none 0 0,by rw[ak];rfl,trivial,by rw[ak];exact(Sep.iW d 41 3 ah).first.turn⟩
      refine Cz (λS=>?_) (λS=>?_)
      . refine Zb3 ?_
        have eD:pc.2=0:=Decidable.of_not_not (by assumption)
        have ak:gK cols p r=([],false,0):=by
          unfold gK;rw[zab Yy,<-rH,zac (by simp_all),eD]
        exact⟨.slice none 0 0,by rw[ak];rfl,trivial,by rw[ak];exact(Sep.iW d 41 3 ah).first.turn⟩
      refine Zb0 ?_;exact au () tR ⟨by rw[<-rH];simp_all,d.bH⟩
    have hwn:p.wh=[]:=zbg oM;have acn: ¬((qV cols p.wh r).2≠0\/(qV cols p.wh r).1.null=true\/(qV cols p.wh r).1.n=0):=by unfold qV;rw[zac hwn];decide
    refine Zb0 ?_;exact au () tR ⟨acn,k⟩
  rintro _ τ S ⟨aiv,S⟩;refine Lp ?_;refine Zb2 ?_;refine aI (λx:(OA×Nat)×Nat=>[(0,ay b),(1,vr),(10,.slice x.1.1 (fC cols r (p.cols.take x.2)).1.length x.1.2),(11,I x.2)]) (λx w'=>(x.2<=q.length/\(fC cols r (p.cols.take x.2)).2=0/\(fC cols r (p.cols.take x.2)).1.length<=x.2)/\Mw.Sep w noB [aY 41 3 ah (.slice x.1.1 (fC cols r (p.cols.take x.2)).1.length x.1.2) (fC cols r (p.cols.take x.2)).1] w') (λx _=>q.length-x.2) ((none,0),0) tR ⟨⟨zak _,rfl,zbj _⟩,(Sep.iW S 41 3 ah).first⟩ (λx τ _ hI=>?_);obtain⟨⟨X,cX⟩,i⟩:=x;obtain⟨⟨hi,S,UZ⟩,d⟩:=hI;dsimp only at hi S UZ d;refine Lp ?_;refine Zb5 ?_;refine dM (hb.keep d.kept) (h:=?_);refine Cz (λk=>?_) (λk=>?_)
  . have aS:i<p.cols.length:=oM
    obtain⟨vx,hx,Ci⟩:=eF.at aS;have hpo:p.cols[i]? =some p.cols[i]:=zaa aS;obtain⟨o,ho⟩: ∃o,o=p.cols[i]:=⟨_,rfl⟩;rw[<-ho]at hx Ci hpo;have xY:p.cols.take (i+1)=p.cols.take i++[o]:=by rw[zay,hpo,zcw]
    have hcs:=Ny (o:=o) S;rw[<-xY]at hcs;obtain⟨ev,hev⟩: ∃ev,ev=mJ cols o.steps r:=⟨_,rfl⟩;rw[<-hev]at hcs;refine Sk (AL (uz (dD (λx:Nat=>[(0,ay b),(1,vr),(10,.slice X (fC cols r (p.cols.take i)).1.length cX),(11,I i),(12,ay x),(13,I ev.2)]) (λx w'=>Mw.Sep w noB [blk x (ah ev.1) 41,aY 41 3 ah (.slice X (fC cols r (p.cols.take i)).1.length cX) (fC cols r (p.cols.take i)).1] w') ?_ ?_)))
    . refine Dz (λk _ a=>?_)
      refine Zb3 ?_;refine GS (Gt rfl (Gives.mW rfl (hb.keep a.kept) rfl) ?_);refine Zb4 ?_;refine GS (Gt rfl (Gives.mW rfl (hb.keep a.kept) rfl) ?_);refine Zb1 ?_;refine GS (Gn rfl (λ_=>Gives.fF rfl rfl hA oM) ?_);refine Zb1 ?_;refine GS (Gt rfl (Gives.dz (f:=1) rfl (Sep.aF _) (hA.keep a.kept) hx rfl) ?_);refine Zb1 ?_;refine j4 k (e1:=14) (e2:=18) kR ?_ ?_
      . refine Ot k 14 _ a (Cy (hc.keep a.kept) (Ci.keep a.kept) (hr.keep a.kept) hf (vM o (zag hpo))) (h:=λ_ g _=>?_)
        rw[<-hev];refine⟨sT,?_⟩;refine Zb3 ?_;refine tZ k 18 _ g (h:=λb12 _ g=>⟨sT,?_⟩);refine bN k 19 _ g (h:=λ_ g=>⟨sT,?_⟩);refine Zb1 ?_;exact au _ tR g
      refine lM k 18 [(13,true),(12,false),(11,true),(10,true),(9,true),(8,false),(7,true),(6,true),(5,true),(4,true),(3,false),(2,true),(1,true),(0,true)] a (h:=λb12 _ g=>⟨av ((bK rfl kR (Gives.dz (f:=1) rfl (Sep.aF _) (hA.keep g.kept) hx rfl) rfl (av (av (av ((bK rfl kR (Gives.mW rfl (hb.keep g.kept) rfl) rfl (av (av (av (av ((bK rfl kR (Gives.mW rfl (hb.keep g.kept) rfl) rfl (av (av (av (eu))))))))))))))))),?_⟩);refine dB k 14 _ g (Cy (hc.keep g.kept) (Ci.keep g.kept) (hr.keep g.kept) hf (vM o (zag hpo))) (h:=λ_ g _=>?_);rw[<-hev];refine⟨sT,?_⟩;refine Zb3 ?_;refine bN k 19 _ g (h:=λ_ g=>⟨sT,?_⟩);refine Zb1 ?_;exact au _ tR g
    rintro b12 τ g g;refine Lp ?_;refine Cz (λk=>?_) (λk=>?_)
    . rw[zac k]at hcs
      have a:=k;have OO:(fC cols r (p.cols.take (i+1))).2≠0:=by rw[hcs];exact a
      have OL:=Rb (m:=p.cols.drop (i+1)) OO;rw[zbs,hcs]at OL
      have ak:gK cols p r=([],false,ev.2):=by
        unfold gK;rw[zab Yy,zab aiv,OL,zac a]
      refine Zb4 ?_;exact⟨.slice none 0 0,by rw[ak];rfl,trivial,by rw[ak];exact(Sep.iW g 41 3 ah).first.turn⟩
    rw[zab k]at hcs;refine Zb1 ?_;refine fE g (cs:=ah ev.1) (h:=?_);refine Bs g ([ev.1].flatMap ah) (λbq _ a _=>?_);refine dG a (news:=[ev.1]) At1 (by unfold maxLen;simp only[zae];omega) (by simp only[zae];omega) (cells_one (λ_=>rfl) _) (h:=?_);intro v88 a a;rw[show(fC cols r (p.cols.take i)).1++[ev.1]=(fC cols r (p.cols.take (i+1))).1 by rw[hcs]]at a;obtain⟨X2,cX2,rfl,_,_⟩:=Sep.bJ a At1;refine Zb2 ?_;refine Vc ((i+1:Nat):Int) ?_;refine Zb1 ?_;exact aj ((X2,cX2),i+1) tR ⟨⟨dO,by dsimp only;rw[hcs],by dsimp only;rw[hcs];dsimp only;rw[zad,zae];omega⟩,a.bH⟩ dO
  have jF:p.cols.take i=p.cols:=zaj oM;rw[jF]at S d
  have ak:gK cols p r=((fC cols r p.cols).1,true,0):=by
    unfold gK;rw[zab Yy,zab aiv,zab (λh=>h S)]
  refine Zb4 ?_;exact⟨_,by rw[ak];rfl,trivial,by rw[ak,jF];exact d.turn⟩
def ag4 {g:Int} {n:Nat} {T:List aH} (hg: ¬g<0):(fq g n T).2=KN g.toNat (n-g.toNat) (T.map (eY g.toNat)):=by
 unfold fq KN;rw[zab hg,zgg];simp only[Function.comp_def]
 split
 .rfl
 split<;>rfl
def Ud {E:Td} (hb:gM w b (u7 cv wv pv p.group ov iv) E) (hc:aJ w cv aP 7 cols) (hP:nV w wv pv q p) (hl:dI w v l) (Ai:aZ p.wh) (vM: ∀o∈p.cols,aZ o.steps) (hn:p.cols.length<=100) (Dl: ∀x∈l,fJ x) (Yi:l.length<=1000):
    aR prog 36 [ay b,v] w λu w'=>∃x:Value×List Held,u=.tuple #[x.1,I (dN cols p l).2]/\x.2.map (·.2)=(dN cols p l).1/\Turn noB (dV x.1 x.2) w w':=by
  obtain⟨r,hr,eF⟩:=hl;obtain⟨A,c,rfl,⟨hcA,apc⟩,hA⟩:=hr;have zi:=eF.len;have H:=Sep.aF w;refine bQ func36 ?_;refine Zb4 ?_;refine aI (λx:(OA×Nat)×List Held×Nat=>[(0,ay b),(1,.slice A r.length c),(6,.slice x.1.1 (aO x.2.1).length x.1.2),(7,I x.2.2)]) (λx w'=>(x.2.2<=r.length/\(dN cols p (l.take x.2.2)).2=0/\x.2.1.map (·.2)=(dN cols p (l.take x.2.2)).1)/\Mw.Sep w noB [aY 39 2 aA (.slice x.1.1 (aO x.2.1).length x.1.2) (aO x.2.1),nU x.2.1] w') (λx _=>r.length-x.2.2) ((none,0),[],0) tR ⟨⟨zak _,rfl,rfl⟩,Sep.fT (bD H) 39 2⟩ (λx τ _ hI=>?_);obtain⟨⟨X,cX⟩,LM,i⟩:=x;obtain⟨⟨hi,hi0,hLM⟩,k⟩:=hI;dsimp only at hi hi0 hLM k
  have asv:LM.length<=i:=by
    have h1:=zaw List.length hLM;rw[zaf]at h1;have h2:=rA (cols:=cols) (p:=p) (l.take i);rw[zah]at h2;omega
  have hLr:(aO LM).length=LM.length:=zaf _;refine Lp ?_;refine Cz (λS=>?_) (λS=>?_)
  . have aS:i<r.length:=oM
    obtain⟨o,ho⟩:=get_some (l:=l) (show i<l.length from oM);have Ls:=Dl o (zag ho);obtain⟨vo,zh,Dp⟩:=eF.get ho;have xY:l.take (i+1)=l.take i++[o]:=by rw[zay,ho,zcw]
    have nu:=NA (x:=o) hi0;rw[<-xY]at nu;obtain⟨md,hmd⟩: ∃md,md=gK cols p o.row:=⟨_,rfl⟩;rw[<-hmd]at nu;refine Zb3 ?_;refine Vv (Gives.fF rfl rfl hA aS) (Zb1 ?_);refine Vv (Gives.dz (f:=0) rfl (Sep.aF _) (hA.keep k.kept) zh rfl) (Nz (ag3 (hb.keep k.kept) (hc.keep k.kept) (hP.keep k.kept) (Dp.keep k.kept) Ls.2 Ai vM hn) (λxv _ _ S _=>?_));rw[<-hmd]at S ⊢;obtain⟨XR,cR,rfl,_,_⟩:=Sep.bJ S At0;refine Cz (λa=>?_) (λa=>?_)
    . rw[zac a]at nu
      have d:=a;have jN:(dN cols p (l.take (i+1))).2≠0:=by rw[nu];exact d
      have dJ:=NC (m:=l.drop (i+1)) jN;rw[zbs,nu]at dJ;refine Zb3 ?_;exact⟨(.slice none 0 0,[]),by rw[dJ];rfl,by rw[dJ];rfl,(Sep.fT (bD S) 39 2).aQ.first.turn⟩
    rw[zab a]at nu;refine Za1 ?_;refine Qn (Cd rfl (λd=>?_) (λd=>?_))
    . rw[zac d]at nu
      refine Zb4 ?_;refine Vv (Gives.fF rfl rfl hA aS) (Zb1 ?_);refine Vv (Gives.dz (f:=1) rfl (Sep.aF _) (hA.keep S.kept) zh rfl) (Vb (aA (.slice XR md.1.length cR,o.w)) ?_);refine Bs S ([(Value.slice XR md.1.length cR,o.w)].flatMap aA) (λbq _ a _=>?_);refine dG a (news:=[(Value.slice XR md.1.length cR,o.w)]) At1 (by unfold maxLen;simp only[zae];omega) (by simp only[zae];omega) (λu hu=>zaz.1 (show([(Value.slice XR md.1.length cR,o.w)].flatMap aA).all Value.oneCell'=true from rfl) u hu) (h:=?_);intro v47 a a;obtain⟨X2,cX2,rfl,_,_⟩:=Sep.bJ a At1
      have Cj:aO LM++[(Value.slice XR md.1.length cR,o.w)]=aO (LM++[(Value.slice XR md.1.length cR,⟨md.1,o.w⟩)]):=by
        unfold aO;rw[zai];rfl
      refine Zb2 ?_;refine Vc ((i+1:Nat):Int) ?_;refine Zb1 ?_;have h1:=(iR (x:=.slice XR md.1.length cR) (o:=⟨md.1,o.w⟩) (a.aN.aG)).aG;rw[Cj]at h1;exact aj ((X2,cX2),LM++[(.slice XR md.1.length cR,⟨md.1,o.w⟩)],i+1) ⟨rfl,rfl,by rw[<-Cj];rfl,rfl,trivial⟩ ⟨⟨dO,by dsimp only;rw[nu],by dsimp only;rw[nu,zai,hLM];rfl⟩,h1⟩ dO
    rw[zab (by rw[d];decide),zbw]at nu;refine Zb1 ?_;refine Vc ((i+1:Nat):Int) ?_;refine Zb1 ?_;exact aj ((X,cX),LM,i+1) tR ⟨⟨dO,by dsimp only;rw[nu],by dsimp only;rw[nu];exact hLM⟩,S.bH⟩ dO
  have jF:l.take i=l:=zaj oM;rw[jF]at hi0 hLM;refine Zb3 ?_;exact⟨(_,LM),by rw[hi0];rfl,hLM,k.aQ.turn⟩
theorem NG {E:Td} (hb:gM w b (u7 cv wv pv p.group ov iv) E) (hP:nV w wv pv q p) (hl:dI w v T) (RJ:1<=p.cols.length/\p.cols.length<=16/\ -1<=p.group/\p.group<=p.cols.length) (hTo: ∀o∈T,Bj p.cols.length o) (hTn:T.length<=100):
    aR prog 38 [ay b,v] w λu w'=>∃x:Value×List Held,u=.tuple #[x.1,I (fq p.group p.cols.length T).2]/\x.2.map (·.2)=(fq p.group p.cols.length T).1/\Turn noB (dV x.1 x.2) w w':=by
  have Gx:=hl;obtain⟨r,hr,eF⟩:=hl;obtain⟨A,c,rfl,⟨hcA,apc⟩,hA⟩:=hr;have zi:=eF.len;obtain⟨hw,hq,ape⟩:=hP;obtain⟨Q,cq,rfl,_,_⟩:=hq;have YC:=ape.len;have H:=Sep.aF w;refine bQ func38 ?_;refine Zb6 ?_;refine dM (hb.keep H.kept) (h:=?_);refine Cz (λIe=>?_) (λIe=>?_)
  . have hg:p.group<0:=Ie
    have AJ:fq p.group p.cols.length T=dh T:=by unfold fq;rw[zac hg]
    refine Nz (Bz (Gx.keep H.kept) oM (λo ho=>(hTo o ho).1) (λo ho=>by rw[(hTo o ho).2.1];omega)) (λy wa hy Ha ka=>?_);refine Zb4 ?_;exact⟨y,by rw[AJ];rfl,by rw[AJ];exact hy,Ha.turn⟩
  have hg: ¬p.group<0:=Ie;have hgn:(p.group.toNat:Int)=p.group:=zcp oM;have hte:=ag4 (n:=p.cols.length) (T:=T) hg;refine Zb5 ?_;refine dM (hb.keep H.kept) (h:=?_);refine Zb2 ?_;refine Vc ((p.cols.length-p.group.toNat:Nat):Int) ?_;refine aL (ZQ p.group ((p.cols.length-p.group.toNat:Nat):Int)) rfl rfl (λv' wb hv=>?_);obtain⟨bg,rfl,lI,F1,lq,yc⟩:=hv.2 ⟨oM,oM,oM,oM⟩;have Hb:=H.new lI lq (λb hb=>(yc b hb).resolve_left id);rw[zdq]at Hb;refine Zb7 ?_;refine aI (λx:(OA×Nat)×List vR×Nat=>[(1,.slice A r.length c),(6,I p.group),(7,ay bg),(9,.slice x.1.1 x.2.1.length x.1.2),(10,I x.2.2)]) (λx w'=>(x.2.2<=r.length/\x.2.1.map (·.2.2)=(T.take x.2.2).map (eY p.group.toNat)/\yM w x.2.1)/\Mw.Sep w noB [aY 133 3 qw (.slice x.1.1 x.2.1.length x.1.2) x.2.1,blk bg (yN p.group.toNat (p.cols.length-p.group.toNat) (.slice none 0 0)) 185] w') (λx _=>r.length-x.2.2) ((none,0),[],0) tR ⟨⟨zak _,rfl,λz hz=>zar hz zan⟩,Sep.iW Hb 133 3 qw⟩ (λx τ wc hI=>?_);obtain⟨⟨X,cX⟩,Z,i⟩:=x;obtain⟨⟨hi,hZm,hZi⟩,Hc⟩:=hI;dsimp only at hi hZm hZi Hc
  have hZl:Z.length=i:=by
    have h1:=zaw List.length hZm;rw[zaf,zaf,zah]at h1;omega
  refine Lp ?_;refine Cz (λIf=>?_) (λIf=>?_)
  . have aS:i<r.length:=oM
    obtain⟨o,ho⟩:=get_some (l:=T) (show i<T.length from oM);have hoo:=hTo o (zag ho);have hol:=hoo.2.1;obtain⟨vo,zh,Dp⟩:=eF.get ho;have amS:=Dp;obtain⟨V,cv2,rfl,⟨hcv,aks⟩,_⟩:=amS;obtain⟨z,hz⟩: ∃z:vR,z=(.slice V p.group.toNat cv2,.slice (if cv2=p.group.toNat then V else V.map (·.add (p.group.toNat*3))) (o.row.length-p.group.toNat) (cv2-p.group.toNat),eY p.group.toNat o):=⟨_,rfl⟩
    have am0:yM w (Z++[z]):=λy hy=>by
      rcases zbk.1 hy with hy | hy
      . exact hZi y hy
      rw[zau]at hy;subst hy;rw[hz];refine⟨?_,Xq Dp oM⟩;have h2:=Jt (m:=p.group.toNat) Dp oM;have h3:(o.row.take p.group.toNat).length=p.group.toNat:=by rw[zah];omega
      exact h2
    have OI:(Z++[z]).map (·.2.2)=(T.take (i+1)).map (eY p.group.toNat):=by rw[zai,hZm,zay,ho,hz,zai];rfl
    refine Dz (λSa wd Hd=>?_);refine Zb3 ?_;refine GS (Gn rfl (λ_=>Gives.fF rfl rfl hA aS) ?_);refine Zb1 ?_;refine GS (Gt rfl (Gives.dz (f:=0) rfl (Sep.aF _) (hA.keep Hd.kept) zh rfl) ?_);refine Zb1 ?_;refine GS (Gn rfl (λ_=>Gives.sliceTo (h:=p.group.toNat) rfl (by rw[hgn];rfl) oM) ?_);refine Zb2 ?_;refine GS (Gn rfl (λ_=>Gives.fF rfl rfl hA aS) ?_);refine Zb1 ?_;refine GS (Gt rfl (Gives.dz (f:=0) rfl (Sep.aF _) (hA.keep Hd.kept) zh rfl) ?_);refine Zb1 ?_;refine GS (Gn rfl (λ_=>Gives.sliceFrom (l:=p.group.toNat) rfl (by rw[hgn];rfl) oM) ?_);refine Zb2 ?_;refine GS (Gn rfl (λ_=>Gives.fF rfl rfl hA aS) ?_);refine Zb1 ?_;refine GS (Gt rfl (Gives.dz (f:=1) rfl (Sep.aF _) (hA.keep Hd.kept) zh rfl) ?_);refine Gp Sa 20 rfl rfl (λ_=>Gives.build (out:=qw z) (by subst hz;exact(Fills.one rfl rfl rfl sM rfl (Fills.one rfl rfl rfl sM rfl (Fills.one rfl rfl rfl sM rfl Fills.nil))))) (Gz Sa 21 _ Hd ([z].flatMap qw) (h:=λbs we He=>⟨sT,?_⟩));refine gF Sa 22 _ He (news:=[z]) At0 (by unfold maxLen;simp only[zae];omega) (by simp only[zae];omega) (by subst hz;exact(λu hu=>zaz.1 (show([_].flatMap qw).all Value.oneCell'=true from rfl) u hu)) (h:=λv65 wf Hf=>?_);obtain⟨X2,cX2,rfl,_,_⟩:=Sep.bJ Hf At0;refine⟨sT,?_⟩;refine sH Sa 23 _ (h:=⟨sT,?_⟩);refine Zb1 ?_;refine Vc ((i+1:Nat):Int) ?_;refine Zb1 ?_;exact aj ((X2,cX2),Z++[z],i+1) tR ⟨⟨dO,OI,am0⟩,Hf⟩ dO
  have jF:i=T.length:=oM;rw[jF,zbr]at hZm
  have hzo: ∀z∈Z,∃o∈T,z.2.2=eY p.group.toNat o:=λz hz=>by
    have h1:z.2.2∈Z.map (·.2.2):=zdn hz;rw[hZm]at h1;obtain⟨o,ho,e⟩:=zaq.1 h1;exact⟨o,ho,e.symm⟩
  refine Zb2 ?_;obtain⟨F0,vN,gV,hQ0,aK⟩:=Sep.Ja Hc At0;have EK: ∀w1,Kept F0 _ w1->Kept noB w w1:=λw1 h1=>Mw.Kept.into Hc.kept gV h1
  refine aL (TY (Z:=Z) vN (λw1 h1=>by obtain⟨Fq,h2⟩:=hQ0 w1 h1;exact nL h2) (λw1 h1=>hZi.keep (EK w1 h1)) oM oM (λz hz=>by
      obtain⟨o,ho,e⟩:=hzo z hz;rw[e];exact⟨(hTo o ho).1,λc hc=>((hTo o ho).2.2 c (zed hc)).1⟩) oM) rfl rfl (λv' wg KZ=>?_)
  obtain⟨xo,gv,G,rfl,hG,lI,F1,lq,yc⟩:=KZ;rw[hZm]at hG ⊢;rw[<-hte]at hG ⊢;have Hg:=(aK _ F1 _ lI lq yc).bH.bL;refine Cz (λIg=>?_) (λIg=>?_)
  . have Ih:=Ig
    have EL:=afX Ih;refine Zb3 ?_;exact⟨(.slice none 0 0,[]),rfl,by rw[EL];rfl,(Sep.fT (bD Hg) 39 2).aQ.first.turn⟩
  have ht0:(fq p.group p.cols.length T).2=0:=Decidable.of_not_not Ig;have hGe:=hG ht0;have AJ:=jH hg ht0;refine Zb1 ?_
  have JQ:G.length<=100:=by
    have h1:=zaw List.length hGe;rw[zaf]at h1;unfold af6 at h1;rw[zaf]at h1;have h2:=yP (T.map (eY p.group.toNat));rw[zaf]at h2;omega
  have hgs: ∀g∈G,g.2.2.1.length<=400/\g.2.2.2.length<=400:=λg UJ=>by
    have h1:g.2.2∈G.map (·.2.2):=zdn UJ;rw[hGe]at h1;obtain⟨k,hk,e⟩:=zaq.1 h1;obtain⟨x,hx,e2⟩:=(oF _).1 hk;have h3:=mE ((jS hg).1 ht0).1 x hx;rw[<-e];exact⟨by dsimp only;rw[<-e2];omega,by dsimp only;rw[lg];omega⟩
  refine Nz (Xh (Hg.obj At0) (Sep.sees Hg At1).1 (Sep.sees Hg At1).2 oM hgs) (λy wh hy Hh kb=>?_);rw[hGe,adf (mE ((jS hg).1 ht0).1)]at hy;refine Zb2 ?_;exact⟨y,by rw[ht0];rfl,by rw[AJ];exact hy,Hh.first.turn⟩
def aee (hz:isZ l) (h1: ∀x∈l,x.w=1):sP (-1) l=(Av l,0):=by
 have hm:(l.map λx=>(⟨x.row, -1*x.w⟩:aH))=Av l:=zco λx hx=>by rw[h1 x hx];rfl
 have hf:(l.all λx=>aW (-1*x.w))=true:=zaz.2 λx hx=>by rw[h1 x hx];decide
 unfold sP;rw[zac (Cu hz),zac hf,hm,zep.2];intro x hx;unfold Av at hx;obtain⟨y,hy,rfl⟩:=zaq.1 hx;have h2:=h1 y hy;exact zap dO
def ajB (hz:isZ l) (h1: ∀x∈l,x.w=1):isZ (Av l):=by
 refine⟨?_,λx hx=>?_,λx hx=>?_⟩
 .have e:(Av l).map (·.row)=l.map (·.row):=by unfold Av;rw[zdh];rfl
  rw[e];exact hz.1
 .unfold Av at hx
  obtain⟨y,hy,rfl⟩:=zaq.1 hx;dsimp only;rw[h1 y hy];decide
 unfold Av at hx;obtain⟨y,hy,rfl⟩:=zaq.1 hx;dsimp only;rw[h1 y hy];decide
def Xx {sums:Nat} {E:List bC}: ∀x∈lT sums E,x.w=1:=λx hx=>by
 unfold lT at hx;obtain⟨k,_,rfl⟩:=zaq.1 hx;rfl
def Xy {keys sums:Nat} {E:List bC} (h: ∀x∈E,x.key.length=keys): ∀x∈lT sums E,x.row.length=keys+(sums+1):=λx hx=>by
 unfold lT at hx;obtain⟨k,hk,rfl⟩:=zaq.1 hx;obtain⟨y,hy,rfl⟩:=qb.1 (zcf.1 hk).1;unfold acu;dsimp only;rw[zad,zaf,zea,h y hy]
def Rf: ∀E:List bC,(rQ E).length<=E.length
 | []=>zbj _
 | x::E=>by
  have h1:=Rf E;have h2:=Nb x.key (rQ E);rw[rQ,zas];omega
def Xz {sums:Nat} {E:List bC}:(lT sums E).length<=E.length:=by
 unfold lT;rw[zaf];exact zda (zfs _ _) (Rf E)
def uo (h:gX w (agg [wv,pv,I p.group]) p): ∃r,nV w wv pv r p:=by
 obtain⟨vw,vc,e,h1,r,h2,h3⟩:=h;injection e with e
 simp at e;obtain⟨rfl,rfl⟩:=e;exact⟨r,h1,h2,h3⟩
def Et (w:Wd) (cv wv pv ov:Value) (rI:List (Value×Int)) (cols:List bY) (p:aU) (J:List aH):Prop:=(aJ w cv aP 7 cols/\gX w (agg [wv,pv,I p.group]) p/\aJ w ov aP 7 (bX cols p).1)/\gL w rI J
structure ag5 where
 cv:Value
 wv:Value
 pv:Value
 ov:Value
 iv:Value
 rI:List (Value×Int)
def BI (b:Nat) (cols:List bY) (p:aU) (J:List aH):HP:=exH λz:ag5=>star (blk b (u7 z.cv z.wv z.pv p.group z.ov z.iv) 99) (star (aY 39 2 aA z.iv z.rI) (fQ λw=>Et w z.cv z.wv z.pv z.ov z.rI cols p J))
variable {w0:Wd} {S:NP} {rs:List HP} {b:Nat} {cols:List bY} {p:aU} {J:List aH}
def uq {rI:List (Value×Int)} (H:Mw.Sep w0 S (blk b (u7 cv wv pv p.group ov iv) 99::aY 39 2 aA iv rI::fQ (λw=>Et w cv wv pv ov rI cols p J)::rs) w):Mw.Sep w0 S (BI b cols p J::rs) w:=
 Sep.uF (p:=λz:ag5=>star (blk b (u7 z.cv z.wv z.pv p.group z.ov z.iv) 99) (star (aY 39 2 aA z.iv z.rI) (fQ λw=>Et w z.cv z.wv z.pv z.ov z.rI cols p J))) ⟨cv,wv,pv,ov,iv,rI⟩ (H.aN.aN.aQ.aG.aQ)
def NH (H:Mw.Sep w0 S (BI b cols p J::rs) w): ∃(cv wv pv ov iv:Value) (rI:List (Value×Int)),Mw.Sep w0 S (blk b (u7 cv wv pv p.group ov iv) 99::aY 39 2 aA iv rI::fQ (λw=>Et w cv wv pv ov rI cols p J)::rs) w:=by
 obtain⟨⟨cv,wv,pv,ov,iv,rI⟩,k⟩:=Sep.ex0 H;exact⟨cv,wv,pv,ov,iv,rI,k.bL.aG.bL.aN⟩
def ajC (hc:aJ w vc aP 7 cols) (LA:cols.length<=1000) (hp:gX w vp p) (hn:p.cols.length<=100) (Au:p.wh.length<=1000) (OP: ∀o∈p.cols,o.steps.length<=1000):
    aR prog 16 [vc,vp] w λu w'=>∃pv:Value,u=.tuple #[pv,I (bX cols p).2]/\Kept noB w w'/\((bX cols p).2≠0->pv=.pointer none)/\((bX cols p).2=0->∃b:Nat,pv=ay b/\Turn noB (BI b cols p []) w w'):=by
  have eD:=hp;obtain⟨vw,vq,rfl,hw,r,hr,eF⟩:=hp;obtain⟨W,cw,rfl,_,_⟩:=id hw;obtain⟨A,m,rfl,_,_⟩:=id hr;have H:=Sep.aF w;refine bQ func16 ?_;refine Sr (bB H (cs:=[.slice W p.wh.length cw,.slice A r.length m,I p.group]) rfl (h:=λb3 _ k _=>?_));refine Zb3 ?_;refine fE k (cs:=[.slice W p.wh.length cw,.slice A r.length m,I p.group]) (h:=?_);refine Nz (ady (hc.keep k.kept) (eD.keep k.kept)) (λvo _ _ k _=>?_);obtain⟨O,co,rfl,_,_⟩:=Sep.bJ k At0;refine Cz (λS=>?_) (λS=>?_)
  . have c:=S
    refine Zb3 ?_;exact⟨_,rfl,k.kept,λ_=>rfl,λh=>zar h c⟩
  have dX:(bX cols p).2=0:=Decidable.of_not_not S;refine Dz (λc _ S=>?_);refine Zb1 ?_;refine jM c 2 S (h:=?_);refine Gm c 4 ?_;refine dY c 1 [(4,true),(2,false)] S (FR (hc.keep S.kept) LA) (h:=λy _ _ S _=>?_);obtain⟨Y,cy,rfl,_,_⟩:=Sep.bJ S At0;refine⟨sU,?_⟩;refine dY c 3 _ S (agn (eD.keep S.kept) hn Au OP) (h:=λy _ _ S _=>?_);have hPI:gX _ y p:=Sep.sees S At0;obtain⟨wv,pv,rfl,hwv,q,hpv,_⟩:=hPI;obtain⟨WV,cwv,rfl,_,_⟩:=hwv;obtain⟨PV,cpv,rfl,_,_⟩:=hpv;refine⟨sT,?_⟩;refine Gp c 5 rfl rfl (λ_=>(Gives.build (out:=u7 (.slice Y cols.length cy) (.slice WV p.wh.length cwv) (.slice PV q.length cpv) p.group (.slice O (bX cols p).1.length co) (.slice none 0 0)) (Fills.one rfl rfl rfl sM rfl (Fills.many rfl rfl (zbe rfl) rfl (Fills.one rfl rfl rfl (zbe rfl) rfl Fills.nil))))) (Ni c 6 _ S (cs:=u7 (.slice Y cols.length cy) (.slice WV p.wh.length cwv) (.slice PV q.length cpv) p.group (.slice O (bX cols p).1.length co) (.slice none 0 0)) rfl rfl (h:=λb S c=>⟨sT,?_⟩));refine Zb2 ?_;have h0:Mw.Sep w noB [blk b (u7 (.slice Y cols.length cy) (.slice WV p.wh.length cwv) (.slice PV q.length cpv) p.group (.slice O (bX cols p).1.length co) (.slice none 0 0)) 99,Qo (agg [.slice WV p.wh.length cwv,.slice PV q.length cpv,I p.group]) p,aY 67 7 aP (.slice Y cols.length cy) cols,aY 67 7 aP (.slice O (bX cols p).1.length co) (bX cols p).1,blk b3 [.slice W p.wh.length cw,.slice A r.length m,I p.group] 26] S:=by first | exact c | exact c.aN.aG
  have h1:=dU (dU h0 At2) At3;have h2:=Sep.l6 (Z:=λw=>aJ w (.slice Y cols.length cy) aP 7 cols/\gX w (agg [.slice WV p.wh.length cwv,.slice PV q.length cpv,I p.group]) p) (h1.aG.aN) (λw a b=>⟨a,b⟩);have h3:=Sep.l6 (Z:=λw=>Et w (.slice Y cols.length cy) (.slice WV p.wh.length cwv) (.slice PV q.length cpv) (.slice O (bX cols p).1.length co) [] cols p []) (h2.aN.aG) (λw a b=>⟨⟨a.1,a.2,b⟩,gL.nil⟩);exact⟨_,by rw[dX];rfl,h3.kept,λh=>zar dX h,λ_=>⟨b,rfl,(uq ((Sep.iW h3 39 2 aA).aN)).first.turn⟩⟩
def aef (hp:(BI b cols p J).ok F w) (dX:(bX cols p).2=0) (Ai:aZ p.wh) (vM: ∀o∈p.cols,aZ o.steps) (hJ0:(dN cols p J).2=0) (hv:pU p (dN cols p J).1) (hJf: ∀x∈J,fJ x) (hJn:J.length<=100):
    aR prog 18 [ay b] w λu w'=>∃x:Value×List Held,u=x.1/\x.2.map (·.2)=(fq p.group p.cols.length (dN cols p J).1).1/\Turn F (star (dV x.1 x.2) (BI b cols p J)) w w':=by
  obtain⟨cv,wv,pv,ov,iv,rI,H⟩:=NH (Sep.bR hp);have RJ:=qh dX;refine cK func18 ?_;refine Zb5 ?_;refine dM (H.obj At0) (h:=?_);have hF0:=Sep.sees H At2;obtain⟨q,hPA⟩:=uo hF0.1.2.1;refine Nz (Ud (H.obj At0) hF0.1.1 hPA ⟨rI,jG H At1,hF0.2⟩ Ai vM oM hJf oM) (λy _ hy k _=>?_);obtain⟨yv,Ly⟩:=y;dsimp only at hy k ⊢;refine Zb7 ?_;have hF1:=Sep.sees k At3;obtain⟨q2,am2⟩:=uo hF1.1.2.1;have hIt:=fV k At0;rw[hy]at hIt;refine Nz (NG (k.obj At1) am2 hIt RJ hv.items hv.few) (λz _ hz k _=>?_);obtain⟨zv,Lz⟩:=z;dsimp only at hz k ⊢;refine Zb7 ?_;exact⟨(zv,Lz),rfl,hz,((uq (k.aG.bH.aX.aX.aX)).aG.aQ.first).turn⟩
end Go.Proofs.Mw
