/-
 The document's view:items made,and told;walked.
-/
import Derived.Test.YtbkjpdboaclopaaGreatDoorNd28
set_option linter.all false
set_option maxRecDepth 4000
namespace Go.Proofs.Mw
open Go.Lib Go.Proofs.Tryz
attribute [local irreducible] FW FL FG FGn jJ jO fC lJ Qfn Gives
def ahV {g:Int} {n:Nat} {T:List aG} (hg: ¬g<0):(d9 g n T).2=LD g.toNat (n-g.toNat) (T.map (fu g.toNat)):=by
 unfold d9 LD;rw[zaa hg,zgg];simp only[Function.comp_def]
 split
 .rfl
 split<;>rfl
variable {w:Wd}
variable {cv iv ov pv v wv:Value} {l:List aG}
theorem UM {b:Nat} {E:Td} {cols:List bT} {p:aW} {q:List (L8×Value)} (hb:gJ w b (tL cv wv pv p.group ov iv) E) (hc:aJ w cv aM 7 cols) (hP:oo w wv pv q p) (hl:dS w v l) (Bl:bC p.wh) (yK: ∀o∈p.cols,bC o.steps) (hn:p.cols.length<=100) (Fx: ∀x∈l,dR x) (hln:l.length<=1000):
    aQ prog 42 [av b,v] w λu w'=>∃x:Value×List Held,u=.tuple #[x.1,I (bN cols p l).2]/\x.2.map (·.2)=(bN cols p l).1/\Turn noB (dz x.1 x.2) w w':=by
  obtain⟨r,hr,eP⟩:=hl;obtain⟨A,c,rfl,⟨hcA,aqm⟩,hA⟩:=hr;have yL:=eP.len;have H:=Sep.aH w;refine bU func42 ?_;refine V4 ?_;refine aI (λx:(OA×Nat)×List Held×Nat=>[(0,av b),(1,.slice A r.length c),(6,.slice x.1.1 (aP x.2.1).length x.1.2),(7,I x.2.2)]) (λx w'=>(x.2.2<=r.length/\(bN cols p (l.take x.2.2)).2=0/\x.2.1.map (·.2)=(bN cols p (l.take x.2.2)).1)/\Mw.Sep w noB [aU 60 2 aA (.slice x.1.1 (aP x.2.1).length x.1.2) (aP x.2.1),lQ x.2.1] w') (λx _=>r.length-x.2.2) ((none,0),[],0) tR ⟨⟨zai _,rfl,rfl⟩,Sep.gy (bJ H) 60 2⟩ (λx τ _ hI=>?_);obtain⟨⟨X,cX⟩,LM,i⟩:=x;obtain⟨⟨hi,hi0,hLM⟩,k⟩:=hI;dsimp only at hi hi0 hLM k
  have atC:LM.length<=i:=by
    have h1:=zay List.length hLM;rw[zae]at h1;have h2:=nJ (cols:=cols) (p:=p) (l.take i);rw[zah]at h2;omega
  have hLr:(aP LM).length=LM.length:=zae _;refine Lp ?_;refine Cz (λS=>?_) (λS=>?_)
  . have aX:i<r.length:=oM
    obtain⟨o,ho⟩:=get_some (l:=l) (show i<l.length from oM);have Mt:=Fx o (zag ho);obtain⟨vo,zJ,DU⟩:=eP.get ho;have yH:l.take (i+1)=l.take i++[o]:=by rw[zat,ho,zcz]
    have nH:=Ob (x:=o) hi0;rw[<-yH]at nH;obtain⟨md,hmd⟩: ∃md,md=gM cols p o.row:=⟨_,rfl⟩;rw[<-hmd]at nH;refine V3 ?_;refine Vv (Gives.fA rfl rfl hA aX) (V1 ?_);refine Vv (Gives.dG (f:=0) rfl (Sep.aH _) (hA.keep k.kept) zJ rfl) (Nz (ahU (hb.keep k.kept) (hc.keep k.kept) (hP.keep k.kept) (DU.keep k.kept) Mt.2 Bl yK hn) (λxv _ _ S _=>?_));rw[<-hmd]at S ⊢;obtain⟨XR,cR,rfl,_,_⟩:=Sep.bH S At0;refine Cz (λa=>?_) (λa=>?_)
    . rw[zac a]at nH
      have d:=a;have jV:(bN cols p (l.take (i+1))).2≠0:=by rw[nH];exact d
      have dK:=Oc (m:=l.drop (i+1)) jV;rw[zbs,nH]at dK;refine V3 ?_;exact⟨(.slice none 0 0,[]),by rw[dK];rfl,by rw[dK];rfl,(Sep.gy (bJ S) 60 2).aR.first.turn⟩
    rw[zaa a]at nH;refine O1 ?_;refine Qn (Cd rfl (λd=>?_) (λd=>?_))
    . rw[zac d]at nH
      refine V4 ?_;refine Vv (Gives.fA rfl rfl hA aX) (V1 ?_);refine Vv (Gives.dG (f:=1) rfl (Sep.aH _) (hA.keep S.kept) zJ rfl) (Vb (aA (.slice XR md.1.length cR,o.w)) ?_);refine Bs S ([(Value.slice XR md.1.length cR,o.w)].flatMap aA) (λbq _ a _=>?_);refine dJ a (news:=[(Value.slice XR md.1.length cR,o.w)]) At1 (by unfold maxLen;simp only[zaf];omega) (by simp only[zaf];omega) (λu hu=>zba.1 (show([(Value.slice XR md.1.length cR,o.w)].flatMap aA).all Value.oneCell'=true from rfl) u hu) (h:=?_);intro v47 a a;obtain⟨X2,cX2,rfl,_,_⟩:=Sep.bH a At1
      have CV:aP LM++[(Value.slice XR md.1.length cR,o.w)]=aP (LM++[(Value.slice XR md.1.length cR,⟨md.1,o.w⟩)]):=by
        unfold aP;rw[zak];rfl
      refine V2 ?_;refine Vc ((i+1:Nat):Int) ?_;refine V1 ?_;have h1:=(iF (x:=.slice XR md.1.length cR) (o:=⟨md.1,o.w⟩) (a.aO.aF)).aF;rw[CV]at h1;exact aj ((X2,cX2),LM++[(.slice XR md.1.length cR,⟨md.1,o.w⟩)],i+1) ⟨rfl,rfl,by rw[<-CV];rfl,rfl,trivial⟩ ⟨⟨dO,by dsimp only;rw[nH],by dsimp only;rw[nH,zak,hLM];rfl⟩,h1⟩ dO
    rw[zaa (by rw[d];decide),zbt]at nH;refine V1 ?_;refine Vc ((i+1:Nat):Int) ?_;refine V1 ?_;exact aj ((X,cX),LM,i+1) tR ⟨⟨dO,by dsimp only;rw[nH],by dsimp only;rw[nH];exact hLM⟩,S.bI⟩ dO
  have jG:l.take i=l:=zaj oM;rw[jG]at hi0 hLM;refine V3 ?_;exact⟨(_,LM),by rw[hi0];rfl,hLM,k.aR.turn⟩
theorem Oh {b:Nat} {E:Td} {p:aW} {q:List (L8×Value)} {T:List aG} (hb:gJ w b (tL cv wv pv p.group ov iv) E) (hP:oo w wv pv q p) (hl:dS w v T) (Lm:1<=p.cols.length/\p.cols.length<=16/\ -1<=p.group/\p.group<=p.cols.length) (hTo: ∀o∈T,BI p.cols.length o) (hTn:T.length<=100):
    aQ prog 44 [av b,v] w λu w'=>∃x:Value×List Held,u=.tuple #[x.1,I (d9 p.group p.cols.length T).2]/\x.2.map (·.2)=(d9 p.group p.cols.length T).1/\Turn noB (dz x.1 x.2) w w':=by
  have Jb:=hl;obtain⟨r,hr,eP⟩:=hl;obtain⟨A,c,rfl,⟨hcA,aqm⟩,hA⟩:=hr;have yL:=eP.len;obtain⟨hw,hq,aqo⟩:=hP;obtain⟨Q,cq,rfl,_,_⟩:=hq;have Zl:=aqo.len;have H:=Sep.aH w;refine bU func44 ?_;refine V6 ?_;refine dM (hb.keep H.kept) (h:=?_);refine Cz (λIe=>?_) (λIe=>?_)
  . have hg:p.group<0:=Ie
    have Bj:d9 p.group p.cols.length T=cO T:=by unfold d9;rw[zac hg]
    refine Nz (BU (Jb.keep H.kept) oM (λo ho=>(hTo o ho).1) (λo ho=>by rw[(hTo o ho).2.1];omega)) (λy wa hy Ha ka=>?_);refine V4 ?_;exact⟨y,by rw[Bj];rfl,by rw[Bj];exact hy,Ha.turn⟩
  have hg: ¬p.group<0:=Ie;have hgn:(p.group.toNat:Int)=p.group:=zcs oM;have hte:=ahV (n:=p.cols.length) (T:=T) hg;refine V5 ?_;refine dM (hb.keep H.kept) (h:=?_);refine V2 ?_;refine Vc ((p.cols.length-p.group.toNat:Nat):Int) ?_;refine aL (aaC p.group ((p.cols.length-p.group.toNat:Nat):Int)) rfl rfl (λv' wb hv=>?_);obtain⟨bg,rfl,jH,F1,jB,xu⟩:=hv.2 ⟨oM,oM,oM,oM⟩;have Hb:=H.new jH jB (λb hb=>(xu b hb).resolve_left id);rw[zds]at Hb;refine V7 ?_;refine aI (λx:(OA×Nat)×List xC×Nat=>[(1,.slice A r.length c),(6,I p.group),(7,av bg),(9,.slice x.1.1 x.2.1.length x.1.2),(10,I x.2.2)]) (λx w'=>(x.2.2<=r.length/\x.2.1.map (·.2.2)=(T.take x.2.2).map (fu p.group.toNat)/\zh w x.2.1)/\Mw.Sep w noB [aU 143 3 qC (.slice x.1.1 x.2.1.length x.1.2) x.2.1,blk bg (zi p.group.toNat (p.cols.length-p.group.toNat) (.slice none 0 0)) 201] w') (λx _=>r.length-x.2.2) ((none,0),[],0) tR ⟨⟨zai _,rfl,λz hz=>zas hz zam⟩,Sep.iW Hb 143 3 qC⟩ (λx τ wc hI=>?_);obtain⟨⟨X,cX⟩,Z,i⟩:=x;obtain⟨⟨hi,hZm,hZi⟩,Hc⟩:=hI;dsimp only at hi hZm hZi Hc
  have hZl:Z.length=i:=by
    have h1:=zay List.length hZm;rw[zae,zae,zah]at h1;omega
  refine Lp ?_;refine Cz (λIf=>?_) (λIf=>?_)
  . have aX:i<r.length:=oM
    obtain⟨o,ho⟩:=get_some (l:=T) (show i<T.length from oM);have hoo:=hTo o (zag ho);have hol:=hoo.2.1;obtain⟨vo,zJ,DU⟩:=eP.get ho;have anW:=DU;obtain⟨V,cv2,rfl,⟨hcv,alA⟩,_⟩:=anW;obtain⟨z,hz⟩: ∃z:xC,z=(.slice V p.group.toNat cv2,.slice (if cv2=p.group.toNat then V else V.map (·.add (p.group.toNat*3))) (o.row.length-p.group.toNat) (cv2-p.group.toNat),fu p.group.toNat o):=⟨_,rfl⟩
    have an4:zh w (Z++[z]):=λy hy=>by
      rcases zbk.1 hy with hy | hy
      . exact hZi y hy
      rw[zaw]at hy;subst hy;rw[hz];refine⟨?_,Yj DU oM⟩;have h2:=JU (m:=p.group.toNat) DU oM;have h3:(o.row.take p.group.toNat).length=p.group.toNat:=by rw[zah];omega
      exact h2
    have Pp:(Z++[z]).map (·.2.2)=(T.take (i+1)).map (fu p.group.toNat):=by rw[zak,hZm,zat,ho,hz,zak];rfl
    refine Dz (λSa wd Hd=>?_);refine V3 ?_;refine GS (Gn rfl (λ_=>Gives.fA rfl rfl hA aX) ?_);refine V1 ?_;refine GS (Gt rfl (Gives.dG (f:=0) rfl (Sep.aH _) (hA.keep Hd.kept) zJ rfl) ?_);refine V1 ?_;refine GS (Gn rfl (λ_=>Gives.sliceTo (h:=p.group.toNat) rfl (by rw[hgn];rfl) oM) ?_);refine V2 ?_;refine GS (Gn rfl (λ_=>Gives.fA rfl rfl hA aX) ?_);refine V1 ?_;refine GS (Gt rfl (Gives.dG (f:=0) rfl (Sep.aH _) (hA.keep Hd.kept) zJ rfl) ?_);refine V1 ?_;refine GS (Gn rfl (λ_=>Gives.sliceFrom (l:=p.group.toNat) rfl (by rw[hgn];rfl) oM) ?_);refine V2 ?_;refine GS (Gn rfl (λ_=>Gives.fA rfl rfl hA aX) ?_);refine V1 ?_;refine GS (Gt rfl (Gives.dG (f:=1) rfl (Sep.aH _) (hA.keep Hd.kept) zJ rfl) ?_);refine Gp Sa 20 rfl rfl (λ_=>Gives.build (out:=qC z) (by subst hz;exact(Fills.one rfl rfl rfl sM rfl (Fills.one rfl rfl rfl sM rfl (Fills.one rfl rfl rfl sM rfl Fills.nil))))) (Gz Sa 21 _ Hd ([z].flatMap qC) (h:=λbs we He=>⟨sT,?_⟩));refine gH Sa 22 _ He (news:=[z]) At0 (by unfold maxLen;simp only[zaf];omega) (by simp only[zaf];omega) (by subst hz;exact(λu hu=>zba.1 (show([_].flatMap qC).all Value.oneCell'=true from rfl) u hu)) (h:=λv65 wf Hf=>?_);obtain⟨X2,cX2,rfl,_,_⟩:=Sep.bH Hf At0;refine⟨sT,?_⟩;refine tq Sa 23 _ (h:=⟨sT,?_⟩);refine V1 ?_;refine Vc ((i+1:Nat):Int) ?_;refine V1 ?_;exact aj ((X2,cX2),Z++[z],i+1) tR ⟨⟨dO,Pp,an4⟩,Hf⟩ dO
  have jG:i=T.length:=oM;rw[jG,zbq]at hZm
  have hzo: ∀z∈Z,∃o∈T,z.2.2=fu p.group.toNat o:=λz hz=>by
    have h1:z.2.2∈Z.map (·.2.2):=zdp hz;rw[hZm]at h1;obtain⟨o,ho,e⟩:=zar.1 h1;exact⟨o,ho,e.symm⟩
  refine V2 ?_;obtain⟨F0,rC,gQ,VH,aK⟩:=Sep.BN Hc At0;have Fu: ∀w1,Kept F0 _ w1->Kept noB w w1:=λw1 h1=>Mw.Kept.into Hc.kept gQ h1
  refine aL (UH (Z:=Z) rC (λw1 h1=>by obtain⟨Fq,h2⟩:=VH w1 h1;exact mW h2) (λw1 h1=>hZi.keep (Fu w1 h1)) oM oM (λz hz=>by
      obtain⟨o,ho,e⟩:=hzo z hz;rw[e];exact⟨(hTo o ho).1,λc hc=>((hTo o ho).2.2 c (zeg hc)).1⟩) oM) rfl rfl (λv' wg LZ=>?_)
  obtain⟨xo,gv,G,rfl,hG,jH,F1,jB,xu⟩:=LZ;rw[hZm]at hG ⊢;rw[<-hte]at hG ⊢;have Hg:=(aK _ F1 _ jH jB xu).bI.bE;refine Cz (λIg=>?_) (λIg=>?_)
  . have Ih:=Ig
    have Fv:=Xk Ih;refine V3 ?_;exact⟨(.slice none 0 0,[]),rfl,by rw[Fv];rfl,(Sep.gy (bJ Hg) 60 2).aR.first.turn⟩
  have ht0:(d9 p.group p.cols.length T).2=0:=Decidable.of_not_not Ig;have hGe:=hG ht0;have Bj:=jm hg ht0;refine V1 ?_
  have Kt:G.length<=100:=by
    have h1:=zay List.length hGe;rw[zae]at h1;unfold ag0 at h1;rw[zae]at h1;have h2:=zn (T.map (fu p.group.toNat));rw[zae]at h2;omega
  have hgs: ∀g∈G,g.2.2.1.length<=400/\g.2.2.2.length<=400:=λg Vk=>by
    have h1:g.2.2∈G.map (·.2.2):=zdp Vk;rw[hGe]at h1;obtain⟨k,hk,e⟩:=zar.1 h1;obtain⟨x,hx,e2⟩:=(oO _).1 hk;have h3:=lM ((jD hg).1 ht0).1 x hx;rw[<-e];exact⟨by dsimp only;rw[<-e2];omega,by dsimp only;rw[lI];omega⟩
  refine Nz (Yc (Hg.obj At0) (Sep.sees Hg At1).1 (Sep.sees Hg At1).2 oM hgs) (λy wh hy Hh kb=>?_);rw[hGe,ad8 (lM ((jD hg).1 ht0).1)]at hy;refine V2 ?_;exact⟨y,by rw[ht0];rfl,by rw[Bj];exact hy,Hh.first.turn⟩
def ae7 (hz:isZ l) (h1: ∀x∈l,x.w=1):tK (-1) l=(yO l,0):=by
 have hm:(l.map λx=>(⟨x.row, -1*x.w⟩:aG))=yO l:=zcr λx hx=>by rw[h1 x hx];rfl
 have hf:(l.all λx=>aY (-1*x.w))=true:=zba.2 λx hx=>by rw[h1 x hx];decide
 unfold tK;rw[zac (C9 hz),zac hf,hm,zeq.2];intro x hx;unfold yO at hx;obtain⟨y,hy,rfl⟩:=zar.1 hx;have h2:=h1 y hy;exact zap dO
def akC (hz:isZ l) (h1: ∀x∈l,x.w=1):isZ (yO l):=by
 refine⟨?_,λx hx=>?_,λx hx=>?_⟩
 .have e:(yO l).map (·.row)=l.map (·.row):=by unfold yO;rw[zdj];rfl
  rw[e];exact hz.1
 .unfold yO at hx
  obtain⟨y,hy,rfl⟩:=zar.1 hx;dsimp only;rw[h1 y hy];decide
 unfold yO at hx;obtain⟨y,hy,rfl⟩:=zar.1 hx;dsimp only;rw[h1 y hy];decide
def Oi {sums:Nat} {E:List bD}: ∀x∈lZ sums E,x.w=1:=λx hx=>by
 unfold lZ at hx;obtain⟨k,_,rfl⟩:=zar.1 hx;rfl
def Oj {keys sums:Nat} {E:List bD} (h: ∀x∈E,x.key.length=keys): ∀x∈lZ sums E,x.row.length=keys+(sums+1):=λx hx=>by
 unfold lZ at hx;obtain⟨k,hk,rfl⟩:=zar.1 hx;obtain⟨y,hy,rfl⟩:=ql.1 (zcf.1 hk).1;unfold adp;dsimp only;rw[zad,zae,zeb,h y hy]
def RQ: ∀E:List bD,(sw E).length<=E.length
 | []=>zbi _
 | x::E=>by
  have h1:=RQ E;have h2:=NG x.key (sw E);rw[sw,zaq];omega
def Ol {sums:Nat} {E:List bD}:(lZ sums E).length<=E.length:=by
 unfold lZ;rw[zae];exact zck (zfs _ _) (RQ E)
def uO {p:aW} (h:fZ w (agg [wv,pv,I p.group]) p): ∃r,oo w wv pv r p:=by
 obtain⟨vw,vc,e,h1,r,h2,h3⟩:=h;injection e with e
 simp at e;obtain⟨rfl,rfl⟩:=e;exact⟨r,h1,h2,h3⟩
def Ch (w:Wd) (cv wv pv ov:Value) (rI:List (Value×Int)) (cols:List bT) (p:aW) (J:List aG):Prop:=(aJ w cv aM 7 cols/\fZ w (agg [wv,pv,I p.group]) p/\aJ w ov aM 7 (aZ cols p).1)/\gN w rI J
structure aaR where
 cv:Value
 wv:Value
 pv:Value
 ov:Value
 iv:Value
 rI:List (Value×Int)
def oq (b:Nat) (cols:List bT) (p:aW) (J:List aG):HP:=exH λz:aaR=>star (blk b (tL z.cv z.wv z.pv p.group z.ov z.iv) 43) (star (aU 60 2 aA z.iv z.rI) (fP λw=>Ch w z.cv z.wv z.pv z.ov z.rI cols p J))
variable {w0:Wd} {S:NP} {rs:List HP} {b:Nat} {cols:List bT} {p:aW} {J:List aG}
def rV {rI:List (Value×Int)} (H:Mw.Sep w0 S (blk b (tL cv wv pv p.group ov iv) 43::aU 60 2 aA iv rI::fP (λw=>Ch w cv wv pv ov rI cols p J)::rs) w):Mw.Sep w0 S (oq b cols p J::rs) w:=
 Sep.tY (p:=λz:aaR=>star (blk b (tL z.cv z.wv z.pv p.group z.ov z.iv) 43) (star (aU 60 2 aA z.iv z.rI) (fP λw=>Ch w z.cv z.wv z.pv z.ov z.rI cols p J))) ⟨cv,wv,pv,ov,iv,rI⟩ (H.aO.aO.aR.aF.aR)
def vP (H:Mw.Sep w0 S (oq b cols p J::rs) w): ∃(cv wv pv ov iv:Value) (rI:List (Value×Int)),Mw.Sep w0 S (blk b (tL cv wv pv p.group ov iv) 43::aU 60 2 aA iv rI::fP (λw=>Ch w cv wv pv ov rI cols p J)::rs) w:=by
 obtain⟨⟨cv,wv,pv,ov,iv,rI⟩,k⟩:=Sep.ex0 H;exact⟨cv,wv,pv,ov,iv,rI,k.bE.aF.bE.aO⟩
variable {F:NP}
def akD {vc vp:Value} (hc:aJ w vc aM 7 cols) (Pz:cols.length<=1000) (hp:fZ w vp p) (hn:p.cols.length<=100) (Bn:p.wh.length<=1000) (Tq: ∀o∈p.cols,o.steps.length<=1000):
    aQ prog 8 [vc,vp] w λu w'=>∃pv:Value,u=.tuple #[pv,I (aZ cols p).2]/\Kept noB w w'/\((aZ cols p).2≠0->pv=.pointer none)/\((aZ cols p).2=0->∃b:Nat,pv=av b/\Turn noB (oq b cols p []) w w'):=by
  have eO:=hp;obtain⟨vw,vq,rfl,hw,r,hr,eP⟩:=hp;obtain⟨W,cw,rfl,_,_⟩:=id hw;obtain⟨A,m,rfl,_,_⟩:=id hr;have H:=Sep.aH w;refine bU func8 ?_;refine Sr (bB H (cs:=[.slice W p.wh.length cw,.slice A r.length m,I p.group]) rfl (h:=λb3 _ k _=>?_));refine V3 ?_;refine fQ k (cs:=[.slice W p.wh.length cw,.slice A r.length m,I p.group]) (h:=?_);refine Nz (aep (hc.keep k.kept) (eO.keep k.kept)) (λvo _ _ k _=>?_);obtain⟨O,co,rfl,_,_⟩:=Sep.bH k At0;refine Cz (λS=>?_) (λS=>?_)
  . have c:=S
    refine V3 ?_;exact⟨_,rfl,k.kept,λ_=>rfl,λh=>zas h c⟩
  have dN:(aZ cols p).2=0:=Decidable.of_not_not S;refine Dz (λc _ S=>?_);refine V1 ?_;refine jU c 2 S (h:=?_);refine Gm c 4 ?_;refine eB c 1 [(4,true),(2,false)] S (Gy (hc.keep S.kept) Pz) (h:=λy _ _ S _=>?_);obtain⟨Y,cy,rfl,_,_⟩:=Sep.bH S At0;refine⟨sU,?_⟩;refine eB c 3 _ S (ahf (eO.keep S.kept) hn Bn Tq) (h:=λy _ _ S _=>?_);have hPI:fZ _ y p:=Sep.sees S At0;obtain⟨wv,pv,rfl,hwv,q,hpv,_⟩:=hPI;obtain⟨WV,cwv,rfl,_,_⟩:=hwv;obtain⟨PV,cpv,rfl,_,_⟩:=hpv;refine⟨sT,?_⟩;refine Gp c 5 rfl rfl (λ_=>(Gives.build (out:=tL (.slice Y cols.length cy) (.slice WV p.wh.length cwv) (.slice PV q.length cpv) p.group (.slice O (aZ cols p).1.length co) (.slice none 0 0)) (Fills.one rfl rfl rfl sM rfl (Fills.many rfl rfl (zbe rfl) rfl (Fills.one rfl rfl rfl (zbe rfl) rfl Fills.nil))))) (NK c 6 _ S (cs:=tL (.slice Y cols.length cy) (.slice WV p.wh.length cwv) (.slice PV q.length cpv) p.group (.slice O (aZ cols p).1.length co) (.slice none 0 0)) rfl rfl (h:=λb S c=>⟨sT,?_⟩));refine V2 ?_;have h0:Mw.Sep w noB [blk b (tL (.slice Y cols.length cy) (.slice WV p.wh.length cwv) (.slice PV q.length cpv) p.group (.slice O (aZ cols p).1.length co) (.slice none 0 0)) 43,QW (agg [.slice WV p.wh.length cwv,.slice PV q.length cpv,I p.group]) p,aU 49 7 aM (.slice Y cols.length cy) cols,aU 49 7 aM (.slice O (aZ cols p).1.length co) (aZ cols p).1,blk b3 [.slice W p.wh.length cw,.slice A r.length m,I p.group] 26] S:=by first | exact c | exact c.aO.aF
  have h1:=dY (dY h0 At2) At3;have h2:=Sep.mh (Z:=λw=>aJ w (.slice Y cols.length cy) aM 7 cols/\fZ w (agg [.slice WV p.wh.length cwv,.slice PV q.length cpv,I p.group]) p) (h1.aF.aO) (λw a b=>⟨a,b⟩);have h3:=Sep.mh (Z:=λw=>Ch w (.slice Y cols.length cy) (.slice WV p.wh.length cwv) (.slice PV q.length cpv) (.slice O (aZ cols p).1.length co) [] cols p []) (h2.aO.aF) (λw a b=>⟨⟨a.1,a.2,b⟩,gN.nil⟩);exact⟨_,by rw[dN];rfl,h3.kept,λh=>zas dN h,λ_=>⟨b,rfl,(rV ((Sep.iW h3 60 2 aA).aO)).first.turn⟩⟩
def ae8 (hp:(oq b cols p J).ok F w) (dN:(aZ cols p).2=0) (Bl:bC p.wh) (yK: ∀o∈p.cols,bC o.steps) (hJ0:(bN cols p J).2=0) (hv:lF p (bN cols p J).1) (hJf: ∀x∈J,dR x) (hJn:J.length<=100):
    aQ prog 19 [av b] w λu w'=>∃x:Value×List Held,u=x.1/\x.2.map (·.2)=(d9 p.group p.cols.length (bN cols p J).1).1/\Turn F (star (dz x.1 x.2) (oq b cols p J)) w w':=by
  obtain⟨cv,wv,pv,ov,iv,rI,H⟩:=vP (Sep.bW hp);have Lm:=mQ dN;refine dh func19 ?_;refine V5 ?_;refine dM (H.obj At0) (h:=?_);have hF0:=Sep.sees H At2;obtain⟨q,hPA⟩:=uO hF0.1.2.1;refine Nz (UM (H.obj At0) hF0.1.1 hPA ⟨rI,jq H At1,hF0.2⟩ Bl yK oM hJf oM) (λy _ hy k _=>?_);obtain⟨yv,Ly⟩:=y;dsimp only at hy k ⊢;refine V7 ?_;have hF1:=Sep.sees k At3;obtain⟨q2,an7⟩:=uO hF1.1.2.1;have hIt:=gU k At0;rw[hy]at hIt;refine Nz (Oh (k.obj At1) an7 hIt Lm hv.items hv.few) (λz _ hz k _=>?_);obtain⟨zv,Lz⟩:=z;dsimp only at hz k ⊢;refine V7 ?_;exact⟨(zv,Lz),rfl,hz,((rV (k.aF.bI.aS.aS.aS)).aF.aR.first).turn⟩
def vQ (v:Value) (r:List (Value×Int)) (l:List aG):HP:=fP λw=>aJ w v aA 2 r/\gN w r l
section
variable {w w0:Wd} {S:NP} {rs:List HP} {put:HP->List HP}
def Om {L:List Held} (H:Mw.Sep w0 S rs w) (hat:At rs (dz v L) put):Mw.Sep w0 S (put (vQ v (aP L) (L.map (·.2)))) w:=Sep.look H hat λ_ _ h=>by
 obtain⟨F1,F2,_,_,h1,h2⟩:=h;exact⟨mW h1,vD h2⟩
end
set_option maxHeartbeats 1000000 in
theorem ae9 (hp:(oq b cols p J).ok F w) (hl: ∀w1,Kept F w w1->dS w1 v l) (dN:(aZ cols p).2=0) (Bl:bC p.wh) (yK: ∀o∈p.cols,bC o.steps) (hJ0:(bN cols p J).2=0) (hv:lF p (bN cols p J).1) (hJf: ∀x∈J,dR x) (Fx: ∀x∈l,dR x) (hlr: ∀x∈l,x.row.length<=1000) (hn:J.length+l.length<=100):
    aQ Tryz.prog 15 [av b,v] w λu w'=>∃x:Value×List Held,u=.tuple #[x.1,I (fq cols p (bN cols p J).1 l).2]/\x.2.map (·.2)=(fq cols p (bN cols p J).1 l).1/\Turn F (star (dz x.1 x.2) (oq b cols p (if(fq cols p (bN cols p J).1 l).2=0 then J++l else J))) w w':=by
  obtain⟨cv,wv,pv,ov,iv,rI,H⟩:=vP (Sep.bW hp);have Lm:=mQ dN;obtain⟨T,hT⟩: ∃T,T=(bN cols p J).1:=⟨_,rfl⟩;rw[<-hT]at hv ⊢;have hTn:T.length<=J.length:=by rw[hT];exact nJ J
  obtain⟨IV,cI,rfl,_,_⟩:=Sep.bH H At1;obtain⟨m,hm⟩: ∃m,m=(bN cols p l).1:=⟨_,rfl⟩;have hmn:m.length<=l.length:=by rw[hm];exact nJ l
  have Y9: ∀o∈m,BI p.cols.length o:=by rw[hm];exact y7 yK Fx
  have hTm: ∀o∈T++m,BI p.cols.length o:=λo ho=>(zbk.1 ho).elim (hv.items o) (Y9 o);refine bU Tryz.func15 ?_;refine V6 ?_;refine dM (H.obj At0) (h:=?_);have hF0:=Sep.sees H At2;obtain⟨q,hPA⟩:=uO hF0.1.2.1;refine Nz (UM (H.obj At0) hF0.1.1 hPA ⟨rI,jq H At1,hF0.2⟩ Bl yK oM hJf oM) (λy _ hy S _=>?_);obtain⟨yv,Ly⟩:=y;rw[<-hT]at hy;dsimp only at hy S ⊢;have S:=Om S At0;rw[hy]at S;refine V7 ?_;have hF1:=Sep.sees S At3;obtain⟨q1,atH⟩:=uO hF1.1.2.1;refine Nz (UM (S.obj At1) hF1.1.1 atH (hl _ S.kept) Bl yK oM Fx oM) (λz S hz d _=>?_);obtain⟨zv,Lz⟩:=z;rw[<-hm]at hz;dsimp only at hz d ⊢;obtain⟨ZV,cz,rfl,_,_⟩:=Sep.bH d.bE At0;have d:=Om d At0;rw[hz]at d;refine Cz (λe=>?_) (λe=>?_)
  . have f:=e
    have Qm:fq cols p T l=([],(bN cols p l).2):=by unfold fq;rw[zac f]
    refine V3 ?_;exact⟨(.slice none 0 0,[]),by rw[Qm];rfl,by rw[Qm];rfl,by
    rw[Qm,zaa f];exact(Sep.gy (bJ (rV (d.bI.bI)).first) 60 2).aR.aR.turn⟩
  have hi0:(bN cols p l).2=0:=Decidable.of_not_not e;have Qm:fq cols p T l=jM p.group p.cols.length T m:=by unfold fq;rw[zaa (λh=>h hi0),hm]
  refine V1 ?_;have hTI:dS S yv T:=⟨_,(Sep.sees d At1).1,(Sep.sees d At1).2⟩;refine Nz (Ef hTI oM (λo ho=>by rw[(hv.items o ho).2.1];omega)) (λy _ f e _=>?_);obtain⟨cv2,Lc⟩:=y;dsimp only at f e ⊢;have e:=e.bE;have awJ:(aP Lc).length=T.length:=by unfold aP;rw[zae,<-f,zae]
  have awK:(aP Lz).length=m.length:=by unfold aP;rw[zae,<-hz,zae]
  refine Mv ?_;have qF: ∀u∈(aP Lz).flatMap aA,u.oneCell'=true:=rY (Sep.sees e At2).2;refine Ri (v:=cv2) (k:=(aP Lc).length) (m:=(aP Lz).length) (c:=cz) (xs:=(aP Lc).flatMap aA) (news:=(aP Lz).flatMap aA) (A:=ZV) e rfl rfl At0 (eX (Sep.sees e At2).1) qF (h63:=by unfold maxLen;omega) (hbytes:=by omega) (h:=?_);intro v41 e d;rw[<-zbv,<-zad]at d;have d:Mw.Sep w F (aU 60 2 aA v41 (aP Lc++aP Lz)::_) e:=d;refine V3 ?_
  have eP:gN e (aP Lc++aP Lz) (T++m):=by
    have h1:=mO d At1;rw[f]at h1;exact h1.app (Sep.sees d At2).2
  have hF2:=Sep.sees d At6;obtain⟨q2,an7⟩:=uO hF2.1.2.1;refine Nz (Oh (d.obj At4) an7 ⟨_,jq d At0,eP⟩ Lm hTm (by rw[zad];omega)) (λz d AZ e _=>?_);obtain⟨nv,Ln⟩:=z;dsimp only at AZ e ⊢;have e:=e.aF.bI.aF.bI;refine Cz (λf=>?_) (λf=>?_)
  . have S:=f
    have hmp:jM p.group p.cols.length T m=([],(d9 p.group p.cols.length (T++m)).2):=by unfold jM;rw[zac S]
    refine V3 ?_;exact⟨(.slice none 0 0,[]),by rw[Qm,hmp];rfl,by rw[Qm,hmp];rfl,by
    rw[Qm,hmp,zaa S];exact(Sep.gy (bJ (rV (e.bI.bI.bI)).first) 60 2).aR.aR.turn⟩
  have ht0:(d9 p.group p.cols.length (T++m)).2=0:=Decidable.of_not_not f;refine O1 ?_;refine Qn (dB (λx:Value×List Held=>[(0,av b),(1,v),(13,x.1)]) (λx w'=>(x.2.map (·.2)=(jM p.group p.cols.length T m).1/\(jM p.group p.cols.length T m).2=0)/\Mw.Sep w F [dz x.1 x.2,blk b (tL cv wv pv p.group ov (.slice IV rI.length cI)) 43,aU 60 2 aA (.slice IV rI.length cI) rI,fP λw=>Ch w cv wv pv ov rI cols p J] w') ?_ ?_)
  . refine V4 ?_
    refine dM (e.obj At3) (h:=?_);refine Vl ?_;refine Cz (λS=>?_) (λS=>?_)
    . have hg:p.group<0:=S
      have hmp:jM p.group p.cols.length T m=cO m:=by unfold jM;rw[zaa (λh=>h ht0),zac hg]
      refine V1 ?_;have hmI:dS d (.slice ZV (aP Lz).length cz) m:=⟨_,(Sep.sees e At1).1,(Sep.sees e At1).2⟩;refine Nz (BU hmI oM (λo ho=>(Y9 o ho).1) (λo ho=>by rw[(Y9 o ho).2.1];omega)) (λz _ hx f _=>?_);obtain⟨xv,Lx⟩:=z;rw[<-hmp]at hx ⊢;dsimp only at hx f ⊢;refine Cz (λg=>?_) (λg=>?_)
      . have i:=g
        have hmb:=agT i;refine V3 ?_;exact⟨(.slice none 0 0,[]),by rw[Qm];rfl,by rw[Qm,hmb];rfl,by
        rw[Qm,zaa i];exact(Sep.gy (bJ (rV (f.bI.bI.bI.bI)).first) 60 2).aR.aR.turn⟩
      have hm0:(jM p.group p.cols.length T m).2=0:=Decidable.of_not_not g;refine V2 ?_;exact au (xv,Lx) tR ⟨⟨hx,hm0⟩,f.aF.bI.aF.bI.aF.bI⟩
    have hg: ¬p.group<0:=S;have hmp:jM p.group p.cols.length T m=cO ((d9 p.group p.cols.length (T++m)).1++yO (d9 p.group p.cols.length T).1):=by unfold jM;rw[zaa (λh=>h ht0),zaa hg]
    have hm0:(jM p.group p.cols.length T m).2=0:=by rw[ZX hg hv.tell,ht0]
    have htT:=jm hg hv.tell;have htM:=jm hg ht0;have hkT:=lM ((jD hg).1 hv.tell).1;have hkM:=lM ((jD hg).1 ht0).1;have hzT:isZ (d9 p.group p.cols.length T).1:=Xj hv.tell;have hzM:isZ (d9 p.group p.cols.length (T++m)).1:=Xj ht0;have h1T: ∀x∈(d9 p.group p.cols.length T).1,x.w=1:=by rw[htT];exact Oi
    have h1M: ∀x∈(d9 p.group p.cols.length (T++m)).1,x.w=1:=by rw[htM];exact Oi
    have hrT: ∀x∈(d9 p.group p.cols.length T).1,x.row.length<=1000:=by rw[htT];exact λx hx=>by rw[Oj hkT x hx];omega
    have hrM: ∀x∈(d9 p.group p.cols.length (T++m)).1,x.row.length<=1000:=by rw[htM];exact λx hx=>by rw[Oj hkM x hx];omega
    have hlT:(d9 p.group p.cols.length T).1.length<=100:=by
      rw[htT];have:=Ol (sums:=p.cols.length-p.group.toNat) (E:=T.map (fu p.group.toNat));rw[zae]at this;dsimp only;omega
    have hlM:(d9 p.group p.cols.length (T++m)).1.length<=100:=by
      rw[htM];have:=Ol (sums:=p.cols.length-p.group.toNat) (E:=(T++m).map (fu p.group.toNat));rw[zae,zad]at this;dsimp only;omega
    refine V2 ?_;have hF3:=Sep.sees e At5;obtain⟨q3,atK⟩:=uO hF3.1.2.1;have atL:dS d yv T:=⟨_,(Sep.sees e At2).1,(Sep.sees e At2).2⟩;refine Nz (Oh (e.obj At3) atK atL Lm hv.items hv.few) (λz _ ho i _=>?_);obtain⟨ov2,Lo⟩:=z;dsimp only at ho i ⊢;refine V6 ?_;have hoI:=gU i At0;rw[ho]at hoI;refine Nz (amV hoI oM (λo h=>by rw[h1T o h];exact⟨dC,dC⟩) hrT) (λz _ htn i _=>?_);obtain⟨tv,Lt⟩:=z;rw[ae7 hzT h1T]at htn;dsimp only at htn i ⊢;refine V7 ?_;have hnI:=gU i At2;rw[AZ]at hnI;have htI:=gU i At0;rw[htn]at htI
    have hnw: ∀o∈yO (d9 p.group p.cols.length T).1,fits o.w/\o.row.length<=1000:=λo h=>by
      unfold yO at h;obtain⟨x,hx,rfl⟩:=zar.1 h;exact⟨by dsimp only;rw[h1T x hx];exact⟨dC,dC⟩,hrT x hx⟩
    refine Nz (akq hnI htI oM (by unfold yO;rw[zae];omega) (λo h=>by rw[h1M o h];exact⟨dC,dC⟩) (λo h=>(hnw o h).1) hrM (λo h=>(hnw o h).2)) (λz _ hx i _=>?_);obtain⟨xv,Lx⟩:=z;rw[acA hzM (akC hzT h1T),show ajN (d9 p.group p.cols.length (T++m)).1 (yO (d9 p.group p.cols.length T).1)=jM p.group p.cols.length T m from hmp.symm]at hx;dsimp only at hx i ⊢;refine V4 ?_;exact au (xv,Lx) tR ⟨⟨hx,hm0⟩,i.aF.bI.aF.bI.aF.bI.aF.bI.aF.bI⟩
  rintro⟨xv,Lx⟩ τ i hI;obtain⟨⟨hx1,Kv⟩,i⟩:=hI;dsimp only at hx1 i;refine Lp ?_;refine Dz (λi _ g=>?_);refine V6 ?_;refine eB i 6 [(4,false),(3,true),(2,true),(1,true),(0,true)] g (Ef (hl _ g.kept) oM hlr) (h:=λy _ hk g _=>?_);obtain⟨kv,Lk⟩:=y;dsimp only at hk g;have g:=g.bE;obtain⟨KV,ck,rfl,_,_⟩:=Sep.bH g At0;refine⟨sL,?_⟩;have hrk:=mO g At1;rw[hk]at hrk;have awU:(aP Lk).length=l.length:=by unfold aP;rw[zae,<-hk,zae]
  have awV:rI.length=J.length:=(Sep.sees g At5).2.len;refine ah5 i 7 [(0,true)] (v:=.slice IV rI.length cI) (k:=rI.length) (m:=(aP Lk).length) (c:=ck) (xs:=rI.flatMap aA) (news:=(aP Lk).flatMap aA) (A:=KV) g (eX (jq g At0)) (rY hrk) (by unfold maxLen;omega) oM (hat:=At4) (h:=λv90 _ g=>?_);rw[<-zbv,<-zad]at g;obtain⟨IX,cX,rfl,_,_⟩:=Sep.bH (l:=rI++aP Lk) (enc:=aA) (k:=2) g At4;refine⟨sT,?_⟩;refine V2 ?_;refine l8 i 10 _ g (h:=λ_ g=>⟨sT,?_⟩);refine V3 ?_;exact⟨(xv,Lx),by rw[Qm,Kv];rfl,by rw[Qm];exact hx1,by
  rw[Qm,zac Kv];have h1:=Sep.look g.bI At0 (X:=λw=>gN w (aP Lk) l) (λF w h=>by have:=vD h;rw[hk]at this;exact this);have h2:=Sep.mh (Z:=λw=>Ch w cv wv pv ov (rI++aP Lk) cols p (J++l)) (h1.gu) (λw a b=>⟨a.1,a.2.app b⟩);exact((rV (h2.aS.aS)).aF.aR.first).turn⟩
def RS {cols:List bT} {p:aW} (hJ0:(bN cols p J).2=0):iR cols p (bN cols p J).1 l=(bN cols p (if(fq cols p (bN cols p J).1 l).2=0 then J++l else J)).1:=by
 unfold iR
 split
 .rename_i h
  rw[FY hJ0 (Nh h).1]
 rfl
def afa (hJ0:(bN cols p J).2=0):(bN cols p (if(fq cols p (bN cols p J).1 l).2=0 then J++l else J)).2=0:=by
 split
 .rename_i h
  rw[FY hJ0 (Nh h).1]
 exact hJ0
def akE {T l want:List aG} {e:Int} {vw:Value} (hp:(jZ b cols p T).ok F w) (hl:Av w F v l) (hwt: ∀w1,Kept F w w1->dS w1 vw want) (hT: ∀w1,Kept F w w1->gT w1) (dN:(aZ cols p).2=0) (Bl:bC p.wh) (yK: ∀o∈p.cols,bC o.steps) (hv:lF p T) (Fx: ∀x∈l,dR x) (hln:l.length<=100):
    aQ Tryz.prog 37 [av b,I e,v,vw] w λu w'=>u=.bool (decide ((fq cols p T l).1=want)&&decide ((fq cols p T l).2=e))/\Turn F (jZ b cols p (iR cols p T l)) w w':=by
  have H:=Sep.bW hp;refine yM Tryz.func37 ?_;refine V3 ?_;obtain⟨F0,rC,gQ,aK⟩:=H.focus At0;have Fu: ∀w1,Kept F0 _ w1->Kept F w w1:=λw1 h1=>Mw.Kept.into H.kept gQ h1;obtain⟨r,hr⟩:=hl;refine aL (J3 rC ⟨r,λw1 h1=>hr w1 (Fu w1 h1)⟩ (λw1 h1=>hT w1 (Fu w1 h1)) dN Bl yK hv Fx hln) rfl rfl (λv' _ hv=>?_);obtain⟨x,rfl,hx,jH,F1,jB,k⟩:=hv;have S:=(aK _ F1 _ jH jB k).bE;refine V7 ?_;have hxI:=gU S At0;rw[hx]at hxI;refine Kz (xU hxI (hwt _ S.kept)) (λ_ S _=>?_);refine Mv ?_;refine Sz (λk=>?_) (λk=>?_)
  . refine V5 ?_
    exact⟨by simp_all[fJ],S.bI.turn⟩
  refine V2 ?_;exact⟨by simp_all[fJ],S.bI.turn⟩
variable {v1:Value} {n1:Int} {r1:List aC}
def nK (H:Mw.Sep w0 S (blk b ([(v1,n1)].flatMap aA) 60::aU 47 3 ah v1 r1::rs) w):Mw.Sep w0 S (vQ (.slice (some ⟨b,0,none⟩) 1 1) [(v1,n1)] [⟨r1,n1⟩]::rs) w:=by
 have h1:=rO (x:=v1) (o:=⟨r1,n1⟩) ((JB H).aO);have h2:=dY (l:=[(v1,n1)]) (enc:=aA) (k:=2) (Sep.nU (n:=1) (s:=2) h1.aF At0 rfl dC) At0;exact Sep.mh h2 λw a b=>⟨a,b⟩
def jT {v2:Value} {n2:Int} {r2:List aC} (H:Mw.Sep w0 S (blk b ([(v1,n1),(v2,n2)].flatMap aA) 60::aU 47 3 ah v2 r2::aU 47 3 ah v1 r1::rs) w):Mw.Sep w0 S (vQ (.slice (some ⟨b,0,none⟩) 2 2) [(v1,n1),(v2,n2)] [⟨r1,n1⟩,⟨r2,n2⟩]::rs) w:=by
 have h1:=rO (x:=v1) (o:=⟨r1,n1⟩) ((JB H).aS);have h1:=rO (x:=v2) (o:=⟨r2,n2⟩) (h1.aO);have h2:=dY (l:=[(v1,n1),(v2,n2)]) (enc:=aA) (k:=2) (Sep.nU (n:=2) (s:=2) h1.aF At0 rfl dC) At0;exact Sep.mh h2 λw a b=>⟨a,b⟩
def zq {v2 v3:Value} {n2 n3:Int} {r2 r3:List aC} (H:Mw.Sep w0 S (blk b ([(v1,n1),(v2,n2),(v3,n3)].flatMap aA) 60::aU 47 3 ah v3 r3::aU 47 3 ah v2 r2::aU 47 3 ah v1 r1::rs) w):Mw.Sep w0 S (vQ (.slice (some ⟨b,0,none⟩) 3 3) [(v1,n1),(v2,n2),(v3,n3)] [⟨r1,n1⟩,⟨r2,n2⟩,⟨r3,n3⟩]::rs) w:=by
 have h1:=rO (x:=v1) (o:=⟨r1,n1⟩) ((JB H).gu);have h1:=rO (x:=v2) (o:=⟨r2,n2⟩) (h1.aS);have h1:=rO (x:=v3) (o:=⟨r3,n3⟩) (h1.aO);have h2:=dY (l:=[(v1,n1),(v2,n2),(v3,n3)]) (enc:=aA) (k:=2) (Sep.nU (n:=3) (s:=2) h1.aF At0 rfl dC) At0;exact Sep.mh h2 λw a b=>⟨a,b⟩
def Dw (H:Mw.Sep w0 S rs w):Mw.Sep w0 S (vQ (.slice none 0 0) [] []::rs) w:=Sep.qL H λw=>⟨qo _ _ _,gN.nil⟩
def xX {T li lw:List aG} {ri rw':List (Value×Int)} {e:Int} {vi vw:Value} (H:Mw.Sep w0 S (star (vQ vw rw' lw) (vQ vi ri li)::jZ b cols p T::rs) w) (hT: ∀wx,Kept S w0 wx->gT wx) (dN:(aZ cols p).2=0) (Bl:bC p.wh) (yK: ∀o∈p.cols,bC o.steps) (hv:lF p T) (Fx: ∀x∈li,dR x) (hln:li.length<=100):
    aQ prog 37 [av b,I e,vi,vw] w λu w'=>u=.bool (decide ((fq cols p T li).1=lw)&&decide ((fq cols p T li).2=e))/\Mw.Sep w0 S (jZ b cols p (iR cols p T li)::rs) w':=by
  obtain⟨F0,rC,gQ,VH,aK⟩:=Sep.BN H At0;have Fu: ∀k,Kept F0 w k->Kept S w0 k:=λk h1=>Mw.Kept.into H.kept gQ h1;refine aQ.mono (akE (want:=lw) rC ⟨ri,λk h1=>?_⟩ (λk h1=>?_) (λk h1=>hT k (Fu k h1)) dN Bl yK hv Fx hln) λu w' hu=>?_
  . obtain⟨Fq,F1,F2,_,_,_,h2⟩:=VH k h1
    exact sI h2
  . obtain⟨Fq,F1,F2,_,_,h2,_⟩:=VH k h1
    exact⟨rw',(sI h2).1,(sI h2).2⟩
  obtain⟨rfl,jH,F1,jB,k⟩:=hu;exact⟨rfl,(aK _ F1 _ jH jB k).bI⟩
def J4 (wt:Int):aQ prog 34 [I wt] w λu w'=>∃x:Value,u=agg (aA (x,wt))/\True/\Turn noB (aU 47 3 ah x [iH aV]) w w':=by
 have H:=Sep.aH w;refine pE func34 ?_;refine Az (λb2 _ k _=>?_);refine Nx (Vb (ah (iH aV)) ?_);refine Bs k ([iH aV].flatMap ah) (λbs _ _ _=>?_);refine Mv ?_;refine Vb (aA (.slice (some ⟨bs,0,none⟩) 1 1,wt)) ?_;refine Tz (λ_ k=>?_);refine V0 ?_;exact⟨_,fG k,_,rfl,trivial,(Sep.nU (n:=1) (s:=3) k At0 rfl dC).first.turn⟩
def nL (c:aC) (n1 n2 wt:Int):aQ prog 35 [agg (ah c),I n1,I n2,I wt] w λu w'=>∃x:Value,u=agg (aA (x,wt))/\True/\Turn noB (aU 47 3 ah x [c,vO n1,vO n2]) w w':=by
 have H:=Sep.aH w;refine anc func35 ?_;refine Sr (bB H (cs:=ah c) rfl (h:=λb4 _ _ _=>?_));refine Az (λb8 _ k _=>?_);refine Nx (fQ k (cs:=ah c) (h:=?_));refine Mv ?_;refine Vb (ah (vO n1)) ?_;refine Mv ?_;refine Vb (ah (vO n2)) ?_;refine Bs k ([c,vO n1,vO n2].flatMap ah) (λbs _ _ _=>?_);refine Mv ?_;refine Vb (aA (.slice (some ⟨bs,0,none⟩) 3 3,wt)) ?_;refine Tz (λ_ k=>?_);refine V0 ?_;exact⟨_,fG k,_,rfl,trivial,(Sep.nU (n:=3) (s:=3) k At0 rfl dC).first.turn⟩
def J5 {t:L8} (ht:textOf p t=true) (dN:(aZ pO p).2=0) (Bn:p.wh.length<=100) (Tq: ∀o∈p.cols,o.steps.length<=100) (hT:gT w):aQ prog 36 [str t] w λu w'=>∃b:Nat,u=av b/\True/\Turn noB (jZ b pO p []) w w':=by
 obtain⟨hp,⟨Bl,yK⟩,Bj⟩:=Cb ht;have Lm:=mQ dN;have H:=Sep.aH w;refine dh func36 ?_;refine Nz (Nv t (.inl oM) oM (hT.keep H.kept)) (λx k _ S _=>?_);rw[hp]at S ⊢;have hPI:fZ k x p:=Sep.sees S At0;obtain⟨vw,vc,rfl,hvw,q,hvc,_⟩:=hPI;obtain⟨W,cw,rfl,_,_⟩:=hvw;obtain⟨A,ca,rfl,_,_⟩:=hvc;refine Az (λb3 _ S _=>?_);refine iB S (us:=[.slice W p.wh.length cw,.slice A q.length ca,I p.group]) (h:=λ_ _=>?_);refine Dz (λS _ k=>?_);refine jU S 1 k (h:=?_);refine eB S 0 [(1,false)] k UF (h:=λtv k _ a _=>⟨sU,?_⟩);have atN:fZ k (agg [.slice W p.wh.length cw,.slice A q.length ca,I p.group]) p:=Sep.sees a At2;refine p8 S 2 [] rfl kR (Og (jq a At0) dC atN Bl yK oM oM (λo ho=>by have:=Tq o ho;omega) (hT.keep a.kept)) rfl kR kR (λv' _ hv=>?_);obtain⟨pv,rfl,cK,_,hb⟩:=hv;obtain⟨b,rfl,jH,F1,jB,k⟩:=hb dN;have S:=a.new jH jB (λb hb=>(k b hb).resolve_left id);refine⟨sT,?_⟩;refine V7 ?_;exact⟨b,rfl,trivial,S.first.turn⟩
end Go.Proofs.Mw
