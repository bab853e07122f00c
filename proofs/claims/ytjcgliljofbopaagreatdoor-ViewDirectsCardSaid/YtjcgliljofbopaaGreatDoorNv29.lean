/-
 The document's view:items put to it;walked.
-/
import Derived.Test.YtjcgliljofbopaaGreatDoorNv28
set_option linter.all false
set_option maxRecDepth 4000
namespace Go.Proofs.Mw
open Go.Lib Go.Proofs.Tryz Go.ChangeShapes Go.WideShapes Go.RowKit
attribute [local irreducible] FW FL FG FGn jK jO fI lU Qfn Gives
variable {v:Value}
def vg (v:Value) (r:List (Value×Int)) (l:List aH):HP:=fQ λw=>aJ w v aA 2 r/\gL w r l
section
variable {w w0:Wd} {S:NP} {rs:List HP} {put:HP->List HP}
def NI {L:List Held} (H:Mw.Sep w0 S rs w) (hat:At rs (dV v L) put):Mw.Sep w0 S (put (vg v (aO L) (L.map (·.2)))) w:=Sep.look H hat λ_ _ h=>by
 obtain⟨F1,F2,_,_,h1,h2⟩:=h;exact⟨nL h1,yG h2⟩
end
variable {w:Wd} {F:NP}
variable {b:Nat} {cols:List bY} {p:aU} {l:List aH}
set_option maxHeartbeats 1000000 in
theorem aeg {J:List aH} (hp:(BI b cols p J).ok F w) (hl: ∀w1,Kept F w w1->dI w1 v l) (dX:(bX cols p).2=0) (Ai:aZ p.wh) (vM: ∀o∈p.cols,aZ o.steps) (hJ0:(dN cols p J).2=0) (hv:pU p (dN cols p J).1) (hJf: ∀x∈J,fJ x) (Dl: ∀x∈l,fJ x) (hlr: ∀x∈l,x.row.length<=1000) (hn:J.length+l.length<=100):
    aR Tryz.prog 17 [ay b,v] w λu w'=>∃x:Value×List Held,u=.tuple #[x.1,I (gP cols p (dN cols p J).1 l).2]/\x.2.map (·.2)=(gP cols p (dN cols p J).1 l).1/\Turn F (star (dV x.1 x.2) (BI b cols p (if(gP cols p (dN cols p J).1 l).2=0 then J++l else J))) w w':=by
  obtain⟨cv,wv,pv,ov,iv,rI,H⟩:=NH (Sep.bR hp);have RJ:=qh dX;obtain⟨T,hT⟩: ∃T,T=(dN cols p J).1:=⟨_,rfl⟩;rw[<-hT]at hv ⊢;have hTn:T.length<=J.length:=by rw[hT];exact rA J
  obtain⟨IV,cI,rfl,_,_⟩:=Sep.bJ H At1;obtain⟨m,hm⟩: ∃m,m=(dN cols p l).1:=⟨_,rfl⟩;have hmn:m.length<=l.length:=by rw[hm];exact rA l
  have Yo: ∀o∈m,Bj p.cols.length o:=by rw[hm];exact CO vM Dl
  have hTm: ∀o∈T++m,Bj p.cols.length o:=λo ho=>(zbk.1 ho).elim (hv.items o) (Yo o);refine bQ Tryz.func17 ?_;refine Zb6 ?_;refine dM (H.obj At0) (h:=?_);have hF0:=Sep.sees H At2;obtain⟨q,hPA⟩:=uo hF0.1.2.1;refine Nz (Ud (H.obj At0) hF0.1.1 hPA ⟨rI,jG H At1,hF0.2⟩ Ai vM oM hJf oM) (λy _ hy S _=>?_);obtain⟨yv,Ly⟩:=y;rw[<-hT]at hy;dsimp only at hy S ⊢;have S:=NI S At0;rw[hy]at S;refine Zb7 ?_;have hF1:=Sep.sees S At3;obtain⟨q1,asz⟩:=uo hF1.1.2.1;refine Nz (Ud (S.obj At1) hF1.1.1 asz (hl _ S.kept) Ai vM oM Dl oM) (λz S hz d _=>?_);obtain⟨zv,Lz⟩:=z;rw[<-hm]at hz;dsimp only at hz d ⊢;obtain⟨ZV,cz,rfl,_,_⟩:=Sep.bJ d.bL At0;have d:=NI d At0;rw[hz]at d;refine Cz (λe=>?_) (λe=>?_)
  . have f:=e
    have Pz:gP cols p T l=([],(dN cols p l).2):=by unfold gP;rw[zac f]
    refine Zb3 ?_;exact⟨(.slice none 0 0,[]),by rw[Pz];rfl,by rw[Pz];rfl,by
    rw[Pz,zab f];exact(Sep.fT (bD (uq (d.bH.bH)).first) 39 2).aQ.aQ.turn⟩
  have hi0:(dN cols p l).2=0:=Decidable.of_not_not e;have Pz:gP cols p T l=jR p.group p.cols.length T m:=by unfold gP;rw[zab (λh=>h hi0),hm]
  refine Zb1 ?_;have hTI:dI S yv T:=⟨_,(Sep.sees d At1).1,(Sep.sees d At1).2⟩;refine Nz (DL hTI oM (λo ho=>by rw[(hv.items o ho).2.1];omega)) (λy _ f e _=>?_);obtain⟨cv2,Lc⟩:=y;dsimp only at f e ⊢;have e:=e.bL;have avy:(aO Lc).length=T.length:=by unfold aO;rw[zaf,<-f,zaf]
  have avz:(aO Lz).length=m.length:=by unfold aO;rw[zaf,<-hz,zaf]
  refine Mv ?_;have qy: ∀u∈(aO Lz).flatMap aA,u.oneCell'=true:=rM (Sep.sees e At2).2;refine QE (v:=cv2) (k:=(aO Lc).length) (m:=(aO Lz).length) (c:=cz) (xs:=(aO Lc).flatMap aA) (news:=(aO Lz).flatMap aA) (A:=ZV) e rfl rfl At0 (eO (Sep.sees e At2).1) qy (h63:=by unfold maxLen;omega) (hbytes:=by omega) (h:=?_);intro v41 e d;rw[<-zbt,<-zad]at d;have d:Mw.Sep w F (aY 39 2 aA v41 (aO Lc++aO Lz)::_) e:=d;refine Zb3 ?_
  have eF:gL e (aO Lc++aO Lz) (T++m):=by
    have h1:=mG d At1;rw[f]at h1;exact h1.app (Sep.sees d At2).2
  have hF2:=Sep.sees d At6;obtain⟨q2,am2⟩:=uo hF2.1.2.1;refine Nz (NG (d.obj At4) am2 ⟨_,jG d At0,eF⟩ RJ hTm (by rw[zad];omega)) (λz d Ag e _=>?_);obtain⟨nv,Ln⟩:=z;dsimp only at Ag e ⊢;have e:=e.aG.bH.aG.bH;refine Cz (λf=>?_) (λf=>?_)
  . have S:=f
    have hmp:jR p.group p.cols.length T m=([],(fq p.group p.cols.length (T++m)).2):=by unfold jR;rw[zac S]
    refine Zb3 ?_;exact⟨(.slice none 0 0,[]),by rw[Pz,hmp];rfl,by rw[Pz,hmp];rfl,by
    rw[Pz,hmp,zab S];exact(Sep.fT (bD (uq (e.bH.bH.bH)).first) 39 2).aQ.aQ.turn⟩
  have ht0:(fq p.group p.cols.length (T++m)).2=0:=Decidable.of_not_not f;refine Za1 ?_;refine Qn (dD (λx:Value×List Held=>[(0,ay b),(1,v),(13,x.1)]) (λx w'=>(x.2.map (·.2)=(jR p.group p.cols.length T m).1/\(jR p.group p.cols.length T m).2=0)/\Mw.Sep w F [dV x.1 x.2,blk b (u7 cv wv pv p.group ov (.slice IV rI.length cI)) 99,aY 39 2 aA (.slice IV rI.length cI) rI,fQ λw=>Et w cv wv pv ov rI cols p J] w') ?_ ?_)
  . refine Zb4 ?_
    refine dM (e.obj At3) (h:=?_);refine Vl ?_;refine Cz (λS=>?_) (λS=>?_)
    . have hg:p.group<0:=S
      have hmp:jR p.group p.cols.length T m=dh m:=by unfold jR;rw[zab (λh=>h ht0),zac hg]
      refine Zb1 ?_;have hmI:dI d (.slice ZV (aO Lz).length cz) m:=⟨_,(Sep.sees e At1).1,(Sep.sees e At1).2⟩;refine Nz (Bz hmI oM (λo ho=>(Yo o ho).1) (λo ho=>by rw[(Yo o ho).2.1];omega)) (λz _ hx f _=>?_);obtain⟨xv,Lx⟩:=z;rw[<-hmp]at hx ⊢;dsimp only at hx f ⊢;refine Cz (λg=>?_) (λg=>?_)
      . have i:=g
        have hmb:=afY i;refine Zb3 ?_;exact⟨(.slice none 0 0,[]),by rw[Pz];rfl,by rw[Pz,hmb];rfl,by
        rw[Pz,zab i];exact(Sep.fT (bD (uq (f.bH.bH.bH.bH)).first) 39 2).aQ.aQ.turn⟩
      have hm0:(jR p.group p.cols.length T m).2=0:=Decidable.of_not_not g;refine Zb2 ?_;exact au (xv,Lx) tR ⟨⟨hx,hm0⟩,f.aG.bH.aG.bH.aG.bH⟩
    have hg: ¬p.group<0:=S;have hmp:jR p.group p.cols.length T m=dh ((fq p.group p.cols.length (T++m)).1++Av (fq p.group p.cols.length T).1):=by unfold jR;rw[zab (λh=>h ht0),zab hg]
    have hm0:(jR p.group p.cols.length T m).2=0:=by rw[Zd hg hv.tell,ht0]
    have htT:=jH hg hv.tell;have htM:=jH hg ht0;have hkT:=mE ((jS hg).1 hv.tell).1;have hkM:=mE ((jS hg).1 ht0).1;have hzT:isZ (fq p.group p.cols.length T).1:=V7 hv.tell;have hzM:isZ (fq p.group p.cols.length (T++m)).1:=V7 ht0;have h1T: ∀x∈(fq p.group p.cols.length T).1,x.w=1:=by rw[htT];exact Xx
    have h1M: ∀x∈(fq p.group p.cols.length (T++m)).1,x.w=1:=by rw[htM];exact Xx
    have hrT: ∀x∈(fq p.group p.cols.length T).1,x.row.length<=1000:=by rw[htT];exact λx hx=>by rw[Xy hkT x hx];omega
    have hrM: ∀x∈(fq p.group p.cols.length (T++m)).1,x.row.length<=1000:=by rw[htM];exact λx hx=>by rw[Xy hkM x hx];omega
    have hlT:(fq p.group p.cols.length T).1.length<=100:=by
      rw[htT];have:=Xz (sums:=p.cols.length-p.group.toNat) (E:=T.map (eY p.group.toNat));rw[zaf]at this;dsimp only;omega
    have hlM:(fq p.group p.cols.length (T++m)).1.length<=100:=by
      rw[htM];have:=Xz (sums:=p.cols.length-p.group.toNat) (E:=(T++m).map (eY p.group.toNat));rw[zaf,zad]at this;dsimp only;omega
    refine Zb2 ?_;have hF3:=Sep.sees e At5;obtain⟨q3,asC⟩:=uo hF3.1.2.1;have asD:dI d yv T:=⟨_,(Sep.sees e At2).1,(Sep.sees e At2).2⟩;refine Nz (NG (e.obj At3) asC asD RJ hv.items hv.few) (λz _ ho i _=>?_);obtain⟨ov2,Lo⟩:=z;dsimp only at ho i ⊢;refine Zb6 ?_;have hoI:=fV i At0;rw[ho]at hoI;refine Nz (alS hoI oM (λo h=>by rw[h1T o h];exact⟨dC,dC⟩) hrT) (λz _ htn i _=>?_);obtain⟨tv,Lt⟩:=z;rw[aee hzT h1T]at htn;dsimp only at htn i ⊢;refine Zb7 ?_;have hnI:=fV i At2;rw[Ag]at hnI;have htI:=fV i At0;rw[htn]at htI
    have hnw: ∀o∈Av (fq p.group p.cols.length T).1,fits o.w/\o.row.length<=1000:=λo h=>by
      unfold Av at h;obtain⟨x,hx,rfl⟩:=zaq.1 h;exact⟨by dsimp only;rw[h1T x hx];exact⟨dC,dC⟩,hrT x hx⟩
    refine Nz (ajp hnI htI oM (by unfold Av;rw[zaf];omega) (λo h=>by rw[h1M o h];exact⟨dC,dC⟩) (λo h=>(hnw o h).1) hrM (λo h=>(hnw o h).2)) (λz _ hx i _=>?_);obtain⟨xv,Lx⟩:=z;rw[abD hzM (ajB hzT h1T),show aiM (fq p.group p.cols.length (T++m)).1 (Av (fq p.group p.cols.length T).1)=jR p.group p.cols.length T m from hmp.symm]at hx;dsimp only at hx i ⊢;refine Zb4 ?_;exact au (xv,Lx) tR ⟨⟨hx,hm0⟩,i.aG.bH.aG.bH.aG.bH.aG.bH.aG.bH⟩
  rintro⟨xv,Lx⟩ τ i hI;obtain⟨⟨hx1,hx2⟩,i⟩:=hI;dsimp only at hx1 i;refine Lp ?_;refine Dz (λi _ g=>?_);refine Zb6 ?_;refine dY i 6 [(4,false),(3,true),(2,true),(1,true),(0,true)] g (DL (hl _ g.kept) oM hlr) (h:=λy _ hk g _=>?_);obtain⟨kv,Lk⟩:=y;dsimp only at hk g;have g:=g.bL;obtain⟨KV,ck,rfl,_,_⟩:=Sep.bJ g At0;refine⟨sL,?_⟩;have hrk:=mG g At1;rw[hk]at hrk;have avJ:(aO Lk).length=l.length:=by unfold aO;rw[zaf,<-hk,zaf]
  have avK:rI.length=J.length:=(Sep.sees g At5).2.len;refine ahl i 7 [(0,true)] (v:=.slice IV rI.length cI) (k:=rI.length) (m:=(aO Lk).length) (c:=ck) (xs:=rI.flatMap aA) (news:=(aO Lk).flatMap aA) (A:=KV) g (eO (jG g At0)) (rM hrk) (by unfold maxLen;omega) oM (hat:=At4) (h:=λv90 _ g=>?_);rw[<-zbt,<-zad]at g;obtain⟨IX,cX,rfl,_,_⟩:=Sep.bJ (l:=rI++aO Lk) (enc:=aA) (k:=2) g At4;refine⟨sT,?_⟩;refine Zb2 ?_;refine lX i 10 _ g (h:=λ_ g=>⟨sT,?_⟩);refine Zb3 ?_;exact⟨(xv,Lx),by rw[Pz,hx2];rfl,by rw[Pz];exact hx1,by
  rw[Pz,zac hx2];have h1:=Sep.look g.bH At0 (X:=λw=>gL w (aO Lk) l) (λF w h=>by have:=yG h;rw[hk]at this;exact this);have h2:=Sep.l6 (Z:=λw=>Et w cv wv pv ov (rI++aO Lk) cols p (J++l)) (h1.gG) (λw a b=>⟨a.1,a.2.app b⟩);exact((uq (h2.aX.aX)).aG.aQ.first).turn⟩
def Z8 {vc vp:Value} (hc:aJ w vc aP 7 cols) (LA:cols.length<=1000) (hp:gX w vp p) (hl:dI w v l) (Ai:aZ p.wh) (vM: ∀o∈p.cols,aZ o.steps) (hn:p.cols.length<=100) (Au:p.wh.length<=1000) (OP: ∀o∈p.cols,o.steps.length<=1000) (Dl: ∀x∈l,fJ x) (hlr: ∀x∈l,x.row.length<=1000) (Yi:l.length<=100):
    aR prog 8 [vc,vp,v] w λu w'=>∃x:Value×List Held,u=.tuple #[x.1,I (iQ cols p l).2]/\x.2.map (·.2)=(iQ cols p l).1/\Turn noB (dV x.1 x.2) w w':=by
  have eD:=hp;obtain⟨vw,vq,rfl,hw,r,hr,eF⟩:=hp;obtain⟨W,cw,rfl,_,_⟩:=id hw;obtain⟨A,m,rfl,_,_⟩:=id hr;have H:=Sep.aF w;refine AP func8 ?_;refine Sr (bB H (cs:=[.slice W p.wh.length cw,.slice A r.length m,I p.group]) rfl (h:=λb4 _ k _=>?_));refine Zb3 ?_;refine fE k (cs:=[.slice W p.wh.length cw,.slice A r.length m,I p.group]) (h:=?_);refine aL (ajC (hc.keep k.kept) LA (eD.keep k.kept) hn Au OP) rfl rfl (λv' S hv=>?_);obtain⟨pv,rfl,bZ,_,hb⟩:=hv
  have am1:(bX cols p).2=0->∃b:Nat,pv=ay b/\Mw.Sep w noB (BI b cols p []::_) S:=λh=>by
    obtain⟨b,rfl,lI,F1,lq,S⟩:=hb h;exact⟨b,rfl,k.new lI lq (λb hb=>(S b hb).resolve_left id)⟩
  have a:=k.keep bZ;refine Cz (λk=>?_) (λk=>?_)
  . have c:=k
    have hd:iQ cols p l=([],(bX cols p).2):=by unfold iQ;rw[zac c]
    refine Zb3 ?_;exact⟨(.slice none 0 0,[]),by rw[hd];rfl,by rw[hd];rfl,(Sep.fT (bD a) 39 2).aQ.first.turn⟩
  have dX:(bX cols p).2=0:=Decidable.of_not_not k;obtain⟨b,rfl,c⟩:=am1 dX;refine Zb2 ?_;obtain⟨F0,vN,gV,aK⟩:=c.focus At0;have EK: ∀k,Kept F0 _ k->Kept noB w k:=λk h1=>Mw.Kept.into c.kept gV h1;refine aL (aeg vN (λk h1=>hl.keep (EK k h1)) dX Ai vM rfl (holds_nil p) (λx hx=>zar hx zan) Dl hlr (by simpa using Yi)) rfl rfl (λv' _ hv=>?_);obtain⟨x,rfl,hx,lI,F1,lq,S⟩:=hv;have k:=aK _ F1 _ lI lq S;rw[show(dN cols p []).1=([]:List aH)from rfl]at hx k ⊢;refine Cz (λS=>?_) (λS=>?_)
  . have c:=S
    have hd:iQ cols p l=([],(gP cols p [] l).2):=by unfold iQ;rw[zab (λh=>h dX),zac c]
    refine Zb3 ?_;exact⟨(.slice none 0 0,[]),by rw[hd];rfl,by rw[hd];rfl,(Sep.fT (bD k) 39 2).aQ.first.turn⟩
  have ha0:(gP cols p [] l).2=0:=Decidable.of_not_not S;have hd:iQ cols p l=((fq p.group p.cols.length (iP cols p [] l)).1,0):=by unfold iQ;rw[zab (λh=>h dX),zab (λh=>h ha0)]
  have sZ:iP cols p [] l=(dN cols p l).1:=by unfold iP;rw[zac ha0];rfl
  refine Zb1 ?_;have ald:=oK (cols:=cols) (holds_nil p) vM Dl (by simpa using Yi);rw[sZ]at ald;have c:=k.bL;rw[zac ha0,zbu]at c;obtain⟨F2,aiu,hS2,Yu⟩:=c.focus At1;refine aL (aef aiu dX Ai vM (Wh ha0).1 ald Dl Yi) rfl rfl (λv' _ hv=>?_);obtain⟨y,rfl,hy,hk2,F3,p8,k⟩:=hv;have c:=Yu _ F3 _ hk2 p8 k;refine Zb2 ?_;exact⟨y,by rw[hd];rfl,by rw[hd,sZ];exact hy,c.aG.bL.first.turn⟩
def ajD {T l want:List aH} {e:Int} {vw:Value} (hp:(qW b cols p T).ok F w) (hl:zU w F v l) (hwt: ∀w1,Kept F w w1->dI w1 vw want) (hT: ∀w1,Kept F w w1->iB w1) (dX:(bX cols p).2=0) (Ai:aZ p.wh) (vM: ∀o∈p.cols,aZ o.steps) (hv:pU p T) (Dl: ∀x∈l,fJ x) (Yi:l.length<=100):
    aR prog 23 [ay b,I e,v,vw] w λu w'=>u=.bool (decide ((gP cols p T l).1=want)&&decide ((gP cols p T l).2=e))/\Turn F (qW b cols p (iP cols p T l)) w w':=by
  have H:=Sep.bR hp;refine yg func23 ?_;refine Zb3 ?_;obtain⟨F0,vN,gV,aK⟩:=H.focus At0;have EK: ∀w1,Kept F0 _ w1->Kept F w w1:=λw1 h1=>Mw.Kept.into H.kept gV h1;obtain⟨r,hr⟩:=hl;refine aL (Rc vN ⟨r,λw1 h1=>hr w1 (EK w1 h1)⟩ (λw1 h1=>hT w1 (EK w1 h1)) dX Ai vM hv Dl Yi) rfl rfl (λv' _ hv=>?_);obtain⟨x,rfl,hx,lI,F1,lq,k⟩:=hv;have S:=(aK _ F1 _ lI lq k).bL;refine Zb7 ?_;have hxI:=fV S At0;rw[hx]at hxI;refine Kz (xA hxI (hwt _ S.kept)) (λ_ S _=>?_);refine Mv ?_;refine Sz (λk=>?_) (λk=>?_)
  . refine Zb5 ?_
    exact⟨by simp_all[fG],S.bH.turn⟩
  refine Zb2 ?_;exact⟨by simp_all[fG],S.bH.turn⟩
variable {w0:Wd} {S:NP} {rs:List HP}
variable {v1:Value} {n1:Int} {r1:List aC}
def nA (H:Mw.Sep w0 S (blk b ([(v1,n1)].flatMap aA) 39::aY 41 3 ah v1 r1::rs) w):Mw.Sep w0 S (vg (.slice (some ⟨b,0,none⟩) 1 1) [(v1,n1)] [⟨r1,n1⟩]::rs) w:=by
 have h1:=rC (x:=v1) (o:=⟨r1,n1⟩) ((G9 H).aN);have h2:=dU (l:=[(v1,n1)]) (enc:=aA) (k:=2) (Sep.nM (n:=1) (s:=2) h1.aG At0 rfl dC) At0;exact Sep.l6 h2 λw a b=>⟨a,b⟩
def jL {v2:Value} {n2:Int} {r2:List aC} (H:Mw.Sep w0 S (blk b ([(v1,n1),(v2,n2)].flatMap aA) 39::aY 41 3 ah v2 r2::aY 41 3 ah v1 r1::rs) w):Mw.Sep w0 S (vg (.slice (some ⟨b,0,none⟩) 2 2) [(v1,n1),(v2,n2)] [⟨r1,n1⟩,⟨r2,n2⟩]::rs) w:=by
 have h1:=rC (x:=v1) (o:=⟨r1,n1⟩) ((G9 H).aX);have h1:=rC (x:=v2) (o:=⟨r2,n2⟩) (h1.aN);have h2:=dU (l:=[(v1,n1),(v2,n2)]) (enc:=aA) (k:=2) (Sep.nM (n:=2) (s:=2) h1.aG At0 rfl dC) At0;exact Sep.l6 h2 λw a b=>⟨a,b⟩
def yS {v2 v3:Value} {n2 n3:Int} {r2 r3:List aC} (H:Mw.Sep w0 S (blk b ([(v1,n1),(v2,n2),(v3,n3)].flatMap aA) 39::aY 41 3 ah v3 r3::aY 41 3 ah v2 r2::aY 41 3 ah v1 r1::rs) w):Mw.Sep w0 S (vg (.slice (some ⟨b,0,none⟩) 3 3) [(v1,n1),(v2,n2),(v3,n3)] [⟨r1,n1⟩,⟨r2,n2⟩,⟨r3,n3⟩]::rs) w:=by
 have h1:=rC (x:=v1) (o:=⟨r1,n1⟩) ((G9 H).gG);have h1:=rC (x:=v2) (o:=⟨r2,n2⟩) (h1.aX);have h1:=rC (x:=v3) (o:=⟨r3,n3⟩) (h1.aN);have h2:=dU (l:=[(v1,n1),(v2,n2),(v3,n3)]) (enc:=aA) (k:=2) (Sep.nM (n:=3) (s:=2) h1.aG At0 rfl dC) At0;exact Sep.l6 h2 λw a b=>⟨a,b⟩
def CZ (H:Mw.Sep w0 S rs w):Mw.Sep w0 S (vg (.slice none 0 0) [] []::rs) w:=Sep.qE H λw=>⟨qd _ _ _,gL.nil⟩
def xD {T li lw:List aH} {ri rw':List (Value×Int)} {e:Int} {vi vw:Value} (H:Mw.Sep w0 S (star (vg vw rw' lw) (vg vi ri li)::qW b cols p T::rs) w) (hT: ∀wx,Kept S w0 wx->iB wx) (dX:(bX cols p).2=0) (Ai:aZ p.wh) (vM: ∀o∈p.cols,aZ o.steps) (hv:pU p T) (Dl: ∀x∈li,fJ x) (Yi:li.length<=100):
    aR prog 23 [ay b,I e,vi,vw] w λu w'=>u=.bool (decide ((gP cols p T li).1=lw)&&decide ((gP cols p T li).2=e))/\Mw.Sep w0 S (qW b cols p (iP cols p T li)::rs) w':=by
  obtain⟨F0,vN,gV,hQ0,aK⟩:=Sep.Ja H At0;have EK: ∀k,Kept F0 w k->Kept S w0 k:=λk h1=>Mw.Kept.into H.kept gV h1;refine aR.mono (ajD (want:=lw) vN ⟨ri,λk h1=>?_⟩ (λk h1=>?_) (λk h1=>hT k (EK k h1)) dX Ai vM hv Dl Yi) λu w' hu=>?_
  . obtain⟨Fq,F1,F2,_,_,_,h2⟩:=hQ0 k h1
    exact rW h2
  . obtain⟨Fq,F1,F2,_,_,h2,_⟩:=hQ0 k h1
    exact⟨rw',(rW h2).1,(rW h2).2⟩
  obtain⟨rfl,lI,F1,lq,k⟩:=hu;exact⟨rfl,(aK _ F1 _ lI lq k).bH⟩
def Jy (wt:Int):aR prog 20 [I wt] w λu w'=>∃x:Value,u=agg (aA (x,wt))/\True/\Turn noB (aY 41 3 ah x [iF aV]) w w':=by
 have H:=Sep.aF w;refine oV func20 ?_;refine Az (λb2 _ k _=>?_);refine Nx (Vb (ah (iF aV)) ?_);refine Bs k ([iF aV].flatMap ah) (λbs _ _ _=>?_);refine Mv ?_;refine Vb (aA (.slice (some ⟨bs,0,none⟩) 1 1,wt)) ?_;refine Tz (λ_ k=>?_);refine Zb0 ?_;exact⟨_,fB k,_,rfl,trivial,(Sep.nM (n:=1) (s:=3) k At0 rfl dC).first.turn⟩
def nC (c:aC) (n1 n2 wt:Int):aR prog 21 [agg (ah c),I n1,I n2,I wt] w λu w'=>∃x:Value,u=agg (aA (x,wt))/\True/\Turn noB (aY 41 3 ah x [c,u6 n1,u6 n2]) w w':=by
 have H:=Sep.aF w;refine ama func21 ?_;refine Sr (bB H (cs:=ah c) rfl (h:=λb4 _ _ _=>?_));refine Az (λb8 _ k _=>?_);refine Nx (fE k (cs:=ah c) (h:=?_));refine Mv ?_;refine Vb (ah (u6 n1)) ?_;refine Mv ?_;refine Vb (ah (u6 n2)) ?_;refine Bs k ([c,u6 n1,u6 n2].flatMap ah) (λbs _ _ _=>?_);refine Mv ?_;refine Vb (aA (.slice (some ⟨bs,0,none⟩) 3 3,wt)) ?_;refine Tz (λ_ k=>?_);refine Zb0 ?_;exact⟨_,fB k,_,rfl,trivial,(Sep.nM (n:=3) (s:=3) k At0 rfl dC).first.turn⟩
def Jz {t:L8} (ht:textOf p t=true) (dX:(bX pz p).2=0) (Au:p.wh.length<=100) (OP: ∀o∈p.cols,o.steps.length<=100) (hT:iB w):aR prog 22 [str t] w λu w'=>∃b:Nat,u=ay b/\True/\Turn noB (qW b pz p []) w w':=by
 obtain⟨hp,⟨Ai,vM⟩,AJ⟩:=BF ht;have RJ:=qh dX;have H:=Sep.aF w;refine cK func22 ?_;refine Nz (M5 t (.inl oM) oM (hT.keep H.kept)) (λx k _ S _=>?_);rw[hp]at S ⊢;have hPI:gX k x p:=Sep.sees S At0;obtain⟨vw,vc,rfl,hvw,q,hvc,_⟩:=hPI;obtain⟨W,cw,rfl,_,_⟩:=hvw;obtain⟨A,ca,rfl,_,_⟩:=hvc;refine Az (λb3 _ S _=>?_);refine iy S (us:=[.slice W p.wh.length cw,.slice A q.length ca,I p.group]) (h:=λ_ _=>?_);refine Dz (λS _ k=>?_);refine jM S 1 k (h:=?_);refine dY S 0 [(1,false)] k T9 (h:=λtv k _ a _=>⟨sU,?_⟩);have asF:gX k (agg [.slice W p.wh.length cw,.slice A q.length ca,I p.group]) p:=Sep.sees a At2;refine qG S 2 [] rfl kR (Xw (jG a At0) dC asF Ai vM oM oM (λo ho=>by have:=OP o ho;omega) (hT.keep a.kept)) rfl kR kR (λv' _ hv=>?_);obtain⟨pv,rfl,bZ,_,hb⟩:=hv;obtain⟨b,rfl,lI,F1,lq,k⟩:=hb dX;have S:=a.new lI lq (λb hb=>(k b hb).resolve_left id);refine⟨sT,?_⟩;refine Zb7 ?_;exact⟨b,rfl,trivial,S.first.turn⟩
def akN (x:aH):Bool:=decide (-9223372036854775808<=x.w/\x.w<=9223372036854775807)&&x.row.all λc=>decide (-9223372036854775808<=c.n/\c.n<=9223372036854775807)
def nW (h:l.all akN=true): ∀x∈l,fJ x:=λx hx=>by
 have h1:=zaz.1 h x hx;unfold akN at h1;rw[zbq]at h1;refine⟨zbd (p:= -9223372036854775808<=x.w/\x.w<=9223372036854775807) h1.1,λc hc=>?_⟩;exact zbd (p:= -9223372036854775808<=c.n/\c.n<=9223372036854775807) (zaz.1 h1.2 c hc)
def su {x:List aH×Int} {a:List aH} {e:Int} (h:x=(a,e)):(decide (x.1=a)&&decide (x.2=e))=true:=by subst h;simp
def fA1: ∀x∈lA1,fJ x:=nW dC
def fA2: ∀x∈lA2,fJ x:=nW dC
def fG1: ∀x∈lG1,fJ x:=nW dC
def fG2: ∀x∈lG2,fJ x:=nW dC
def fG3: ∀x∈lG3,fJ x:=nW dC
def fD: ∀x∈lD,fJ x:=nW dC
def fO1: ∀x∈lO1,fJ x:=nW dC
def fO2: ∀x∈lO2,fJ x:=nW dC
def Rh:tA1.length<=10/\tA2.length<=10/\tG1.length<=10/\tG2.length<=10:=by decide+kernel
def aeh:aZ plA.wh/\∀o∈plA.cols,aZ o.steps:=(BF akL).2.1
def JA:aZ plG.wh/\∀o∈plG.cols,aZ o.steps:=(BF agY).2.1
def ajE:aZ plO.wh/\∀o∈plO.cols,aZ o.steps:=(BF akM).2.1
def ag6:pU plA tA1:=oK (holds_nil plA) aeh.2 fA1 dC
def alW:pU plA tA2:=oK ag6 aeh.2 fA2 (by have:=Rh.1;have h:lA2.length=2:=rfl;omega)
def ag7:pU plG tG1:=oK (holds_nil plG) JA.2 fG1 dC
def ag8:pU plG tG2:=oK ag7 JA.2 fG2 (by have:=Rh.2.2.1;have h:lG2.length=2:=rfl;omega)
def ag9:iP pz plG tG2 lG3=tG2:=by unfold iP;rw[oU.2.2.2.1,zab dC]
def aha:iP pz plO [] lO1=[]:=by unfold iP;rw[Jv.2.1,zab dC]
set_option maxHeartbeats 2000000 in
theorem aei (hT:iB w):Rk Tryz.prog 10 [] w (.bool true):=by
 have H:=Sep.aF w;have hTx: ∀wx,Kept noB w wx->iB wx:=λwx h=>hT.keep h;refine aaZ Tryz.func10 ?_;refine Nz (Jz akL Es.1 dC dC (hT.keep H.kept)) (λbA w5 _ H5 k4=>?_);refine Nz (pG 1 1 aV) (λx1 w9 _ H9 k8=>?_);refine Nz (pG (-2) 1 bV) (λx2 wa _ Ha ka=>?_);refine Nz (pG 3 2 aV) (λx3 wb _ Hb kb=>?_);refine Bs Hb ([(x1,1),(x2,1),(x3,2)].flatMap aA) (λbs wc Hc kc=>?_);have Hc:=yS Hc;refine Mv ?_;refine eP (fs:=[]) (cs:=[]) (vals:=[I 3]) rfl (Jy 3) rfl rfl (λv' wd hv=>?_);obtain⟨y1,rfl,_,lI,F1,lq,yc⟩:=hv;have He:=Hc.new lI lq (λb hb=>(yc b hb).resolve_left id);refine Bs He ([(y1,3)].flatMap aA) (λbs2 we Hf kd=>?_);have Hf:=nA Hf;refine aL (xD (li:=lA1) (lw:=[Ko 3]) (e:=0) Hf.aQ hTx Es.1 aeh.1 aeh.2 (holds_nil plA) fA1 dC) rfl rfl (λv' wf hv=>?_);obtain⟨rfl,Hg⟩:=hv;rw[su Es.2.1];refine Vv (Gives.not rfl) (Mv ?_);refine dH (t:=24) rfl (λSa=>?_) (λSa=>?_)
 .exact Bool.noConfusion Sa
 refine Nz (pG 1 (-1) aV) (λx4 wg _ Hh ke=>?_);refine On (Nz (pG (-2) (-1) bV) (λx5 wi _ Hi kf=>?_));refine On (Bs Hi ([(x4, -1),(x5, -1)].flatMap aA) (λbs3 wj Hj kg=>?_));have Hj:=jL Hj;refine Zb1 ?_;refine eP (fs:=[]) (cs:=[]) (vals:=[I (-1)]) rfl (Jy (-1)) rfl rfl (λv' wk hv=>?_);obtain⟨y2,rfl,_,lI,F1,lq,yc⟩:=hv;have Hk:=Hj.new lI lq (λb hb=>(yc b hb).resolve_left id);refine On (Bs Hk ([(y2, -1)].flatMap aA) (λbs4 wl Hl kh=>?_));have Hl:=nA Hl;refine On (aL (xD (T:=tA1) (li:=lA2) (lw:=[Ko (-1)]) (e:=0) Hl.aQ hTx Es.1 aeh.1 aeh.2 ag6 fA2 dC) rfl rfl (λv' wm hv=>?_));obtain⟨rfl,Hm⟩:=hv;rw[su Es.2.2.1];refine On (Vv (Gives.not rfl) (Zb2 ?_));refine dH (t:=35) rfl (λSb=>?_) (λSb=>?_)
 .exact Bool.noConfusion Sb
 refine Zb1 ?_;obtain⟨F0,vN,gV,aK⟩:=Hm.focus At0;refine aL (Xv (T:=tA2) vN Es.1 alW) rfl rfl (λv' wn hv=>?_);obtain⟨xr,rfl,hxr,lI,F1,lq,yc⟩:=hv;have Hn:=(aK _ F1 _ lI lq yc).bL;rw[Es.2.2.2]at hxr;refine Zb1 ?_;refine eP (fs:=[]) (cs:=[]) (vals:=[I 2]) rfl (Jy 2) rfl rfl (λv' wo hv=>?_);obtain⟨y3,rfl,_,lI,F1,lq,yc⟩:=hv;have Ho:=Hn.new lI lq (λb hb=>(yc b hb).resolve_left id);refine On (Bs Ho ([(y3,2)].flatMap aA) (λbs5 wp Hp ki=>?_));have Hp:=nA Hp;refine On ?_;have hxI:=fV Hp At1;rw[hxr]at hxI;refine Kz (xA (m:=[Ko 2]) hxI ⟨_,(Sep.sees Hp At0).1,(Sep.sees Hp At0).2⟩) (λwq Hq kj=>?_);rw[zap (show(([Ko 2],(0:Int)):List aH×Int).1=[Ko 2]from rfl)];refine On (Vv (Gives.not rfl) (Pf ?_));refine Qn (Cd rfl (λIe=>?_) (λIe=>?_))
 .exact Bool.noConfusion Ie
 refine Nz (Jz agY oU.1 dC dC (hT.keep Hq.kept)) (λbG wr _ Hr kk=>?_);refine Zb1 ?_;refine Vb (ah FX) ?_;refine Vb (ah (iF aV)) ?_;have Hs:=Hr.first;refine Az (λb5 ws Hs kl=>?_);refine Az (λb6 wt Ht km=>?_);refine Tz (λwu Hu=>?_);refine Tz (λwv Hv=>?_);refine Qn (dD (λx:Nat×Nat=>[(4,ay x.1),(6,ay x.2)]) (λx w'=>Mw.Sep w noB [qW x.1 pz plG tG2,blk x.2 (ah (iF aV)) 41] w') ?_ ?_)
 .refine Dz (λSc ww Hw=>?_)
  refine abS (List.replicate 12 true++List.replicate 17 false) [(0,true)] (λx:(Nat×List (Value×Int))×Nat×List (Value×Int)=>[(2,.func (.func 21) #[] #[]),(4,ay bG),(5,ay b5),(6,ay b6),(47,ay bG),(51,.slice (some ⟨x.1.1,0,none⟩) 3 3),(58,.slice (some ⟨x.2.1,0,none⟩) 2 2)]) (λx w'=>Mw.Sep w noB [star (vg (.slice (some ⟨x.2.1,0,none⟩) 2 2) x.2.2 [KO FX 1 1 1,KO (iF aV) 2 7 1]) (vg (.slice (some ⟨x.1.1,0,none⟩) 3 3) x.1.2 lG1),qW bG pz plG [],blk b6 (ah (iF aV)) 41,blk b5 (ah FX) 41] w') ?_ ?_
  .rintro⟨⟨bs,r1⟩,bq,r2⟩ τ wy Hx
   dsimp only at Hx ⊢;refine abS (List.replicate 26 true++[false,false,false]) [(15,true)] (λx:(Nat×List (Value×Int))×Nat×List (Value×Int)=>[(4,ay bG),(6,ay b6),(61,.bool false),(62,ay bG),(65,.slice (some ⟨x.1.1,0,none⟩) 2 2),(72,.slice (some ⟨x.2.1,0,none⟩) 2 2)]) (λx w'=>Mw.Sep w noB [star (vg (.slice (some ⟨x.2.1,0,none⟩) 2 2) x.2.2 [KO (iF aV) 2 7 (-1),KO (iF aV) 2 14 1]) (vg (.slice (some ⟨x.1.1,0,none⟩) 2 2) x.1.2 lG2),qW bG pz plG tG1,blk b6 (ah (iF aV)) 41] w') ?_ ?_
   .rintro⟨⟨bs3,r3⟩,bq2,r4⟩ τ wz Hy
    dsimp only at Hy ⊢;refine qG Sc 26 [] rfl kR (xD (T:=tG1) (li:=lG2) (lw:=[KO (iF aV) 2 7 (-1),KO (iF aV) 2 14 1]) (e:=0) Hy hTx oU.1 JA.1 JA.2 ag7 fG2 dC) rfl kR kR (λv' wD hv=>?_);obtain⟨rfl,Hz⟩:=hv;rw[su oU.2.2.1];refine⟨sT,?_⟩;refine GS (Gn rfl (λ_=>Gives.not rfl) ?_);refine Za1 ?_;refine fK Sc kR ?_;refine iX (Cd rfl (λIf=>?_) (λIf=>?_))
    .exact Bool.noConfusion If
    refine Zb0 ?_;exact au (bG,b6) tR (Hz.firsts (l:=[_,_]))
   intro K26;refine qG Sc 12 [] rfl kR (xD (li:=lG1) (lw:=[KO FX 1 1 1,KO (iF aV) 2 7 1]) (e:=0) Hx hTx oU.1 JA.1 JA.2 (holds_nil plG) fG1 dC) rfl kR kR (λv' wE hv=>?_);obtain⟨rfl,HA⟩:=hv;rw[su oU.2.1];refine⟨sT,?_⟩;refine GS (Gn rfl (λ_=>Gives.not rfl) ?_);refine Zb1 ?_;refine F7 (t:=61) rfl (λSd=>?_) (λSd=>?_)
   .exact Bool.noConfusion Sd
   refine Zb1 ?_;refine Gm Sc 19 ?_;refine Zb1 ?_;refine Gm Sc 22 ?_;refine Zb1 ?_;refine dY Sc 16 [(23,false),(22,true),(20,false),(19,true),(15,true)] HA (pG 2 (-1) aV) (h:=λx4 wF _ HB kn=>⟨sU,?_⟩);refine dY Sc 17 [(23,false),(22,true),(20,false),(19,true),(15,true)] HB (pG 9 1 aV) (h:=λx5 wG _ HC ko=>⟨sU,?_⟩);refine j4 Sc (e1:=18) (e2:=21) kR ?_ ?_
   .refine gy Sc 18 [(23,false),(22,true),(20,false),(19,true),(15,true)] HC (xs:=[.tmp 63,.tmp 64]) (out:=[(x4, -1),(x5,1)].flatMap aA) (dZ.many rfl rfl (dZ.many rfl rfl dZ.nil)) rfl rfl rfl (h:=λbs3 wH HD=>?_)
    (have HD:=jL HD)
    refine⟨sU,?_⟩;refine jU Sc 21 [(23,false),(22,true),(15,true)] (y:=.tmp 66) (fs:=[]) (cs:=[]) (vals:=[agg (ah (iF aV)),I 2,I 7,I (-1)]) rfl (nC (iF aV) 2 7 (-1)) (h:=λv' wI hv=>?_);obtain⟨y3,rfl,_,lI,F1,lq,yc⟩:=hv;have HE:=HD.new lI lq (λb hb=>(yc b hb).resolve_left id);refine⟨sU,?_⟩;refine jU Sc 24 _ (y:=.tmp 69) (fs:=[]) (cs:=[]) (vals:=[agg (ah (iF aV)),I 2,I 14,I 1]) rfl (nC (iF aV) 2 14 1) (h:=λv' wJ hv=>?_);obtain⟨y4,rfl,_,lI,F1,lq,yc⟩:=hv;have HF:=HE.new lI lq (λb hb=>(yc b hb).resolve_left id);refine⟨sT,?_⟩;refine Gz Sc 25 _ HF ([(y3, -1),(y4,1)].flatMap aA) (h:=λbq2 wK HG=>?_)
    (have HG:=jL HG)
    refine⟨sT,?_⟩;exact K26 ((bs3,_),bq2,_) _ _ tR (HG.aQ.firsts (l:=[_,_,_])) rfl
   refine pK Sc 21 [(23,false),(22,true),(15,true)] (y:=.tmp 66) (fs:=[]) (cs:=[]) (vals:=[agg (ah (iF aV)),I 2,I 7,I (-1)]) rfl (nC (iF aV) 2 7 (-1)) (h:=λv' wL hv=>?_);obtain⟨y3,rfl,_,lI,F1,lq,yc⟩:=hv;have HH:=HC.new lI lq (λb hb=>(yc b hb).resolve_left id);refine⟨sU,?_⟩;refine j4 Sc (e1:=18) (e2:=24) kR ?_ ?_
   .refine gy Sc 18 [(23,false),(22,true),(15,true)] HH (xs:=[.tmp 63,.tmp 64]) (out:=[(x4, -1),(x5,1)].flatMap aA) (dZ.many rfl rfl (dZ.many rfl rfl dZ.nil)) rfl rfl rfl (h:=λbs3 wM HI=>?_)
    (have HI:=jL HI.aX.aX.aN)
    refine⟨sU,?_⟩;refine jU Sc 24 _ (y:=.tmp 69) (fs:=[]) (cs:=[]) (vals:=[agg (ah (iF aV)),I 2,I 14,I 1]) rfl (nC (iF aV) 2 14 1) (h:=λv' wN hv=>?_);obtain⟨y4,rfl,_,lI,F1,lq,yc⟩:=hv;have HJ:=HI.new lI lq (λb hb=>(yc b hb).resolve_left id);refine⟨sT,?_⟩;refine Gz Sc 25 _ HJ ([(y3, -1),(y4,1)].flatMap aA) (h:=λbq2 wO HK=>?_)
    (have HK:=jL HK.aX.aN.aN)
    refine⟨sT,?_⟩;exact K26 ((bs3,_),bq2,_) _ _ tR (HK.aQ.firsts (l:=[_,_,_])) rfl
   refine pK Sc 24 _ (y:=.tmp 69) (fs:=[]) (cs:=[]) (vals:=[agg (ah (iF aV)),I 2,I 14,I 1]) rfl (nC (iF aV) 2 14 1) (h:=λv' wP hv=>?_);obtain⟨y4,rfl,_,lI,F1,lq,yc⟩:=hv;have HL:=HH.new lI lq (λb hb=>(yc b hb).resolve_left id);refine⟨sT,?_⟩;refine j4 Sc (e1:=18) (e2:=25) kR ?_ ?_
   .refine gy Sc 18 _ HL (xs:=[.tmp 63,.tmp 64]) (out:=[(x4, -1),(x5,1)].flatMap aA) (dZ.many rfl rfl (dZ.many rfl rfl dZ.nil)) rfl rfl rfl (h:=λbs3 wQ HM=>?_)
    (have HM:=jL HM.gG.gG.aN)
    refine⟨sT,?_⟩;refine Gz Sc 25 _ HM ([(y3, -1),(y4,1)].flatMap aA) (h:=λbq2 wR HN=>?_)
    (have HN:=jL HN.aX.aX.aN)
    refine⟨sT,?_⟩;exact K26 ((bs3,_),bq2,_) _ _ tR (HN.aQ.firsts (l:=[_,_,_])) rfl
   refine gy Sc 25 _ HL (xs:=[.tmp 68,.tmp 71]) (out:=[(y3, -1),(y4,1)].flatMap aA) (dZ.many rfl rfl (dZ.many rfl rfl dZ.nil)) rfl rfl rfl (h:=λbq2 wS HO=>?_)
   (have HO:=jL HO)
   refine⟨sT,?_⟩;refine Gz Sc 18 _ HO ([(x4, -1),(x5,1)].flatMap aA) (h:=λbs3 wT HQ=>?_)
   (have HQ:=jL HQ.aX.aX.aN)
   refine⟨sT,?_⟩;exact K26 ((bs3,_),bq2,_) _ _ tR (HQ.aG.aQ.firsts (l:=[_,_,_])) rfl
  intro K12;refine Gm Sc 0 ?_;refine Gm Sc 5 ?_;refine Zb1 ?_;refine Gm Sc 8 ?_;refine Zb1 ?_;refine dY Sc 1 [(9,false),(8,true),(6,false),(5,true),(0,true)] Hw (pG 5 1 aV) (h:=λx1 wU _ HR kp=>⟨sU,?_⟩);refine dY Sc 2 [(9,false),(8,true),(6,false),(5,true),(0,true)] HR (pG 2 1 aV) (h:=λx2 wV _ HS kq=>⟨sU,?_⟩);refine dY Sc 3 [(9,false),(8,true),(6,false),(5,true),(0,true)] HS (pG 1 1 []) (h:=λx3 wW _ HT kr=>⟨sU,?_⟩);refine j4 Sc (e1:=4) (e2:=7) kR ?_ ?_
  .refine gy Sc 4 [(9,false),(8,true),(6,false),(5,true),(0,true)] HT (xs:=[.tmp 48,.tmp 49,.tmp 50]) (out:=[(x1,1),(x2,1),(x3,1)].flatMap aA) (dZ.many rfl rfl (dZ.many rfl rfl (dZ.many rfl rfl dZ.nil))) rfl rfl rfl (h:=λbs wX HU=>?_)
   (have HU:=yS HU)
   refine⟨sU,?_⟩;refine jU Sc 7 [(9,false),(8,true),(0,true)] (y:=.tmp 52) (fs:=[]) (cs:=[]) (vals:=[agg (ah FX),I 1,I 1,I 1]) rfl (nC FX 1 1 1) (h:=λv' wY hv=>?_);obtain⟨y1,rfl,_,lI,F1,lq,yc⟩:=hv;have HV:=HU.new lI lq (λb hb=>(yc b hb).resolve_left id);refine⟨sU,?_⟩;refine jU Sc 10 _ (y:=.tmp 55) (fs:=[]) (cs:=[]) (vals:=[agg (ah (iF aV)),I 2,I 7,I 1]) rfl (nC (iF aV) 2 7 1) (h:=λv' wZ hv=>?_);obtain⟨y2,rfl,_,lI,F1,lq,yc⟩:=hv;have HW:=HV.new lI lq (λb hb=>(yc b hb).resolve_left id);refine⟨sT,?_⟩;refine Gz Sc 11 _ HW ([(y1,1),(y2,1)].flatMap aA) (h:=λbq w_ HX=>?_)
   (have HX:=jL HX)
   refine⟨sT,?_⟩;exact K12 ((bs,_),bq,_) _ _ tR HX.gG.aN.aN.aQ rfl
  refine pK Sc 7 [(9,false),(8,true),(0,true)] (y:=.tmp 52) (fs:=[]) (cs:=[]) (vals:=[agg (ah FX),I 1,I 1,I 1]) rfl (nC FX 1 1 1) (h:=λv' w149 hv=>?_);obtain⟨y1,rfl,_,lI,F1,lq,yc⟩:=hv;have HY:=HT.new lI lq (λb hb=>(yc b hb).resolve_left id);refine⟨sU,?_⟩;refine j4 Sc (e1:=4) (e2:=10) kR ?_ ?_
  .refine gy Sc 4 [(9,false),(8,true),(0,true)] HY (xs:=[.tmp 48,.tmp 49,.tmp 50]) (out:=[(x1,1),(x2,1),(x3,1)].flatMap aA) (dZ.many rfl rfl (dZ.many rfl rfl (dZ.many rfl rfl dZ.nil))) rfl rfl rfl (h:=λbs w151 HZ=>?_)
   (have HZ:=yS HZ.gG.gG.gG.aX)
   refine⟨sU,?_⟩;refine jU Sc 10 _ (y:=.tmp 55) (fs:=[]) (cs:=[]) (vals:=[agg (ah (iF aV)),I 2,I 7,I 1]) rfl (nC (iF aV) 2 7 1) (h:=λv' w153 hv=>?_);obtain⟨y2,rfl,_,lI,F1,lq,yc⟩:=hv;have H_:=HZ.new lI lq (λb hb=>(yc b hb).resolve_left id);refine⟨sT,?_⟩;refine Gz Sc 11 _ H_ ([(y1,1),(y2,1)].flatMap aA) (h:=λbq w155 H155=>?_)
   (have H155:=jL H155.aX.aN.aN)
   refine⟨sT,?_⟩;exact K12 ((bs,_),bq,_) _ _ tR H155.gG.aN.aN.aQ rfl
  refine pK Sc 10 _ (y:=.tmp 55) (fs:=[]) (cs:=[]) (vals:=[agg (ah (iF aV)),I 2,I 7,I 1]) rfl (nC (iF aV) 2 7 1) (h:=λv' w158 hv=>?_);obtain⟨y2,rfl,_,lI,F1,lq,yc⟩:=hv;have H158:=HY.new lI lq (λb hb=>(yc b hb).resolve_left id);refine⟨sT,?_⟩;refine j4 Sc (e1:=4) (e2:=11) kR ?_ ?_
  .refine gy Sc 4 _ H158 (xs:=[.tmp 48,.tmp 49,.tmp 50]) (out:=[(x1,1),(x2,1),(x3,1)].flatMap aA) (dZ.many rfl rfl (dZ.many rfl rfl (dZ.many rfl rfl dZ.nil))) rfl rfl rfl (h:=λbs w160 H160=>?_)
   (have H160:=yS H160.jY.jY.jY.aX)
   refine⟨sT,?_⟩;refine Gz Sc 11 _ H160 ([(y1,1),(y2,1)].flatMap aA) (h:=λbq w162 H162=>?_)
   (have H162:=jL H162.aX.aX.aN)
   refine⟨sT,?_⟩;exact K12 ((bs,_),bq,_) _ _ tR H162.gG.aN.aN.aQ rfl
  refine gy Sc 11 _ H158 (xs:=[.tmp 54,.tmp 57]) (out:=[(y1,1),(y2,1)].flatMap aA) (dZ.many rfl rfl (dZ.many rfl rfl dZ.nil)) rfl rfl rfl (h:=λbq w165 H165=>?_)
  (have H165:=jL H165)
  refine⟨sT,?_⟩;refine Gz Sc 4 _ H165 ([(x1,1),(x2,1),(x3,1)].flatMap aA) (h:=λbs w167 H167=>?_)
  (have H167:=yS H167.gG.gG.gG.aX)
  refine⟨sT,?_⟩;exact K12 ((bs,_),bq,_) _ _ tR H167.gG.aG.aN.aQ rfl
 rintro⟨bG,b6⟩ τ w170 H170;dsimp only at H170;refine Lp ?_;refine Sr ?_;obtain⟨hpg,_,AJ⟩:=BF agY;refine Nz (M5 txG (.inl oM) oM (hT.keep H170.kept)) (λxp w172 _ H172 ks=>?_);rw[hpg]at H172 ⊢;have hPI:gX w172 xp plG:=Sep.sees H172 At0;obtain⟨vw,vc,rfl,hvw,q,hvc,_⟩:=hPI;obtain⟨W,cw,rfl,_,_⟩:=hvw;obtain⟨A,ca,rfl,_,_⟩:=hvc;refine Az (λb7 w178 H178 kt=>?_);refine iy H178 (us:=[.slice W plG.wh.length cw,.slice A q.length ca,I plG.group]) (h:=λw180 H180=>?_);refine Za2 ?_;refine Qn (dD (λx:Nat×Nat×OA×Nat=>[(4,ay x.1),(6,ay x.2.1),(10,.slice x.2.2.1 0 x.2.2.2),(11,I 100)]) (λx w'=>Mw.Sep w noB [qW x.1 pz plG tG2,blk x.2.1 (ah (iF aV)) 41] w') ?_ ?_)
 .refine Dz (λSe w186 H186=>?_)
  refine jM Se 1 H186 (h:=?_);refine Gb Se 2 (ah (u6 2147483648)) ?_;refine j4 Se (e1:=0) (e2:=3) kR ?_ ?_
  .refine mO Se 0 [(2,true),(1,false)] H186 T9 (h:=λtv w190 _ H190 ku=>⟨sU,?_⟩)
   refine Gz Se 3 [(1,false)] H190 ([u6 2147483648].flatMap ah) (h:=λbc w192 H192=>?_);have H192:Mw.Sep w noB (aY 41 3 ah (.slice (some ⟨bc,0,none⟩) 1 1) [u6 2147483648]::_) w192:=Sep.nM (n:=1) (s:=3) H192 At0 rfl dC;refine⟨sU,?_⟩;refine Gb Se 4 (aA (.slice (some ⟨bc,0,none⟩) 1 1,1)) ?_;refine Gz Se 5 [(1,false)] H192 ([(Value.slice (some ⟨bc,0,none⟩) 1 1,(1:Int))].flatMap aA) (h:=λbi w195 H195=>?_)
   (have H195:=nA H195)
   refine⟨sU,?_⟩;have hFG:=JA
   first
   | refine dY Se 6 _ H195 (pV (cols:=pz) (p:=plG) (l:=lD) (jG H195 At1) dC (Sep.sees H195 At3) ⟨_,(Sep.sees H195 At0).1,(Sep.sees H195 At0).2⟩ hFG.1 hFG.2 dC dC dC fD dC (hT.keep H195.kept)) (h:=λxd w197 RL H197 kv=>⟨sT,?_⟩)
   | refine dY Se 6 _ H195 (pV (cols:=pz) (p:=plG) (l:=lD) (jG H195 At0) dC (Sep.sees H195 At3) ⟨_,(Sep.sees H195 At1).1,(Sep.sees H195 At1).2⟩ hFG.1 hFG.2 dC dC dC fD dC (hT.keep H195.kept)) (h:=λxd w197 RL H197 kv=>⟨sT,?_⟩)
   refine Zb5 ?_;obtain⟨xd,L⟩:=xd;dsimp only at RL H197;rw[oU.2.2.2.2.2]at RL;obtain rfl :L=[]:=zgc.1 RL;have Hd:=H197.bL;obtain⟨XA,cX,hX,_,_⟩:=Sep.bJ Hd At0;subst hX;refine au (bG,b6,XA,cX) ⟨rfl,rfl,rfl,?_,trivial⟩ (Sep.firsts (l:=[_,_]) Hd.BJ.BJ);exact zaw (λe:List aH×Int=>I e.2) oU.2.2.2.2.2
  refine gy Se 3 [(1,false)] H186 (xs:=[.tmp 84]) (out:=[u6 2147483648].flatMap ah) (dZ.many rfl rfl dZ.nil) rfl rfl rfl (h:=λbc w204 H204=>?_);have H204:Mw.Sep w noB (aY 41 3 ah (.slice (some ⟨bc,0,none⟩) 1 1) [u6 2147483648]::_) w204:=Sep.nM (n:=1) (s:=3) H204 At0 rfl dC;refine⟨sU,?_⟩;refine Gb Se 4 (aA (.slice (some ⟨bc,0,none⟩) 1 1,1)) ?_;refine j4 Se (e1:=0) (e2:=5) kR ?_ ?_
  .refine mO Se 0 [(4,true),(1,false)] H204 T9 (h:=λtv w207 _ H207 kw=>⟨sU,?_⟩)
   refine Gz Se 5 [(1,false)] H207 ([(Value.slice (some ⟨bc,0,none⟩) 1 1,(1:Int))].flatMap aA) (h:=λbi w209 H209=>?_)
   (have H209:=nA H209.aN.aG)
   refine⟨sU,?_⟩;have hFG:=JA
   first
   | refine dY Se 6 _ H209 (pV (cols:=pz) (p:=plG) (l:=lD) (jG H209 At1) dC (Sep.sees H209 At3) ⟨_,(Sep.sees H209 At0).1,(Sep.sees H209 At0).2⟩ hFG.1 hFG.2 dC dC dC fD dC (hT.keep H209.kept)) (h:=λxd w211 RL H211 kx=>⟨sT,?_⟩)
   | refine dY Se 6 _ H209 (pV (cols:=pz) (p:=plG) (l:=lD) (jG H209 At0) dC (Sep.sees H209 At3) ⟨_,(Sep.sees H209 At1).1,(Sep.sees H209 At1).2⟩ hFG.1 hFG.2 dC dC dC fD dC (hT.keep H209.kept)) (h:=λxd w211 RL H211 kx=>⟨sT,?_⟩)
   refine Zb5 ?_;obtain⟨xd,L⟩:=xd;dsimp only at RL H211;rw[oU.2.2.2.2.2]at RL;obtain rfl :L=[]:=zgc.1 RL;have Hd:=H211.bL;obtain⟨XA,cX,hX,_,_⟩:=Sep.bJ Hd At0;subst hX;refine au (bG,b6,XA,cX) ⟨rfl,rfl,rfl,?_,trivial⟩ (Sep.firsts (l:=[_,_]) Hd.BJ.BJ);exact zaw (λe:List aH×Int=>I e.2) oU.2.2.2.2.2
  refine gy Se 5 [(1,false)] H204 (xs:=[.tmp 86]) (out:=[(Value.slice (some ⟨bc,0,none⟩) 1 1,(1:Int))].flatMap aA) (dZ.many rfl rfl dZ.nil) rfl rfl rfl (h:=λbi w218 H218=>?_)
  (have H218:=nA H218)
  refine⟨sU,?_⟩;refine dY Se 0 [(1,false)] H218 T9 (h:=λtv w220 _ H220 ky=>⟨sU,?_⟩);have hFG:=JA
  first
  | refine dY Se 6 _ H220 (pV (cols:=pz) (p:=plG) (l:=lD) (jG H220 At1) dC (Sep.sees H220 At3) ⟨_,(Sep.sees H220 At0).1,(Sep.sees H220 At0).2⟩ hFG.1 hFG.2 dC dC dC fD dC (hT.keep H220.kept)) (h:=λxd w222 RL H222 kz=>⟨sT,?_⟩)
  | refine dY Se 6 _ H220 (pV (cols:=pz) (p:=plG) (l:=lD) (jG H220 At0) dC (Sep.sees H220 At3) ⟨_,(Sep.sees H220 At1).1,(Sep.sees H220 At1).2⟩ hFG.1 hFG.2 dC dC dC fD dC (hT.keep H220.kept)) (h:=λxd w222 RL H222 kz=>⟨sT,?_⟩)
  refine Zb5 ?_;obtain⟨xd,L⟩:=xd;dsimp only at RL H222;rw[oU.2.2.2.2.2]at RL;obtain rfl :L=[]:=zgc.1 RL;have Hd:=H222.bL;obtain⟨XA,cX,hX,_,_⟩:=Sep.bJ Hd At0;subst hX;refine au (bG,b6,XA,cX) ⟨rfl,rfl,rfl,?_,trivial⟩ (Sep.firsts (l:=[_,_]) Hd.BJ.BJ);exact zaw (λe:List aH×Int=>I e.2) oU.2.2.2.2.2
 rintro⟨bG,b6,XA,cX⟩ τ w229 H229;dsimp only at H229;refine Lp ?_;refine Zb1 ?_;refine Vb (ah (u6 1)) ?_;refine fE H229 (cs:=ah (iF aV)) (h:=?_);refine fE H229 (cs:=ah (iF aV)) (h:=?_);refine Bs H229 ([u6 1,iF aV,iF aV].flatMap ah) (λbc w235 H235 kA=>?_);have H235:Mw.Sep w noB (aY 41 3 ah (.slice (some ⟨bc,0,none⟩) 3 3) [u6 1,iF aV,iF aV]::_) w235:=Sep.nM (n:=3) (s:=3) H235 At0 rfl dC;refine Vb (aA (.slice (some ⟨bc,0,none⟩) 3 3,1)) ?_;refine Bs H235 ([(Value.slice (some ⟨bc,0,none⟩) 3 3,(1:Int))].flatMap aA) (λbi w238 H238 kB=>?_);have H238:=nA H238;have H238:=CZ H238;refine aL (xD (T:=tG2) (li:=lG3) (lw:=[]) (e:=100) H238.aQ hTx oU.1 JA.1 JA.2 ag8 fG3 dC) rfl rfl (λv' w240 hv=>?_);obtain⟨rfl,H240⟩:=hv;rw[su oU.2.2.2.1];rw[ag9]at H240;refine Vv (Gives.not rfl) (Mv ?_);refine dH (t:=100) rfl (λSf=>?_) (λSf=>?_)
 .exact Bool.noConfusion Sf
 refine Zb1 ?_;have H247:=CZ (CZ H240);refine aL (xD (T:=tG2) (li:=[]) (lw:=[]) (e:=0) H247.aQ hTx oU.1 JA.1 JA.2 ag8 (λx hx=>zar hx zan) dC) rfl rfl (λv' w247 hv=>?_);obtain⟨rfl,H247⟩:=hv;rw[su oU.2.2.2.2.1];refine On (Vv (Gives.not rfl) (Zb2 ?_));refine dH (t:=105) rfl (λSg=>?_) (λSg=>?_)
 .exact Bool.noConfusion Sg
 refine Sz (λSh=>?_) (λSh=>?_)
 .exact zar (show((0:Nat):Int)=0 from rfl) Sh
 refine Cz (λIg=>?_) (λIg=>?_)
 .exact zar (by first | exact trivial | rfl) Ig
 refine Nz (Jz akM Jv.1 dC dC (hT.keep H247.kept)) (λbO w266 _ H266 kC=>?_);refine Nz (pG 1 1 aV) (λx1 w270 _ H270 kD=>?_);refine Bs H270 ([(x1,1)].flatMap aA) (λbi w272 H272 kE=>?_);have H272:=nA H272;have H272:=CZ H272;refine aL (xD (T:=[]) (li:=lO1) (lw:=[]) (e:=50) H272.aQ hTx Jv.1 ajE.1 ajE.2 (holds_nil plO) fO1 dC) rfl rfl (λv' w274 hv=>?_);obtain⟨rfl,H274⟩:=hv;rw[su Jv.2.1];rw[aha]at H274;refine Mv ?_;refine dH (t:=119) rfl (λSi=>?_) (λSi=>?_)
 .refine Nz (pG 0 1 aV) (λx2 w279 _ H279 kF=>?_)
  refine On (Bs H279 ([(x2,1)].flatMap aA) (λbi2 w281 H281 kG=>?_));have H281:=nA H281;refine On (Vb (ah (u6 9223372036854775807)) ?_);refine On (Bs H281 ([u6 9223372036854775807].flatMap ah) (λbc w284 H284 kH=>?_));have H284:Mw.Sep w noB (aY 41 3 ah (.slice (some ⟨bc,0,none⟩) 1 1) [u6 9223372036854775807]::_) w284:=Sep.nM (n:=1) (s:=3) H284 At0 rfl dC;refine On (Vb (aA (.slice (some ⟨bc,0,none⟩) 1 1,1)) ?_);refine On (Bs H284 ([(Value.slice (some ⟨bc,0,none⟩) 1 1,(1:Int))].flatMap aA) (λbi3 w287 H287 kI=>?_));have H287:=nA H287;refine On (aL (xD (T:=[]) (li:=lO2) (lw:=[⟨[u6 9223372036854775807],1⟩]) (e:=0) H287.aQ hTx Jv.1 ajE.1 ajE.2 (holds_nil plO) fO2 dC) rfl rfl (λv' w289 hv=>?_));obtain⟨rfl,H289⟩:=hv;rw[su Jv.2.2];refine Zb2 ?_;exact⟨rfl,H289.kept⟩
 exact Bool.noConfusion Si
def aej (l:List aH):(uZ l).length<=10:=by unfold uZ;rw[zaf,zah];omega
def aek {l:List aH}: ∀x∈uZ l,x.row.length<=12:=λx hx=>by
 obtain⟨y,_,rfl⟩:=zaq.1 hx;show((y.row.take 12).map mg).length<=12
 rw[zaf,zah];omega
def ael {l:List aH} (h: ∀x∈l,fJ x): ∀x∈uZ l,fJ x:=λx hx=>by
 obtain⟨y,hy,rfl⟩:=zaq.1 hx;obtain⟨h1,h2⟩:=h y (zcg hy);refine⟨h1,λc hc=>?_⟩;obtain⟨d,hd,rfl⟩:=zaq.1 hc;exact h2 d (zcg hd)
def NJ (l:List bI):(jc l).length<=70:=by unfold jc;rw[zaf,zah];omega
def NK {l:List bI} (h:aZ l):aZ (jc l):=λx hx=>by
 obtain⟨y,hy,rfl⟩:=zaq.1 hx;exact h y (zcg hy)
def aem (h:Bo p):Bo (xC p)/\(xC p).cols.length<=18/\(xC p).wh.length<=70/\∀o∈(xC p).cols,o.steps.length<=70:=
 ⟨⟨NK h.1,λo ho=>by
  obtain⟨y,hy,rfl⟩:=zaq.1 ho;exact NK (h.2 y (zcg hy))⟩,by show((p.cols.take 18).map Ap).length<=18;rw[zaf,zah];omega,NJ _,λo ho=>by
  obtain⟨y,hy,rfl⟩:=zaq.1 ho;exact NJ _⟩
def Z9 (h:gX w v p): ∃A a B b,v=agg [.slice A p.wh.length a,.slice B p.cols.length b,I p.group]:=by
 obtain⟨vw,vc,rfl,⟨A,a,rfl,_⟩,r,⟨B,b,rfl,_⟩,hr⟩:=h;exact⟨A,a,B,b,by rw[hr.len]⟩
structure alX (cols:List bY) (p:aU):Prop where
 fit:Bo p
 cs:cols.length<=12
 outs:p.cols.length<=18
 wh:p.wh.length<=70
 st: ∀o∈p.cols,o.steps.length<=70
def ajF (cols:List bY) (h:Bo p):alX (cols.take 12) (xC p):=by
 obtain⟨h1,h2,h3,h4⟩:=aem h;exact⟨h1,by rw[zah];omega,h2,h3,h4⟩
variable {cols:List bY} {p:aU} {l:List aH} {vc vp v:Value}
def XB (C:alX cols p) (hc:aJ w vc aP 7 cols) (hp:gX w vp p) (hl:dI w v l) (Dl: ∀x∈l,fJ x) (hn:l.length<=100) (hT:iB w):
    aR Tryz.prog 5 [vc,vp,v] w λu w'=>∃x:Value×List Held,u=.tuple #[x.1,I (iQ cols p l).2]/\x.2.map (·.2)=(iQ cols p l).1/\Turn noB (dV x.1 x.2) w w':=
  pV hc (by have:=C.cs;omega) hp hl C.fit.1 C.fit.2 (by have:=C.outs;omega) (by have:=C.wh;omega) (λo ho=>by have:=C.st o ho;omega) Dl hn hT
def XC (C:alX cols p) (hc:aJ w vc aP 7 cols) (hp:gX w vp p) (hl:dI w v l) (Dl: ∀x∈l,fJ x) (hlr: ∀x∈l,x.row.length<=1000) (hn:l.length<=100):
    aR Tryz.prog 8 [vc,vp,v] w λu w'=>∃x:Value×List Held,u=.tuple #[x.1,I (iQ cols p l).2]/\x.2.map (·.2)=(iQ cols p l).1/\Turn noB (dV x.1 x.2) w w':=
  Z8 hc (by have:=C.cs;omega) hp hl C.fit.1 C.fit.2 (by have:=C.outs;omega) (by have:=C.wh;omega) (λo ho=>by have:=C.st o ho;omega) Dl hlr hn
def NM {vl:Value} (hc:aJ w vc aP 7 cols) (hp:gX w v p) (RG:Bo p) (hl:dI w vl l) (Dl: ∀x∈l,fJ x) (hT:iB w):Rk Tryz.prog 3 [vc,v,vl] w (.bool true):=by
 have H:=Sep.aF w;obtain⟨A0,a0,B0,b0,rfl⟩:=Z9 hp;have C:=ajF cols RG;have hqf:=ael Dl;have hqn:=aej l;have hqr:=aek (l:=l);refine AP Tryz.func3 ?_;refine Sr (bB H (cs:=[.slice A0 p.wh.length a0,.slice B0 p.cols.length b0,I p.group]) rfl (h:=λb4 _ k _=>?_));refine Nz (Ns (hl.keep k.kept)) (λx _ hx _ _=>?_);refine Dz (λk _ S=>?_);refine Zb1 ?_;refine jM k 2 S (h:=?_);refine Gm k 4 ?_;refine dY k 1 [(4,true),(2,false)] S (Kk (hc.keep S.kept)) (h:=λx1 _ _ S _=>⟨sU,?_⟩);refine dY k 3 _ S (Nt (hp.keep S.kept)) (h:=λx2 _ _ S _=>⟨sT,?_⟩);refine dY k 5 _ S (XB (l:=uZ l) C (jG S At1) (Sep.sees S At0) (hx▸fV S At2) hqf oM (hT.keep S.kept)) (h:=λxd _ RL _ _=>⟨sT,?_⟩);refine Dz (λS _ k=>?_);refine Zb1 ?_;refine jM S 2 k (h:=?_);refine Gm S 4 ?_;refine dY S 1 [(4,true),(2,false)] k (Kk (hc.keep k.kept)) (h:=λx3 _ _ k _=>⟨sU,?_⟩);refine dY S 3 _ k (Nt (hp.keep k.kept)) (h:=λx4 _ _ k _=>⟨sT,?_⟩);refine dY S 5 _ k (Ns (hl.keep k.kept)) (h:=λx5 _ hx5 k _=>⟨sT,?_⟩);refine dY S 6 _ k (XC (l:=uZ l) C (jG k At2) (Sep.sees k At1) (hx5▸fV k At0) hqf (λb hb=>by have:=hqr b hb;omega) oM) (h:=λxe _ hxe k _=>⟨sT,?_⟩);refine Kz (xA (l:=(iQ (cols.take 12) (xC p) (uZ l)).1) (m:=(iQ (cols.take 12) (xC p) (uZ l)).1) (RL▸fV k At4) (hxe▸fV k At0)) (λ_ k _=>?_);refine Mv ?_;refine Sz (λS=>?_) (λS=>?_)
 .refine Sz (λa=>?_) (λa=>?_)
  .refine Nz (Ns (hl.keep k.kept)) (λx6 _ hx6 k _=>?_)
   refine On (Kz (xA (l:=uZ l) (m:=uZ l) (hx▸fV k At8) (hx6▸fV k At0)) (λ_ k _=>?_));refine Sz (λc=>?_) (λc=>?_)
   .refine On (Kz (aei (hT.keep k.kept)) (λ_ k _=>?_))
    refine Zb2 ?_;exact⟨rfl,k.kept⟩
   exact aB c
  exact aB a
 exact aB S
variable {b:Nat} {T J:List aH} {L:List Held}
section
variable {w w0:Wd} {S:NP} {rs:List HP} {ok:Prop} [Decidable ok] {pv:Value} {q:Nat->HP} {b:Nat}
end
/-! Rows of rows of items,given. -/
def Ue (w:Wd) (v:Value) (q:List (List aH)):Prop:=∃r:LV,aJ w v Nv 1 r/\r.length=q.length/\∀(i:Nat) x l,r[i]? =some x->q[i]? =some l->dI w x l
def Ue.keep {w w':Wd} {v:Value} {q:List (List aH)} (h:Ue w v q) (hk:Kept noB w w'):Ue w' v q:=by
 obtain⟨r,h1,h2,h3⟩:=h;exact⟨r,h1.keep hk,h2,λi x l hx hl=>(h3 i x l hx hl).keep hk⟩
def XD {W:Wd}: ∀r:List (Value×Int),(∀x∈r,(∃l,aJ W x.1 ah 3 l/\jw l)/\fits x.2)->∃l:List aH,gL W r l/\∀o∈l,fJ o
 | [],_=>⟨[],⟨rfl,λi x o h=>by cases h⟩,λo h=>zar h zan⟩
 | x::r,h=>by
  obtain⟨⟨l,hl,hf⟩,hw⟩:=h x zao;obtain⟨q,⟨h1,h2⟩,hc⟩:=XD r λy hy=>h y (zat _ hy);refine⟨⟨l,x.2⟩::q,⟨by rw[zav,zav,h1],λi y o hy ho=>?_⟩,λo ho=>?_⟩
  .cases i with
   | zero=>
    rw[zce]at hy ho;injection hy with hy
    injection ho with ho
    subst hy ho;exact hl
   | succ i=>exact h2 i y o hy ho
  rcases zba.1 ho with e | e
  .subst e;exact⟨hw,hf⟩
  exact hc o e
section
variable {H:Type} {enc:Td×Value->H} {W:Wd} {r:Reach} {base:Nat} {v:Value} {d:DataW H} {ps:List MemPlace}
def ahb {n0:Nat} {y:DataW H×List MemPlace} (h:DataW.trod enc prog W 0 (λ_=>true) true n0 37 [v]=some y): ∃l:List aC,aJ W v ah 3 l/\jw l:=by
 obtain⟨A,c,l,rfl,h2,h3,h4,h5⟩:=zY (f:=ah) (good:=λx:aC=>fits x.n) (s:=3) underlying37 kR (λ_=>rfl) (λn cs y hl hc=>Qc hl hc) h;exact⟨l,Bf h2 h3 h4,h5⟩
def aen {n:Nat} {cs:LV} {y:DataW H×List MemPlace} (hl:cs.length=2) (hc:DataW.trod enc prog W 0 (λ_=>true) true n 39 cs=some y): ∃x:Value×Int,cs=aA x/\(∃l,aJ W x.1 ah 3 l/\jw l)/\fits x.2:=by
 have hf:=nG underlying39 kR hc kR hl;obtain⟨v0,_,_,KY,h0⟩:=hf 0 _ rfl;obtain⟨v1,_,_,RH,h1⟩:=hf 1 _ rfl;obtain⟨l,hr,Ll⟩:=ahb h0;obtain⟨m,hm,_,wm⟩:=DataW.trod_int underlying2 h1;injection hm with hm _
 subst hm
 match cs,hl with
 | [c0,c1],_=>
  simp only[zce,zck,Option.some.injEq]at KY RH;subst KY RH;exact⟨(c0,m),rfl,⟨l,hr,Ll⟩,Tc rfl wm⟩
def aac (hv:Value.okWide prog W r base 27 v) (h:DataW.Trod enc prog W 0 (λ_=>true) true 27 v d ps): ∃l:List aH,dI W v l/\∀x∈l,fJ x:=by
 obtain⟨A,c,q,rfl,h2,h3,h4,h5⟩:=Rp (f:=aA) (good:=λx:Value×Int=>(∃l,aJ W x.1 ah 3 l/\jw l)/\fits x.2) (s:=2) underlying27 kR (λ_=>rfl) (λn cs y hl hc=>aen hl hc) hv h;obtain⟨l,hr,hf⟩:=XD q h5;exact⟨l,⟨q,Bf h2 h3 h4,hr⟩,hf⟩
end
end Go.Proofs.Mw
