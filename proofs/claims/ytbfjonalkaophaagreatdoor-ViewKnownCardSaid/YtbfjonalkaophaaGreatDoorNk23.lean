/-
 The document's scaling of rows with weights;walked.
-/
import Derived.Test.YtbfjonalkaophaaGreatDoorNk22
set_option linter.all false
set_option maxRecDepth 4000
namespace Go.Proofs.Mw
open Go.Lib Go.Proofs.Tryz
attribute [local irreducible] FW FL FG FGn jX lg gD l7 Qfn ah
def acP (f:Int) (l:List aH):List aH:=(l.map λx=>(⟨x.row,f*x.w⟩:aH)).filter λx=>decide (x.w≠0)
variable {l:List aH} {i:Nat}
def afC {f:Int} {o:aH} (h:l[i]? =some o):acP f (l.take (i+1))=acP f (l.take i)++(if f*o.w≠0 then [⟨o.row,f*o.w⟩]else []):=by
 unfold acP;rw[zaq,h,zan,zel]
 congr 1
 by_cases k:f*o.w≠0
 .rw[zac k];simp[k]
 rw[zab k];simp[k]
def acQ {f:Int} (a:iJ l=true) {o:aH} (h:l[i]? =some o) (S: ¬bM (f*o.w)=true):tN f l=([],50):=by
 unfold tN;rw[zac a,zab λk=>S (zaz.1 k o (zag h))]
def Y7 {f:Int} (k:iJ l=true) (h: ∀(j:Nat) o,l[j]? =some o->bM (f*o.w)=true):tN f l=(acP f l,0):=by
 unfold tN
 rw[zac k,zac (zaz.2 λo a=>by
  obtain⟨j,S,e⟩:=zew a;exact h j o (by rw[zaa S,e]))]
 rfl
variable {w:Wd}
variable {v:Value}
theorem afD (f:Int) (hff:cB f) (hl:dM w v l) (hn:l.length<=1000) (hf: ∀o∈l,cB o.w) (C: ∀o∈l,o.row.length<=1000):
    aX prog 115 [I f,v] w λu w'=>∃x:Value×List fH,u=.tuple #[x.1,I (tN f l).2]/\x.2.map (·.2)=(tN f l).1/\cO noB (dB x.1 x.2) w w':=by
  have hl0:=hl;obtain⟨r,hr,z⟩:=hl;obtain⟨A,m,rfl,⟨hm,Gj⟩,hA⟩:=hr;have EO:=z.len;have H:=Sep.aI w;refine dn func115 ?_;refine Kz (Jo (hl0.aK H.au) hn) (λw5 H5 k4=>?_);refine Vn ?_;refine Cz (λE=>?_) (λE=>?_)
  . have k: ¬iJ l=true:=λh=>E (by rw[zac h])
    refine V2 ?_;exact⟨(.slice none 0 0,[]),by unfold tN;rw[zab k];rfl,by unfold tN;rw[zab k];rfl,(Sep.gQ (bU H5) 25 2).aZ.first.bf⟩
  have k:iJ l=true:=Decidable.of_not_not λh=>by
    have M:=E;rw[zab h]at M;exact M dC
  refine V2 ?_;refine aM (λx:(OA×Nat)×List fH×Nat=>[(0,I f),(1,.slice A r.length m),(6,.slice x.1.1 (aW x.2.1).length x.1.2),(7,I x.2.2)]) (λx w'=>(x.2.2<=r.length/\x.2.1.map (·.2)=acP f (l.take x.2.2)/\x.2.1.length<=x.2.2/\∀(j:Nat) o,j<x.2.2->l[j]? =some o->bM (f*o.w)=true)/\Mw.Sep w noB [aY 25 2 aD (.slice x.1.1 (aW x.2.1).length x.1.2) (aW x.2.1),xg 48 3 aj (·.1) (λb:fH=>b.2.row) x.2.1] w') (λx _=>r.length-x.2.2) ((none,0),[],0) tR ⟨⟨zai _,rfl,zbk _,λj o hj=>zas hj (zdy _)⟩,Sep.gQ (bU H5) 25 2⟩ (λx τ wa hI=>?_);obtain⟨⟨R,cR⟩,L,i⟩:=x;obtain⟨⟨hi,W,hLi,G⟩,Ha⟩:=hI;dsimp only at hi W hLi G Ha;refine Lp ?_;refine Cz (λIe=>?_) (λIe=>?_)
  . have yL:i<r.length:=oM
    obtain⟨o,t⟩:=aN (l:=l) (show i<l.length from oM);have T:=zag t;obtain⟨vo,hvo,hso⟩:=z.get t;have g:=afC (f:=f) t;have hLr:(aW L).length=L.length:=zae _;refine Kz (Wz f o.w hff (hf o T)) (λwb X ka=>?_);obtain⟨n,Q⟩: ∃n,n=(if bM (f*o.w)=true then f*o.w else 0):=⟨_,rfl⟩;obtain⟨er,d⟩: ∃n:Int,n=(if bM (f*o.w)=true then 0 else 50):=⟨_,rfl⟩;rw[<-Q,<-d];refine Cz (λZ=>?_) (λZ=>?_)
    . have a: ¬bM (f*o.w)=true:=λh=>Z (by rw[d,zac h])
      have q:=acQ k t a;have O:er=50:=by rw[d,zab a]
      refine V3 ?_;exact⟨(.slice none 0 0,[]),by rw[q,O];rfl,by rw[q];rfl,(Sep.gQ (bU X) 25 2).aZ.first.bf⟩
    have a:bM (f*o.w)=true:=Decidable.of_not_not λh=>by
      have M:=Z;rw[d,zab h]at M;exact M dC
    have K:n=f*o.w:=by rw[Q,zac a]
    have s: ∀(j:Nat) p,j<i+1->l[j]? =some p->bM (f*p.w)=true:=λj p hj V=>by
      by_cases e:j=i
      . subst e;rw[t]at V;injection V with V;rw[<-V];exact a
      exact G j p oM V
    refine Cz (λF=>?_) (λF=>?_)
    . rw[zac (by rw[<-K];exact F)]at g
      refine Nz (lV (hso.aK X.au) (C o T)) (λy wc _ Hc kb=>?_);obtain⟨Y,c,rfl,_,_⟩:=Sep.bX Hc At0;refine Mv ?_;refine Vb (aD (.slice Y o.row.length c,n)) ?_;refine Bs Hc ([(Value.slice Y o.row.length c,n)].flatMap aD) (λbs wd Hd kc=>?_);refine eH Hd (news:=[(Value.slice Y o.row.length c,n)]) At1 kJ kM (λu hu=>zaz.1 (show([(Value.slice Y o.row.length c,n)].flatMap aD).all Value.oneCell'=true from rfl) u hu) (h:=?_);intro v9 we He;obtain⟨R2,cR2,rfl,_,_⟩:=Sep.bX He At1;have D:=(iO (x:=.slice Y o.row.length c) (o:=⟨o.row,n⟩) (He.aR.aJ)).aJ
      have N:aW L++[(Value.slice Y o.row.length c,n)]=aW (L++[(Value.slice Y o.row.length c,(⟨o.row,n⟩:aH))]):=by
        unfold aW;rw[zan];rfl
      have P:(L++[(Value.slice Y o.row.length c,(⟨o.row,n⟩:aH))]).map (·.2)=acP f (l.take (i+1)):=by rw[zan,W,g,K];rfl
      have J:(L++[(Value.slice Y o.row.length c,(⟨o.row,n⟩:aH))]).length=L.length+1:=by rw[zad];rfl
      rw[N]at D ⊢;clear N
      generalize L++[(Value.slice Y o.row.length c,(⟨o.row,n⟩:aH))]=L2 at D P J |-
      refine V4 ?_;exact ak ((R2,cR2),L2,i+1) tR ⟨⟨dO,P,dO,s⟩,D⟩ dO
    rw[zab (by rw[<-K];exact F),zbt]at g;refine V3 ?_;exact ak ((R,cR),L,i+1) tR ⟨⟨dO,by dsimp only;rw[g];exact W,dO,s⟩,X⟩ dO
  have Gq:l.take i=l:=zaj oM;have S:=Y7 (f:=f) k λj o t=>G j o (by have:=fP t;omega) t;refine V3 ?_;exact⟨(_,L),by rw[S];rfl,by rw[S];dsimp only;rw[W,Gq],Ha.aZ.bf⟩
def ajB (a:dM w v l) (b:l.length<=1000) (S: ∀o∈l,cB o.w) (h: ∀o∈l,o.row.length<=1000):
    aX prog 67 [v] w λu d=>∃x:Value×List fH,u=.tuple #[x.1,I (tN (-1) l).2]/\x.2.map (·.2)=(tN (-1) l).1/\cO noB (dB x.1 x.2) w d:=by
  have H:=Sep.aI w;refine dL func67 ?_;refine Nz (afD (-1) (by show -9223372036854775808<=(-1:Int)/\(-1:Int)<=9223372036854775807;decide) (a.aK H.au) b S h) (λx f c k e=>?_);refine V4 ?_;exact⟨x,rfl,c,k.bf⟩
def uF (a b:List aH):List aH×Int:=if iJ a=true/\iJ b=true then Uu a b else([],2)
variable {a b:List aH}
def Tx (h:isZ a) (k:isZ b):uF a b=Uu a b:=zac ⟨yO h,yO k⟩
def acR {L:List Tw} (O:aP w v ahR 1 L) (hR: ∀x∈L,Mw.Rd w x.1 aD 2 x.2.2) (N: ∀x∈L,∀u∈x.2.2.flatMap aD,u.oneCell'=true) (W:(L.flatMap (·.2.2)).length<=5000) (P:L.length<=1000):
    aX prog 74 [v] w λu n=>∃x:Value,u=x/\True/\cO noB (aY 25 2 aD x (L.flatMap (·.2.2))) w n:=by
  obtain⟨A,c,rfl,⟨V,Q⟩,o⟩:=O;have H:=Sep.aI w;refine dL func74 ?_;refine V5 ?_;refine aM (λi:Nat=>[(0,.slice A L.length c),(3,I ((L.take i).flatMap (·.2.2)).length),(9,.slice A L.length c),(10,I L.length),(11,I i)]) (λi n=>i<=L.length/\Mw.Sep w noB [] n) (λi _=>L.length-i) 0 tR ⟨zai _,H⟩ (λi T F t=>?_);obtain⟨hi,z⟩:=t;refine Lp ?_;refine Cz (λy=>?_) (λy=>?_)
  . have a:i<L.length:=oM
    obtain⟨x,d⟩:=aN a;obtain⟨X,s,r⟩:=x;have k:=Qr d;have S:=aaR (l:=L) (i+1);rw[k,zad]at S;dsimp only at S;refine V0 ?_;refine Vv (ah.fT rfl rfl o a) (Vv (ah.dY (v:=.slice X r.length s) (f:=0) rfl z o d rfl) ?_);refine V4 ?_;refine Vc ((((L.take i).flatMap (·.2.2)).length+r.length:Nat):Int) ?_;refine Cz (λD=>?_) (λD=>?_)
    . omega
    refine V2 ?_;exact ak (i+1) ⟨rfl,by rw[k,zad];rfl,rfl,rfl,rfl,trivial⟩ ⟨oM,z⟩ oM
  have b:i=L.length:=oM;rw[b,zbo];refine Nz (afB (L.flatMap (·.2.2)).length oM) (λg wa _ C Y=>?_);obtain⟨G,K,rfl,_,_⟩:=Sep.bX C At0;refine V4 ?_;refine aM (λx:(OA×Nat)×Nat=>[(0,.slice A L.length c),(6,.slice x.1.1 ((L.take x.2).flatMap (·.2.2)).length x.1.2),(25,.slice A L.length c),(26,I L.length),(27,I x.2)]) (λx n=>x.2<=L.length/\Mw.Sep w noB [aY 25 2 aD (.slice x.1.1 ((L.take x.2).flatMap (·.2.2)).length x.1.2) ((L.take x.2).flatMap (·.2.2))] n) (λx _=>L.length-x.2) ((G,K),0) tR ⟨zai _,C⟩ (λx T wb t=>?_);obtain⟨⟨R,M⟩,i⟩:=x;obtain⟨hi,e⟩:=t;dsimp only at hi e;refine Lp ?_;refine Cz (λE=>?_) (λE=>?_)
  . have a:i<L.length:=oM
    obtain⟨x,d⟩:=aN a;obtain⟨X,s,r⟩:=x;have k:=Qr d;have S:=aaR (l:=L) (i+1);rw[k,zad]at S;dsimp only at S k;have m:=hR _ (zag d);have j:=N _ (zag d);dsimp only at m j;refine V0 ?_;refine Vv (ah.fT rfl rfl o a) (Vv (ah.dY (v:=.slice X r.length s) (f:=0) rfl e o d rfl) ?_);refine V3 ?_;refine mq e At0 (m.aK e.au) kS oM j (h:=?_);intro Z wc p;rw[<-k]at p;obtain⟨J,q,rfl,_,_⟩:=Sep.bX p At0;refine V3 ?_;exact ak ((J,q),i+1) tR ⟨dO,p⟩ dO
  have b:i=L.length:=oM;rw[b,zbo]at e;refine V2 ?_;exact⟨.slice R (L.flatMap (·.2.2)).length M,by rw[b,zbo];rfl,trivial,e.bf⟩
def Qs {va vb:Value} (O:dM w va a) (P:dM w vb b) (Y:a.length<=500) (Z:b.length<=500) (t: ∀o∈a,cB o.w) (D: ∀o∈b,cB o.w) (v: ∀o∈a,o.row.length<=1000) (E: ∀o∈b,o.row.length<=1000):
    aX prog 31 [va,vb] w λu w'=>∃x:Value×List fH,u=.tuple #[x.1,I (uF a b).2]/\x.2.map (·.2)=(uF a b).1/\cO noB (dB x.1 x.2) w w':=by
  have H:=Sep.aI w;have q:=O;have C:=P;obtain⟨r,Q,k⟩:=O;obtain⟨s,R,S⟩:=P;have hr0:=Q;have hs0:=R;obtain⟨A,c,rfl,⟨hc,F⟩,W⟩:=Q;obtain⟨B,d,rfl,⟨hd,hd'⟩,X⟩:=R;have EO:=k.len;have hsl:=S.len;refine dn func31 ?_;refine Kz (Jm (q.aK H.au) oM) (λw5 M k4=>?_);refine Sz (λK=>?_) (λK=>?_)
  . refine V3 ?_
    have f: ¬(iJ a=true/\iJ b=true):=λh=>by
      have n:=h.1;have p:=h.2;simp[n,p]at *
    exact⟨(.slice none 0 0,[]),by unfold uF;rw[zab f];rfl,by unfold uF;rw[zab f];rfl,(Sep.gQ (bU M) 25 2).aZ.first.bf⟩
  refine Kz (Jm (C.aK M.au) oM) (λwa N ka=>?_);refine Cz (λV=>?_) (λV=>?_)
  . refine V2 ?_
    have f: ¬(iJ a=true/\iJ b=true):=λh=>by
      have n:=h.1;have p:=h.2;simp[n,p]at *
    exact⟨(.slice none 0 0,[]),by unfold uF;rw[zab f];rfl,by unfold uF;rw[zab f];rfl,(Sep.gQ (bU N) 25 2).aZ.first.bf⟩
  refine V2 ?_;refine Bs N ([((A,c,r):Tw),(B,d,s)].flatMap ahR) (λbs wb j kb=>?_);have i:=MQ (enc:=ahR) (l:=[((A,c,r):Tw),(B,d,s)]) j At0 rfl (by show 2<=100000;decide);have g:([((A,c,r):Tw),(B,d,s)]).flatMap (·.2.2)=r++s:=sM;refine Nz (acR i (λx L=>?_) (λx L=>?_) (by rw[g,zad];omega) (by show 2<=1000;decide)) (λy wc _ m kc=>?_)
  . rcases zax.1 L with e | e
    . rw[e];exact W.aK j.au
    rw[zaw]at e;rw[e];exact X.aK j.au
  . rcases zax.1 L with e | e
    . rw[e];exact uE k
    rw[zaw]at e;rw[e];exact uE S
  rw[g]at m;have G:dM _ y (a++b):=⟨_,gP m At0,(k.app S).aK m.au⟩;refine Nz (FN G I6 (λo J=>(zbh.1 J).elim (t o) (D o)) (λo J=>(zbh.1 J).elim (v o) (E o))) (λz wd hz T kd=>?_);refine V4 ?_
  have f:iJ a=true/\iJ b=true:=by
    refine⟨Decidable.of_not_not λh=>?_,Decidable.of_not_not λh=>?_⟩
    . simp[h]at *
    simp[h]at *
  exact⟨z,by unfold uF;rw[zac f];rfl,by unfold uF;rw[zac f];exact hz,T.first.bf⟩
def MW (r:List aF): ∀h:List (List aF),(zJ r h).length<=h.length+1
 | []=>zbk _
 | k::h=>by
  have:=MW r h;rw[zJ]
  split
  .exact zbk _
  split
  .exact Nat.le_succ _
  simp only[zat];omega
def Jp: ∀l:List aH,(ni l).length<=l.length
 | []=>zbk _
 | x::l=>by
  have h:=Jp l;have k:=MW x.row (ni l);rw[ni,zat];omega
def FT (l:List aH):(dJ l).1.length<=l.length:=by
 unfold dJ
 split
 .unfold GD
  rw[zae];exact zcl (zee _ _) (Jp l)
 exact zai _
def Jq {o:aH} (h:o∈(dJ l).1): ∃x∈l,x.row=o.row:=by
 unfold dJ at h
 split at h
 .exact r9.1 (GI.1 h).1
 exact zas h zal
def MX (T m:List aH):(List aH×Int)×List aH:=
 if(dJ m).2≠0 then(([],(dJ m).2),T)else if(uF T (dJ m).1).2≠0 then(([],(uF T (dJ m).1).2),T)else(((dJ m).1,0),(uF T (dJ m).1).1)
variable {F:NP}
def WL {bp:Nat} {tv:Value} {T m:List aH} (M:(dx (blk bp [tv] 109) (Bz tv T)).ok F w) (J: ∀A,aS F w A->dM A v m) (l:T.length<=500) (K:m.length<=500) (j: ∀o∈T,cB o.w) (p: ∀o∈m,cB o.w) (n: ∀o∈T,o.row.length<=1000) (a: ∀o∈m,o.row.length<=1000):
    aX prog 384 [aC bp,v] w λu O=>∃x:(Value×List fH)×Value,u=.tuple #[x.1.1,I (MX T m).1.2]/\x.1.2.map (·.2)=(MX T m).1.1/\cO F (dx (dB x.1.1 x.1.2) (dx (blk bp [x.2] 109) (Bz x.2 (MX T m).2))) w O:=by
  have H:=(Sep.dA M).bW;refine dn func384 ?_;refine Nz (FN (J _ H.au) oM p a) (λx X s c V=>?_);obtain⟨P,L⟩:=x;dsimp only at s c ⊢;refine Cz (λg=>?_) (λg=>?_)
  . have k:MX T m=(([],(dJ m).2),T):=by unfold MX;rw[zac g]
    refine V3 ?_;exact⟨((.slice none 0 0,[]),tv),by rw[k];rfl,by rw[k];rfl,by rw[k];exact(Sep.gQ (bU c.bN.aZ) 25 2).aZ.aZ.bf⟩
  have b:(dJ m).2=0:=Decidable.of_not_not g;have D:isZ (dJ m).1:=sj;have G:=FT m;refine V5 ?_;have i:dM _ tv T:=Sep.dh c At2;have S:=cZ c At0;rw[s]at S;refine Nz (Qs i S l oM j (λo r=>by have h:=zbe (D.2.2 o r);unfold cB;omega) n (λo r=>by obtain⟨q,N,e⟩:=Jq r;rw[<-e];exact a q N)) (λy Z z f W=>?_);obtain⟨yv,Q⟩:=y;dsimp only at z f ⊢;obtain⟨Y,R,rfl,_,_⟩:=Sep.bX f.bW At0;refine Cz (λd=>?_) (λd=>?_)
  . have k:MX T m=(([],(uF T (dJ m).1).2),T):=by unfold MX;rw[zab (λh=>h b),zac d]
    refine V3 ?_;exact⟨((.slice none 0 0,[]),tv),by rw[k];rfl,by rw[k];rfl,by rw[k];exact(Sep.gQ (bU f.bN.bN.aZ) 25 2).aZ.aZ.bf⟩
  have E:(uF T (dJ m).1).2=0:=Decidable.of_not_not d;have k:MX T m=(((dJ m).1,0),(uF T (dJ m).1).1):=by unfold MX;rw[zab (λh=>h b),zab d]
  refine Uz (λwb C=>?_);refine V3 ?_;have t:=OC C At0;rw[z]at t;exact⟨((P,L),_),by rw[k];rfl,by rw[k];exact s,by rw[k];exact(t.aR.aZ.aJ.aZ.first.bf)⟩
def afE (T:dM w v l) (hn:l.length<=1000) (S: ∀o∈l,o.row.length<=1000):aX prog 386 [v] w λu C=>∃x:Value×List fH,u=x.1/\x.2.map (·.2)=l/\cO noB (dB x.1 x.2) w C:=by
 obtain⟨r,X,k⟩:=T;obtain⟨A,m,rfl,⟨hm,W⟩,hA⟩:=X;have Z:=k.len;have H:=Sep.aI w;refine dL func386 ?_;refine V4 ?_;refine aM (λx:(OA×Nat)×List fH×Nat=>[(2,.slice x.1.1 (aW x.2.1).length x.1.2),(5,.slice A r.length m),(6,I r.length),(7,I x.2.2)]) (λx C=>(x.2.2<=r.length/\x.2.1.map (·.2)=l.take x.2.2)/\Mw.Sep w noB [aY 25 2 aD (.slice x.1.1 (aW x.2.1).length x.1.2) (aW x.2.1),xg 48 3 aj (·.1) (λb:fH=>b.2.row) x.2.1] C) (λx _=>r.length-x.2.2) ((none,0),[],0) tR ⟨⟨zai _,rfl⟩,Sep.gQ (bU H) 25 2⟩ (λx τ w6 O=>?_);obtain⟨⟨R,cR⟩,L,i⟩:=x;obtain⟨⟨hi,j⟩,D⟩:=O;dsimp only at hi j D;refine Lp ?_;refine Cz (λp=>?_) (λp=>?_)
 .have V:i<r.length:=oM
  obtain⟨o,t⟩:=aN (l:=l) (show i<l.length from oM);have z:=zag t;obtain⟨vo,hvo,f⟩:=k.get t;have g:=f;obtain⟨Vo,co,rfl,_,_⟩:=f;have Q:(aW L).length=L.length:=zae _
  have P:L.length<=i:=by
   have N:=zay List.length j;rw[zae,zah]at N;omega
  refine Az (λb4 wa Ha ka=>?_);refine Tz (λwb Hb=>?_);refine Dz (λa wc E=>?_);refine V3 ?_;refine Gp a 4 rfl rfl (λ_=>(ah.yt rfl)) (V1 ?_);refine dF a 3 [(5,false),(4,true),(0,true)] E (qw (g.aK E.au) (S o z)) (h:=λy wd _ G kb=>?_);obtain⟨Y,c,rfl,_,_⟩:=Sep.bX G At0;refine⟨sL,?_⟩;refine Gb a 6 (aD (.slice Y o.row.length c,o.w)) ?_;refine Gz a 7 _ G ([(Value.slice Y o.row.length c,o.w)].flatMap aD) (h:=λbs we K=>⟨sT,?_⟩);refine gZ a 8 _ K (news:=[(Value.slice Y o.row.length c,o.w)]) At2 kJ kM (λu F=>zaz.1 (show([(Value.slice Y o.row.length c,o.w)].flatMap aD).all Value.oneCell'=true from rfl) u F) (h:=λv9 wf J=>?_);obtain⟨M,n,rfl,_,_⟩:=Sep.bX J At2
  have e:aW L++[(Value.slice Y o.row.length c,o.w)]=aW (L++[(Value.slice Y o.row.length c,o)]):=by
   unfold aW;rw[zan];rfl
  have s:(L++[(Value.slice Y o.row.length c,o)]).map (·.2)=l.take (i+1):=by rw[zan,j,zaq,t];rfl
  refine⟨sT,?_⟩;refine rA a 9 _ (h:=⟨sT,?_⟩);refine V0 ?_;refine Vc ((i+1:Nat):Int) ?_;refine V1 ?_;have d:=(iO (x:=.slice Y o.row.length c) (o:=o) (J.aJ.bN.aR.aJ)).aJ;rw[e]at d;exact ak ((M,n),L++[(Value.slice Y o.row.length c,o)],i+1) ⟨by rw[<-e];rfl,rfl,rfl,rfl,trivial⟩ ⟨⟨dO,s⟩,d⟩ dO
 have q:l.take i=l:=zaj oM;refine V2 ?_;exact⟨(_,L),rfl,by dsimp only;rw[j,q],D.aZ.bf⟩
def nzH (b:fH):Bool:=decide (b.2.w≠0)
abbrev lW (L:List fH):HP:=xg 48 3 aj (·.1) (λb:fH=>b.2.row) L
def Ku {c:Wd} {S:NP} {y:Value} {o:aH}: ∀{L:List fH} {a:Nat} {r:List HP},a<=L.length->Mw.Sep c S (aY 48 3 aj y o.row::lW L::r) w->Mw.Sep c S (lW (L.take a++(y,o)::L.drop a)::r) w
 | L,0,r,_,H=>H.aZ
 | [],a+1,r,ha,_=>zas ha sM
 | b::L,a+1,r,ha,H=>by
  have h:=(((H.aJ.bW).aR).aR).aJ;have k:=Ku (L:=L) (a:=a) (by simpa using ha) h;exact k.aJ.aZ
def Ak {k:Wd} {S:NP} (p:fH->Bool): ∀{L:List fH} {r:List HP},Mw.Sep k S (lW L::r) w->Mw.Sep k S (lW (L.filter p)::r) w
 | [],r,H=>H
 | b::L,r,H=>by
  have h:=H.bW;rw[zej]
  split
  .exact(Ak p (L:=L) h.aJ).aJ.aZ
  exact Ak p (L:=L) h.bN
def oG {k:Wd} {S:NP} {r:List HP} {put:HP->List HP} {L:List fH} (H:Mw.Sep k S r w) (hat:At r (lW L) put):gM w (aW L) (L.map (·.2)):=by
 obtain⟨F,h,_,_⟩:=H.bG hat;exact vD h
def aaS {L:List fH} {a:Nat} {b:fH} (h:gM w (aW L) (L.map (·.2))) (k:L[a]? =some b):aP w b.1 aj 3 b.2.row:=
 h.2 a (b.1,b.2.w) b.2 (by unfold aW;rw[zbw,k];rfl) (by rw[zbw,k];rfl)
theorem BI {l:List aH} (hl:dM w v l) (hn:l.length<=1000) (hf: ∀o∈l,cB o.w) (al6: ∀o∈l,o.row.length<=1000):
    aX Tryz.prog 66 [v] w λu Z=>∃x:Value×List fH,u=.tuple #[x.1,I (dJ l).2]/\x.2.map (·.2)=(dJ l).1/\cO noB (dB x.1 x.2) w Z:=by
  have hl0:=hl;obtain⟨r,hr,ad8⟩:=hl;obtain⟨A,m,rfl,⟨hm,Gj⟩,hA⟩:=hr;have EO:=ad8.len;have H:=Sep.aI w;refine dL Tryz.func66 ?_;refine V4 ?_;refine aM (λx:(OA×Nat)×List fH×Nat=>[(0,.slice A r.length m),(4,.slice x.1.1 (aW x.2.1).length x.1.2),(5,I x.2.2)]) (λx Z=>(x.2.2<=r.length/\x.2.1.map (·.2)=DR l (ni (l.take x.2.2))/\∀k∈ni (l.take x.2.2),bM (wtL l k)=true)/\Mw.Sep w noB [aY 25 2 aD (.slice x.1.1 (aW x.2.1).length x.1.2) (aW x.2.1),lW x.2.1] Z) (λx _=>r.length-x.2.2) ((none,0),[],0) tR ⟨⟨zai _,rfl,λk S=>zas S zal⟩,Sep.gQ (bU H) 25 2⟩ (λx τ w6 hI=>?_);obtain⟨⟨R,p⟩,L,i⟩:=x;obtain⟨⟨hi,hL,D⟩,H6⟩:=hI;dsimp only at hi hL D H6;obtain⟨z,d⟩: ∃z,z=ni (l.take i):=⟨_,rfl⟩;have hLr:(aW L).length=L.length:=zae _
  have hLk:L.length=z.length:=by
    have s:=zay List.length hL;rw[zae,ab3,<-d]at s;exact s
  have hLb:L.length<=1000:=by
    have s:=Jp (l.take i);rw[<-d,zah]at s;omega
  have E: ∀{a:Nat} {b:fH},L[a]? =some b->z[a]? =some b.2.row:=λ{a b} g=>by
    have s:(L.map (·.2))[a]? =some b.2:=by rw[zbw,g];rfl
    rw[hL]at s;rw[d];exact(aeX s).1
  have W: ∀{a:Nat} {b:fH},L[a]? =some b->(aW L)[a]? =some (b.1,b.2.w):=λ{a b} g=>by unfold aW;rw[zbw,g];rfl
  refine Lp ?_;refine Cz (λIe=>?_) (λIe=>?_)
  . have yL:i<r.length:=oM
    obtain⟨o,ho⟩:=aN (l:=l) (show i<l.length from oM);have hom:=zag ho;obtain⟨vo,hvo,hso⟩:=ad8.get ho;have G:ni (l.take (i+1))=zJ o.row z:=by rw[zaq,ho,d];exact Yu _ _
    refine O1 ?_;refine Qn (dU (λa:Nat=>[(0,.slice A r.length m),(4,.slice R (aW L).length p),(5,I i),(6,I a)]) (λa Z=>(a<=L.length/\(∀(j:Nat) k,j<a->z[j]? =some k->jU k o.row<0)/\∀k,z[a]? =some k->¬jU k o.row<0)/\Mw.Sep w noB [aY 25 2 aD (.slice R (aW L).length p) (aW L),lW L] Z) ?_ ?_)
    . refine V0 ?_
      refine aM (λa:Nat=>[(0,.slice A r.length m),(4,.slice R (aW L).length p),(5,I i),(6,I a)]) (λa Z=>(a<=L.length/\∀(j:Nat) k,j<a->z[j]? =some k->jU k o.row<0)/\Mw.Sep w noB [aY 25 2 aD (.slice R (aW L).length p) (aW L),lW L] Z) (λa _=>L.length-a) 0 tR ⟨⟨zai _,λj k hj=>zas hj (zdy _)⟩,H6⟩ (λa τ wa hJ=>?_);obtain⟨⟨ha,C⟩,Ha⟩:=hJ;refine Lp ?_;refine Dz (λSa wb Hb=>?_);refine V5 ?_;refine gu (t:=22) rfl (λSb=>?_) (λSb=>?_)
      . have hal:a<L.length:=oM
        obtain⟨b,g⟩:=aN hal;refine Gm Sa 5 ?_;refine V1 ?_;refine GS (Gn rfl (λ_=>ah.fT (l:=aW L) (enc:=aD) rfl rfl (eF Hb At0) oM) ?_);refine GS (Gn rfl (λ_=>ah.oO rfl (eF Hb At0) oM) ?_);refine GS (Gt rfl (ah.yh (i:=a) (f:=0) rfl (eF Hb At0) (W g) rfl) ?_);refine V2 ?_;refine GS (Gn rfl (λ_=>ah.fT rfl rfl hA yL) ?_);refine V1 ?_;refine GS (Gt rfl (ah.dY (f:=0) rfl Hb hA hvo rfl) ?_);refine dS Sa 15 _ Hb (Kq (aaS (oG Hb At1) g) (hso.aK Hb.au)) (h:=λwc Hc ka=>⟨sT,?_⟩);refine O2 ?_;refine fZ Sa kR ?_;refine Cz (λIf=>?_) (λIf=>?_)
        . refine V1 ?_
          refine V2 ?_;exact ak (a+1) tR ⟨⟨oM,λj k hj S=>by
          by_cases e:j=a
          . subst e;rw[E g]at S;injection S with S;rw[<-S];omega
          exact C j k oM S⟩,Hc⟩ oM
        refine V0 ?_;exact aA a tR ⟨⟨ha,C,by first | exact λk S=>zas (fP S) oM | exact λk S=>by(rw[E g]at S;injection S with S;rw[<-S];omega)⟩,Hc⟩
      refine V1 ?_;exact aA a tR ⟨⟨ha,C,by first | exact λk S=>zas (fP S) oM | exact λk S=>by(rw[E g]at S;injection S with S;rw[<-S];omega)⟩,Hb⟩
    rintro a τ wd ⟨⟨ha,C,hx6⟩,Hd⟩;refine Lp ?_;refine dU (λ_:Unit=>[(0,.slice A r.length m),(4,.slice R (aW L).length p),(5,I i),(6,I a)]) (λ_ Z=>zJ o.row z=z.take a++o.row::z.drop a/\Mw.Sep w noB [aY 25 2 aD (.slice R (aW L).length p) (aW L),lW L] Z) ?_ ?_
    . refine Dz (λSc we He=>?_)
      refine V5 ?_;refine gu (t:=42) rfl (λSd=>?_) (λSd=>?_)
      . have hal:a<L.length:=oM
        obtain⟨b,g⟩:=aN hal;refine Gm Sc 5 ?_;refine V1 ?_;refine GS (Gn rfl (λ_=>ah.fT (l:=aW L) (enc:=aD) rfl rfl (eF He At0) oM) ?_);refine GS (Gn rfl (λ_=>ah.oO rfl (eF He At0) oM) ?_);refine GS (Gt rfl (ah.yh (i:=a) (f:=0) rfl (eF He At0) (W g) rfl) ?_);refine V2 ?_;refine GS (Gn rfl (λ_=>ah.fT rfl rfl hA yL) ?_);refine V1 ?_;refine GS (Gt rfl (ah.dY (f:=0) rfl He hA hvo rfl) ?_);refine dS Sc 15 _ He (uK (aaS (oG He At1) g) (hso.aK He.au)) (h:=λwf Hf kb=>⟨sT,?_⟩);refine O1 ?_;refine fZ Sc kR ?_;refine Cz (λIg=>?_) (λIg=>?_)
        . have XO:zJ o.row z=z:=VE (by rw[d];exact nk _) (by have h:=zag (E g);rw[Ig]at h;exact h)
          refine V1 ?_;refine Vc ((i+1:Nat):Int) ?_;refine V1 ?_
          first
          | exact ak ((N3,c3),L2,i+1) tR ⟨⟨dO,hL2,al8⟩,hH2⟩ dO
          | exact ak ((R,p),L,i+1) tR ⟨⟨dO,by dsimp only;rw[G,XO,d];exact hL,λk S=>D k (by dsimp only at S;rw[G,XO,d]at S;exact S)⟩,Hf⟩ dO
        refine V0 ?_
        have T: ∀k,z[a]? =some k->k≠o.row:=by
          first
          | exact λk S=>zas (fP S) oM
          | exact λk S e=>by(rw[E g]at S;injection S with S;rw[<-S]at e;contradiction)
        exact aA () tR ⟨R6 C oM λk S=>gL.gt (hx6 k S) (T k S),Hf⟩
      refine V1 ?_
      have T: ∀k,z[a]? =some k->k≠o.row:=by
        first
        | exact λk S=>zas (fP S) oM
        | exact λk S e=>by(rw[E g]at S;injection S with S;rw[<-S]at e;contradiction)
      exact aA () tR ⟨R6 C oM λk S=>gL.gt (hx6 k S) (T k S),He⟩
    rintro _ τ wg ⟨hins,Hg⟩;refine Lp ?_;refine Kz (acO (hl0.aK Hg.au) (hso.aK Hg.au) hn hf) (λwh Hh kc=>?_);obtain⟨n,hnn⟩: ∃n,n=(if bM (wtL l o.row)=true then wtL l o.row else 0):=⟨_,rfl⟩;obtain⟨er,her⟩: ∃n:Int,n=(if bM (wtL l o.row)=true then 0 else 50):=⟨_,rfl⟩;rw[<-hnn,<-her];refine Cz (λIh=>?_) (λIh=>?_)
    . have O: ¬bM (wtL l o.row)=true:=λh=>Ih (by rw[her,zac h])
      have aaf:=Yw O;have an6:er=50:=by rw[her,zab O]
      refine V3 ?_;exact⟨(.slice none 0 0,[]),by rw[aaf,an6];rfl,by rw[aaf];rfl,(Sep.gQ (bU Hh) 25 2).aZ.first.bf⟩
    have O:bM (wtL l o.row)=true:=Decidable.of_not_not λh=>by
      have s:=Ih;rw[her,zab h]at s;exact s dC
    have hn2:n=wtL l o.row:=by rw[hnn,zac O]
    have V: ∀u∈(aW L).flatMap aD,u.oneCell'=true:=uE (oG Hh At1)
    have hcR:(aW L).length<=p:=by
      obtain⟨_,_,he,hle,_⟩:=Sep.bX Hh At0;injection he with e1 e2 e3
      rw[e3];exact hle
    have hta:((aW L).take a).length=a:=by rw[zah];omega
    have htd:((aW L).drop a).length=(aW L).length-a:=zbm;refine Dz (λJ wi Hi=>?_);refine V3 ?_;refine FGp J 3 (v:=.slice R ((aW L).take a).length p) rfl rfl (λ_=>by rw[hta];exact ah.sliceTo rfl rfl oM) kR ?_;refine Gm J 5 ?_;refine V1 ?_;refine GS (Gn rfl (λ_=>ah.fT rfl rfl hA yL) ?_);refine V1 ?_;refine GS (Gt rfl (ah.dY (f:=0) rfl Hi hA hvo rfl) ?_);refine Gm J 11 ?_;refine Gm J 15 ?_;refine V1 ?_;refine FGp J 17 (v:=.slice (if p=a then R else R.map (·.add (a*2))) ((aW L).drop a).length (p-a)) rfl rfl (λ_=>by rw[htd];exact ah.sliceFrom rfl rfl oM) kR ?_;have Hj:=Sep.iX Hi 25 2 aD;refine JV J 4 [(17,true),(16,true),(15,true),(11,true),(9,false),(8,true),(7,true),(6,true),(5,true)] Hj (news:=(aW L).take a) At0 ((eF (A:=R) (l:=aW L) (c:=p) Hj (by first | exact At1 | exact At2 | exact At3)).cut a) (by unfold maxLen;simp only[zci];omega) (by simp only[zci];omega) (λu X=>V u (by obtain⟨q,hq,X⟩:=zcc.1 X;exact zcc.2 ⟨q,zcj hq,X⟩)) (h:=λv4 wj Hj=>?_);rw[zby]at Hj;obtain⟨N1,c1,rfl,_,_⟩:=Sep.bX Hj At0;refine⟨av (av (av (av ((bE rfl kR (ah.dY (f:=0) rfl Hj hA hvo rfl) rfl (av (av (av (av (dw)))))))))),?_⟩;refine dF J 10 _ Hj (lV (hso.aK Hj.au) (al6 o hom)) (h:=λy wk _ Hk kd=>?_);obtain⟨Y,K,rfl,_,_⟩:=Sep.bX Hk At0;refine⟨sT,?_⟩;refine Gb J 12 (aD (.slice Y o.row.length K,n)) ?_;refine Gz J 13 _ Hk ([(Value.slice Y o.row.length K,n)].flatMap aD) (h:=λbs wl Hl=>⟨sT,?_⟩)
    have hB:=(show Mw.Sep w noB (blk bs ([(Value.slice Y o.row.length K,n)].flatMap aD) 25::aY 25 2 aD (.slice N1 ((aW L).take a).length c1) ((aW L).take a)::aY 48 3 aj (.slice Y o.row.length K) o.row::aY 25 2 aD (.slice R (aW L).length p) (aW L)::lW L::[]) _ by first | exact Hl | exact Hl.aR.aJ | exact Hl.aJ);refine gZ J 14 _ hB (news:=[(Value.slice Y o.row.length K,n)]) At0 kJ kM (λu X=>zaz.1 (show([(Value.slice Y o.row.length K,n)].flatMap aD).all Value.oneCell'=true from rfl) u X) (h:=λv5 wm Hm=>?_);obtain⟨N2,c2,rfl,_,_⟩:=Sep.bX Hm At0;refine⟨sT,?_⟩;have aqv:((aW L).take a++[(Value.slice Y o.row.length K,n)]).length=a+1:=by rw[zad,hta];rfl
    refine JV J 18 _ Hm (news:=(aW L).drop a) At0 (aaP (eF (A:=R) (l:=aW L) (c:=p) Hm At2) oM hcR) kS oM (λu X=>V u (by obtain⟨q,hq,X⟩:=zcc.1 X;exact zcc.2 ⟨q,zeq hq,X⟩)) (h:=λv6 wn Hn=>?_);obtain⟨N3,c3,rfl,_,_⟩:=Sep.bX Hn At0;have hH2:=(Ku (a:=a) (y:=.slice Y o.row.length K) (o:=⟨o.row,n⟩) ha (Hn.aR.bN.aJ.aR.aJ)).aJ
    have hLe:(aW L).take a++[(Value.slice Y o.row.length K,n)]++(aW L).drop a=aW (L.take a++(Value.slice Y o.row.length K,(⟨o.row,n⟩:aH))::L.drop a):=by
      unfold aW;rw[zan,zbc,List.map_take,List.map_drop,zbp];rfl
    have hL2:(L.take a++(Value.slice Y o.row.length K,(⟨o.row,n⟩:aH))::L.drop a).map (·.2)=DR l (ni (l.take (i+1))):=by
      rw[G,hins,zan,zbc,List.map_take,List.map_drop,hL,<-d];unfold DR;rw[zan,zbc,List.map_take,List.map_drop,hn2]
    have al8: ∀k∈ni (l.take (i+1)),bM (wtL l k)=true:=λk S=>by
      rw[G]at S
      rcases Cr.1 S with e | e
      . rw[e];exact O
      exact D k (by rw[<-d];exact e)
    rw[hLe]at hH2 |-
    generalize L.take a++(Value.slice Y o.row.length K,(⟨o.row,n⟩:aH))::L.drop a=L2 at hH2 hL2 |-
    refine⟨sT,?_⟩;refine rA J 19 _ (h:=⟨sT,?_⟩);refine V1 ?_;refine Vc ((i+1:Nat):Int) ?_;refine V1 ?_
    first
    | exact ak ((N3,c3),L2,i+1) tR ⟨⟨dO,hL2,al8⟩,hH2⟩ dO
    | exact ak ((R,p),L,i+1) tR ⟨⟨dO,by dsimp only;rw[G,XO,d];exact hL,λk S=>D k (by dsimp only at S;rw[G,XO,d]at S;exact S)⟩,Hn⟩ dO
  have Gq:l.take i=l:=zaj oM;rw[Gq]at hL D;have M:=Yv D;refine V2 ?_;refine aM (λx:(OA×Nat)×Nat=>[(4,.slice R (aW L).length p),(10,.slice x.1.1 (aW ((L.take x.2).filter nzH)).length x.1.2),(11,I x.2)]) (λx Z=>x.2<=L.length/\Mw.Sep w noB [aY 25 2 aD (.slice x.1.1 (aW ((L.take x.2).filter nzH)).length x.1.2) (aW ((L.take x.2).filter nzH)),aY 25 2 aD (.slice R (aW L).length p) (aW L),lW L] Z) (λx _=>L.length-x.2) ((none,0),0) tR ⟨zai _,Sep.iX H6 25 2 aD⟩ (λx τ wo hI=>?_);obtain⟨⟨Q,cQ⟩,j⟩:=x;obtain⟨hj,F⟩:=hI;dsimp only at hj F;refine Lp ?_;refine Cz (λIi=>?_) (λIi=>?_)
  . have hjl:j<L.length:=oM
    obtain⟨b,g⟩:=aN hjl
    have N:(L.take (j+1)).filter nzH=(L.take j).filter nzH++(if b.2.w≠0 then [b]else []):=by
      rw[zaq,g,zel]
      congr 1
      by_cases h2:b.2.w≠0
      . rw[zac h2];simp[nzH,h2]
      rw[zab h2];simp[nzH,h2]
    have hfl:(aW ((L.take j).filter nzH)).length<=1000:=by
      unfold aW;rw[zae];have s:=zee nzH (L.take j);rw[zah]at s;omega
    refine V2 ?_;refine Vv (ah.fT (l:=aW L) (enc:=aD) rfl rfl (eF F At1) oM) (Vv (ah.oO rfl (eF F At1) oM) ?_);refine Vv (ah.yh (i:=j) (f:=1) rfl (eF F At1) (W g) rfl) (Vn ?_);refine Cz (λIj=>?_) (λIj=>?_)
    . rw[zac Ij]at N
      refine V3 ?_;refine Vv (ah.fT (l:=aW L) (enc:=aD) rfl rfl (eF F At1) oM) (Vv (ah.iK (i:=j) rfl (eF F At1) (W g)) ?_);refine Bs F ([(b.1,b.2.w)].flatMap aD) (λbs wp Hp ke=>?_);have al9: ∀u∈[(b.1,b.2.w)].flatMap aD,u.oneCell'=true:=λu X=>uE (oG Hp At3) u (zcc.2 ⟨(b.1,b.2.w),zag (W g),by simpa using X⟩);refine eH Hp (news:=[(b.1,b.2.w)]) At0 kJ kM al9 (h:=?_);intro v9 wq Hq
      have hLe:aW ((L.take j).filter nzH)++[(b.1,b.2.w)]=aW ((L.take (j+1)).filter nzH):=by
        rw[N];unfold aW;rw[zan];rfl
      rw[hLe]at Hq;obtain⟨Q2,cQ2,rfl,_,_⟩:=Sep.bX Hq At0;refine V4 ?_;exact ak ((Q2,cQ2),j+1) tR ⟨dO,Hq⟩ dO
    rw[zab Ij,zbt]at N;refine V3 ?_;exact ak ((Q,cQ),j+1) ⟨rfl,by dsimp only;rw[N];rfl,rfl,trivial⟩ ⟨dO,by dsimp only;rw[N];exact F⟩ dO
  have P:L.take j=L:=zaj oM;refine V3 ?_;have s:=(Ak nzH F.aR).aJ.aZ.first;rw[P]at s
  have hfm:(L.filter nzH).map (·.2)=(DR l (ni l)).filter λx=>decide (x.w≠0):=by
    rw[<-hL,List.filter_map];rfl
  exact⟨(.slice Q (aW (L.filter nzH)).length cQ,L.filter nzH),by rw[P,M];rfl,by rw[M];exact hfm,s.bf⟩
def ahS {va vb:Value} (G:dM w va a) (J:dM w vb b) (O:a.length<=500) (P:b.length<=500) (p: ∀o∈a,cB o.w) (v: ∀o∈b,cB o.w) (q: ∀o∈a,o.row.length<=1000) (y: ∀o∈b,o.row.length<=1000):
    aX Tryz.prog 68 [va,vb] w λu Z=>∃x:Value×List fH,u=.tuple #[x.1,I (uF a b).2]/\x.2.map (·.2)=(uF a b).1/\cO noB (dB x.1 x.2) w Z:=by
  have H:=Sep.aI w;have n:=G;have t:=J;obtain⟨r,T,k⟩:=G;obtain⟨s,W,S⟩:=J;obtain⟨A,c,rfl,⟨hc,Q⟩,M⟩:=T;obtain⟨B,d,rfl,⟨hd,R⟩,N⟩:=W;have V:=k.len;have X:=S.len;refine dn Tryz.func68 ?_;refine Kz (Jo (n.aK H.au) oM) (λw5 E k4=>?_);refine Sz (λD=>?_) (λD=>?_)
  . refine V3 ?_
    have e: ¬(iJ a=true/\iJ b=true):=λh=>by
      have j:=h.1;have m:=h.2;simp[j,m]at *
    exact⟨(.slice none 0 0,[]),by unfold uF;rw[zab e];rfl,by unfold uF;rw[zab e];rfl,(Sep.gQ (bU E) 25 2).aZ.first.bf⟩
  refine Kz (Jo (t.aK E.au) oM) (λwa g ka=>?_);refine Cz (λL=>?_) (λL=>?_)
  . refine V2 ?_
    have e: ¬(iJ a=true/\iJ b=true):=λh=>by
      have j:=h.1;have m:=h.2;simp[j,m]at *
    exact⟨(.slice none 0 0,[]),by unfold uF;rw[zab e];rfl,by unfold uF;rw[zab e];rfl,(Sep.gQ (bU g) 25 2).aZ.first.bf⟩
  refine V3 ?_;have f:=Sep.iX g 25 2 aD;refine mq f (news:=r) At0 (M.aK g.au) (by unfold maxLen;simp only[zci];omega) (by simp only[zci];omega) (uE k) (h:=?_);intro v4 wb f;rw[zby]at f;obtain⟨F,c1,rfl,_,_⟩:=Sep.bX f At0;refine Mv ?_;refine mq f (news:=s) At0 (N.aK f.au) kS oM (uE S) (h:=?_);intro v5 wc i;obtain⟨N2,c2,rfl,_,_⟩:=Sep.bX i At0;refine Nz (BI (l:=a++b) ⟨r++s,gP i At0,(k.app S).aK i.au⟩ I6 (λo C=>(zbh.1 C).elim (p o) (v o)) (λo C=>(zbh.1 C).elim (q o) (y o))) (λz wd Y K kb=>?_);refine V4 ?_
  have e:iJ a=true/\iJ b=true:=by
    refine⟨Decidable.of_not_not λh=>?_,Decidable.of_not_not λh=>?_⟩
    . simp[h]at *
    simp[h]at *
  exact⟨z,by unfold uF;rw[zac e];rfl,by unfold uF;rw[zac e];exact Y,K.first.bf⟩
def aaT {n:Int} (h: -9223372036854775808<=n/\n<=9223372036854775807):(itoa n).length<=20:=BX h.1 h.2
def Qt {k:List aF} (h:iA k):(fJ k).length<=k.length*1000100:=by
 induction k with
 | nil=>exact zbk _
 | cons c k i=>
  have a:=i λd S=>h d (zap _ S);have b:=Pd c (h c zak);show(yQ c++fJ k).length<=_
  rw[zad,zat];omega
def Y8 {k:List aF} {c:aF} (h:k[i]? =some c):fJ (k.take (i+1))=fJ (k.take i)++yQ c:=by
 unfold fJ;rw[zaq,h,zbu];simp
def aaU {k:List aF} (X:aP w v aj 3 k) (hn:k.length<=64) (a:iA k) (K:gK w):Rk Tryz.prog 404 [v] w (str (fJ k)):=by
 obtain⟨A,m,rfl,⟨hm,Gj⟩,hA⟩:=X;have H:=Sep.aI w;refine dL Tryz.func404 ?_;refine Az (λJ w3 o k2=>?_);have o:=Sep.ahn o;refine V3 ?_;refine aM (λi:Nat=>[(0,.slice A k.length m),(3,aC J),(6,.slice A k.length m),(7,I k.length),(8,I i)]) (λi M=>i<=k.length/\Mw.Sep w noB [xw J (fJ (k.take i))] M) (λi _=>k.length-i) 0 tR ⟨zai _,o⟩ (λi τ w8 T=>?_);obtain⟨hi,C⟩:=T;refine Lp ?_;refine Cz (λR=>?_) (λR=>?_)
 .have t:i<k.length:=oM
  obtain⟨c,L⟩:=aN t;have f:=a c (zag L);have y:=Y8 L;have r:=Qt (k:=k.take i) λd W=>a d (zcj W);have Y:=Pd c f;have Z:=aaT f.1;have hl4:=aaT (n:=(c.s.length:Int)) ⟨oM,oM⟩;rw[zah,zcf hi]at r;have V:(DJ c.null).length<=5:=by unfold DJ;split<;>decide
  refine Az (λb5 wa Ha ka=>?_);refine Tz (λwb Hb=>?_);refine Dz (λb wc O=>?_);refine V2 ?_;refine Gp b 4 rfl rfl (λ_=>(ah.yt rfl)) (V1 ?_);refine Gp b 9 rfl rfl (λ_=>(ah.yt rfl)) (V2 ?_);refine Gp b 15 rfl rfl (λ_=>(ah.yt rfl)) (V1 ?_);refine dS (v:=str (DJ c.null)) b 2 [(16,false),(15,true),(11,true),(10,false),(9,true),(5,false),(4,true)] O (aX.mono (DN c.null) λu M h=>⟨h.1,h.2▸aS.refl _ _⟩) (h:=λwd D kb=>⟨sL,?_⟩);refine GS (Gn rfl (λ_=>(ah.Xk rfl rfl Im)) ?_);refine dS b 6 [(3,true),(16,false),(15,true),(11,true),(10,false),(9,true)] D (zT c.n f.1 (K.aK D.au)) (h:=λwe E kc=>⟨sL,?_⟩);refine GS (Gn rfl (λ_=>(ah.Xk rfl rfl Im)) ?_);refine GS (Gn rfl (λ_=>(ah.Xk rfl rfl Im)) ?_);refine dS b 12 [(8,true),(7,true),(3,true),(16,false),(15,true)] E (Tf (c.s.length:Int) (by unfold cB;omega) (K.aK E.au)) (h:=λwf P kd=>⟨sL,?_⟩);refine GS (Gn rfl (λ_=>(ah.Xk rfl rfl Im)) ?_);refine GS (Gn rfl (λ_=>(ah.Xk rfl rfl Im)) ?_);refine Gp b 17 rfl rfl (λ_=>(ah.Xk rfl rfl Im)) ?_;have e:DJ c.null++[32]++itoa c.n++[32]++itoa (c.s.length:Int)++[32]++c.s=yQ c:=by unfold yQ;simp
  rw[e];obtain⟨N,j,p,S⟩:=P.bG At1;refine p8 b 18 [] rfl kR (tL (news:=yQ c) j oM) rfl kR kR (λv' wg z=>?_);obtain⟨rfl,g,F,l,x⟩:=z;have G:=S _ F _ g l x;rw[<-y]at G;refine⟨sT,?_⟩;refine V2 ?_;exact ak (i+1) tR ⟨oM,G.bN⟩ oM
 have q:i=k.length:=oM;rw[q,zbo]at C;refine V0 ?_;have hl5:=Qt a;obtain⟨N,j,p,S⟩:=C.bG At0;refine aO (CQ j oM) rfl rfl (λv' wh z=>?_);obtain⟨rfl,g,F,l,x⟩:=z;have Q:=S _ F _ g l x;refine V1 ?_;exact⟨rfl,Q.au⟩
abbrev xA:=Value×Value×bT
def qE (z:xA):LV:=[z.1,z.2.1,I z.2.2.w]
instance:jl qE 3:=⟨λ_=>rfl⟩
def zh (w:Wd) (Z:List xA):Prop:=∀z∈Z,aP w z.1 aj 3 z.2.2.key/\aP w z.2.1 aj 3 z.2.2.vals
def zh.aK {w w':Wd} {Z:List xA} (h:zh w Z) (k:aS noB w w'):zh w' Z:=λz S=>⟨(h z S).1.aK k,(h z S).2.aK k⟩
def oZ (n:Int):LV:=[I n]
instance:jl oZ 1:=⟨λ_=>rfl⟩
def Al {α:Type} (w:Wd) (fv:Value) (enc:α->Value) (l:List α) (p:α->Bool):Prop:=
 ∃f fs cs,fv=.func (.func f) (List.toArray fs) (List.toArray cs)/\qB prog f/\∀x∈l,∀w',aS noB w w'->aX prog f (fs++[enc x]++cs) w' λv w''=>v=.bool (p x)/\aS noB w' w''
variable {fv:Value}
def Al.aK {g:Type} {w w':Wd} {enc:g->Value} {l:List g} {p:g->Bool} (h:Al w fv enc l p) (d:aS noB w w'):Al w' fv enc l p:=by
 obtain⟨f,fs,cs,a,b,c⟩:=h;exact⟨f,fs,cs,a,b,λx e S k=>c x e S (d.Lv k)⟩
def afF {l:List xA} {p:xA->Bool} (D:aP w v qE 3 l) (G:Al w fv (λx=>agg (qE x)) l p):Rk prog 400 [v,fv] w (I (zM (l.findIdx? p))):=by
 obtain⟨A,m,rfl,⟨M,E⟩,L⟩:=D;obtain⟨f,s,cs,rfl,u,a⟩:=G;have H:=Sep.aI w;refine dn func400 ?_;refine V4 ?_;refine aM (λi:Nat=>[(0,.slice A l.length m),(1,.func (.func f) s.toArray cs.toArray),(7,I l.length),(8,I i)]) (λi K=>(i<=l.length/\∀(j:Nat) y,j<i->l[j]? =some y->p y=false)/\Sep w noB [] K) (λi _=>l.length-i) 0 tR ⟨⟨zai _,λj y C=>oM⟩,H⟩ (λi Q O t=>?_);obtain⟨⟨hi,S⟩,b⟩:=t;refine Lp ?_;refine Cz (λd=>?_) (λd=>?_)
 .have n:i<l.length:=oM
  obtain⟨x,q⟩:=aN n;refine V7 ?_;refine fQ rfl (a x (zag q) _ b.au) rfl rfl (λN P J=>?_);obtain⟨rfl,g⟩:=J;have r:=b.aK g;refine Qn (Cd rfl (λc=>?_) (λc=>?_))
  .have h:l.findIdx? p=some i:=uI S q c
   refine V2 ?_;exact⟨by rw[h];rfl,r.au⟩
  have o:=c;refine V2 ?_;exact ak (i+1) tR ⟨⟨oM,λj y C k=>by
  by_cases e:j=i
  .subst e;rw[q]at k;injection k with k;rw[<-k];exact zdr _▸o
  exact S j y oM k⟩,r⟩ oM
 have z:i=l.length:=oM;have h:l.findIdx? p=none:=qZ λj y k=>S j y IJ k;refine V1 ?_;exact⟨by rw[h];rfl,b.au⟩
def WM {l:List xA} {p:xA->Bool} (k:aP w v qE 3 l) (S:Al w fv (λx=>agg (qE x)) l p):Rk prog 392 [v,fv] w (.bool (l.any p)):=by
 have H:=Sep.aI w;refine dn func392 ?_;refine Kz (afF (k.aK H.au) (S.aK H.au)) (λb h a=>?_);refine V2 ?_;exact⟨by rw[<-CJ];rfl,h.au⟩
def acS {l:List aF} {p:aF->Bool} (D:aP w v aj 3 l) (G:Al w fv (λx=>agg (aj x)) l p):Rk prog 408 [v,fv] w (I (zM (l.findIdx? p))):=by
 obtain⟨A,m,rfl,⟨M,E⟩,L⟩:=D;obtain⟨f,s,cs,rfl,u,a⟩:=G;have H:=Sep.aI w;refine dn func408 ?_;refine V4 ?_;refine aM (λi:Nat=>[(0,.slice A l.length m),(1,.func (.func f) s.toArray cs.toArray),(7,I l.length),(8,I i)]) (λi K=>(i<=l.length/\∀(j:Nat) y,j<i->l[j]? =some y->p y=false)/\Sep w noB [] K) (λi _=>l.length-i) 0 tR ⟨⟨zai _,λj y C=>oM⟩,H⟩ (λi Q O t=>?_);obtain⟨⟨hi,S⟩,b⟩:=t;refine Lp ?_;refine Cz (λd=>?_) (λd=>?_)
 .have n:i<l.length:=oM
  obtain⟨x,q⟩:=aN n;refine V7 ?_;refine fQ rfl (a x (zag q) _ b.au) rfl rfl (λN P J=>?_);obtain⟨rfl,g⟩:=J;have r:=b.aK g;refine Qn (Cd rfl (λc=>?_) (λc=>?_))
  .have h:l.findIdx? p=some i:=uI S q c
   refine V2 ?_;exact⟨by rw[h];rfl,r.au⟩
  have o:=c;refine V2 ?_;exact ak (i+1) tR ⟨⟨oM,λj y C k=>by
  by_cases e:j=i
  .subst e;rw[q]at k;injection k with k;rw[<-k];exact zdr _▸o
  exact S j y oM k⟩,r⟩ oM
 have z:i=l.length:=oM;have h:l.findIdx? p=none:=qZ λj y k=>S j y IJ k;refine V1 ?_;exact⟨by rw[h];rfl,b.au⟩
def TA {l:List aF} {v fv:Value} {p:aF->Bool} (k:aP w v aj 3 l) (S:Al w fv (λx=>agg (aj x)) l p):Rk prog 402 [v,fv] w (.bool (l.any p)):=by
 have H:=Sep.aI w;refine dn func402 ?_;refine Kz (acS (k.aK H.au) (S.aK H.au)) (λb h a=>?_);refine V2 ?_;exact⟨by rw[<-CJ];rfl,h.au⟩
def afG {l:List Int} {p:Int->Bool} (D:aP w v oZ 1 l) (G:Al w fv (λx=>I x) l p):Rk prog 406 [v,fv] w (I (zM (l.findIdx? p))):=by
 obtain⟨A,m,rfl,⟨M,E⟩,L⟩:=D;obtain⟨f,s,cs,rfl,u,a⟩:=G;have H:=Sep.aI w;refine dn func406 ?_;refine V4 ?_;refine aM (λi:Nat=>[(0,.slice A l.length m),(1,.func (.func f) s.toArray cs.toArray),(7,I l.length),(8,I i)]) (λi K=>(i<=l.length/\∀(j:Nat) y,j<i->l[j]? =some y->p y=false)/\Sep w noB [] K) (λi _=>l.length-i) 0 tR ⟨⟨zai _,λj y C=>oM⟩,H⟩ (λi Q O t=>?_);obtain⟨⟨hi,S⟩,b⟩:=t;refine Lp ?_;refine Cz (λd=>?_) (λd=>?_)
 .have n:i<l.length:=oM
  obtain⟨x,q⟩:=aN n;refine V7 ?_;refine fQ rfl (a x (zag q) _ b.au) rfl rfl (λN P J=>?_);obtain⟨rfl,g⟩:=J;have r:=b.aK g;refine Qn (Cd rfl (λc=>?_) (λc=>?_))
  .have h:l.findIdx? p=some i:=uI S q c
   refine V2 ?_;exact⟨by rw[h];rfl,r.au⟩
  have o:=c;refine V2 ?_;exact ak (i+1) tR ⟨⟨oM,λj y C k=>by
  by_cases e:j=i
  .subst e;rw[q]at k;injection k with k;rw[<-k];exact zdr _▸o
  exact S j y oM k⟩,r⟩ oM
 have z:i=l.length:=oM;have h:l.findIdx? p=none:=qZ λj y k=>S j y IJ k;refine V1 ?_;exact⟨by rw[h];rfl,b.au⟩
def WO {l:List Int} {v fv:Value} {p:Int->Bool} (k:aP w v oZ 1 l) (S:Al w fv (λx=>I x) l p):Rk prog 397 [v,fv] w (.bool (l.any p)):=by
 have H:=Sep.aI w;refine dn func397 ?_;refine Kz (afG (k.aK H.au) (S.aK H.au)) (λb h a=>?_);refine V2 ?_;exact⟨by rw[<-CJ];rfl,h.au⟩
def Ao (c:aF):Bool:=decide (c.s≠[]\/(c.null=true/\c.n≠0))
def ahT (c:aF):Rk prog 401 [agg (aj c)] w (.bool (Ao c)):=by
 have H:=Sep.aI w;refine dL func401 ?_;refine Sr (bK H (cs:=aj c) rfl (h:=λb e k d=>?_));refine Sz (λS=>?_) (λS=>?_)
 .refine V2 ?_
  exact⟨by unfold Ao;simp only[*,fU];simp[*],k.au⟩
 refine V3 ?_;refine eO (t:=9) rfl (λa=>?_) (λa=>?_)
 .refine V6 ?_
  exact⟨by unfold Ao;simp only[*,fU];simp[*],k.au⟩
 refine V3 ?_;exact⟨by unfold Ao;simp only[*,fU];simp[*],k.au⟩
variable {sums:Nat}
def WQ {keys:Nat} {x:bT}:qC keys sums x=(decide (x.key.length=keys/\x.vals.length=sums)&& !x.vals.any Ao):=by
 unfold qC
 congr 1
 rw[List.not_any_eq_all_not]
 congr 1
 funext c
 unfold Ao;rw[<-decide_not];exact zbg.2 (by simp[not_or])
def TB {k:List Int} {n:Int} (h:k[0]? =some n):k.headD 0=n:=by
 cases k with
 | nil=>cases h
 | cons a t=>injection h
def TD {k:List aF} {ns:List Int} {kv nv:Value} (b:Int) (P:aP w kv aj 3 k) (hn:aP w nv oZ 1 ns) (hl:k.length<=400) (hl2:ns.length<=400):
    aX Tryz.prog 396 [agg [kv,nv],I b] w λu D=>∃x:Value×List fH,u=x.1/\x.2.map (·.2)=iP ns k b/\cO noB (dB x.1 x.2) w D:=by
  have t:=P;obtain⟨K,ck,rfl,⟨hck,M⟩,hK⟩:=P;obtain⟨N,J,rfl,⟨hcn,O⟩,j⟩:=hn;have H:=Sep.aI w;refine dn Tryz.func396 ?_;refine Sr (bK H (cs:=[.slice K k.length ck,.slice N ns.length J]) rfl (h:=λb2 w2 d k1=>?_));refine Sz (λz=>?_) (λz=>?_)
  . refine V2 ?_
    have q:ns.headD 0=0:=by
      first
      | (have C:ns.length=0:=oM
         rw[zbf C];rfl)
      | (rw[TB S];omega)
    exact⟨(.slice none 0 0,[]),rfl,by unfold iP;rw[zac q];rfl,(Sep.gQ (bU d) 25 2).aZ.first.bf⟩
  refine V2 ?_;have a:0<ns.length:=oM;obtain⟨n0,S⟩:=aN a;refine Vv (ah.fT (i:=0) rfl rfl j a) (On ?_);refine Vv (ah.dY (i:=0) (f:=0) rfl d j S rfl) (Cz (λX=>?_) (λX=>?_))
  . refine V1 ?_
    have q:ns.headD 0=0:=by
      first
      | (have C:ns.length=0:=oM
         rw[zbf C];rfl)
      | (rw[TB S];omega)
    exact⟨(.slice none 0 0,[]),rfl,by unfold iP;rw[zac q];rfl,(Sep.gQ (bU d) 25 2).aZ.first.bf⟩
  refine V2 ?_;have v: ¬ns.headD 0=0:=by rw[TB S];omega
  refine Nz (qw (t.aK d.au) oM) (λy wa _ E ka=>?_);obtain⟨Y,cy,rfl,_,_⟩:=Sep.bX E At0;refine V5 ?_;have L:k++(ns.take 0).map gW=k:=sM;refine aM (λx:(OA×Nat)×Nat=>[(1,I b),(5,.slice x.1.1 (k++(ns.take x.2).map gW).length x.1.2),(23,.slice N ns.length J),(24,I ns.length),(25,I x.2)]) (λx D=>x.2<=ns.length/\Mw.Sep w noB [aY 48 3 aj (.slice x.1.1 (k++(ns.take x.2).map gW).length x.1.2) (k++(ns.take x.2).map gW)] D) (λx _=>ns.length-x.2) ((Y,cy),0) ⟨rfl,by dsimp only;rw[L];rfl,rfl,rfl,rfl,trivial⟩ ⟨zai _,by dsimp only;rw[L];exact E.first⟩ (λx τ wb hI=>?_);obtain⟨⟨R,g⟩,i⟩:=x;obtain⟨hi,e⟩:=hI;dsimp only at hi e;refine Lp ?_;refine Cz (λZ=>?_) (λZ=>?_)
  . have c:i<ns.length:=oM
    obtain⟨m,T⟩:=aN c;have A:k++(ns.take i).map gW++[gW m]=k++(ns.take (i+1)).map gW:=by rw[zaq,T,zan,zbp];rfl
    have Q:(k++(ns.take i).map gW).length<=800:=by rw[zad,zae,zah];omega
    refine V0 ?_;refine Vv (ah.fT rfl rfl j c) (Vv (ah.dY (f:=0) rfl e j T rfl) ?_);refine V3 ?_;refine Vb (aj (gW m)) ?_;refine Bs e ([gW m].flatMap aj) (λG wc V kb=>?_);refine eH V (news:=[gW m]) At0 kJ kM (dW (λ_=>rfl) _) (h:=?_);intro v5 wd l;rw[A]at l;obtain⟨F,p,rfl,_,_⟩:=Sep.bX l At0;refine V3 ?_;exact ak ((F,p),i+1) tR ⟨dO,l⟩ dO
  have r:i=ns.length:=oM;refine V2 ?_;refine Vb (aD (.slice R (k++(ns.take i).map gW).length g,b)) ?_;refine Bs e ([(Value.slice R (k++(ns.take i).map gW).length g,b)].flatMap aD) (λG we W kc=>?_);refine V1 ?_;have h1:=Sep.nC (n:=1) (s:=2) W At0 rfl dC;have h2:=iO (x:=.slice R (k++(ns.take i).map gW).length g) (o:=⟨k++(ns.take i).map gW,b⟩) (bU h1).aR;exact⟨(.slice (some ⟨G,0,none⟩) 1 1,[(.slice R (k++(ns.take i).map gW).length g,⟨k++(ns.take i).map gW,b⟩)]),rfl,by rw[r,zbo];unfold iP;rw[zab v];rfl,h2.aJ.aZ.first.bf⟩
def q9 (keys sums bm:Nat):LV:=[.bool true,I keys,I sums,.map (some bm)]
def iB (w:Wd) (b:Nat) (cs:LV) (E:Td):Prop:=w.heap[b]? =some (.cells cs.toArray E (0,0))
variable {E:Td}
def iB.aK {w w':Wd} {b:Nat} {cs:LV} (h:iB w b cs E) (k:aS noB w w'):iB w' b cs E:=aS.get k h id
variable {bg bm:Nat}
def MZ {keys:Nat} (S:iB w bg (q9 keys sums bm) E):Rk prog 387 [aC bg] w (.bool false):=by
 have H:=Sep.aI w;refine dL func387 ?_;refine V4 ?_;refine eO (t:=5) rfl (λk=>?_) (λk=>?_)
 .refine V2 ?_
  (exfalso;simp at *)
 refine V3 ?_;refine eP (S.aK H.au) (h:=?_);refine V3 ?_;exact⟨rfl,H.au⟩
def acT {keys:Nat} {z:xA} (j:iB w bg (q9 keys sums bm) E) (l:aP w z.1 aj 3 z.2.2.key) (a:aP w z.2.1 aj 3 z.2.2.vals):
    Rk prog 394 [aC bg,agg (qE z)] w (.bool (qC keys sums z.2.2)):=by
  obtain⟨G,J,e⟩:=z;dsimp only at l a ⊢;have b:=a;obtain⟨K,o,rfl,⟨r,g⟩,y⟩:=l;obtain⟨V,q,rfl,⟨s,i⟩,A⟩:=a;rw[WQ];have H:=Sep.aI w;refine dn func394 ?_;refine Sr (bK H (cs:=qE (.slice K e.key.length o,.slice V e.vals.length q,e)) rfl (h:=λv M u C=>?_));refine Dz (λS N k=>?_);refine V6 ?_;refine GS (Gt rfl (ah.nP rfl (j.aK k.au) rfl) ?_);refine V2 ?_;refine gu (t:=14) rfl (λm=>?_) (λm=>?_)
  . refine V6 ?_
    refine GS (Gt rfl (ah.nP rfl (j.aK k.au) rfl) ?_);refine V3 ?_;refine gu (t:=24) rfl (λn=>?_) (λn=>?_)
    . refine V3 ?_
      refine dS S 22 _ k (TA (p:=Ao) (fv:=.func (.func 401) #[] #[]) (b.aK k.au) ⟨401,[],[],rfl,eT,λx _ L _=>ahT x⟩) (h:=λO c D=>⟨sT,?_⟩);refine V3 ?_
      first
      | exact⟨by rw[zau (show e.key.length=keys/\e.vals.length=sums from⟨oM,oM⟩),zer];rfl,c.au⟩
      | exact⟨by rw[zam (show ¬(e.key.length=keys/\e.vals.length=sums)from λh=>by have d:=h.1;have f:=h.2;omega),zea];rfl,c.au⟩
    refine V2 ?_
    first
    | exact⟨by rw[zau (show e.key.length=keys/\e.vals.length=sums from⟨oM,oM⟩),zer];rfl,k.au⟩
    | exact⟨by rw[zam (show ¬(e.key.length=keys/\e.vals.length=sums)from λh=>by have d:=h.1;have f:=h.2;omega),zea];rfl,k.au⟩
  refine V4 ?_
  first
  | exact⟨by rw[zau (show e.key.length=keys/\e.vals.length=sums from⟨oM,oM⟩),zer];rfl,k.au⟩
  | exact⟨by rw[zam (show ¬(e.key.length=keys/\e.vals.length=sums)from λh=>by have d:=h.1;have f:=h.2;omega),zea];rfl,k.au⟩
def acU {A keys:Nat} {C:Td} {z:xA} (o:iB w bg (q9 keys sums bm) E) (l:iB w A [aC bg] C) (S:aP w z.1 aj 3 z.2.2.key) (b:aP w z.2.1 aj 3 z.2.2.vals):
    Rk prog 393 [agg (qE z),aC A] w (.bool (!qC keys sums z.2.2)):=by
  obtain⟨u,v,e⟩:=z;have a:=S;have c:=b;dsimp only at S b;obtain⟨K,i,rfl,⟨m,d⟩,q⟩:=S;obtain⟨V,j,rfl,⟨n,f⟩,r⟩:=b;have H:=Sep.aI w;refine dn func393 ?_;refine Sr (bK H (cs:=qE (.slice K e.key.length i,.slice V e.vals.length j,e)) rfl (h:=λp x k s=>?_));refine V1 ?_;refine eP (l.aK k.au) (h:=?_);refine Kz (acT (o.aK k.au) (a.aK k.au) (c.aK k.au)) (λy g t=>?_);refine Vv (ah.not rfl) (V1 ?_);exact⟨rfl,g.au⟩
def acV {e keys:Nat} {f:Td} {Z:List xA} (b:iB w bg (q9 keys sums bm) E) (a:iB w e [aC bg] f) (k:zh w Z) (c:aP w v qE 3 Z):
    Rk prog 392 [v,.func (.func 393) #[] #[aC e]] w (.bool (Z.any λz=> !qC keys sums z.2.2)):=
  WM c ⟨393,[],[aC e],rfl,eT,λz S d h=>acU (b.aK h) (a.aK h) ((k z S).1.aK h) ((k z S).2.aK h)⟩
def afH {g:Int} {n:Nat} {T m:List aH} (S:g<0) (c:(dJ T).2=0):MX (dJ T).1 m=(iL g n T m,(dJ (if(iL g n T m).2=0 then T++m else T)).1):=by
  have e: ∀X,dP g n X=dJ X:=λX=>by unfold dP;rw[zac S]
  have a:iL g n T m=if(dJ (T++m)).2≠0 then([],(dJ (T++m)).2)else dJ m:=by unfold iL;rw[e,zac S]
  unfold MX
  by_cases k:(dJ m).2=0
  . have b:uF (dJ T).1 (dJ m).1=dJ (T++m):=by
      rw[Tx sj sj];unfold Uu;rw[aed c,abo k]
    rw[zab (not_not_intro k),b,a]
    by_cases h:(dJ (T++m)).2=0
    . rw[zab (not_not_intro h),zab (not_not_intro h),zac k]
      exact Prod.ext (Prod.ext rfl k.symm) rfl
    rw[zac h,zac h,zab h]
  rw[zac k,a,qF k]
  by_cases h:(dJ (T++m)).2=0
  . rw[zab (not_not_intro h),zab dC]
  rw[zac h,zab h,qF h]
end Go.Proofs.Mw
