/-
 Sorting by a function:heaps,walked.
-/
import Derived.Test.YtbfjonalkaophaaGreatDoorNk20
set_option linter.all false
set_option maxRecDepth 4000
namespace Go.Proofs.Mw
open Go.Lib Go.Sort Go.Proofs.Tryz
variable {E:Td}
attribute [local irreducible] FW FL FG FGn jX lg gD l7 Qfn ah
section
variable {α:Type} [Inhabited α] {f:α->Int} {cf:α->α->Int} {w:Wd} {F:NP} {A:OA} {n c:Nat} {d₀:Array α} {fv:Value}
theorem aaO {root top first:Nat} (W:(gU f A n c d₀).ok F w) (D:n=d₀.size) (hb:first+top<=n) (J:n<=1000000) (X:root<=n) (K:pO prog fv f cf F w):
    aX prog 362 [.slice A n c,I root,I top,I first,fv] w λr G=>r=.tuple #[]/\n=(siftDown (ltC cf) top first root d₀).size/\cO F (gU f A n c (siftDown (ltC cf) top first root d₀)) w G:=by
  have H:=Sep.dA W;obtain⟨g,ay⟩: ∃g,g=siftDown (ltC cf) top first root d₀:=⟨_,rfl⟩;rw[<-ay];refine O8 func362 ?_;refine V2 ?_;refine aM (λx:Nat×Array α=>[(0,.slice A n c),(2,I top),(3,I first),(4,fv),(10,I x.1)]) (λx G=>((n=x.2.size/\x.1<=n)/\siftDown (ltC cf) top first x.1 x.2=g)/\Sep w F [gU f A n c x.2] G) (λx _=>n+1-x.1) (root,d₀) tR ⟨⟨⟨D,X⟩,ay.symm⟩,H⟩ (λx τ w4 V=>?_);obtain⟨r,d⟩:=x;obtain⟨⟨⟨b,E⟩,hi⟩,o⟩:=V;dsimp only at b E hi o;have hR:=rdI b o At0;refine Lp ?_;refine V1 ?_;refine Vc ((2*r:Nat):Int) ?_;refine Vc ((2*r+1:Nat):Int) ?_;refine Cz (λR=>?_) (λR=>?_)
  . have e:2*r+1≥top:=oM
    rw[siftDown,dif_pos e]at hi;refine V0 ?_;exact⟨rfl,by rw[<-hi];exact b,by rw[<-hi];exact o.bf⟩
  have e: ¬2*r+1≥top:=oM;rw[siftDown,dif_neg e]at hi;refine Dz (λi wa Y=>?_);refine V1 ?_;refine Gc i 1 ((2*r+1+1:Nat):Int) ?_;refine V3 ?_;refine gu (t:=23) rfl (λT=>?_) (λT=>?_)
  . have C:2*r+1+1<top:=oM
    refine V4 ?_;refine Gc i 9 ((first+(2*r+1):Nat):Int) ?_;refine V5 ?_;refine Gc i 15 ((first+(2*r+1):Nat):Int) ?_;refine Gc i 16 ((first+(2*r+1)+1:Nat):Int) ?_;refine V2 ?_;refine FcI (λwb Z=>?_);refine O2 ?_;refine fZ i kR ?_;refine Cz (λp=>?_) (λp=>?_)
    . have k:=p
      rw[zac (by simp only[zbr,decide_eq_true_eq,ltC];exact⟨C,k⟩),dif_pos (show 2*r+2<top from oM)]at hi;refine V1 ?_;refine Vc ((2*r+2:Nat):Int) ?_;obtain⟨S,a⟩: ∃S,S=2*r+2:=⟨_,rfl⟩;rw[<-a]at hi ⊢;have j:S<top:=oM;refine Dz (λv wc Hc=>?_);refine V4 ?_;refine Gc v 4 ((first+r:Nat):Int) ?_;refine V5 ?_;refine Gc v 10 ((first+S:Nat):Int) ?_;refine V2 ?_;refine FcI (λwd L=>?_);refine O2 ?_;refine fZ v kR ?_;refine Cz (λq=>?_) (λq=>?_)
      . have k:=q
        rw[zac kQ]at hi;refine V0 ?_;exact⟨rfl,by rw[<-hi];exact b,by rw[<-hi];exact L.bf⟩
      have k:=q;rw[zab kQ]at hi;refine Dz (λl we He=>?_);refine V3 ?_;refine Gc l 3 ((first+r:Nat):Int) ?_;refine V3 ?_;refine Gc l 7 ((first+S:Nat):Int) ?_;refine V3 ?_;refine Gc l 11 ((first+S:Nat):Int) ?_;refine V5 ?_;refine Gc l 17 ((first+r:Nat):Int) ?_;refine V3 ?_;refine FsI (λwf Hf=>?_);refine V1 ?_;refine FsI (λwg M=>?_);refine V2 ?_;exact ak (S,swp d (first+r) (first+S)) tR ⟨⟨⟨by rw[jC];exact b,dO⟩,hi⟩,M⟩ dO
    have k:=p;rw[zab (by simp only[zbr,decide_eq_true_eq,ltC];exact λh=>k h.2)]at hi;obtain⟨S,a⟩: ∃S,S=2*r+1:=⟨_,rfl⟩;rw[<-a]at hi ⊢;have j:S<top:=oM;refine Dz (λy wh Hh=>?_);refine V4 ?_;refine Gc y 4 ((first+r:Nat):Int) ?_;refine V5 ?_;refine Gc y 10 ((first+S:Nat):Int) ?_;refine V2 ?_;refine FcI (λwi N=>?_);refine O2 ?_;refine fZ y kR ?_;refine Cz (λs=>?_) (λs=>?_)
    . have k:=s
      rw[zac kQ]at hi;refine V0 ?_;exact⟨rfl,by rw[<-hi];exact b,by rw[<-hi];exact N.bf⟩
    have k:=s;rw[zab kQ]at hi;refine Dz (λm wj Hj=>?_);refine V3 ?_;refine Gc m 3 ((first+r:Nat):Int) ?_;refine V3 ?_;refine Gc m 7 ((first+S:Nat):Int) ?_;refine V3 ?_;refine Gc m 11 ((first+S:Nat):Int) ?_;refine V5 ?_;refine Gc m 17 ((first+r:Nat):Int) ?_;refine V3 ?_;refine FsI (λwk Hk=>?_);refine V1 ?_;refine FsI (λwl O=>?_);refine V2 ?_;exact ak (S,swp d (first+r) (first+S)) tR ⟨⟨⟨by rw[jC];exact b,dO⟩,hi⟩,O⟩ dO
  have C: ¬2*r+1+1<top:=oM;rw[zab (by simp[C])]at hi;obtain⟨S,a⟩: ∃S,S=2*r+1:=⟨_,rfl⟩;rw[<-a]at hi ⊢;have j:S<top:=oM;refine Dz (λz wm Hm=>?_);refine V4 ?_;refine Gc z 4 ((first+r:Nat):Int) ?_;refine V5 ?_;refine Gc z 10 ((first+S:Nat):Int) ?_;refine V2 ?_;refine FcI (λwn P=>?_);refine O2 ?_;refine fZ z kR ?_;refine Cz (λu=>?_) (λu=>?_)
  . have k:=u
    rw[zac kQ]at hi;refine V0 ?_;exact⟨rfl,by rw[<-hi];exact b,by rw[<-hi];exact P.bf⟩
  have k:=u;rw[zab kQ]at hi;refine Dz (λSh wo Ho=>?_);refine V3 ?_;refine Gc Sh 3 ((first+r:Nat):Int) ?_;refine V3 ?_;refine Gc Sh 7 ((first+S:Nat):Int) ?_;refine V3 ?_;refine Gc Sh 11 ((first+S:Nat):Int) ?_;refine V5 ?_;refine Gc Sh 17 ((first+r:Nat):Int) ?_;refine V3 ?_;refine FsI (λwp Hp=>?_);refine V1 ?_;refine FsI (λwq Q=>?_);refine V2 ?_;exact ak (S,swp d (first+r) (first+S)) tR ⟨⟨⟨by rw[jC];exact b,dO⟩,hi⟩,Q⟩ dO
def WE {a b:Nat} (V:(gU f A n c d₀).ok F w) (D:n=d₀.size) (T:a<b) (hb:b<=n) (i:n<=1000000) (j:pO prog fv f cf F w):
    aX prog 331 [.slice A n c,I a,I b,fv] w λr u=>r=.tuple #[]/\n=(heapSort (ltC cf) d₀ a b).size/\cO F (gU f A n c (heapSort (ltC cf) d₀ a b)) w u:=by
  have H:=Sep.dA V;obtain⟨g,ay⟩: ∃g,g=heapSort (ltC cf) d₀ a b:=⟨_,rfl⟩;rw[<-ay];unfold heapSort at ay;refine yM func331 ?_;refine V5 ?_;refine Vc ((b-a:Nat):Int) ?_;refine V2 ?_;refine Vc ((b-a-1:Nat):Int) ?_;refine Vv (ah.JN (a:=b-a-1) (b:=2) rfl rfl dC oM) (V1 ?_);refine aM (λx:Nat×Array α=>[(0,.slice A n c),(3,fv),(8,I a),(9,I 0),(10,I (b-a:Nat)),(11,I ((x.1:Int)-1))]) (λx u=>((n=x.2.size/\x.1<=(b-a-1)/2+1)/\g=heapPop (ltC cf) a (b-a) (heapBuild (ltC cf) (b-a) a x.1 x.2))/\Sep w F [gU f A n c x.2] u) (λx _=>x.1) ((b-a-1)/2+1,d₀) ⟨rfl,rfl,rfl,rfl,rfl,zay I dO,trivial⟩ ⟨⟨⟨D,zbk _⟩,ay⟩,H⟩ (λx X wa C=>?_);obtain⟨k,d⟩:=x;obtain⟨⟨⟨e,S⟩,hi⟩,v⟩:=C;dsimp only at e S hi v;clear ay;refine Lp ?_;refine Cz (λQ=>?_) (λQ=>?_)
  . obtain⟨m,rfl⟩: ∃m,k=m+1:=⟨k-1,oM⟩
    rw[show((m+1:Nat):Int)-1=(m:Int)from oM];rw[heapBuild]at hi;refine V5 ?_;obtain⟨N,p,l,h⟩:=v.bG At0;refine aO (aaO (root:=m) (top:=b-a) (first:=a) p e oM i oM (j.into v.au l)) rfl rfl (λW wb K=>?_);obtain⟨rfl,q,s,y,G,J⟩:=K;have O:=h _ y _ s G J;refine V1 ?_;refine Vc ((m:Int)-1) ?_;refine V1 ?_;exact ak (m,siftDown (ltC cf) (b-a) a m d) tR ⟨⟨⟨q,dO⟩,hi⟩,O⟩ dO
  have o:k=0:=oM;subst o;rw[heapBuild]at hi;refine V1 ?_;refine Vc (((b-a:Nat):Int)-1) ?_;refine V1 ?_;refine aM (λx:Nat×Array α=>[(0,.slice A n c),(3,fv),(8,I a),(9,I 0),(12,I ((x.1:Int)-1))]) (λx u=>((n=x.2.size/\x.1<=b-a)/\g=heapPop (ltC cf) a x.1 x.2)/\Sep w F [gU f A n c x.2] u) (λx _=>x.1) (b-a,d) tR ⟨⟨⟨e,zbk _⟩,hi⟩,v⟩ (λx X wc C=>?_);clear hi e S;obtain⟨k,d⟩:=x;obtain⟨⟨⟨e,S⟩,hi⟩,z⟩:=C;dsimp only at e S hi z;have hR:=rdI e z At0;refine Lp ?_;refine Cz (λR=>?_) (λR=>?_)
  . obtain⟨m,rfl⟩: ∃m,k=m+1:=⟨k-1,oM⟩
    rw[show((m+1:Nat):Int)-1=(m:Int)from oM];rw[heapPop]at hi;refine Dz (λM wd Y=>?_);refine V5 ?_;refine Gc M 5 ((a+m:Nat):Int) ?_;refine V3 ?_;refine Gc M 9 ((a+m:Nat):Int) ?_;refine V7 ?_;refine FsI (λwe Z=>?_);refine V1 ?_;refine FsI (λwf L=>?_);refine V5 ?_;have E:n=(swp d a (a+m)).size:=by rw[jC];exact e
    obtain⟨N,p,l,h⟩:=L.bG At0;refine aO (aaO (root:=0) (top:=m) (first:=a) (d₀:=swp d a (a+m)) p E oM i oM (j.into L.au l)) rfl rfl (λW wg K=>?_);obtain⟨rfl,q,t,y,G,J⟩:=K;have P:=h _ y _ t G J;refine V1 ?_;refine Vc ((m:Int)-1) ?_;refine V1 ?_;exact ak (m,siftDown (ltC cf) m a 0 (swp d a (a+m))) tR ⟨⟨⟨q,dO⟩,hi⟩,P⟩ dO
  have o:k=0:=oM;subst o;rw[heapPop]at hi;refine V0 ?_;exact⟨rfl,by rw[hi];exact e,by rw[hi];exact z.bf⟩
def Jk {a b s y:Nat} (l:(dx (blk y [I s] E) (gU f A n c d₀)).ok F w) (j:n=d₀.size) (p:a<n) (q:b<n) (d:n<=1000000) (t:s<=1000) (e:pO prog fv f cf F w):
    aX prog 368 [.slice A n c,I a,I b,aC y,fv] w λr m=>r=.tuple #[I (order2 (ltC cf) d₀ a b s).1,I (order2 (ltC cf) d₀ a b s).2.1]/\cO F (dx (blk y [I (order2 (ltC cf) d₀ a b s).2.2] E) (gU f A n c d₀)) w m:=by
  have H:=(Sep.dA l).bW;have hR:=rdI j H At1;unfold order2;refine O8 func368 ?_;refine Dz (λk u o=>?_);refine V9 ?_;refine FcI (λv g=>?_);refine O1 ?_;refine fZ k kR ?_;refine Cz (λS=>?_) (λS=>?_)
  . rw[zac (show ltC cf d₀[b]! d₀[a]! =true from zau S)]
    refine V3 ?_;refine Vc ((s+1:Nat):Int) ?_;refine Uz (λx i=>?_);refine V4 ?_;exact⟨rfl,i.aZ.bf⟩
  rw[zab (show ¬ltC cf d₀[b]! d₀[a]! =true from λh=>S (zbe h))];refine V4 ?_;exact⟨rfl,g.aZ.bf⟩
def order2_mem {d:Array α} {a b s:Nat} {p:NP} (h:p a) (k:p b):p (order2 (ltC cf) d a b s).1/\p (order2 (ltC cf) d a b s).2.1/\(order2 (ltC cf) d a b s).2.2<=s+1:=by
 unfold order2
 split
 .exact⟨k,h,zbk _⟩
 exact⟨h,k,Nat.le_succ _⟩
def median_mem {d:Array α} {a b m s:Nat} {p:NP} (g:p a) (i:p b) (j:p m):p (median (ltC cf) d a b m s).1/\(median (ltC cf) d a b m s).2<=s+3:=by
 unfold median;dsimp only;obtain⟨h,k,l⟩:=order2_mem (cf:=cf) (d:=d) (s:=s) g i;obtain⟨S,o,q⟩:=order2_mem (cf:=cf) (d:=d) (s:=(order2 (ltC cf) d a b s).2.2) k j;obtain⟨r,e,t⟩:=order2_mem (cf:=cf) (d:=d) (s:=(order2 (ltC cf) d (order2 (ltC cf) d a b s).2.1 m (order2 (ltC cf) d a b s).2.2).2.2) h S;exact⟨e,oM⟩
def Qp {a b m s bs:Nat} (Y:(dx (blk bs [I s] E) (gU f A n c d₀)).ok F w) (K:n=d₀.size) (O:a<n) (P:b<n) (Q:m<n) (S:n<=1000000) (j:s<=900) (e:pO prog fv f cf F w):
    aX prog 364 [.slice A n c,I a,I b,I m,aC bs,fv] w λr Z=>r=I (median (ltC cf) d₀ a b m s).1/\cO F (dx (blk bs [I (median (ltC cf) d₀ a b m s).2] E) (gU f A n c d₀)) w Z:=by
  have H:=Sep.dA Y;unfold median;dsimp only;obtain⟨M,G,V⟩:=order2_mem (cf:=cf) (d:=d₀) (s:=s) (p:=λx=>x<n) O P;obtain⟨i,u⟩: ∃i,i=order2 (ltC cf) d₀ a b s:=⟨_,rfl⟩;rw[<-u]at M G V ⊢;obtain⟨N,W,X⟩:=order2_mem (cf:=cf) (d:=d₀) (s:=i.2.2) (p:=λx=>x<n) G Q;obtain⟨z,v⟩: ∃z,z=order2 (ltC cf) d₀ i.2.1 m i.2.2:=⟨_,rfl⟩;rw[<-v]at N W X ⊢;refine akM func364 ?_;refine V6 ?_;obtain⟨L,g,k,h⟩:=H.bG At0;refine aO (Jk (a:=a) (b:=b) (s:=s) g K O P S oM (e.into H.au k)) rfl rfl (λR w8 y=>?_);obtain⟨rfl,J,l,t,j⟩:=y;have C:=h _ l _ J t j;rw[<-u]at C ⊢;refine V10 ?_;obtain⟨L,g,k,h⟩:=C.bG At0;refine aO (Jk (a:=i.2.1) (b:=m) (s:=i.2.2) g K G Q S oM (e.into C.au k)) rfl rfl (λR wa y=>?_);obtain⟨rfl,o,l,t,j⟩:=y;have D:=h _ l _ o t j;rw[<-v]at D ⊢;refine V10 ?_;obtain⟨L,g,k,h⟩:=D.bG At0;refine aO (Jk (a:=i.1) (b:=z.1) (s:=z.2.2) g K M N S oM (e.into D.au k)) rfl rfl (λR wb y=>?_);obtain⟨rfl,q,l,t,j⟩:=y;have T:=h _ l _ q t j;refine V7 ?_;exact⟨rfl,T.bf⟩
def BH {a s D:Nat} (q:(dx (blk D [I s] E) (gU f A n c d₀)).ok F w) (p:n=d₀.size) (y:1<=a) (o:a+1<n) (k:n<=1000000) (i:s<=900) (S:pO prog fv f cf F w):
    aX prog 363 [.slice A n c,I a,aC D,fv] w λr v=>r=I (medianAdjacent (ltC cf) d₀ a s).1/\cO F (dx (blk D [I (medianAdjacent (ltC cf) d₀ a s).2] E) (gU f A n c d₀)) w v:=by
  have H:=Sep.dA q;unfold medianAdjacent;refine yM func363 ?_;refine V3 ?_;refine Vc ((a-1:Nat):Int) ?_;refine V2 ?_;refine Vc ((a+1:Nat):Int) ?_;refine V2 ?_;obtain⟨x,g,e,h⟩:=H.bG At0;refine aO (Qp (a:=a-1) (b:=a) (m:=a+1) (s:=s) g p oM oM oM k i (S.into H.au e)) rfl rfl (λz C u=>?_);obtain⟨rfl,d,j,t,i⟩:=u;have l:=h _ j _ d t i;refine V1 ?_;exact⟨rfl,l.bf⟩
def aiR:Sort.Hint->Int
 | .unknown=>0
 | .increasing=>1
 | .decreasing=>2
theorem afr {a b:Nat} (hp:(gU f A n c d₀).ok F w) (hn:n=d₀.size) (hab:a+12<b) (hb:b<=n) (g:n<=1000000) (o:pO prog fv f cf F w):
    aX prog 333 [.slice A n c,I a,I b,fv] w λr w'=>r=.tuple #[I (choosePivot (ltC cf) d₀ a b).1,I (aiR (choosePivot (ltC cf) d₀ a b).2)]/\cO F (gU f A n c d₀) w w':=by
  have H:=Sep.dA hp;obtain⟨l,hl⟩: ∃l,l=b-a:=⟨_,rfl⟩;obtain⟨i,hi⟩: ∃i,i=a+l/4*1:=⟨_,rfl⟩;obtain⟨j,hj⟩: ∃j,j=a+l/4*2:=⟨_,rfl⟩;obtain⟨k,hk⟩: ∃k,k=a+l/4*3:=⟨_,rfl⟩;obtain⟨t,ay⟩: ∃t,t=choosePivot (ltC cf) d₀ a b:=⟨_,rfl⟩;rw[<-ay];unfold choosePivot at ay;dsimp only at ay;rw[<-hl,<-hi,<-hj,<-hk,zac (show l≥8 from oM)]at ay;refine yM func333 ?_;refine V4 ?_;refine Vc (l:Int) ?_;refine Az (λbs w8 K k7=>?_);have K:=K.aZ;refine V2 ?_;refine Vv (ah.JN (a:=l) (b:=4) rfl rfl dC oM) (Vc ((l/4*1:Nat):Int) ?_);refine Vc (i:Int) ?_;refine V3 ?_;refine Vv (ah.JN (a:=l) (b:=4) rfl rfl dC oM) (Vc ((l/4*2:Nat):Int) ?_);refine Vc (j:Int) ?_;refine V3 ?_;refine Vv (ah.JN (a:=l) (b:=4) rfl rfl dC oM) (Vc ((l/4*3:Nat):Int) ?_);refine Vc (k:Int) ?_;refine Am ?_;refine Qn (dU (λz:Nat×Nat=>[(11,aC bs),(13,I z.1)]) (λz w'=>(t=(z.1,if z.2=0 then Sort.Hint.increasing else if z.2=12 then .decreasing else .unknown))/\Sep w F [dx (blk bs [I z.2] 3) (gU f A n c d₀)] w') ?_ ?_)
  . refine Cz (λIe=>?_) (λIe=>?_)
    . have h8:=Ie
      refine dU (λz:Nat×Nat×Nat×Nat=>[(0,.slice A n c),(3,fv),(11,aC bs),(12,I z.1),(13,I z.2.1),(14,I z.2.2.1)]) (λz w'=>((z.1<n/\z.2.1<n/\z.2.2.1<n/\z.2.2.2<=9)/\t=((median (ltC cf) d₀ z.1 z.2.1 z.2.2.1 z.2.2.2).1,if(median (ltC cf) d₀ z.1 z.2.1 z.2.2.1 z.2.2.2).2=0 then Sort.Hint.increasing else if(median (ltC cf) d₀ z.1 z.2.1 z.2.2.1 z.2.2.2).2=12 then .decreasing else .unknown))/\Sep w F [dx (blk bs [I z.2.2.2] 3) (gU f A n c d₀)] w') ?_ ?_
      . refine Cz (λIf=>?_) (λIf=>?_)
        . rw[zac (show l≥50 from oM)]at ay
          refine V3 ?_;obtain⟨F0,e,S,h⟩:=K.bG At0;refine aO (BH (a:=i) (s:=0) e hn oM oM g dC (o.into K.au S)) rfl rfl (λv' wa G=>?_);obtain⟨rfl,O,y,C,D⟩:=G;have Ha:=h _ y _ O C D;obtain⟨T,hm2⟩:=median_mem (cf:=cf) (d:=d₀) (s:=0) (p:=λx=>x<n) (a:=i-1) (b:=i) (m:=i+1) oM oM oM;obtain⟨u,X⟩: ∃u,u=medianAdjacent (ltC cf) d₀ i 0:=⟨_,rfl⟩;rw[show median (ltC cf) d₀ (i-1) i (i+1) 0=u from X.symm]at T hm2;rw[<-X]at ay Ha ⊢;refine V4 ?_;obtain⟨F0,e,S,h⟩:=Ha.bG At0;refine aO (BH (a:=j) (s:=u.2) e hn oM oM g oM (o.into Ha.au S)) rfl rfl (λv' wb G=>?_);obtain⟨rfl,P,y,C,D⟩:=G;have Hb:=h _ y _ P C D;obtain⟨V,hm4⟩:=median_mem (cf:=cf) (d:=d₀) (s:=u.2) (p:=λx=>x<n) (a:=j-1) (b:=j) (m:=j+1) oM oM oM;obtain⟨v,Y⟩: ∃v,v=medianAdjacent (ltC cf) d₀ j u.2:=⟨_,rfl⟩;rw[show median (ltC cf) d₀ (j-1) j (j+1) u.2=v from Y.symm]at V hm4;rw[<-Y]at ay Hb ⊢;refine V4 ?_;obtain⟨F0,e,S,h⟩:=Hb.bG At0;refine aO (BH (a:=k) (s:=v.2) e hn oM oM g oM (o.into Hb.au S)) rfl rfl (λv' wc G=>?_);obtain⟨rfl,Q,y,C,D⟩:=G;have Hc:=h _ y _ Q C D;obtain⟨W,hm6⟩:=median_mem (cf:=cf) (d:=d₀) (s:=v.2) (p:=λx=>x<n) (a:=k-1) (b:=k) (m:=k+1) oM oM oM;obtain⟨rk,Z⟩: ∃rk,rk=medianAdjacent (ltC cf) d₀ k v.2:=⟨_,rfl⟩;rw[show median (ltC cf) d₀ (k-1) k (k+1) v.2=rk from Z.symm]at W hm6;rw[<-Z]at ay Hc ⊢;refine V1 ?_;exact aA (u.1,v.1,rk.1,rk.2) tR ⟨⟨⟨T,V,W,dO⟩,ay⟩,Hc⟩
        rw[zab (show ¬l≥50 from oM)]at ay;refine V0 ?_;exact aA (i,j,k,0) tR ⟨⟨⟨dO,dO,dO,zai _⟩,ay⟩,K⟩
      rintro⟨i',j',k',s⟩ τ wd ⟨⟨⟨L,M,N,hs9⟩,q⟩,Hd⟩;dsimp only at L M N hs9 q Hd;refine Lp ?_;refine V5 ?_;obtain⟨F0,e,S,h⟩:=Hd.bG At0;refine aO (Qp (a:=i') (b:=j') (m:=k') (s:=s) e hn L M N g oM (o.into Hd.au S)) rfl rfl (λv' we G=>?_);obtain⟨rfl,R,y,C,D⟩:=G;have He:=h _ y _ R C D;refine V1 ?_;exact aA (median (ltC cf) d₀ i' j' k' s) tR ⟨q,He⟩
    exact zas Ie oM
  rintro⟨p,s⟩ τ wf ⟨q,J⟩;dsimp only at q J;have J:=J.bW;refine Lp ?_;refine Cz (λIg=>?_) (λIg=>?_)
  . have E:s=0:=by have:=Ig;omega
    rw[zac E]at q;refine V3 ?_;exact⟨by rw[q];rfl,(J.bN).bf⟩
  have E:s≠0:=by have:=Ig;omega
  rw[zab E]at q;refine Cz (λIh=>?_) (λIh=>?_)
  . have Sa:s=12:=by have:=Ih;omega
    rw[zac Sa]at q;refine V3 ?_;exact⟨by rw[q];rfl,(J.bN).bf⟩
  have Sa:s≠12:=by have:=Ih;omega
  rw[zab Sa]at q;refine V3 ?_;exact⟨by rw[q];rfl,(J.bN).bf⟩
def Y0 {a b:Nat} (u:(gU f A n c d₀).ok F w) (l:n=d₀.size) (t:a<b) (C:b<=n) (o:n<=1000000):
    aX prog 334 [.slice A n c,I a,I b,fv] w λr m=>r=.tuple #[]/\cO F (gU f A n c (reverseRange d₀ a b)) w m:=by
  have H:=Sep.dA u;obtain⟨h,ay⟩: ∃h,h=reverseRange d₀ a b:=⟨_,rfl⟩;rw[<-ay];unfold reverseRange at ay;refine yM func334 ?_;refine V3 ?_;refine Vc ((b-1:Nat):Int) ?_;refine V1 ?_;refine aM (λx:Nat×Nat×Array α=>[(0,.slice A n c),(8,I x.1),(9,I x.2.1)]) (λx m=>((n=x.2.2.size/\x.2.1<n)/\reverseLoop x.1 x.2.1 x.2.2=h)/\Sep w F [gU f A n c x.2.2] m) (λx _=>x.2.1-x.1) (a,b-1,d₀) tR ⟨⟨⟨l,dO⟩,ay.symm⟩,H⟩ (λx K D s=>?_);obtain⟨i,j,d⟩:=x;obtain⟨⟨⟨g,S⟩,hi⟩,k⟩:=s;dsimp only at g S hi k;have hR:=rdI g k At0;refine Lp ?_;refine Cz (λq=>?_) (λq=>?_)
  . have e:i<j:=oM
    rw[reverseLoop,zac e]at hi;refine Dz (λz E v=>?_);refine V13 ?_;refine FsI (λG y=>?_);refine V1 ?_;refine FsI (λJ p=>?_);refine V1 ?_;refine Vc ((i+1:Nat):Int) ?_;refine V2 ?_;refine Vc ((j-1:Nat):Int) ?_;refine V1 ?_;exact ak (i+1,j-1,swp d i j) tR ⟨⟨⟨by rw[jC];exact g,dO⟩,hi⟩,p⟩ dO
  rw[reverseLoop,zab oM]at hi;refine V0 ?_;exact⟨rfl,by rw[<-hi];exact k.bf⟩
def afs {b x:Nat} (t:(blk b [U x] E).ok F w) (u:x<18446744073709551616):aX prog 269 [aC b] w λr D=>∃y:Nat,r=U y/\y<18446744073709551616/\cO F (blk b [U y] E) w D:=by
 have H:=Sep.dA t;refine dL func269 ?_;obtain⟨k,d⟩: ∃a:Nat,a=x^^^(x*8192%18446744073709551616):=⟨_,rfl⟩;obtain⟨S,e⟩: ∃a:Nat,a=k^^^(k/128):=⟨_,rfl⟩;obtain⟨j,g⟩: ∃a:Nat,a=S^^^(S*131072%18446744073709551616):=⟨_,rfl⟩;have v:k<18446744073709551616:=by rw[d];exact Nat.xor_lt_two_pow (n:=64) oM oM
 have z:S<18446744073709551616:=by rw[e];exact Nat.xor_lt_two_pow (n:=64) oM oM
 have C:j<18446744073709551616:=by rw[g];exact Nat.xor_lt_two_pow (n:=64) oM oM
 refine Dz (λi K l=>?_);refine V6 ?_;refine GS (Gn rfl (λ_=>ah.ajW (c:=((x*8192%18446744073709551616:Nat):Int)) rfl rfl dC (by show IntKind.u64.wrap ((x:Int)*2^13)=_;rw[IntKind.wrap_u64];omega)) ?_);refine GS (Gn rfl (λ_=>ah.ajX (c:=(k:Int)) rfl rfl (by rw[bits_xor_u64_nat _ _ u oM,d])) ?_);refine V1 ?_;refine mJ i 9 _ l (h:=λL G=>⟨sT,?_⟩);refine Dz (λq M m=>?_);refine V6 ?_;refine GS (Gn rfl (λ_=>ah.anj (c:=((k/128:Nat):Int)) rfl rfl dC (by show(k:Int).fdiv (2^7)=_;rw[zfx _ dC];omega)) ?_);refine GS (Gn rfl (λ_=>ah.ajX (c:=(S:Int)) rfl rfl (by rw[bits_xor_u64_nat _ _ v oM,e])) ?_);refine V1 ?_;refine mJ q 9 _ m (h:=λN J=>⟨sT,?_⟩);refine Dz (λs O o=>?_);refine V6 ?_;refine GS (Gn rfl (λ_=>ah.ajW (c:=((S*131072%18446744073709551616:Nat):Int)) rfl rfl dC (by show IntKind.u64.wrap ((S:Int)*2^17)=_;rw[IntKind.wrap_u64];omega)) ?_);refine GS (Gn rfl (λ_=>ah.ajX (c:=(j:Int)) rfl rfl (by rw[bits_xor_u64_nat _ _ z oM,g])) ?_);refine V1 ?_;refine mJ s 9 _ o (h:=λP p=>⟨sT,?_⟩);refine V4 ?_;exact⟨j,rfl,C,p.bf⟩
def Jl {m:Nat} (g:0<m) (i:m<1000000):2^Lib.bitLen m<=2*m/\m<2^Lib.bitLen m/\Lib.bitLen m<=62:=by
 obtain⟨k,a,d⟩:=bitLenAux_bounds 64 m oM oM;have S:1<=Lib.bitLen m:=k;have b:2^(Lib.bitLen m-1)<=m:=a
 have e:2^Lib.bitLen m=2*2^(Lib.bitLen m-1):=by
  conv=>lhs;rw[show Lib.bitLen m=(Lib.bitLen m-1)+1 from oM,Nat.pow_succ]
  omega
 refine⟨oM,d,?_⟩;refine Classical.byContradiction λh=>?_;have:=Nat.pow_le_pow_right (n:=2) dC (show 20<=Lib.bitLen m-1 from oM);omega
def Et (m:Nat) (S:m<4611686018427387904):aX prog 127 [U m] w λr h=>r=I (Lib.bitLen m)/\w=h:=by
 have:=Tryz.bits_Len (m:Int) w oM oM;rw[zdv]at this;refine lN (Calls.mono this λe h k=>?_);obtain⟨rfl,rfl⟩:=k;exact⟨rfl,rfl⟩
def ajy (m:Nat) (g:0<m) (i:m<1000000):aX prog 268 [I m] w λr l=>r=U ((2^Lib.bitLen m:Nat):Int)/\w=l:=by
 obtain⟨k,S,a⟩:=Jl g i;obtain⟨q,j⟩: ∃q,q=Lib.bitLen m:=⟨_,rfl⟩;obtain⟨M,b⟩: ∃M,M=2^q:=⟨_,rfl⟩;have d:=Et (w:=w) m oM;rw[<-j]at k S a d ⊢;rw[<-b]at k S |-
 have e:(1:Int)*2^(Min.min (Int.toNat (q:Int)) 64)=(M:Int):=by
  rw[zdv,zcf oM,Int.one_mul,b,Int.natCast_pow];rfl
 refine dL func268 ?_;refine V2 ?_;refine Vv (ah.zy (c:=(m:Int)) rfl kU) ?_;refine fF d (h:=?_);refine eu (ah.ajW (c:=(M:Int)) rfl rfl oM (by
 show IntKind.u64.wrap ((1:Int)*2^(Min.min (Int.toNat (q:Int)) 64))=_
 rw[e,IntKind.wrap_u64];omega)) rfl ?_
 refine V1 ?_;exact⟨rfl,rfl⟩
def aft {a b:Nat} (hp:(gU f A n c d₀).ok F w) (D:n=d₀.size) (hab:a+12<b) (hb:b<=n) (Q:n<1000000):
    aX prog 332 [.slice A n c,I a,I b,fv] w λr q=>∃O:Array α,r=.tuple #[]/\PermIn a b d₀ O/\cO F (gU f A n c O) w q:=by
  have H:=Sep.dA hp;obtain⟨l,hl⟩: ∃l,l=b-a:=⟨_,rfl⟩;obtain⟨i,hi0⟩: ∃i,i=a+l/4*2-1:=⟨_,rfl⟩;obtain⟨J,G,_⟩:=Jl (m:=l) oM oM;obtain⟨M,P⟩: ∃M,M=2^Lib.bitLen l:=⟨_,rfl⟩;rw[<-P]at J G;refine yM func332 ?_;refine V2 ?_;refine Vc (l:Int) ?_;refine Cz (λe=>?_) (λe=>?_)
  . have h8:=e
    refine V1 ?_;refine Vv (ah.zy (c:=(l:Int)) rfl kU) ?_;refine Az (λs wa Ha ka=>?_);refine Uz (λwb W=>?_);refine V1 ?_;refine fF (ajy l oM oM) (h:=?_);rw[<-P];refine V3 ?_;refine Vv (ah.JN (a:=l) (b:=4) rfl rfl dC oM) (Vc ((l/4*2:Nat):Int) ?_);refine Vc ((a+l/4*2:Nat):Int) ?_;refine Vc (i:Int) ?_;refine V1 ?_;refine aM (λx:Nat×Nat×Array α=>[(0,.slice A n c),(1,I a),(8,I l),(9,aC s),(10,U M),(11,I ((i+x.1:Nat):Int))]) (λx q=>(x.1<=3/\x.2.1<18446744073709551616/\PermIn a b d₀ x.2.2)/\Sep w F [blk s [U x.2.1] 344,gU f A n c x.2.2] q) (λx _=>3-x.1) (0,l,d₀) tR ⟨⟨zai _,dO,permIn_refl _ _ _⟩,W⟩ (λx τ wc Z=>?_);obtain⟨k,x,d⟩:=x;obtain⟨⟨C,R,S⟩,t⟩:=Z;dsimp only at C R S t;have hn:n=d.size:=by rw[S.1];exact D
    refine Lp ?_;refine V3 ?_;refine Vv (ah.JN (a:=l) (b:=4) rfl rfl dC oM) (Vc ((l/4*2:Nat):Int) ?_);refine Vc ((a+l/4*2:Nat):Int) ?_;refine Vc ((a+l/4*2+1:Nat):Int) ?_;refine Cz (λY=>?_) (λY=>?_)
    . have hk2:k<3:=oM
      refine V0 ?_;obtain⟨F0,E,hS0,g⟩:=t.bG At0;refine aO (afs E R) rfl rfl (λv' wd hv=>?_);obtain⟨y,rfl,T,p,V,hq,hs⟩:=hv;have L:=g _ V _ p hq hs;refine Mv ?_;refine Vv (ah.ajU (c:=((M-1:Nat):Int)) rfl rfl kU) ?_;have j:y&&& (M-1)<=M-1:=Nat.and_le_right;refine Vv (ah.ajV (c:=((y&&& (M-1):Nat):Int)) rfl rfl (bits_and_u64_nat y (M-1) T oM)) ?_;obtain⟨z,hz⟩: ∃z,z=y&&& (M-1):=⟨_,rfl⟩;rw[<-hz]at j ⊢;refine Vv (ah.zy (c:=(z:Int)) rfl II) ?_;refine Am ?_;refine Qn (dU (λz:Nat=>[(0,.slice A n c),(1,I a),(8,I l),(9,aC s),(10,U M),(11,I ((i+k:Nat):Int)),(12,I z)]) (λz q=>z<l/\Sep w F [blk s [U y] 344,gU f A n c d] q) ?_ ?_)
      . refine Cz (λv=>?_) (λv=>?_)
        . have K:=v
          refine V2 ?_;refine Vc ((z-l:Nat):Int) ?_;refine V1 ?_;exact aA (z-l) tR ⟨oM,L⟩
        have K:=v;refine V0 ?_;exact aA z tR ⟨oM,L⟩
      intro o τ we ⟨ho,u⟩;have u:=u.aJ;have hR:=rdI hn u At0;refine Lp ?_;refine Dz (λN wf Hf=>?_);refine V5 ?_;refine Gc N 5 ((a+o:Nat):Int) ?_;refine V3 ?_;refine Gc N 9 ((a+o:Nat):Int) ?_;refine V7 ?_;refine FsI (λwg Hg=>?_);refine V1 ?_;refine FsI (λwh X=>?_);refine V1 ?_;refine Vc ((i+(k+1):Nat):Int) ?_;refine V1 ?_;exact ak (k+1,y,swp d (i+k) (a+o)) tR ⟨⟨dO,T,permIn_trans _ _ _ _ _ S (swp_permIn d a b (i+k) (a+o) oM oM oM oM oM)⟩,X.aJ⟩ dO
    have hke:k=3:=oM;refine V0 ?_;exact⟨d,rfl,S,t.bN.bf⟩
  exact zas e oM
def OG (lt:α->α->Bool) (d:Array α) (b:Nat): ∀(k i:Nat),b-i=k->i<=scanSorted lt d b i/\(i<=b->scanSorted lt d b i<=b):=by
 intro k
 induction k with
 | zero=>intro i h;rw[scanSorted,zab (by simp;intro _;omega)];exact⟨zbk _,id⟩
 | succ k a=>
  intro i h;rw[scanSorted]
  split
  .obtain⟨e,S⟩:=a (i+1) oM
   exact⟨oM,λ_=>S oM⟩
  exact⟨zbk _,id⟩
set_option maxHeartbeats 1000000 in
theorem Y3 {a b:Nat} (hp:(gU f A n c d₀).ok F w) (X:n=d₀.size) (hab:a+12<b) (hb:b<=n) (anQ:n<=1000000) (anR:pO Tryz.prog fv f cf F w):
    aX Tryz.prog 335 [.slice A n c,I a,I b,fv] w λr l=>r=.bool (partialInsertionSort (ltC cf) d₀ a b).2/\cO F (gU f A n c (partialInsertionSort (ltC cf) d₀ a b).1) w l:=by
  have H:=Sep.dA hp;obtain⟨g,ay⟩: ∃g,g=partialInsertionSort (ltC cf) d₀ a b:=⟨_,rfl⟩;rw[<-ay];unfold partialInsertionSort at ay;refine yM Tryz.func335 ?_;refine V2 ?_;refine Vc ((a+1:Nat):Int) ?_;refine V2 ?_;refine aM (λx:Nat×Nat×Array α=>[(0,.slice A n c),(1,I a),(2,I b),(3,fv),(9,I x.2.1),(10,I x.1)]) (λx l=>((n=x.2.2.size/\x.1<=5/\a<x.2.1/\x.2.1<=b)/\partialIns (ltC cf) a b (5-x.1) x.2.1 x.2.2=g)/\Sep w F [gU f A n c x.2.2] l) (λx _=>5-x.1) (0,a+1,d₀) tR ⟨⟨⟨X,zai _,dO,dO⟩,ay.symm⟩,H⟩ (λx y w7 u=>?_);obtain⟨s,i,d⟩:=x;obtain⟨⟨⟨h,Y,z,v⟩,hi⟩,G⟩:=u;dsimp only at h Y z v hi G;have hR:=rdI h G At0;refine Lp ?_;refine Cz (λIe=>?_) (λIe=>?_)
  . obtain⟨q,hq⟩: ∃q,5-s=q+1:=⟨4-s,oM⟩
    obtain⟨e,he⟩: ∃e,e=scanSorted (ltC cf) d b i:=⟨_,rfl⟩;obtain⟨Q,C⟩:=OG (ltC cf) d b _ i rfl;rw[hq,partialIns]at hi;dsimp only at hi;rw[<-he]at hi Q C;have P:=C v;refine Sk (dU (λx:Array α=>[(0,.slice A n c),(1,I a),(2,I b),(3,fv),(9,I e),(10,I s)]) (λx l=>(n=x.size/\partialIns (ltC cf) a b q e x=g)/\Sep w F [gU f A n c x] l) ?_ ?_)
    . refine rZ (dU (λk:Nat=>[(0,.slice A n c),(1,I a),(2,I b),(3,fv),(9,I k),(10,I s)]) (λk l=>k=e/\Sep w F [gU f A n c d] l) ?_ ?_)
      . refine V0 ?_
        refine aM (λk:Nat=>[(0,.slice A n c),(1,I a),(2,I b),(3,fv),(9,I k),(10,I s)]) (λk l=>(a<k/\k<=b/\scanSorted (ltC cf) d b k=e)/\Sep w F [gU f A n c d] l) (λk _=>b-k) i tR ⟨⟨z,v,he.symm⟩,G⟩ (λk y wa u=>?_);obtain⟨⟨hak,hkb,o⟩,Ha⟩:=u;refine Lp ?_;refine Dz (λSa wb Hb=>?_);refine V4 ?_;refine gu (t:=22) rfl (λSb=>?_) (λSb=>?_)
        . have D:k<b:=oM
          refine V7 ?_;refine Gc Sa 11 ((k-1:Nat):Int) ?_;refine V2 ?_;refine FcI (λwc Z=>?_);refine O3 ?_;refine fZ Sa kR ?_;refine Cz (λM=>?_) (λM=>?_)
          . rw[scanSorted,zac (by simp[ltC];exact⟨D,by have:=M;omega⟩)]at o
            refine V3 ?_;exact ak (k+1) tR ⟨⟨oM,oM,o⟩,Z⟩ oM
          rw[scanSorted,zab (by simp[ltC];intro _;have:=M;omega)]at o;refine V0 ?_;exact aA k tR ⟨o,Z⟩
        rw[scanSorted,zab (by simp;intro _;omega)]at o;refine V1 ?_;exact aA k tR ⟨o,Hb⟩
      rintro k y wd ⟨hk,Hd⟩;subst hk;refine Lp ?_;refine Cz (λIg=>?_) (λIg=>?_)
      . rw[zac (show k=b from oM)]at hi
        refine V1 ?_;exact⟨by rw[<-hi];rfl,by rw[<-hi];exact Hd.bf⟩
      have aqc:k<b:=oM;rw[zab (show ¬k=b from oM)]at hi;refine V2 ?_;refine Vc ((b-a:Nat):Int) ?_;refine Vl ?_;refine Cz (λIh=>?_) (λIh=>?_)
      . rw[zac (show b-a<50 from oM)]at hi
        refine V1 ?_;exact⟨by rw[<-hi];rfl,by rw[<-hi];exact Hd.bf⟩
      rw[zab (show ¬b-a<50 from oM)]at hi;refine Dz (λO we He=>?_);refine V4 ?_;refine Gc O 4 ((k-1:Nat):Int) ?_;refine V2 ?_;refine Gc O 7 ((k-1:Nat):Int) ?_;refine V7 ?_;refine FsI (λwf Hf=>?_);refine V1 ?_;refine FsI (λwg Hg=>?_);refine fZ O kR ?_;refine ig (dU (λx:Array α=>[(0,.slice A n c),(1,I a),(2,I b),(3,fv),(9,I k),(10,I s)]) (λx l=>(n=x.size/\partialIns (ltC cf) a b q k (if b-k≥2 then shiftUp (ltC cf) b (k+1) x else x)=g)/\Sep w F [gU f A n c x] l) ?_ ?_)
      . refine V2 ?_
        refine Vc ((k-a:Nat):Int) ?_;refine Cz (λIi=>?_) (λIi=>?_)
        . rw[zac (show k-a≥2 from oM)]at hi
          refine V1 ?_;have E:n=(swp d k (k-1)).size:=by rw[jC];exact h
          refine Vc ((k-1:Nat):Int) ?_;refine V1 ?_;refine aM (λx:Nat×Array α=>[(0,.slice A n c),(1,I a),(2,I b),(3,fv),(9,I k),(10,I s),(11,I x.1)]) (λx l=>((n=x.2.size/\x.1<n)/\partialIns (ltC cf) a b q k (if b-k≥2 then shiftUp (ltC cf) b (k+1) (shiftDown (ltC cf) x.1 x.2)else shiftDown (ltC cf) x.1 x.2)=g)/\Sep w F [gU f A n c x.2] l) (λx _=>x.1) (k-1,swp d k (k-1)) tR ⟨⟨⟨E,dO⟩,hi⟩,Hg⟩ (λx y wh u=>?_);clear hi h hR E;obtain⟨j,d⟩:=x;obtain⟨⟨⟨h,W⟩,hi⟩,K⟩:=u;dsimp only at h W hi K;have hR:=rdI h K At0;refine Lp ?_;refine Cz (λIj=>?_) (λIj=>?_)
          . obtain⟨m,rfl⟩: ∃m,j=m+1:=⟨j-1,oM⟩
            rw[shiftDown]at hi;refine Dz (λSd wi Hi=>?_);refine V7 ?_;refine Gc Sd 7 ((m:Nat):Int) ?_;refine V2 ?_;refine FcI (λwj Hj=>?_);refine O2 ?_;refine fZ Sd kR ?_;refine Cz (λN=>?_) (λN=>?_)
            . rw[zac (show(!ltC cf d[m+1]! d[m]!)=true by simp[ltC];have:=N;omega)]at hi
              refine V0 ?_;exact aA d tR ⟨⟨h,hi⟩,Hj⟩
            rw[zab (show ¬(!ltC cf d[m+1]! d[m]!)=true by simp[ltC];have:=N;omega)]at hi;refine Dz (λSe wk Hk=>?_);refine V4 ?_;refine Gc Se 4 ((m:Nat):Int) ?_;refine V2 ?_;refine Gc Se 7 ((m:Nat):Int) ?_;refine V7 ?_;refine FsI (λwl Hl=>?_);refine V1 ?_;refine FsI (λwm Hm=>?_);refine V1 ?_;refine Vc (m:Int) ?_;refine V1 ?_;exact ak (m,swp d (m+1) m) tR ⟨⟨⟨by rw[jC];exact h,dO⟩,hi⟩,Hm⟩ dO
          have R:j=0:=oM;subst R;rw[shiftDown]at hi;refine V0 ?_;exact aA d tR ⟨⟨h,hi⟩,K⟩
        rw[zab (show ¬k-a≥2 from oM)]at hi;refine V0 ?_;exact aA (swp d k (k-1)) tR ⟨⟨by rw[jC];exact h,hi⟩,Hg⟩
      intro J y wn ⟨⟨p,S⟩,Hn⟩;refine Lp ?_;refine V2 ?_;refine Vc ((b-k:Nat):Int) ?_;refine Cz (λIl=>?_) (λIl=>?_)
      . rw[zac (show b-k≥2 from oM)]at S
        refine V1 ?_;refine Vc ((k+1:Nat):Int) ?_;refine V1 ?_;refine aM (λx:Nat×Array α=>[(0,.slice A n c),(1,I a),(2,I b),(3,fv),(9,I k),(10,I s),(12,I x.1)]) (λx l=>((n=x.2.size/\1<=x.1)/\partialIns (ltC cf) a b q k (shiftUp (ltC cf) b x.1 x.2)=g)/\Sep w F [gU f A n c x.2] l) (λx _=>b-x.1) (k+1,J) tR ⟨⟨⟨p,dO⟩,S⟩,Hn⟩ (λx y wo u=>?_);clear S p;obtain⟨j,d⟩:=x;obtain⟨⟨⟨h,T⟩,hi⟩,L⟩:=u;dsimp only at h T hi L;have hR:=rdI h L At0;refine Lp ?_;refine Cz (λIm=>?_) (λIm=>?_)
        . have V:j<b:=oM
          rw[shiftUp,zac V]at hi;refine Dz (λSf wp Hp=>?_);refine V7 ?_;refine Gc Sf 7 ((j-1:Nat):Int) ?_;refine V2 ?_;refine FcI (λwq Hq=>?_);refine O2 ?_;refine fZ Sf kR ?_;refine Cz (λIn=>?_) (λIn=>?_)
          . rw[zac (show(!ltC cf d[j]! d[j-1]!)=true by simp[ltC];have:=In;omega)]at hi
            refine V0 ?_;exact aA d tR ⟨⟨h,hi⟩,Hq⟩
          rw[zab (show ¬(!ltC cf d[j]! d[j-1]!)=true by simp[ltC];have:=In;omega)]at hi;refine Dz (λSg wr Hr=>?_);refine V4 ?_;refine Gc Sg 4 ((j-1:Nat):Int) ?_;refine V2 ?_;refine Gc Sg 7 ((j-1:Nat):Int) ?_;refine V7 ?_;refine FsI (λws Hs=>?_);refine V1 ?_;refine FsI (λwt Ht=>?_);refine V3 ?_;exact ak (j+1,swp d j (j-1)) tR ⟨⟨⟨by rw[jC];exact h,dO⟩,hi⟩,Ht⟩ dO
        rw[shiftUp,zab oM]at hi;refine V0 ?_;exact aA d tR ⟨⟨h,hi⟩,L⟩
      rw[zab (show ¬b-k≥2 from oM)]at S;refine V0 ?_;exact aA J tR ⟨⟨p,S⟩,Hn⟩
    intro J y wu ⟨⟨p,S⟩,Hu⟩;refine Lp ?_;refine V3 ?_;exact ak (s+1,e,J) tR ⟨⟨⟨p,dO,dO,P⟩,by dsimp only;rw[show 5-(s+1)=q from oM];exact S⟩,Hu⟩ dO
  rw[show 5-s=0 from oM,partialIns]at hi;refine V1 ?_;exact⟨by rw[<-hi];rfl,by rw[<-hi];exact G.bf⟩
set_option maxHeartbeats 1000000 in
theorem Tq {a b p:Nat} (hp:(gU f A n c d₀).ok F w) (G:n=d₀.size) (hap:a<=p) (hpb:p<b) (hb:b<=n) (V:n<=1000000) (W:pO prog fv f cf F w):
    aX prog 336 [.slice A n c,I a,I b,I p,fv] w λr l=>r=I (partitionEqual (ltC cf) d₀ a b p).1/\n=(partitionEqual (ltC cf) d₀ a b p).2.size/\cO F (gU f A n c (partitionEqual (ltC cf) d₀ a b p).2) w l:=by
  have H:=Sep.dA hp;have hR:=rdI G H At0;obtain⟨s,ay⟩: ∃s,s=partitionEqual (ltC cf) d₀ a b p:=⟨_,rfl⟩;rw[<-ay];unfold partitionEqual at ay;refine O8 func336 ?_;refine Dz (λX w4 H4=>?_);refine V13 ?_;refine FsI (λwa Ha=>?_);refine V1 ?_;refine FsI (λwb Y=>?_);refine V1 ?_;refine Vc ((a+1:Nat):Int) ?_;refine Mv ?_;refine Vc ((b-1:Nat):Int) ?_;refine V2 ?_;refine aM (λx:Nat×Nat×Array α=>[(0,.slice A n c),(1,I a),(4,fv),(11,I x.1),(12,I x.2.1)]) (λx l=>((n=x.2.2.size/\a<x.1/\x.1<=x.2.1+1/\x.2.1<n)/\partEqLoop (ltC cf) a x.1 x.2.1 x.2.2=s)/\Sep w F [gU f A n c x.2.2] l) (λx _=>x.2.1+1-x.1) (a+1,b-1,swp d₀ a p) tR ⟨⟨⟨by dsimp only;rw[jC];exact G,dO,dO,dO⟩,ay.symm⟩,Y⟩ (λx L wc v=>?_);clear hR;obtain⟨i,j,d⟩:=x;obtain⟨⟨⟨J,y,C,P⟩,hi⟩,M⟩:=v;dsimp only at J y C P hi M;have hR:=rdI J M At0;obtain⟨u,o⟩: ∃u,u=scanUp (λx=> !ltC cf d[a]! x) d j i:=⟨_,rfl⟩;have z:=scanUp_ge (λx=> !ltC cf d[a]! x) d j i;rw[<-o]at z;obtain⟨K,q⟩: ∃K,K=scanDown (λx=>ltC cf d[a]! x) d u j:=⟨_,rfl⟩;have D:=scanDown_le (λx=>ltC cf d[a]! x) d u j;rw[<-q]at D;have e:=o;have g:=q;refine Lp ?_;refine rZ (dU (λk:Nat=>[(0,.slice A n c),(1,I a),(4,fv),(11,I k),(12,I j)]) (λk l=>k=u/\Sep w F [gU f A n c d] l) ?_ ?_)
  . refine V0 ?_
    refine aM (λk:Nat=>[(0,.slice A n c),(1,I a),(4,fv),(11,I k),(12,I j)]) (λk l=>(a<k/\k<=j+1/\scanUp (λx=> !ltC cf d[a]! x) d j k=u)/\Sep w F [gU f A n c d] l) (λk _=>j+1-k) i tR ⟨⟨y,C,o.symm⟩,M⟩ (λk L wd v=>?_);obtain⟨⟨hak,hkj,h⟩,Hd⟩:=v;refine Lp ?_;refine Dz (λSa we Z=>?_);refine V4 ?_;refine gu (t:=34) rfl (λSb=>?_) (λSb=>?_)
    . have E:k<=j:=oM
      refine V9 ?_;refine FcI (λwf R=>?_);refine O3 ?_;refine fZ Sa kR ?_;refine Cz (λN=>?_) (λN=>?_)
      . rw[scanUp_go _ _ _ _ E (by simp[ltC];have:=N;omega)]at h
        refine V3 ?_;exact ak (k+1) tR ⟨⟨oM,oM,h⟩,R⟩ oM
      rw[scanUp_end _ _ _ _ (.inr (by simp[ltC];have:=N;omega))]at h;refine V0 ?_;exact aA k tR ⟨h,R⟩
    rw[scanUp_end _ _ _ _ (.inl oM)]at h;refine V1 ?_;exact aA k tR ⟨h,Z⟩
  rintro k L wg ⟨hk,Hg⟩;subst hk;refine Lp ?_;refine dU (λm:Nat=>[(0,.slice A n c),(1,I a),(4,fv),(11,I k),(12,I m)]) (λm l=>m=K/\Sep w F [gU f A n c d] l) ?_ ?_
  . refine V0 ?_
    refine aM (λm:Nat=>[(0,.slice A n c),(1,I a),(4,fv),(11,I k),(12,I m)]) (λm l=>(m<=j/\scanDown (λx=>ltC cf d[a]! x) d k m=K)/\Sep w F [gU f A n c d] l) (λm _=>m) j tR ⟨⟨zbk _,q.symm⟩,Hg⟩ (λm L wh v=>?_);obtain⟨⟨hmj,S⟩,Hh⟩:=v;refine Lp ?_;refine Dz (λSc wi Hi=>?_);refine V4 ?_;refine gu (t:=53) rfl (λSd=>?_) (λSd=>?_)
    . have Q:k<=m:=oM
      refine V9 ?_;refine FcI (λwj T=>?_);refine O2 ?_;refine fZ Sc kR ?_;refine Cz (λO=>?_) (λO=>?_)
      . rw[scanDown_go _ _ _ _ Q oM (by simp[ltC];have:=O;omega)]at S
        refine V1 ?_;refine Vc ((m-1:Nat):Int) ?_;refine V1 ?_;exact ak (m-1) tR ⟨⟨oM,S⟩,T⟩ oM
      rw[scanDown_end _ _ _ _ (.inr (by simp[ltC];have:=O;omega))]at S;refine V0 ?_;exact aA m tR ⟨S,T⟩
    rw[scanDown_end _ _ _ _ (.inl oM)]at S;refine V1 ?_;exact aA m tR ⟨S,Hi⟩
  rintro m L wk ⟨hm,Hk⟩;subst hm;refine Lp ?_;refine Cz (λIg=>?_) (λIg=>?_)
  . rw[partEq_break (ltC cf) a i j d e g oM]at hi
    refine V2 ?_;exact⟨by rw[<-hi];rfl,by rw[<-hi];exact J,by rw[<-hi];exact Hk.bf⟩
  have hle:k<=m:=oM;have yL:=scans_lt (ltC cf) a i j d oM e g oM;rw[partEq_go (ltC cf) a i j d e g oM]at hi;refine Dz (λSe wl Hl=>?_);refine V13 ?_;refine FsI (λwm Hm=>?_);refine V1 ?_;refine FsI (λwn Hn=>?_);refine V1 ?_;refine Vc ((k+1:Nat):Int) ?_;refine V2 ?_;refine Vc ((m-1:Nat):Int) ?_;refine V1 ?_;exact ak (k+1,m-1,swp d k m) tR ⟨⟨⟨by rw[jC];exact J,dO,dO,dO⟩,hi⟩,Hn⟩ dO
set_option maxHeartbeats 1000000 in
theorem ahK {a b p:Nat} (hp:(gU f A n c d₀).ok F w) (N:n=d₀.size) (hap:a<=p) (hpb:p<b) (hb:b<=n) (anQ:n<=1000000) (anR:pO prog fv f cf F w):
    aX prog 337 [.slice A n c,I a,I b,I p,fv] w λr o=>r=.tuple #[I (partition (ltC cf) d₀ a b p).1,.bool (partition (ltC cf) d₀ a b p).2.1]/\n=(partition (ltC cf) d₀ a b p).2.2.size/\cO F (gU f A n c (partition (ltC cf) d₀ a b p).2.2) w o:=by
  have H:=Sep.dA hp;have hR:=rdI N H At0;obtain⟨R,ay⟩: ∃R,R=partition (ltC cf) d₀ a b p:=⟨_,rfl⟩;rw[<-ay];unfold partition at ay;dsimp only at ay;refine O8 func337 ?_;refine Dz (λQ w5 H5=>?_);refine V13 ?_;refine FsI (λwa Ha=>?_);refine V1 ?_;have E:n=(swp d₀ a p).size:=by rw[jC];exact N
  refine WC Q 15 _ (i:=p) (a:=d₀[a]!) (by rw[zem];exact N) Ha At0 (by rw[zem];omega) (h:=λwb T=>⟨sT,?_⟩);clear hR;obtain⟨d,hd⟩: ∃d,d=swp d₀ a p:=⟨_,rfl⟩;have T:Sep w F [gU f A n c d] wb:=by rw[hd];exact T
  rw[<-hd]at ay E;have hR:=rdI E T At0;obtain⟨i,hi⟩: ∃i,i=a+1:=⟨_,rfl⟩;obtain⟨j,hj⟩: ∃j,j=b-1:=⟨_,rfl⟩;rw[<-hi,<-hj]at ay;have z:a<i:=oM;have C:i<=j+1:=oM;have L:j<n:=oM;obtain⟨y,q⟩: ∃y,y=scanUp (λx=>ltC cf x d[a]!) d j i:=⟨_,rfl⟩;have u:=scanUp_ge (λx=>ltC cf x d[a]!) d j i;rw[<-q]at u;obtain⟨J,s⟩: ∃J,J=scanDown (λx=> !ltC cf x d[a]!) d y j:=⟨_,rfl⟩;have v:=scanDown_le (λx=> !ltC cf x d[a]!) d y j;rw[<-s]at v;have g:=q;have l:=s;rw[<-q,<-s]at ay;refine V1 ?_;refine Vc (i:Int) ?_;refine Mv ?_;refine Vc (j:Int) ?_;refine O2 ?_;refine Qn (dU (λk:Nat=>[(0,.slice A n c),(1,I a),(4,fv),(12,I k),(13,I j)]) (λk o=>k=y/\Sep w F [gU f A n c d] o) ?_ ?_)
  . refine V0 ?_
    refine aM (λk:Nat=>[(0,.slice A n c),(1,I a),(4,fv),(12,I k),(13,I j)]) (λk o=>(a<k/\k<=j+1/\scanUp (λx=>ltC cf x d[a]!) d j k=y)/\Sep w F [gU f A n c d] o) (λk _=>j+1-k) i tR ⟨⟨z,C,q.symm⟩,T⟩ (λk K wc G=>?_);obtain⟨⟨hak,hkj,S⟩,Hc⟩:=G;refine Lp ?_;refine Dz (λSa wd Hd=>?_);refine V4 ?_;refine gu (t:=35) rfl (λSb=>?_) (λSb=>?_)
    . have D:k<=j:=oM
      refine V9 ?_;refine FcI (λwe He=>?_);refine O2 ?_;refine fZ Sa kR ?_;refine Cz (λW=>?_) (λW=>?_)
      . rw[scanUp_go _ _ _ _ D (by simp[ltC];have:=W;omega)]at S
        refine V3 ?_;exact ak (k+1) tR ⟨⟨oM,oM,S⟩,He⟩ oM
      rw[scanUp_end _ _ _ _ (.inr (by simp[ltC];have:=W;omega))]at S;refine V0 ?_;exact aA k tR ⟨S,He⟩
    rw[scanUp_end _ _ _ _ (.inl oM)]at S;refine V1 ?_;exact aA k tR ⟨S,Hd⟩
  rintro k K wf ⟨hk,Hf⟩;subst hk;refine Lp ?_;refine dU (λm:Nat=>[(0,.slice A n c),(1,I a),(4,fv),(12,I k),(13,I m)]) (λm o=>m=J/\Sep w F [gU f A n c d] o) ?_ ?_
  . refine V0 ?_
    refine aM (λm:Nat=>[(0,.slice A n c),(1,I a),(4,fv),(12,I k),(13,I m)]) (λm o=>(m<=j/\scanDown (λx=> !ltC cf x d[a]!) d k m=J)/\Sep w F [gU f A n c d] o) (λm _=>m) j tR ⟨⟨zbk _,s.symm⟩,Hf⟩ (λm K wg G=>?_);obtain⟨⟨hmj,e⟩,Hg⟩:=G;refine Lp ?_;refine Dz (λSc wh Hh=>?_);refine V4 ?_;refine gu (t:=53) rfl (λSd=>?_) (λSd=>?_)
    . have M:k<=m:=oM
      refine V9 ?_;refine FcI (λwi Hi=>?_);refine O3 ?_;refine fZ Sc kR ?_;refine Cz (λX=>?_) (λX=>?_)
      . rw[scanDown_go _ _ _ _ M oM (by simp[ltC];have:=X;omega)]at e
        refine V1 ?_;refine Vc ((m-1:Nat):Int) ?_;refine V1 ?_;exact ak (m-1) tR ⟨⟨oM,e⟩,Hi⟩ oM
      rw[scanDown_end _ _ _ _ (.inr (by simp[ltC];have:=X;omega))]at e;refine V0 ?_;exact aA m tR ⟨e,Hi⟩
    rw[scanDown_end _ _ _ _ (.inl oM)]at e;refine V1 ?_;exact aA m tR ⟨e,Hh⟩
  rintro m K wj ⟨hm,Hj⟩;subst hm;refine Lp ?_;refine Cz (λIg=>?_) (λIg=>?_)
  . rw[zac (show k>m from oM)]at ay
    refine Dz (λSe wk Hk=>?_);refine V13 ?_;refine FsI (λwl Hl=>?_);refine V1 ?_;refine FsI (λwm Hm=>?_);refine V3 ?_;exact⟨by rw[ay];rfl,by rw[ay];rw[jC];exact E,by rw[ay];exact Hm.bf⟩
  rw[zab (show ¬k>m from oM)]at ay;have P:=part_scans_lt (ltC cf) a i j d oM g l oM;refine Dz (λSf wn Hn=>?_);refine V13 ?_;refine FsI (λwo Ho=>?_);refine V1 ?_;refine FsI (λwp Hp=>?_);refine V1 ?_;refine Vc ((k+1:Nat):Int) ?_;refine V2 ?_;refine Vc ((m-1:Nat):Int) ?_;refine V1 ?_;obtain⟨r0,O⟩: ∃r0,r0=partLoop (ltC cf) a (k+1) (m-1) (swp d k m):=⟨_,rfl⟩;rw[<-O]at ay;refine aM (λx:Nat×Nat×Array α=>[(0,.slice A n c),(1,I a),(4,fv),(12,I x.1),(13,I x.2.1)]) (λx o=>((n=x.2.2.size/\a<x.1/\x.1<=x.2.1+1/\x.2.1<n)/\partLoop (ltC cf) a x.1 x.2.1 x.2.2=r0)/\Sep w F [gU f A n c x.2.2] o) (λx _=>x.2.1+1-x.1) (k+1,m-1,swp d k m) tR ⟨⟨⟨by dsimp only;rw[jC];exact E,dO,dO,dO⟩,O.symm⟩,Hp⟩ (λx K wq G=>?_);clear hR E g l u v hd hi hj z C L O P;obtain⟨i,j,d⟩:=x;obtain⟨⟨⟨E,z,C,L⟩,hi⟩,V⟩:=G;dsimp only at E z C L hi V;have hR:=rdI E V At0;obtain⟨y,q⟩: ∃y,y=scanUp (λx=>ltC cf x d[a]!) d j i:=⟨_,rfl⟩;have u:=scanUp_ge (λx=>ltC cf x d[a]!) d j i;rw[<-q]at u;obtain⟨J,s⟩: ∃J,J=scanDown (λx=> !ltC cf x d[a]!) d y j:=⟨_,rfl⟩;have v:=scanDown_le (λx=> !ltC cf x d[a]!) d y j;rw[<-s]at v;have g:=q;have l:=s;refine Lp ?_;refine rZ (dU (λk:Nat=>[(0,.slice A n c),(1,I a),(4,fv),(12,I k),(13,I j)]) (λk o=>k=y/\Sep w F [gU f A n c d] o) ?_ ?_)
  . refine V0 ?_
    refine aM (λk:Nat=>[(0,.slice A n c),(1,I a),(4,fv),(12,I k),(13,I j)]) (λk o=>(a<k/\k<=j+1/\scanUp (λx=>ltC cf x d[a]!) d j k=y)/\Sep w F [gU f A n c d] o) (λk _=>j+1-k) i tR ⟨⟨z,C,q.symm⟩,V⟩ (λk K wr G=>?_);obtain⟨⟨hak,hkj,S⟩,Hr⟩:=G;refine Lp ?_;refine Dz (λSg ws Hs=>?_);refine V4 ?_;refine gu (t:=108) rfl (λSh=>?_) (λSh=>?_)
    . have D:k<=j:=oM
      refine V9 ?_;refine FcI (λwt Ht=>?_);refine O2 ?_;refine fZ Sg kR ?_;refine Cz (λY=>?_) (λY=>?_)
      . rw[scanUp_go _ _ _ _ D (by simp[ltC];have:=Y;omega)]at S
        refine V3 ?_;exact ak (k+1) tR ⟨⟨oM,oM,S⟩,Ht⟩ oM
      rw[scanUp_end _ _ _ _ (.inr (by simp[ltC];have:=Y;omega))]at S;refine V0 ?_;exact aA k tR ⟨S,Ht⟩
    rw[scanUp_end _ _ _ _ (.inl oM)]at S;refine V1 ?_;exact aA k tR ⟨S,Hs⟩
  rintro k K wu ⟨hk,Hu⟩;subst hk;refine Lp ?_;refine dU (λm:Nat=>[(0,.slice A n c),(1,I a),(4,fv),(12,I k),(13,I m)]) (λm o=>m=J/\Sep w F [gU f A n c d] o) ?_ ?_
  . refine V0 ?_
    refine aM (λm:Nat=>[(0,.slice A n c),(1,I a),(4,fv),(12,I k),(13,I m)]) (λm o=>(m<=j/\scanDown (λx=> !ltC cf x d[a]!) d k m=J)/\Sep w F [gU f A n c d] o) (λm _=>m) j tR ⟨⟨zbk _,s.symm⟩,Hu⟩ (λm K wv G=>?_);obtain⟨⟨hmj,e⟩,Hv⟩:=G;refine Lp ?_;refine Dz (λSi ww Hw=>?_);refine V4 ?_;refine gu (t:=126) rfl (λSj=>?_) (λSj=>?_)
    . have M:k<=m:=oM
      refine V9 ?_;refine FcI (λwx Hx=>?_);refine O3 ?_;refine fZ Si kR ?_;refine Cz (λZ=>?_) (λZ=>?_)
      . rw[scanDown_go _ _ _ _ M oM (by simp[ltC];have:=Z;omega)]at e
        refine V1 ?_;refine Vc ((m-1:Nat):Int) ?_;refine V1 ?_;exact ak (m-1) tR ⟨⟨oM,e⟩,Hx⟩ oM
      rw[scanDown_end _ _ _ _ (.inr (by simp[ltC];have:=Z;omega))]at e;refine V0 ?_;exact aA m tR ⟨e,Hx⟩
    rw[scanDown_end _ _ _ _ (.inl oM)]at e;refine V1 ?_;exact aA m tR ⟨e,Hw⟩
  rintro m K wy ⟨hm,Hy⟩;subst hm;refine Lp ?_;refine Cz (λIj=>?_) (λIj=>?_)
  . rw[part_break (ltC cf) a i j d g l oM]at hi
    refine Dz (λSl wz Hz=>?_);refine V13 ?_;refine FsI (λwD HA=>?_);refine V1 ?_;refine FsI (λwE HB=>?_);refine V3 ?_;exact⟨by rw[ay,<-hi];rfl,by rw[ay,<-hi];rw[jC];exact E,by rw[ay,<-hi];exact HB.bf⟩
  have hle:k<=m:=oM;have yL:=part_scans_lt (ltC cf) a i j d oM g l oM;rw[part_go (ltC cf) a i j d g l oM]at hi;refine Dz (λSm wF HC=>?_);refine V13 ?_;refine FsI (λwG HD=>?_);refine V1 ?_;refine FsI (λwH HE=>?_);refine V1 ?_;refine Vc ((k+1:Nat):Int) ?_;refine V2 ?_;refine Vc ((m-1:Nat):Int) ?_;refine V1 ?_;exact ak (k+1,m-1,swp d k m) tR ⟨⟨⟨by rw[jC];exact E,dO,dO,dO⟩,hi⟩,HE⟩ dO
end
end Go.Proofs.Mw
