/-
 The program's Type,walked.
-/
import Derived.Test.YtbfjonalkaophaaGreatDoorNk11
import Derived.Lib.RowBridge
set_option linter.all false
set_option maxRecDepth 4000
namespace Go.Proofs.Mw
open Go.Lib Go.Proofs.Tryz
variable {x:bH} {k:Int} {cols:List bF} {c e:Nat} {A:OA} {w:Wd} {F:NP} {vc vl:Value}
attribute [local irreducible] FW FL FG FGn jX lg gD l7 Qfn ah
section
def aas (K:Nat) (A:OA) (n c k:Nat):Value:=if k<=n then .slice (if c=n-k then A else A.map (·.add ((n-k)*K))) k (c-(n-k))else .slice none 0 0
def leftV (A:OA) (n c k:Nat):Value:=if k<=n then .slice A (n-k) (n-k)else .slice A n c
def Ph (k:Int):eD k<=2:=by unfold eD;(repeat' split)<;>omega
def Pj (h:eX x=true):1<=x.kind/\x.kind<=18:=by
 unfold eX at h
 repeat' split at h
 all_goals first | omega | (have:=zbe h;omega)
def uq:eD k=0↔k<7:=by
 unfold eD
 split
 .simp[*]
 split<;>simp<;>omega
def UK {f:Type} {s:List f} {d:f} (c:7<=k) (a:eD k<=s.length):Bh k (s.drop (s.length-eD k)) (s.getD (s.length-eD k) d) (s.getD (s.length-1) d):=by
 unfold eD at a ⊢;rw[zab oM]at a |-
 by_cases b:k=10\/k=15\/k=16\/k=18
 .rw[zac b]at a |-
  left
  refine⟨?_,rfl,b⟩;have h:s.length-1<s.length:=oM;rw[zbn h,zbv oM,zao,zaa h];rfl
 rw[zab b]at a |-
 right
 refine⟨?_,oM⟩;have h:s.length-2<s.length:=oM;have S:s.length-2+1<s.length:=oM;have e:s.length-1=s.length-2+1:=oM;rw[e,zbn h,zbn S,zbv oM,zao,zaa h,zao,zaa S];rfl
def Ot (cols:List bF) (st:List bZ) (x:bH):Option bZ:=
 if eD x.kind=0 then iW cols x else vX x.kind (st.getD (st.length-eD x.kind) iq) (st.getD (st.length-1) iq)
def X4 {s:List bZ} (h:eX x=true) (k:eD x.kind<=s.length):stepT cols s x=(Ot cols s x).map λt=>s.take (s.length-eD x.kind)++[t]:=by
 unfold stepT Ot;dsimp only;rw[zab (by rw[h];simp;omega)]
def GQ {s:List bZ} (h:eX x=false\/s.length<eD x.kind):stepT cols s x=none:=by
 unfold stepT;dsimp only;rw[zac h]
def Sep.aen {q:Type} {p:q->LV} {k n:Nat} {l:List q} {s:Wd} {S:NP} {r:List HP} {put:HP->List HP} (H:Sep s S r w) (b:At r (aY e k p (.slice A n c) l) put):c<=9223372036854775807:=by
 obtain⟨F,j,_,_⟩:=H.bG b
 rcases j.1.2 with⟨d,m⟩ | ⟨g,cap,f,d,_,o,i,a,_⟩
 .injection d with _ _ h;omega
 injection d with _ _ h;unfold maxLen at a;omega
def LH {f:Type} {e:f->LV} {k:Nat} [d:jl e k] {l:List f} {c j:Nat} (h:Rd w A e k l) (S:l.length<=c) (a:c<=9223372036854775807) (b:j<=l.length):aP w (.slice (if c=l.length-j then A else A.map (·.add ((l.length-j)*k))) j (c-(l.length-j))) e k (l.drop (l.length-j)):=by
 refine⟨if c=l.length-j then A else A.map (·.add ((l.length-j)*k)),c-(l.length-j),?_,⟨?_,?_⟩,h.alO (l.length-j) S⟩
 .rw[zbm,show l.length-(l.length-j)=j from oM]
 .rw[zbm];omega
 omega
section
variable {w:Wd}
def X5 {b E n k:Nat} {f:FuncId} (g:(blk b [.slice A n c] E).ok F w) (e:k<=1000000)
    (S:k<=n->aX prog f [.pointer (some ⟨b,0,none⟩),I k] w λv a=>v=.tuple #[.slice (if c=n-k then A else A.map (·.add ((n-k)*2))) k (c-(n-k)),.bool true]/\cO F (blk b [.slice A (n-k) (n-k)] E) w a)
    (d:n<k->aX prog f [.pointer (some ⟨b,0,none⟩),I k] w λv a=>v=.tuple #[.slice none 0 0,.bool false]/\cO F (blk b [.slice A n c] E) w a):
    aX prog f [.pointer (some ⟨b,0,none⟩),I k] w λv a=>v=.tuple #[aas 2 A n c k,.bool (decide (k<=n))]/\cO F (blk b [leftV A n c k] E) w a:=by
  by_cases h:k<=n
  . rw[aas,leftV,zac h,zac h,zau h];exact S h
  rw[aas,leftV,zab h,zab h,zam h];exact d oM
attribute [local irreducible] eX mX iW vX
theorem LJ {l:List bH} (hc:aP w vc aL 7 cols) (hl:aP w vl aQ 3 l) (hx: ∀x∈l,cB x.n) (hT:nQ w):Rk prog 94 [vc,vl] w (.tuple #[agg (aG (gH cols l).1),I (gH cols l).2]):=by
  have Z:=hc;obtain⟨A,m,rfl,⟨hm,Gj⟩,hA⟩:=hc;obtain⟨C,n,rfl,⟨hn,hn'⟩,hC⟩:=hl;have H:=Sep.aI w;obtain⟨b,ay⟩: ∃b,b=gH cols l:=⟨_,rfl⟩;rw[<-ay];unfold gH at ay;refine tQ func94 ?_;refine Az (λP w2 H2 k1=>?_);refine Cz (λY=>?_) (λY=>?_)
  . rw[zac oM]at ay
    refine Sr (Vb (aG iq) ?_);refine Tz (λwa Ha=>?_);refine V1 ?_;exact⟨_,dD Ha,by rw[ay];rfl,Ha.au⟩
  rw[zab oM]at ay;refine Az (λQ wb Hb ka=>?_);refine V3 ?_;have N:=Sep.iX Hb 46 2 aG;refine aM (λx:Nat×List bZ×Value=>[(0,.slice A cols.length m),(4,.pointer (some ⟨P,0,none⟩)),(6,.pointer (some ⟨Q,0,none⟩)),(16,.slice C l.length n),(17,I l.length),(18,I x.1)]) (λx w'=>(x.1<=l.length/\x.2.1.length<=x.1/\runT cols x.2.1 (l.drop x.1)=runT cols [] l)/\Sep w noB [aY 46 2 aG x.2.2 x.2.1,blk Q [x.2.2] 226,blk P (aG iq) 46] w') (λx _=>l.length-x.1) (0,[],.slice none 0 0) tR ⟨⟨zai _,zbk _,rfl⟩,N⟩ (λx τ wc hI=>?_);obtain⟨i,s,v0⟩:=x;obtain⟨⟨hi,hsl,S⟩,N⟩:=hI;dsimp only at hi hsl S N;obtain⟨B,cb,rfl,F,hB⟩:=Sep.bX N At0;refine Lp ?_;refine Cz (λIe=>?_) (λIe=>?_)
  . have v:i<l.length:=oM
    obtain⟨x,o⟩:=aN v
    have hdr:l.drop i=x::l.drop (i+1):=by
      rw[zbn v];rw[zaa v]at o;injection o with o;rw[o]
    rw[hdr,runT]at S;have hfx:=hx x (zag o);have hk2:=Ph x.kind;refine Az (λb8 wd Hd kb=>?_);refine Tz (λwe He=>?_);refine Kz (aap x.kind) (λwf Hf kc=>?_);obtain⟨F0,g,X,a⟩:=Hf.bG At2;refine aO (X5 g oM (λh=>RD g h F oM) (λh=>LC g h oM)) rfl rfl (λv' wg M=>?_);obtain⟨rfl,e,R,hq,hs⟩:=M;have Hg:=a _ R _ e hq hs;refine Sz (λSa=>?_) (λSa=>?_)
    . rw[GQ (.inr oM)]at S
      rw[<-S]at ay;have k:b=(iq,220):=ay;refine V1 ?_;refine Vb (aG iq) ?_;refine Tz (λwh Hh=>?_);refine V1 ?_;exact⟨_,dD Hh,by rw[k];rfl,Hh.au⟩
    have f:eD x.kind<=s.length:=oM;rw[aas,zac f];rw[leftV,zac f]at Hg;refine Kz (X3 x hfx (hT.aK Hg.au)) (λwi Hi kd=>?_);refine O2 ?_;refine Qn (Cd rfl (λV=>?_) (λV=>?_))
    . rw[GQ (.inl (by have h:=V;revert h;cases eX x<;>simp))]at S
      rw[<-S]at ay;have k:b=(iq,220):=ay;refine Sr (Vb (aG iq) ?_);refine Tz (λwj Hj=>?_);refine V1 ?_;exact⟨_,dD Hj,by rw[k];rfl,Hj.au⟩
    have K:eX x=true:=by have h:=V;revert h;cases eX x<;>simp
    obtain⟨hk1,G⟩:=Pj K;rw[X4 K f]at S;refine Az (λE wk O ke=>?_);refine Qn (dU (λp:bZ=>[(0,.slice A cols.length m),(4,.pointer (some ⟨P,0,none⟩)),(6,.pointer (some ⟨Q,0,none⟩)),(8,.pointer (some ⟨b8,0,none⟩)),(10,.bool (Ot cols s x).isSome),(11,.pointer (some ⟨E,0,none⟩)),(16,.slice C l.length n),(17,I l.length),(18,I i)]) (λp w'=>(∀y,Ot cols s x=some y->p=y)/\Sep w noB [blk E (aG p) 46,blk b8 (aQ x) 41,aY 46 2 aG (.slice B s.length cb) s,blk Q [.slice B (s.length-eD x.kind) (s.length-eD x.kind)] 226,blk P (aG iq) 46] w') ?_ ?_)
    . refine Cz (λIg=>?_) (λIg=>?_)
      . have c:eD x.kind=0:=oM
        have j:Ot cols s x=iW cols x:=zac c;have hk6:x.kind<=6:=by have:=uq.1 c;omega
        refine Kz (aje x (Z.aK O.au) hk1 hk6) (λwl Hl kf=>?_);refine Tz (λwm Hm=>?_);refine V1 ?_;exact aA ((iW cols x).getD iq) ⟨rfl,rfl,rfl,rfl,by rw[j];rfl,rfl,rfl,rfl,rfl,trivial⟩ ⟨λy q=>by rw[j]at q;rw[q];rfl,Hm⟩
      have c: ¬eD x.kind=0:=oM;have j:Ot cols s x=vX x.kind (s.getD (s.length-eD x.kind) iq) (s.getD (s.length-1) iq):=zab c
      have J:7<=x.kind:=by
        refine Classical.byContradiction λh=>c (uq.2 oM)
      refine V3 ?_;refine aO (aek (LH (eF O At2) F (Sep.aen O At2) f) (UK (d:=iq) J f) J G) rfl rfl (λv' wn M=>?_);obtain⟨⟨p,rfl,z⟩,e⟩:=M;have Hn:=O.aK e;refine Tz (λwo Ho=>?_);refine V1 ?_;exact aA p ⟨rfl,rfl,rfl,rfl,by rw[j];rfl,rfl,rfl,rfl,rfl,trivial⟩ ⟨λy q=>by rw[j]at q;exact z y q,Ho⟩
    rintro p τ wp ⟨z,Hp⟩;refine Lp ?_;refine O2 ?_;refine Qn (Cd rfl (λD=>?_) (λD=>?_))
    . have hno:Ot cols s x=none:=by
        cases h:Ot cols s x with
        | none=>rfl
        | some y=>rw[h]at D;cases D
      rw[hno]at S;rw[<-S]at ay;have k:b=(iq,220):=ay;refine Sr (Vb (aG iq) ?_);refine Tz (λwq Hq=>?_);refine V1 ?_;exact⟨_,dD Hq,by rw[k];rfl,Hq.au⟩
    obtain⟨y,q⟩: ∃y,Ot cols s x=some y:=by
      cases h:Ot cols s x with
      | none=>rw[h]at D;cases D
      | some y=>exact⟨y,rfl⟩
    have hty:=z y q;subst hty;rw[q]at S;refine V1 ?_;refine Bs Hp ([p].flatMap aG) (λbs wr T kg=>?_);obtain⟨F0,g,X,a⟩:=T.bG At4;have L:(s.take (s.length-eD x.kind)).length=s.length-eD x.kind:=by rw[zah];omega
    have W:=(eF T At3).cut (s.length-eD x.kind);have XM:aP _ (.slice (some ⟨bs,0,none⟩) 1 1) aG 2 [p]:=⟨some ⟨bs,0,none⟩,1,rfl,⟨sM,oM⟩,Sep.mg T At0 rfl⟩;refine aO (UG (l:=s.take (s.length-eD x.kind)) (by rw[L];exact g) W XM sM kN) rfl rfl (λv' ws M=>?_);obtain⟨v2,rfl,_,e,R,hq,hs⟩:=M;have Hs:=((a _ R _ e hq hs).eZ).bW;refine V2 ?_;exact ak (i+1,s.take (s.length-eD x.kind)++[p],v2) tR ⟨⟨dO,by dsimp only;rw[zad,L];simp;omega,S⟩,(Hs.jq.aJ.aR).firsts (l:=[_,_,_])⟩ dO
  have Gq:i=l.length:=oM;rw[Gq,zds,runT]at S;rw[<-S]at ay;refine Cz (λIi=>?_) (λIi=>?_)
  . have k:b=(iq,220):=by
      rw[ay]
      match s,Ii with
      | [],_=>rfl
      | [t],h=>exact zas rfl h
      | t::u::r,_=>rfl
    refine Sr (Vb (aG iq) ?_);refine Tz (λwt Ht=>?_);refine V1 ?_;exact⟨_,dD Ht,by rw[k];rfl,Ht.au⟩
  obtain⟨t,ht⟩: ∃t,s=[t]:=zfq.1 oM;have hg0:s[0]? =some t:=by rw[ht];rfl
  have k:b=(t,0):=by rw[ay,ht]
  refine V2 ?_;refine Vv (ah.fT (i:=0) rfl rfl hB oM) (Vv (ah.iK (i:=0) rfl hB hg0) ?_);refine Tz (λwu Hu=>?_);refine V1 ?_;exact⟨_,dD Hu,by rw[k];rfl,Hu.au⟩
end
end
variable {a b:aF} {l:List Int}
section
def xu (a b:Int):Int:=if a<b then -1 else if b<a then 1 else 0
def orI (l:List Int):Int:=(l.find? λx=>decide (x≠0)).getD 0
def ajg (a b:aF) (h:a.null=b.null):orI [xu a.n b.n,compareBytes a.s b.s]=nV a b:=by
 unfold orI xu nV;rw[zac h]
 by_cases k:a.n<b.n
 .rw[zac k,zac k];rfl
 rw[zab k,zab k]
 by_cases S:b.n<a.n
 .rw[zac S,zac S];rfl
 rw[zab S,zab S]
 rcases JR a.s b.s with e | e | e<;>rw[e]<;>rfl
def CP {a b:Int} (i:a≠0) (m:cB a) (o:cB b):(IntKind.i64.wrap ((IntKind.i64.wrap (a*b)).tdiv a)≠b\/(a= -1/\b= -9223372036854775808))↔¬bM (a*b)=true:=by
 obtain⟨S,c⟩:=m;obtain⟨d,f⟩:=o
 by_cases g:a= -1
 .subst g
  have e:(-1:Int)*b= -b:=oM;rw[e];have p:bM (-b)=decide (b≠ -9223372036854775808):=by unfold bM;rw[zbg];omega
  rw[p]
  by_cases k:b= -9223372036854775808
  .subst k;decide
  have j:IntKind.i64.wrap (-b)= -b:=wrap64 oM;have l:(-b).tdiv (-1)=b:=by rw[Int.tdiv_neg,Int.tdiv_one];omega
  rw[j,l,wrap64 ⟨d,f⟩];simp[k]
 have q:=XH (n:=IntKind.i64.wrap (a*b)) II i g;rw[wrap64 q];have:=Ri (a:=b) (b:=a) i ⟨S,c⟩;rw[Int.mul_comm b a]at this;rw[<-this];constructor
 .rintro(h | h)
  .exact h
  exact zas h.1 g
 exact .inl
section
variable {w:Wd}
def gJ (b:Bool):Rk prog 252 [.bool b] w (agg (aj (iw b))):=by
 have H:=Sep.aI w;refine pI func252 ?_;refine Az (λd f c e=>?_);refine O1 ?_;refine Qn (Cd rfl (λh=>?_) (λh=>?_))
 .have k:=h
  refine Sr (Vb (aj (iw true)) ?_);refine Tz (λg S=>?_);refine V0 ?_;exact⟨_,gT S,by rw[show b=true by simpa using k];rfl,S.au⟩
 have k:=h;refine V0 ?_;refine Vb (aj (iw false)) ?_;refine Tz (λi a=>?_);refine V0 ?_;exact⟨_,gT a,by rw[show b=false by simpa using k];rfl,a.au⟩
def UL (n:Int):aX prog 338 [I n] w λv h=>v=.bool false/\w=h:=by
 have H:=Sep.aI w;refine dL func338 ?_;refine V5 ?_;exact⟨zay Value.bool sM,rfl⟩
def ahk (a b:Int):aX prog 264 [I a,I b] w λv g=>v=I (xu a b)/\w=g:=by
 have H:=Sep.aI w;refine dn func264 ?_;refine V2 ?_;refine fF (UL a) (h:=?_);refine V2 ?_;refine fF (UL b) (h:=?_);refine O2 ?_;refine Qn (Cd rfl (λk=>?_) (λk=>?_))
 .cases k
 refine O1 ?_;refine Qn (Cd rfl (λe=>?_) (λe=>?_))
 .cases e
 refine Cz (λc=>?_) (λc=>?_)
 .have S:=c
  refine V1 ?_;exact⟨by unfold xu;rw[zac S];rfl,rfl⟩
 have S:=c;refine Cz (λd=>?_) (λd=>?_)
 .have f:=d
  refine V1 ?_;exact⟨by unfold xu;rw[zab S,zac oM];rfl,rfl⟩
 have f:=d;refine V1 ?_;exact⟨by unfold xu;rw[zab S,zab oM];rfl,rfl⟩
def ajh {v:Value} (n:aP w v intCells 1 l):Rk prog 263 [v] w (I (orI l)):=by
 obtain⟨A,m,rfl,⟨r,o⟩,q⟩:=n;have H:=Sep.aI w;refine dL func263 ?_;refine V5 ?_;refine aM (λi:Nat=>[(3,I 0),(6,.slice A l.length m),(7,I l.length),(8,I i)]) (λi p=>(i<=l.length/\orI (l.drop i)=orI l)/\Sep w noB [] p) (λi _=>l.length-i) 0 tR ⟨⟨zai _,rfl⟩,H⟩ (λi t s j=>?_);obtain⟨⟨hi,h⟩,b⟩:=j;refine Lp ?_;refine Cz (λd=>?_) (λd=>?_)
 .have k:i<l.length:=oM
  obtain⟨y,a⟩:=aN k
  have e:l.drop i=y::l.drop (i+1):=by
   rw[zbn k];rw[zaa k]at a;injection a with a;rw[a]
  rw[e]at h;refine Cz (λc=>?_) (λc=>?_)
  .have S:orI l=y:=by rw[<-h];unfold orI;rw[zcm,zau c];rfl
   refine V2 ?_;exact⟨by rw[S];rfl,b.au⟩
  have g:orI (l.drop (i+1))=orI l:=by rw[<-h];unfold orI;rw[zcm,zam c]
  refine V2 ?_;exact ak (i+1) tR ⟨⟨oM,g⟩,b⟩ oM
 have f:i=l.length:=oM;rw[f,zds]at h;refine V2 ?_;exact⟨by rw[<-h];rfl,b.au⟩
def aeo (a b:Int) (g:cB a) (i:cB b):aX prog 321 [I a,I b] w λv p=>(∃c,v=.tuple #[I c,.bool (bM (a*b))]/\(bM (a*b)=true->c=a*b))/\aS noB w p:=by
 have H:=Sep.aI w;refine dn func321 ?_;refine V4 ?_;refine Vv (ah.alL (c:=IntKind.i64.wrap (a*b)) rfl rfl rfl) (Sz (λo=>?_) (λo=>?_))
 .have e:a≠0:=oM
  refine V2 ?_;refine Vv (ah.alM (c:=IntKind.i64.wrap ((IntKind.i64.wrap (a*b)).tdiv a)) rfl rfl oM rfl) (Sz (λl=>?_) (λl=>?_))
  .have f:=l
   have S:bM (a*b)=false:=by simpa using (CP e g i).1 (.inl f)
   refine V4 ?_;exact⟨⟨0,by rw[S];rfl,λh=>by rw[S]at h;cases h⟩,H.au⟩
  have f:=l;refine Sz (λm=>?_) (λm=>?_)
  .have n:=m
   refine Cz (λj=>?_) (λj=>?_)
   .have S:bM (a*b)=false:=by simpa using (CP e g i).1 (.inr ⟨n,j⟩)
    refine V2 ?_;exact⟨⟨0,by rw[S];rfl,λh=>by rw[S]at h;cases h⟩,H.au⟩
   have k:bM (a*b)=true:=Classical.byContradiction λh=>by
    rcases (CP e g i).2 h with d | d
    .exact f d
    exact j d.2
   refine V3 ?_;exact⟨⟨IntKind.i64.wrap (a*b),by rw[k];rfl,λh=>wrap64 (zbe h)⟩,H.au⟩
  have n:=m
  have k:bM (a*b)=true:=Classical.byContradiction λh=>by
   rcases (CP e g i).2 h with d | d
   .exact f d
   exact n d.1
  refine V6 ?_;exact⟨⟨IntKind.i64.wrap (a*b),by rw[k];rfl,λh=>wrap64 (zbe h)⟩,H.au⟩
 have e:a=0:=oM;have k:bM (a*b)=true:=by rw[e,Int.zero_mul];rfl
 refine V4 ?_;exact⟨⟨IntKind.i64.wrap (a*b),by rw[k];rfl,λh=>wrap64 (zbe h)⟩,H.au⟩
def J4 (k a b:Int):Int:=if k=7 then a+b else if k=8 then a-b else if k=9 then a*b else -a
def Pk (k a b:Int) (l:cB a) (m:cB b):aX prog 253 [I k,I a,I b] w λv x=>(∃c,v=.tuple #[I c,.bool (bM (J4 k a b))]/\(bM (J4 k a b)=true->c=J4 k a b))/\aS noB w x:=by
 have H:=Sep.aI w;have f:=l;have g:=m;obtain⟨p,q⟩:=l;obtain⟨s,t⟩:=m;obtain⟨r,ay⟩: ∃r,r=J4 k a b:=⟨_,rfl⟩;rw[<-ay];unfold J4 at ay;refine uU func253 ?_;refine Cz (λS=>?_) (λS=>?_)
 .rw[zac S]at ay
  refine V2 ?_;refine Vv (ah.Z7 (c:=IntKind.i64.wrap (a+b)) rfl rfl rfl) (V10 ?_);exact⟨⟨_,zay (λb=>Value.tuple #[I _,.bool b]) Iq,λh=>by have:=zbe h;rw[ay]at this ⊢;exact wrap64 this⟩,H.au⟩
 rw[zab S]at ay;refine Cz (λd=>?_) (λd=>?_)
 .rw[zac d]at ay
  refine V2 ?_;refine Vv (ah.akc (c:=IntKind.i64.wrap (a-b)) rfl rfl rfl) (V10 ?_);exact⟨⟨_,zay (λb=>Value.tuple #[I _,.bool b]) Iq,λh=>by have:=zbe h;rw[ay]at this ⊢;exact wrap64 this⟩,H.au⟩
 rw[zab d]at ay;refine Cz (λe=>?_) (λe=>?_)
 .rw[zac e]at ay
  refine V2 ?_;refine aO (aeo a b f g) rfl rfl (λy z u=>?_);obtain⟨⟨o,rfl,i⟩,j⟩:=u;have n:=H.aK j;refine V4 ?_;exact⟨⟨o,by rw[ay];rfl,λh=>by rw[ay]at h ⊢;exact i h⟩,n.au⟩
 rw[zab e]at ay;refine V1 ?_;refine Vv (ah.aiC (c:=IntKind.i64.wrap (0-a)) rfl rfl) (V4 ?_);exact⟨⟨_,zay (λb=>Value.tuple #[I (IntKind.i64.wrap (0-a)),.bool b]) (by rw[ay];unfold bM;rw[zbg];omega),λh=>by have:=zbe h;rw[ay]at this ⊢;rw[wrap64 oM];omega⟩,H.au⟩
end
attribute [local irreducible] iw
section
variable {w:Wd}
def sD (a b:aF):Rk prog 192 [agg (aj a),agg (aj b)] w (I (nV a b)):=by
 have H:=Sep.aI w;refine dn func192 ?_;refine Sr (bK H (cs:=aj a) rfl (h:=λr y l u=>?_));refine bK l (cs:=aj b) rfl (h:=λt z g v=>?_);refine Cz (λe=>?_) (λe=>?_)
 .have d:=e
  refine Dz (λS A m=>?_);refine V4 ?_;refine Gp S 5 rfl rfl (λ_=>(ah.yt rfl)) (V3 ?_);refine Lh S 4 [(8,false),(7,true),(6,false),(5,true)] m (ahk a.n b.n) (h:=λC o=>⟨sL,?_⟩);refine Lh S 9 _ o (lN (Tryz.strings_Compare ⟨a.s.toArray⟩ ⟨b.s.toArray⟩ _)) (h:=λD p=>⟨sT,?_⟩);refine Gz S 10 _ p ([xu a.n b.n,compareBytes a.s b.s].flatMap intCells) (h:=λj E i=>⟨sT,?_⟩);have c:aP _ (.slice (some ⟨j,0,none⟩) 2 2) intCells 1 [xu a.n b.n,compareBytes a.s b.s]:=⟨some ⟨j,0,none⟩,2,rfl,⟨sM,oM⟩,Sep.mg i At0 rfl⟩;refine dS S 11 _ i (ajh c) (h:=λF q x=>⟨sT,?_⟩);refine V1 ?_;exact⟨by rw[<-ajg a b d];rfl,q.au⟩
 have d:=e;refine O3 ?_;refine Qn (Cd rfl (λf=>?_) (λf=>?_))
 .have k:=f
  refine V1 ?_;exact⟨by unfold nV;rw[zab d,zac k];rfl,g.au⟩
 have k:=f;refine V1 ?_;exact⟨by unfold nV;rw[zab d,zab (by rw[k];simp)];rfl,g.au⟩
def GR {b:Nat} {E:Td} {l:List aF} (c:aF) (a:w.heap[b]? =some (.cells #[vl] E (0,0))) (d:aP w vl aj 3 l):Rk prog 319 [agg (aj c),.pointer (some ⟨b,0,none⟩)] w (.bool (l.any λy=>decide (c=y))):=by
 have H:=Sep.aI w;refine dn func319 ?_;refine Sr (bK H (cs:=aj c) rfl (h:=λe i k f=>?_));refine V1 ?_;refine eP (cs:=[vl]) (k.au.get a id) (h:=?_);refine Kz (UD c (d.aK k.au)) (λj S g=>?_);refine V1 ?_;exact⟨rfl,S.au⟩
def RH {l:List aF} (S:Bh k l a b) (c:aF):(l.any λy=>decide (c=y))=decide (a=c\/b=c):=by
 rw[S.any];rw[zdx,Bool.or_eq_true,decide_eq_true_eq,decide_eq_true_eq,decide_eq_true_eq];exact⟨λh=>h.imp Eq.symm Eq.symm,λh=>h.imp Eq.symm Eq.symm⟩
def GU {l:List aF} (O:aP w vl aj 3 l) (o:Bh k l a b):Rk prog 251 [I k,vl] w (agg (aj (vY k a b))):=by
 have f:=O;obtain⟨A,m,rfl,⟨hm,Y⟩,W⟩:=O;have H:=Sep.aI w;obtain⟨E,_,X⟩:=o.get;obtain⟨r,ay⟩: ∃r,r=vY k a b:=⟨_,rfl⟩;rw[<-ay];unfold vY at ay;refine tQ func251 ?_;refine Sr (bK H (cs:=[.slice A l.length m]) rfl (h:=λg w2 H2 k0=>?_));refine Az (λN w4 Q k3=>?_);refine O2 ?_;refine Qn (zG (rZ (dU (λz:Bool=>[(0,I k),(3,.pointer (some ⟨g,0,none⟩)),(4,.pointer (some ⟨N,0,none⟩)),(5,.func (.func 319) #[] #[.pointer (some ⟨g,0,none⟩)]),(7,.bool z)]) (λz w'=>(r=if z=true then iw (decide (k=14))else if a=cK\/b=cK then cK else if k=15 then iw (decide (a=iw false))else iw (decide (k=13)))/\Mw.Sep w noB [blk N (aj cell0) 48,blk g [.slice A l.length m] 23] w') ?_ ?_)))
 .refine Sz (λC=>?_) (λC=>?_)
  .have c:k=13:=C
   refine Kz (gJ _) (λwa p ka=>?_);refine On ?_;have S:=p.obj At1;refine fQ (fs:=[]) (cs:=[.pointer (some ⟨g,0,none⟩)]) (vals:=[_]) rfl (GR (iw false) S (f.aK p.au)) rfl rfl (λP wb j=>?_);obtain⟨rfl,d⟩:=j;have F:=p.aK d;rw[RH o];refine Cz (λu=>?_) (λu=>?_)
   .rw[zac ⟨c,u⟩]at ay
    refine V0 ?_;exact aA _ tR ⟨by first | (rw[ay];rfl) | (rw[ay];simp[*];done),F⟩
   rw[zab (λh=>u h.2),zab (λh=>oM)]at ay;refine Sz (λM=>?_) (λM=>?_)
   .exact zas M oM
   refine V2 ?_;exact aA _ tR ⟨by first | (rw[ay];rfl) | (rw[ay];simp[*];done),F⟩
  have c: ¬k=13:=C;rw[zab (λh=>c h.1)]at ay;refine Sz (λD=>?_) (λD=>?_)
  .have e:k=14:=D
   refine Kz (gJ _) (λwc q kb=>?_);refine On ?_;have S:=q.obj At1;refine fQ (fs:=[]) (cs:=[.pointer (some ⟨g,0,none⟩)]) (vals:=[_]) rfl (GR (iw true) S (f.aK q.au)) rfl rfl (λP wd j=>?_);obtain⟨rfl,d⟩:=j;have R:=q.aK d;rw[RH o];refine V2 ?_;exact aA _ tR ⟨by first | (rw[ay];rfl) | (rw[ay];simp[*];done),R⟩
  have e: ¬k=14:=D;rw[zab (λh=>e h.1)]at ay;refine V2 ?_;exact aA _ tR ⟨by first | (rw[ay];rfl) | (rw[ay];simp[*];done),Q⟩
 rintro z τ we ⟨Z,s⟩;clear ay;have ay:=Z;refine Lp ?_;refine Cd rfl (λv=>?_) (λv=>?_)
 .rw[zac v]at ay
  refine Kz (gJ _) (λwf Hf kc=>?_);refine Tz (λwg G=>?_);refine V0 ?_;exact⟨_,gT G,by rw[ay];rfl,G.au⟩
 rw[zab (by rw[v];decide)]at ay;refine V1 ?_;refine Vb (aj cK) ?_;have S:=s.obj At1;refine fQ (fs:=[]) (cs:=[.pointer (some ⟨g,0,none⟩)]) (vals:=[_]) rfl (GR cK S (f.aK s.au)) rfl rfl (λP wh j=>?_);obtain⟨rfl,d⟩:=j;have Hh:=s.aK d;rw[RH o];refine Am ?_;refine Cz (λx=>?_) (λx=>?_)
 .rw[zac x]at ay
  refine Sr (Vb (aj cK) ?_);refine Tz (λwi J=>?_);refine V0 ?_;exact⟨_,gT J,by rw[ay];rfl,J.au⟩
 rw[zab x]at ay;refine Cz (λy=>?_) (λy=>?_)
 .rw[zac y]at ay
  refine Dz (λn wj T=>?_);refine V3 ?_;refine dS n 3 [(2,false),(1,true),(0,false)] T (gJ _) (h:=λwk t kd=>⟨(bE rfl kR (ah.iT (i:=0) rfl t W E) rfl (av (jG t (h:=dw)))),?_⟩);refine Gp n 4 rfl rfl (λ_=>(ah.aib (enc:=aj) _ _ rfl rfl)) (dS n 5 _ t (gJ _) (h:=λwl V ke=>⟨sT,?_⟩));refine cu n 6 _ V (h:=λwm K=>⟨sT,?_⟩);refine V0 ?_;exact⟨_,gT K,by rw[ay];rfl,K.au⟩
 rw[zab y]at ay;refine Kz (gJ _) (λwn Hn kf=>?_);refine Tz (λwo L=>?_);refine V0 ?_;exact⟨_,gT L,by rw[ay];rfl,L.au⟩
end
end
section
attribute [local irreducible] iw nV vY
def abD (j:7<=k) (S:k<=18) (h: ¬(k=13\/k=14\/k=15)) (c: ¬k=16) (d: ¬k=17) (e: ¬(a.null=true\/b.null=true)) (f: ¬k=11) (g: ¬k=12) (i: ¬k=18):jI k a b=DC (J4 k a.n b.n):=by
 unfold jI DC J4;rw[zab h,zab c,zab d,zab e,zab f,zab g,zab i]
def m39 {p:Prop} (h:p:=by
 rw[ay]
 first
 | (rw[zac oM];refine zay (λx=>some (iw x)) ?_;first | exact zau oM | exact zam oM | exact zbg.2 oM)
 | (rw[zab oM,zac oM];refine zay (λx=>some (iw x)) ?_;first | exact zau oM | exact zam oM | exact zbg.2 oM)):p:=h
section
variable {w:Wd}
theorem aep {l:List aF} (hl:aP w vl aj 3 l) (K:Bh k l a b) (h7:7<=k) (X:k<=18) (ha:cB a.n) (hb:cB b.n):aX Tryz.prog 174 [I k,vl] w λv w'=>(∃c,v=.tuple #[agg (aj c),.bool (jI k a b).isSome]/\∀y,jI k a b=some y->c=y)/\aS noB w w':=by
 have E:=hl;obtain⟨A,m,rfl,⟨hm,Gj⟩,f⟩:=hl;have H:=Sep.aI w;obtain⟨g,d,Y⟩:=K.get;have hl2:l.length<=2:=by rcases K with⟨rfl,_⟩ | ⟨rfl,_⟩<;>simp
 obtain⟨L,e⟩: ∃L,L=jI k a b:=⟨_,rfl⟩;rw[<-e];have ay:=e;unfold jI at ay;refine tQ Tryz.func174 ?_;refine Az (λb4 w2 H2 k1=>?_);refine Am ?_;refine Qn (dU (λz:Nat×Nat=>[(0,I k),(1,.slice A l.length m),(4,.pointer (some ⟨b4,0,none⟩)),(6,.pointer (some ⟨z.1,0,none⟩)),(7,.pointer (some ⟨z.2,0,none⟩))]) (λz w'=>Sep w noB [blk z.2 (aj b) 48,blk z.1 (aj a) 48,blk b4 (aj cell0) 48] w') ?_ ?_)
 .refine Dz (λS w7 M=>?_)
  refine V1 ?_;refine Gp S 1 rfl rfl (λ_=>(ah.fT (i:=0) rfl rfl f Y)) (GS (Gt rfl (ah.iT (i:=0) rfl M f g) ?_));refine V3 ?_;refine Gc S 6 ((l.length-1:Nat):Int) ?_;refine V1 ?_;refine GS (Gt rfl (ah.iT (i:=l.length-1) rfl M f d) ?_);refine jw S (e1:=9) (e2:=10) kR ?_ ?_
  .refine jR S 9 [(8,false),(7,true),(6,true),(5,true),(4,true),(3,true),(2,false),(1,true),(0,true)] M (h:=λN wa P=>⟨(bE rfl kR (ah.iT (i:=l.length-1) rfl P f d) rfl (av (av (av (av (av ((bE rfl kR (ah.iT (i:=0) rfl P f g) rfl (av (av (dw))))))))))),?_⟩)
   refine rX S 10 [(8,false),(7,true),(6,true),(5,true),(4,true),(3,true),(2,false),(1,true),(0,true)] P (h:=λO wb Q=>⟨(bE rfl kR (ah.iT (i:=l.length-1) rfl Q f d) rfl (av (av (av (av (av ((bE rfl kR (ah.iT (i:=0) rfl Q f g) rfl (av (av (dw))))))))))),?_⟩);refine cu S 11 [(8,false),(7,true),(6,true),(5,true),(4,true),(3,true)] Q (h:=λwc Hc=>⟨(bE rfl kR (ah.iT (i:=l.length-1) rfl Hc f d) rfl (av (av (av (av (av (dw))))))),?_⟩);refine cu S 12 _ Hc (h:=λwd Hd=>⟨sT,?_⟩);refine V0 ?_;exact aA (N,O) tR Hd
  refine jR S 10 [(8,false),(7,true),(6,true),(5,true),(4,true),(3,true),(2,false),(1,true),(0,true)] M (h:=λO we R=>⟨(bE rfl kR (ah.iT (i:=l.length-1) rfl R f d) rfl (av (av (av (av (av ((bE rfl kR (ah.iT (i:=0) rfl R f g) rfl (av (av (dw))))))))))),?_⟩);refine rX S 9 [(8,false),(7,true),(6,true),(5,true),(4,true),(3,true),(2,false),(1,true),(0,true)] R (h:=λN wf T=>⟨(bE rfl kR (ah.iT (i:=l.length-1) rfl T f d) rfl (av (av (av (av (av ((bE rfl kR (ah.iT (i:=0) rfl T f g) rfl (av (av (dw))))))))))),?_⟩);refine cu S 11 [(8,false),(7,true),(6,true),(5,true),(4,true),(3,true)] T (h:=λwg Hg=>⟨(bE rfl kR (ah.iT (i:=l.length-1) rfl Hg f d) rfl (av (av (av (av (av (dw))))))),?_⟩);refine cu S 12 _ Hg (h:=λwh Hh=>⟨sT,?_⟩);refine V0 ?_;exact aA (N,O) tR Hh.aJ
 rintro⟨N,O⟩ τ wi G;dsimp only at G;refine Lp ?_;refine Sz (λSa=>?_) (λSa=>?_)
 .refine Kz (GU (E.aK G.au) K) (λwj Hj ka=>?_)
  refine Tz (λwk Hk=>?_);refine V1 ?_;exact⟨_,dD Hk,fO IU,Hk.au⟩
 refine Sz (λSb=>?_) (λSb=>?_)
 .refine Kz (GU (E.aK G.au) K) (λwl Hl kb=>?_)
  refine Tz (λwm Hm=>?_);refine V1 ?_;exact⟨_,dD Hm,fO IU,Hm.au⟩
 refine Cz (λIe=>?_) (λIe=>?_)
 .refine Kz (GU (E.aK G.au) K) (λwn Hn kc=>?_)
  refine Tz (λwo Ho=>?_);refine V1 ?_;exact⟨_,dD Ho,fO IU,Ho.au⟩
 refine Cz (λIf=>?_) (λIf=>?_)
 .refine Kz (gJ _) (λwp Hp kd=>?_)
  refine Tz (λwq Hq=>?_);refine V1 ?_;exact⟨_,dD Hq,fO (by rw[ay,zab oM,zac oM]),Hq.au⟩
 refine Sz (λSc=>?_) (λSc=>?_)
 .refine O4 ?_
  refine Qn (Cd rfl (λV=>?_) (λV=>?_))
  .have F:=V
   refine Tz (λwr Hr=>?_);refine V1 ?_;exact⟨_,dD Hr,fO (by rw[ay,zab oM,zab oM,zac oM,zac F]),Hr.au⟩
  have F:=V;refine Cz (λIh=>?_) (λIh=>?_)
  .refine Tz (λws Hs=>?_)
   refine V1 ?_;exact⟨_,dD Hs,fO (by rw[ay,zab oM,zab oM,zac oM,zab (by simp[F])]),Hs.au⟩
  refine V3 ?_;refine eO (t:=55) rfl (λSd=>?_) (λSd=>?_)
  .refine V2 ?_
   refine Vb (aj cK) ?_;refine Tz (λwt Ht=>?_);refine V1 ?_
   (exfalso;omega)
  refine O4 ?_;refine Qn (Cd rfl (λIi=>?_) (λIi=>?_))
  .refine Sr (Vb (aj cK) ?_)
   refine Tz (λwu Hu=>?_);refine V1 ?_
   (exfalso;omega)
  have j: ¬(a.null=true\/b.null=true):=by simp[*]
  rw[zab oM,zab oM,zab oM,zab j]at ay;refine Sz (λSe=>?_) (λSe=>?_)
  .refine Kz (sD a b) (λwv Hv ke=>?_)
   refine Sz (λSf=>?_) (λSf=>?_)
   .refine Sz (λSg=>?_) (λSg=>?_)
    .refine Kz (gJ _) (λww Hw kf=>?_)
     refine Tz (λwx Hx=>?_);refine V1 ?_
     (exfalso;omega)
    refine Sz (λSh=>?_) (λSh=>?_)
    .refine Kz (gJ _) (λwy Hy kg=>?_)
     refine Tz (λwz Hz=>?_);refine V1 ?_
     (exfalso;omega)
    refine Kz (gJ _) (λwD HA kh=>?_);refine Tz (λwE HB=>?_);refine V1 ?_
    (exfalso;omega)
   refine Sz (λSi=>?_) (λSi=>?_)
   .refine Kz (gJ _) (λwF HC ki=>?_)
    refine Tz (λwG HD=>?_);refine V1 ?_
    (exfalso;omega)
   refine Kz (gJ _) (λwH HE kj=>?_);refine Tz (λwI HF=>?_);refine V1 ?_
   (exfalso;omega)
  refine Cz (λIj=>?_) (λIj=>?_)
  .refine Kz (sD a b) (λwJ HG kk=>?_)
   refine Sz (λSj=>?_) (λSj=>?_)
   .refine Sz (λSl=>?_) (λSl=>?_)
    .refine Kz (gJ _) (λwK HH kl=>?_)
     refine Tz (λwL HI=>?_);refine V1 ?_
     (exfalso;omega)
    refine Sz (λSm=>?_) (λSm=>?_)
    .refine Kz (gJ _) (λwM HJ km=>?_)
     refine Tz (λwN HK=>?_);refine V1 ?_
     (exfalso;omega)
    refine Kz (gJ _) (λwO HL kn=>?_);refine Tz (λwP HM=>?_);refine V1 ?_
    (exfalso;omega)
   refine Sz (λSn=>?_) (λSn=>?_)
   .refine Kz (gJ _) (λwQ HN ko=>?_)
    refine Tz (λwR HO=>?_);refine V1 ?_
    (exfalso;omega)
   refine Kz (gJ _) (λwS HQ kp=>?_);refine Tz (λwT HR=>?_);refine V1 ?_
   (exfalso;omega)
  refine Cz (λIk=>?_) (λIk=>?_)
  .refine V3 ?_
   refine Vb (aj ⟨false,(a.s.length:Int),[]⟩) ?_;refine Tz (λwU HS=>?_);refine V1 ?_
   (exfalso;omega)
  refine V5 ?_;refine aO (Pk k a.n b.n ha hb) rfl rfl (λv' wV Z=>?_);obtain⟨⟨W,rfl,J⟩,D⟩:=Z;have HT:=G.aK D;refine V6 ?_;refine Vb (aj ⟨false,W,[]⟩) ?_;refine Mv ?_;refine Tz (λwW HU=>?_);refine V1 ?_
  (exfalso;omega)
 refine Cz (λIl=>?_) (λIl=>?_)
 .refine Tz (λwX HV=>?_)
  refine V1 ?_
  (exfalso;omega)
 refine V3 ?_;refine eO (t:=55) rfl (λSo=>?_) (λSo=>?_)
 .refine V2 ?_
  refine Vb (aj cK) ?_;refine Tz (λwY HW=>?_);refine V1 ?_;exact⟨_,dD HW,fO yc,HW.au⟩
 refine O4 ?_;refine Qn (Cd rfl (λIm=>?_) (λIm=>?_))
 .refine Sr (Vb (aj cK) ?_)
  refine Tz (λwZ HX=>?_);refine V1 ?_;exact⟨_,dD HX,fO yc,HX.au⟩
 have j: ¬(a.null=true\/b.null=true):=by simp[*]
 rw[zab oM,zab oM,zab oM,zab j]at ay;refine Sz (λSp=>?_) (λSp=>?_)
 .refine Kz (sD a b) (λw_ HY kq=>?_)
  refine Sz (λSq=>?_) (λSq=>?_)
  .refine Sz (λSs=>?_) (λSs=>?_)
   .refine Kz (gJ _) (λw368 HZ kr=>?_)
    refine Tz (λw370 H_=>?_);refine V1 ?_;exact⟨_,dD H_,fO m39,H_.au⟩
   refine Sz (λSu=>?_) (λSu=>?_)
   .refine Kz (gJ _) (λw382 H382 ks=>?_)
    refine Tz (λw384 H384=>?_);refine V1 ?_
    (exfalso;omega)
   refine Kz (gJ _) (λw390 H390 kt=>?_);refine Tz (λw392 H392=>?_);refine V1 ?_
   (exfalso;omega)
  refine Sz (λSv=>?_) (λSv=>?_)
  .refine Kz (gJ _) (λw406 H406 ku=>?_)
   refine Tz (λw408 o=>?_);refine V1 ?_;exact⟨_,dD o,fO m39,o.au⟩
  refine Kz (gJ _) (λw414 H414 kv=>?_);refine Tz (λw416 p=>?_);refine V1 ?_;exact⟨_,dD p,fO m39,p.au⟩
 refine Cz (λIn=>?_) (λIn=>?_)
 .refine Kz (sD a b) (λw427 H427 kw=>?_)
  refine Sz (λSw=>?_) (λSw=>?_)
  .refine Sz (λSx=>?_) (λSx=>?_)
   .refine Kz (gJ _) (λw440 H440 kx=>?_)
    refine Tz (λw442 H442=>?_);refine V1 ?_
    (exfalso;omega)
   refine Sz (λSy=>?_) (λSy=>?_)
   .refine Kz (gJ _) (λw454 H454 ky=>?_)
    refine Tz (λw456 H456=>?_);refine V1 ?_
    (exfalso;omega)
   refine Kz (gJ _) (λw462 H462 kz=>?_);refine Tz (λw464 q=>?_);refine V1 ?_;exact⟨_,dD q,fO m39,q.au⟩
  refine Sz (λSA=>?_) (λSA=>?_)
  .refine Kz (gJ _) (λw478 H478 kA=>?_)
   refine Tz (λw480 r=>?_);refine V1 ?_;exact⟨_,dD r,fO m39,r.au⟩
  refine Kz (gJ _) (λw486 H486 kB=>?_);refine Tz (λw488 u=>?_);refine V1 ?_;exact⟨_,dD u,fO m39,u.au⟩
 refine Cz (λIo=>?_) (λIo=>?_)
 .refine V3 ?_
  refine Vb (aj ⟨false,(a.s.length:Int),[]⟩) ?_;refine Tz (λw500 x=>?_);refine V1 ?_;exact⟨_,dD x,fO (by rw[ay,zab oM,zab oM,zac oM]),x.au⟩
 refine V5 ?_;refine aO (Pk k a.n b.n ha hb) rfl rfl (λv' w509 Z=>?_);obtain⟨⟨W,rfl,J⟩,D⟩:=Z;have H509:=G.aK D;refine V6 ?_;refine Vb (aj ⟨false,W,[]⟩) ?_;refine Mv ?_;refine Tz (λw519 C=>?_);refine V1 ?_;exact⟨_,dD C,uP (n:=J4 k a.n b.n) (by rw[e];exact abD h7 X oM oM oM j oM oM oM) rfl J,C.au⟩
end
end
variable {r:List aF} {vr:Value}
section
attribute [local irreducible] fB
section
variable {w:Wd}
def abE {b i:Nat} {E:Td} {a:bF} (c:aF) (j:w.heap[b]? =some (.cells #[vc] E (0,0))) (l:aP w vc aL 7 cols) (d:cols[i]? =some a) (o:cB c.n) (g:nQ w):Rk prog 178 [I i,agg (aj c),.pointer (some ⟨b,0,none⟩)] w (I (fB a.type c)):=by
 obtain⟨A,m,rfl,⟨t,q⟩,f⟩:=l;have H:=Sep.aI w;have p:=fP d;refine uU func178 ?_;refine Sr (bK H (cs:=aj c) rfl (h:=λs x r u=>?_));refine Dz (λk y S=>?_);refine G0 (Gt rfl (ah.nP (cs:=[.slice A cols.length m]) rfl (S.au.get j id) rfl) ?_);refine V3 ?_;refine GS (Gt rfl (ah.EK (us:=aG a.type) rfl S f d rfl rfl) ?_);refine V1 ?_;refine dS k 6 _ S (uo a.type c o (g.aK S.au)) (h:=λz e v=>⟨sT,?_⟩);refine V1 ?_;exact⟨rfl,e.au⟩
def aer {f:FuncId} {fs cs:LV} (z:aP w vr aj 3 r) (s:cols.length=r.length)
    (k: ∀(i:Nat) a c b,cols[i]? =some a->r[i]? =some c->aS noB w b->aX prog f (fs++[I i,agg (aj c)]++cs) b λv n=>v=I (fB a.type c)/\aS noB b n) (x:qB prog f:=by exact eT):
    Rk prog 177 [vr,.func (.func f) fs.toArray cs.toArray] w (I (qY cols r 0)):=by
  obtain⟨A,m,rfl,⟨G,y⟩,F⟩:=z;have H:=Sep.aI w;refine dn func177 ?_;refine V4 ?_;refine aM (λi:Nat=>[(1,.func (.func f) fs.toArray cs.toArray),(8,.slice A r.length m),(9,I r.length),(10,I i)]) (λi b=>(i<=r.length/\qY cols r i=qY cols r 0)/\Sep w noB [] b) (λi _=>r.length-i) 0 tR ⟨⟨zai _,rfl⟩,H⟩ (λi P L u=>?_);obtain⟨⟨hi,h⟩,t⟩:=u;refine Lp ?_;refine Cz (λe=>?_) (λe=>?_)
  . have j:i<r.length:=oM
    obtain⟨c,S⟩:=aN j;obtain⟨a,q⟩:=aN (l:=cols) (i:=i) oM;rw[yg q S]at h;refine Az (λE M D J=>?_);refine Am ?_;refine Tz (λN o=>?_);refine V3 ?_;refine fQ (fs:=fs) (cs:=cs) (vals:=[I i,agg (aj c)]) rfl (k i a c _ q S o.au) rfl rfl (λK O C=>?_);obtain⟨rfl,g⟩:=C;have p:=o.aK g;refine Cz (λd=>?_) (λd=>?_)
    . rw[zac d]at h
      refine V2 ?_;exact⟨by rw[<-h];rfl,p.au⟩
    rw[zab d]at h;refine V2 ?_;exact ak (i+1) tR ⟨⟨oM,h⟩,p.bN⟩ oM
  rw[EL oM]at h;refine V1 ?_;exact⟨by rw[<-h];rfl,t.au⟩
def E9 (o:aP w vc aL 7 cols) (p:aP w vr aj 3 r) (v:mO r) (t:nQ w):Rk prog 108 [vc,vr] w (I (d9 cols r)):=by
 have e:=o;have l:=p;obtain⟨A,m,rfl,⟨F,x⟩,D⟩:=o;obtain⟨C,n,rfl,⟨G,y⟩,E⟩:=p;have H:=Sep.aI w;refine dn func108 ?_;refine Sr (bK H (cs:=[.slice A cols.length m]) rfl (h:=λs M S J=>?_));refine Cz (λb=>?_) (λb=>?_)
 .have z:=b
  refine V1 ?_;exact⟨by unfold d9;rw[zac oM];rfl,S.au⟩
 have k:cols.length=r.length:=oM;refine V2 ?_;have d:=S.obj At0;refine Kz (aer (f:=178) (fs:=[]) (cs:=[.pointer (some ⟨s,0,none⟩)]) (l.aK S.au) k (λi a c L u g j=>abE c (j.get d id) ((e.aK S.au).aK j) u (v c (zag g)) ((t.aK S.au).aK j))) (λN q K=>?_);refine V1 ?_;exact⟨by rw[Cg k];rfl,q.au⟩
end
end
section
def resE (cols:List bF) (r:List aF) (st:List aF) (x:bH):Option aF:=
 if eD x.kind=0 then some (xk cols r x)else jI x.kind (st.getD (st.length-eD x.kind) cell0) (st.getD (st.length-1) cell0)
def GV (h:List bF) (r:List aF) (s:List aF) (x:bH):D7 h r s x=(resE h r s x).map λc=>s.take (s.length-eD x.kind)++[c]:=rfl
def J5 {u t:List bZ} {s:List aF} (o:d9 cols r=0) (m:mO r) (p:cB x.n) (b:Typed u s) (k:stepT cols u x=some t):
    eX x=true/\eD x.kind<=s.length/\∀c,resE cols r s x=some c->Typed t (s.take (s.length-eD x.kind)++[c]):=by
  have f:eX x=true:=by
    cases h:eX x with
    | true=>rfl
    | false=>rw[Ch (.inl h)]at k;cases k
  have S:=Dv f
  have a:eD x.kind<=s.length:=by
    rw[<-b.1];refine Classical.byContradiction λh=>?_;rw[GQ (.inr oM)]at k;cases k
  obtain⟨d,e⟩:=Om o m p b k;refine⟨f,a,λc l=>?_⟩;rw[GV,l,S]at d;rw[S]at e;obtain⟨q,g,i⟩:=zbb.1 d.symm;have:=List.append_cancel_left i;injection this with j
  subst j;exact(e _ g).1
attribute [local irreducible] gH d9 eX jI jM
section
variable {w:Wd}
theorem aes {l:List bH} (hc:aP w vc aL 7 cols) (hl:aP w vl aQ 3 l) (hr:aP w vr aj 3 r) (hf:mO r) (hx: ∀x∈l,cB x.n) (hT:nQ w):
    Rk Tryz.prog 105 [vc,vl,vr] w (.tuple #[agg (aj (j6 cols l r).1),I (j6 cols l r).2]):=by
  have hcc:=hc;have hll:=hl;have hrr:=hr;obtain⟨A,m,rfl,⟨hm,Gj⟩,hA⟩:=hc;obtain⟨C,n,rfl,⟨hn,hn'⟩,hC⟩:=hl;obtain⟨D,q,rfl,⟨hq,hq'⟩,hD⟩:=hr;have H:=Sep.aI w;obtain⟨J,ay⟩: ∃J,J=j6 cols l r:=⟨_,rfl⟩;rw[<-ay];unfold j6 at ay;refine AB Tryz.func105 ?_;refine Az (λb6 w2 H2 k1=>?_);refine Kz (LJ (hcc.aK H2.au) (hll.aK H2.au) hx (hT.aK H2.au)) (λw7 H7 k6=>?_);refine Az (λb8 wa Ha ka=>?_);refine Tz (λwb Hb=>?_);refine Cz (λIe=>?_) (λIe=>?_)
  . have f:J=(cell0,(gH cols l).2):=by rw[ay,zac Ie]
    refine Sr (Vb (aj cell0) ?_);refine Mv ?_;refine Tz (λwc Hc=>?_);refine V1 ?_;exact⟨_,dD Hc,by rw[f];rfl,Hc.au⟩
  have Y:(gH cols l).2=0:=by simpa using Ie
  obtain⟨h64,t,akf,htt⟩:=UE Y;rw[zab (by simpa using Y)]at ay;refine Kz (E9 (hcc.aK Hb.au) (hrr.aK Hb.au) hf (hT.aK Hb.au)) (λwd Hd kb=>?_);refine Cz (λIf=>?_) (λIf=>?_)
  . have f:J=(cell0,d9 cols r):=by rw[ay,zac If]
    refine Sr (Vb (aj cell0) ?_);refine Mv ?_;refine Tz (λwe He=>?_);refine V1 ?_;exact⟨_,dD He,by rw[f];rfl,He.au⟩
  have N:d9 cols r=0:=by simpa using If
  rw[zab (by simpa using N)]at ay;obtain⟨hlen,_⟩:=aac N;refine Az (λb11 wf Hf kc=>?_);refine V3 ?_;have Hg:=Sep.iX ((Hf.aR.aJ).firsts (l:=[_,_])) 48 3 aj;refine aM (λx:Nat×List aF×Value=>[(0,.slice A cols.length m),(2,.slice D r.length q),(6,.pointer (some ⟨b6,0,none⟩)),(11,.pointer (some ⟨b11,0,none⟩)),(35,.slice C l.length n),(36,I l.length),(37,I x.1)]) (λx w'=>(x.1<=l.length/\(∃ts,Typed ts x.2.1/\runT cols ts (l.drop x.1)=some [t])/\x.2.1.length<=x.1/\tV cols r x.2.1 (l.drop x.1)=tV cols r [] l)/\Sep w noB [aY 48 3 aj x.2.2 x.2.1,blk b11 [x.2.2] 241,blk b6 (aj cell0) 48] w') (λx _=>l.length-x.1) (0,[],.slice none 0 0) tR ⟨⟨zai _,⟨[],Typed.nil,akf⟩,zbk _,rfl⟩,Hg⟩ (λx τ wg hI=>?_);obtain⟨i,S,v0⟩:=x;obtain⟨⟨hi,⟨ts,z,P⟩,hsl,e⟩,Hg⟩:=hI;dsimp only at hi z P hsl e Hg;obtain⟨B,cb,rfl,hcb,hB⟩:=Sep.bX Hg At0;refine Lp ?_;refine Cz (λIg=>?_) (λIg=>?_)
  . have yL:i<l.length:=oM
    obtain⟨x,R⟩:=aN yL
    have hdr:l.drop i=x::l.drop (i+1):=by
      rw[zbn yL];rw[zaa yL]at R;injection R with R;rw[R]
    rw[hdr,runT]at P;rw[hdr,tV,GV]at e;obtain⟨X,O,F⟩:=zdt.1 P;have hfx:=hx x (zag R);obtain⟨hmx,hkn,hg⟩:=J5 N hf hfx z O;obtain⟨hk1,anx⟩:=Pj hmx;have hk2:=Ph x.kind;refine Az (λb13 wh Hh kd=>?_);refine Tz (λwi Hi=>?_);refine Kz (aap x.kind) (λwj Hj ke=>?_);obtain⟨F0,o,V,k⟩:=Hj.bG At2;refine aO (RF o hkn hcb oM) rfl rfl (λv' wk Q=>?_);obtain⟨rfl,g,T,p,W⟩:=Q;have Hk:=k _ T _ g p W;have u:(S.take (S.length-eD x.kind)).length=S.length-eD x.kind:=by rw[zah];omega
    refine Cz (λIh=>?_) (λIh=>?_)
    . have L: ¬eD x.kind=0:=oM
      have hk7:7<=x.kind:=by
        refine Classical.byContradiction λh=>L (uq.2 oM)
      obtain⟨a,ha⟩:=aN (l:=S) (i:=S.length-eD x.kind) oM;obtain⟨b,hb⟩:=aN (l:=S) (i:=S.length-1) oM;obtain⟨ta,hta⟩:=aN (l:=ts) (i:=S.length-eD x.kind) (by have:=z.1;omega);obtain⟨tb,htb⟩:=aN (l:=ts) (i:=S.length-1) (by have:=z.1;omega);have oa:=z.2 _ ta a hta ha;have ob:=z.2 _ tb b htb hb;have G:resE cols r S x=jI x.kind a b:=by unfold resE;rw[zab L,jP ha,jP hb]
      have hs2:=UK (d:=cell0) hk7 hkn;rw[jP ha,jP hb]at hs2;refine V3 ?_;refine aO (aep (LH (eF Hk At1) hcb (Sep.aen Hk At1) hkn) hs2 hk7 anx oa.2 ob.2) rfl rfl (λv' wl Q=>?_);obtain⟨⟨cm,rfl,hcm⟩,g⟩:=Q;have Hl:=Hk.aK g;refine Az (λb16 wm Hm kf=>?_);refine Tz (λwn Hn=>?_);refine O3 ?_;refine Qn (Cd rfl (λIi=>?_) (λIi=>?_))
      . have hno:jI x.kind a b=none:=by
          cases h:jI x.kind a b with
          | none=>rfl
          | some y=>rw[h]at Ii;cases Ii
        rw[G,hno]at e;rw[<-e]at ay;have f:J=(cell0,50):=ay;refine Sr (Vb (aj cell0) ?_);refine Tz (λwo Ho=>?_);refine V1 ?_;exact⟨_,dD Ho,by rw[f];rfl,Ho.au⟩
      obtain⟨y,hy⟩: ∃y,jI x.kind a b=some y:=by
        cases h:jI x.kind a b with
        | none=>rw[h]at Ii;cases Ii
        | some y=>exact⟨y,rfl⟩
      have hcy:=hcm y hy;subst hcy;have j:resE cols r S x=some cm:=by rw[G,hy]
      refine V1 ?_;refine Bs Hn ([cm].flatMap aj) (λK wp Hp kg=>?_);obtain⟨F0,o,V,k⟩:=Hp.bG At4;have v:=(eF Hp At3).cut (S.length-eD x.kind);have E:aP _ (.slice (some ⟨K,0,none⟩) 1 1) aj 3 [cm]:=⟨some ⟨K,0,none⟩,1,rfl,⟨sM,oM⟩,Sep.mg Hp At0 rfl⟩;refine aO (xI (l:=S.take (S.length-eD x.kind)) (by rw[u];exact o) v E sM kN) rfl rfl (λv' wq Q=>?_);obtain⟨v2,rfl,_,g,T,p,W⟩:=Q;have Hq:=((k _ T _ g p W).eZ).bW;refine V2 ?_;exact ak (i+1,S.take (S.length-eD x.kind)++[cm],v2) tR ⟨⟨dO,⟨X,hg _ j,F⟩,by dsimp only;rw[zad,u];simp;omega,by rw[j]at e;exact e⟩,(Hq.jq.aJ.aR).firsts (l:=[_,_,_])⟩ dO
    have L:eD x.kind=0:=oM;have G:resE cols r S x=some (xk cols r x):=zac L;have hk6:x.kind<=6:=by have:=uq.1 L;omega
    refine Cz (λIj=>?_) (λIj=>?_)
    . obtain⟨ci,hci⟩:=Pe O Ij
      have anv:=Gh hci;obtain⟨c0,Z⟩:=aN (l:=r) (i:=ci) oM;have M:xk cols r x=c0:=by unfold xk;rw[zac Ij,hci,zdg,jP Z]
      have j:resE cols r S x=some c0:=by rw[G,M]
      refine Kz (find_ok x.n (hcc.aK Hk.au)) (λwr Hr kh=>?_);rw[hci,show zM (some ci)=((ci:Nat):Int)from rfl];refine Vv (ah.fT rfl rfl hD (fP Z)) (Vv (ah.iT rfl Hr hD Z) ?_);refine Bs Hr ([c0].flatMap aj) (λK ws Hs ki=>?_);obtain⟨F0,o,V,k⟩:=Hs.bG At3;have v:=(eF Hs At2).cut (S.length-eD x.kind);have E:aP _ (.slice (some ⟨K,0,none⟩) 1 1) aj 3 [c0]:=⟨some ⟨K,0,none⟩,1,rfl,⟨sM,oM⟩,Sep.mg Hs At0 rfl⟩;refine aO (xI (l:=S.take (S.length-eD x.kind)) (by rw[u];exact o) v E sM kN) rfl rfl (λv' wt Q=>?_);obtain⟨v2,rfl,_,g,T,p,W⟩:=Q;have Ht:=((k _ T _ g p W).bB).bW;refine V2 ?_;exact ak (i+1,S.take (S.length-eD x.kind)++[c0],v2) tR ⟨⟨dO,⟨X,hg _ j,F⟩,by dsimp only;rw[zad,u];simp;omega,by rw[j]at e;exact e⟩,(Ht.iy.aJ.aR).firsts (l:=[_,_,_])⟩ dO
    refine Cz (λIk=>?_) (λIk=>?_)
    . have M:xk cols r x=cK:=by unfold xk;rw[zab oM,zac Ik]
      have j:resE cols r S x=some cK:=by rw[G,M]
      refine V0 ?_;refine Vb (aj cK) ?_;refine Bs Hk ([cK].flatMap aj) (λK wu Hu kj=>?_);obtain⟨F0,o,V,k⟩:=Hu.bG At3;have v:=(eF Hu At2).cut (S.length-eD x.kind);have E:aP _ (.slice (some ⟨K,0,none⟩) 1 1) aj 3 [cK]:=⟨some ⟨K,0,none⟩,1,rfl,⟨sM,oM⟩,Sep.mg Hu At0 rfl⟩;refine aO (xI (l:=S.take (S.length-eD x.kind)) (by rw[u];exact o) v E sM kN) rfl rfl (λv' wv Q=>?_);obtain⟨v2,rfl,_,g,T,p,W⟩:=Q;have Hv:=((k _ T _ g p W).bB).bW;refine V2 ?_;exact ak (i+1,S.take (S.length-eD x.kind)++[cK],v2) tR ⟨⟨dO,⟨X,hg _ j,F⟩,by dsimp only;rw[zad,u];simp;omega,by rw[j]at e;exact e⟩,(Hv.iy.aJ.aR).firsts (l:=[_,_,_])⟩ dO
    have M:xk cols r x=⟨false,x.n,x.s⟩:=by unfold xk;rw[zab oM,zab oM]
    have j:resE cols r S x=some ⟨false,x.n,x.s⟩:=by rw[G,M]
    refine V4 ?_;refine Vb (aj ⟨false,x.n,x.s⟩) ?_;refine Bs Hk ([(⟨false,x.n,x.s⟩:aF)].flatMap aj) (λK ww Hw kk=>?_);obtain⟨F0,o,V,k⟩:=Hw.bG At3;have v:=(eF Hw At2).cut (S.length-eD x.kind);have E:aP _ (.slice (some ⟨K,0,none⟩) 1 1) aj 3 [(⟨false,x.n,x.s⟩:aF)]:=⟨some ⟨K,0,none⟩,1,rfl,⟨sM,oM⟩,Sep.mg Hw At0 rfl⟩;refine aO (xI (l:=S.take (S.length-eD x.kind)) (by rw[u];exact o) v E sM kN) rfl rfl (λv' wx Q=>?_);obtain⟨v2,rfl,_,g,T,p,W⟩:=Q;have Hx:=((k _ T _ g p W).bB).bW;refine V2 ?_;exact ak (i+1,S.take (S.length-eD x.kind)++[⟨false,x.n,x.s⟩],v2) tR ⟨⟨dO,⟨X,hg _ j,F⟩,by dsimp only;rw[zad,u];simp;omega,by rw[j]at e;exact e⟩,(Hx.iy.aJ.aR).firsts (l:=[_,_,_])⟩ dO
  have Gq:i=l.length:=oM;rw[Gq,zds,runT]at P;rw[Gq,zds,tV]at e;rw[<-e]at ay;have aki:ts=[t]:=by injection P
  have h1:S.length=1:=by rw[<-z.1,aki];rfl
  obtain⟨c,hc1⟩:=zfq.1 h1;have hg0:S[0]? =some c:=by rw[hc1];rfl
  have f:J=(c,0):=by rw[ay,hc1];rfl
  refine V2 ?_;refine Vv (ah.fT (i:=0) rfl rfl hB oM) (Vv (ah.iK (i:=0) rfl hB hg0) ?_);refine Tz (λwy Hy=>?_);refine V1 ?_;exact⟨_,dD Hy,by rw[f];rfl,Hy.au⟩
end
end
def DK {z:List Int} (h:z.Pairwise (· <= ·)):(Lib.compact z).Pairwise (· < ·)/\∀k,k∈Lib.compact z↔k∈z:=by
 have b: ∀i j,i<=j->j<z.length->z.toArray[i]! <=z.toArray[j]! :=λi j g S=>by
  have e: ∀k,k<z.length->z.toArray[k]! =z.getD k 0:=λk a=>by
   rw[zao,zaa a,getElem!_pos z.toArray k (by simpa using a)];simp
  rw[e i oM,e j S]
  rcases zdp i j with f | f
  .have:=zfd.1 h i j oM S f
   rw[zao,zaa (show i<z.length from oM),zao,zaa S];exact this
  have :i=j:=by omega
  subst this;exact Int.le_refl _
 have c: ∀k,k∈z↔∃j,j<z.length/\z.toArray[j]! =k:=λk=>by
  constructor
  .intro a
   obtain⟨j,S,e⟩:=zew a;exact⟨j,S,by rw[getElem!_pos z.toArray j (by simpa using S)];simpa using e⟩
  rintro⟨j,S,e⟩;rw[getElem!_pos z.toArray j (by simpa using S)]at e;rw[<-e];simp
 unfold Lib.compact Lib.compactUpTo;constructor
 .rw[zft]
  have n:((List.range z.length).filter (Lib.keeps z.toArray)).Pairwise (· < ·):=List.pairwise_lt_range.filter _;refine n.imp_of_mem λ{i j} hi S g=>?_;rw[zca,zeg]at hi S;have a:=S.2;unfold Lib.keeps at a;have d:j≠0:=oM;have f:=b i (j-1) oM oM;have p:=b (j-1) j oM S.1;have l:z.toArray[j]! ≠z.toArray[j-1]! :=by simpa[d]using a
  omega
 intro k;rw[c];simp only[zav,zca,zeg];constructor
 .rintro⟨j,⟨S,_⟩,e⟩;exact⟨j,S,e⟩
 rintro⟨j,S,e⟩
 induction j using Nat.strongRecOn with
 | _ j o=>
  by_cases a:Lib.keeps z.toArray j=true
  .exact⟨j,⟨S,a⟩,e⟩
  have d:j≠0:=λm=>by subst m;exact a (by simp[Lib.keeps])
  have l:z.toArray[j]! =z.toArray[j-1]! :=by
   unfold Lib.keeps at a;simpa[d]using a
  exact o (j-1) oM oM (by rw[<-l];exact e)
def J6 (l:List bH):Lib.compact (((l.filter λx=>decide (x.kind=1)).map λx=>x.n).mergeSort λx y=>decide (x<=y))=tC l:=by
 have e:(((l.filter λx=>decide (x.kind=1)).map λx=>x.n).mergeSort λx y=>decide (x<=y)).Pairwise (· <= ·):=by
  have:=List.pairwise_mergeSort (le:=λx y:Int=>decide (x<=y)) (λa b c S d=>by simp at *;omega) (λa b=>by simp;omega) ((l.filter λx=>decide (x.kind=1)).map λx=>x.n);exact this.imp λh=>by simpa using h
 obtain⟨S,d⟩:=DK e;refine EN S (Ck l) λk=>?_;rw[d,List.mem_mergeSort,uQ];simp only[zav,zca,decide_eq_true_eq,and_assoc]
def UM {m:Nat} {g:Nat} {d:Array Int} {k:Nat} {os:Array Obj} (O:(aY e 1 intCells (.slice A l.length c) l).ok F w) (n:A=some ⟨g,0,none⟩) (u:d.size=l.length) (N:m<=l.length):
    cO F (aY e 1 intCells (.slice A m c) (d.toList.take m)) w (Sort.grow (Sort.putRow (Value.int .i64) (Sort.ahead w k) g 0 d) os):=by
  obtain⟨⟨V,J⟩,D⟩:=O
  rcases J with⟨C,_⟩ | ⟨T,cap,S,C,W,E,M,p,q,P⟩
  . injection C with a;rw[n]at a;cases a
  injection C with a R G
  rw[n]at a;injection a with a
  injection a with a
  subst a;subst G;have y:=lq E
  have H: ∀b,b≠g->(Sort.putRow (Value.int .i64) (Sort.ahead w k) g 0 d).heap[b]? =w.heap[b]? :=λb i=>by
    show((w.heap.modify g (Sort.onCells _)))[b]? =_
    rw[zcw,zab (λe=>i e.symm)]
  have t:(Sort.putRow (Value.int .i64) (Sort.ahead w k) g 0 d).heap[g]? =some (.cells (Sort.putCells (Value.int .i64) 0 d S) e (0,0)):=by
    show((w.heap.modify g (Sort.onCells _)))[g]? =_
    rw[zcw,zac rfl,E];rfl
  have f:(Sort.putRow (Value.int .i64) (Sort.ahead w k) g 0 d).heap.size=w.heap.size:=Sort.size_putRow _ _ _ _ _
  have h: ∀b,b<w.heap.size->(Sort.grow (Sort.putRow (Value.int .i64) (Sort.ahead w k) g 0 d) os).heap[b]? =(Sort.putRow (Value.int .i64) (Sort.ahead w k) g 0 d).heap[b]? :=λb i=>by
    show(_++os)[b]? =_
    rw[zfw (by rw[f];exact i)]
  refine⟨⟨rfl,rfl,rfl,by rw[Sort.size_grow,f];omega,λb i K=>?_⟩,F,⟨⟨?_,.inr ⟨g,c,Sort.putCells (Value.int .i64) 0 d S,by rw[n,zah];congr 1;simp[u];omega,zai _,?_,?_,p,?_,?_⟩⟩,λb=>?_⟩,λb i=>.inl i⟩
  . rw[h b i,H b λe=>K ((D b).2 (by rw[e,n];rfl))]
  . rw[jh (k:=1) (λ_=>rfl)]
  . rw[h g y,t]
  . rw[zah];simp[u];omega
  . rw[Sort.putCells,Array.size_mapIdx];exact q
  . have L:l.length<=S.size:=by rw[q];omega
    rw[zfc,zah,zgg,u,zcf N];refine zes λj=>?_;rw[zcq]
    have v: ∀r:List Int,r.flatMap intCells=r.map (Value.int .i64):=λr=>by
      induction r with
      | nil=>rfl
      | cons z r Q=>rw[zbi,Q];rfl
    rw[v,zbw,zcq]
    by_cases s:j<m
    . rw[zac s,zac s]
      have x:j<S.size:=oM;have o:j<d.size:=oM;rw[Array.getElem?_toList,Sort.putCells,Array.getElem?_mapIdx,zdz x,Array.getElem?_toList,zdz o];simp only[zdk];rw[zac ⟨zai _,oM⟩,Nat.sub_zero,getElem!_pos d j o]
    rw[zab s,zab s];rfl
  rw[D b,n];rfl
def Pm (u:(aY e 1 intCells (.slice A l.length c) l).ok F w) (f:l≠[]): ∃g,A=some ⟨g,0,none⟩/\Sort.Holds (Value.int .i64) w g 0 l.toArray/\g<w.heap.size/\l.length<=c:=by
 obtain⟨h,G⟩:=u;have a:=h;obtain⟨E,s⟩:=h
 rcases s with⟨p,r⟩ | ⟨g,cap,q,p,J,m,t,o,x,y⟩
 .exact zas (zbf r) f
 injection p with i C D
 refine⟨g,i,λj n=>?_,lq m,oM⟩;have d:j<l.length:=by simpa using n
 have v:iU w A l.length 1 (l.flatMap intCells):=FC a;obtain⟨H,b,S⟩:=v.at_ oM;rw[i]at b;injection b with b
 subst b;have z:=flat_get (enc:=intCells) (k:=1) (λ_=>rfl) (zaa d) (show 0<1 from dC);have:=S _ _ (z.trans rfl);rw[Addr.add_lit]at this;refine⟨by rw[show 0+j=0+(j*1+0)from oM,this,getElem!_pos l.toArray j n];simp[I],?_⟩;simp[World.frozen?,m]
variable {w:Wd}
def aat (f:(aY e 1 intCells (.slice A l.length c) l).ok F w) (q:l.length<=1000000):
    aX prog 77 [.slice A l.length c] w λv i=>v=.tuple #[]/\cO F (aY e 1 intCells (.slice A l.length c) (l.mergeSort λx y=>decide (x<=y))) w i:=by
  by_cases S:l=[]
  . subst S
    refine Calls.mono (Tryz.slices_Sort_int_none A c w) λj i b=>?_;obtain⟨rfl,rfl⟩:=b;exact⟨rfl,by rw[List.mergeSort_nil];exact cO.refl f⟩
  obtain⟨g,m,o,p,_⟩:=Pm f S;have h:(l.mergeSort λx y=>decide (x<=y)).length=l.length:=zfs l;have a:=m;subst a;refine Calls.mono (Tryz.slices_Sort_int g 0 c l w o p oM) λj i b=>?_;obtain⟨rfl,n,os,rfl⟩:=b;refine⟨rfl,?_⟩;have:=UM (k:=n) (os:=os) (d:=(l.mergeSort λx y=>decide (x<=y)).toArray) f rfl sM (zbk _)
  rwa [zaj (by simp[h])]at this
def LK (f:(aY e 1 intCells (.slice A l.length c) l).ok F w) (r:l.length<=1000000):
    aX prog 78 [.slice A l.length c] w λv i=>v=.slice A (Lib.compact l).length c/\cO F (aY e 1 intCells (.slice A (Lib.compact l).length c) (Lib.compact l)) w i:=by
  by_cases S:l=[]
  . subst S
    refine Calls.mono (Tryz.slices_Compact_int_empty A c w) λj i b=>?_;obtain⟨rfl,rfl⟩:=b;exact⟨rfl,cO.refl f⟩
  obtain⟨g,m,o,q,p⟩:=Pm f S;have h:=Lib.compact_length_le l;have a:=m;subst a;refine Calls.mono (Tryz.slices_Compact_int g 0 c l w o oM p) λj i b=>?_;obtain⟨rfl,n,rfl⟩:=b;refine⟨rfl,?_⟩;have:=UM (k:=n) (os:= #[]) (d:=(Lib.compact l++List.replicate (l.length-(Lib.compact l).length) 0).toArray) f rfl kN h;rw[Sort.grow_empty]at this;simpa using this
end Go.Proofs.Mw
