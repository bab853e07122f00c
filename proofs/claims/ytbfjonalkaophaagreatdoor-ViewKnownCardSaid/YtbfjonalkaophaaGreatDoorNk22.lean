/-
 Sorting by a function:the whole,walked.
-/
import Derived.Test.YtbfjonalkaophaaGreatDoorNk21
set_option linter.all false
set_option maxRecDepth 4000
namespace Go.Proofs.Mw
variable {w:Wd} {fv v va vb:Value} {bytes c i n:Nat} {l:List aH} {r:List (Value×Int)} {a b:List aF} {x:Od} {A:OA} {ps:List Nat} {P:Program} {ρ:Od->Value}
open Go.Lib Go.Sort Go.Proofs.Tryz
section
attribute [local irreducible] FW FL FG FGn jX lg gD l7 Qfn ah
section
variable {α:Type} [Inhabited α] {f:α->Int} {cf:α->α->Int} {w:Wd} {F:NP} {A:OA} {n c:Nat} {d₀:Array α} {fv:Value}
theorem ahL (hO:SWO (ltC cf)): ∀(q:Nat) {a b lim n c:Nat} {A:OA} {d₀:Array α} {w:Wd} {F:NP},b-a<=q->(gU f A n c d₀).ok F w->n=d₀.size->a<=b->b<=n->n<1000000->lim<=1000->Below (ltC cf) a b d₀->pO prog fv f cf F w->
    aX prog 261 [.slice A n c,I a,I b,I lim,fv] w λr Q=>∃d':Array α,r=.tuple #[]/\(PermIn a b d₀ d'/\SortedIn (ltC cf) a b d')/\cO F (gU f A n c d') w Q:=by
  intro q
  induction q using Nat.strongRecOn with
  | _ q ih=>
  intro a b lim n c A d₀ w F i hp hn0 hab hb M hlim hB0 e;have H:=Sep.dA hp;refine O8 func261 ?_;refine V2 ?_;refine aM (λx:Nat×Nat×Nat×Bool×Bool×Array α=>[(0,.slice A n c),(1,I x.1),(2,I x.2.1),(3,I x.2.2.1),(4,fv),(10,.bool x.2.2.2.1),(11,.bool x.2.2.2.2.1)]) (λx Q=>((n=x.2.2.2.2.2.size/\a<=x.1/\x.1<=x.2.1/\x.2.1<=b/\x.2.2.1<=1000)/\Below (ltC cf) x.1 x.2.1 x.2.2.2.2.2/\∀R,PermIn x.1 x.2.1 x.2.2.2.2.2 R->SortedIn (ltC cf) x.1 x.2.1 R->PermIn a b d₀ R/\SortedIn (ltC cf) a b R)/\Sep w F [gU f A n c x.2.2.2.2.2] Q) (λx _=>x.2.1-x.1) (a,b,lim,true,true,d₀) tR ⟨⟨⟨hn0,zbk _,hab,zbk _,hlim⟩,hB0,λR T L=>⟨T,L⟩⟩,H⟩ (λx τ w4 hI=>?_);obtain⟨s,t,lm,wb,wp,d⟩:=x;obtain⟨⟨⟨hn,has,E,htb,hlm⟩,hB,D⟩,H4⟩:=hI;dsimp only at hn has E htb hlm hB D H4;refine Lp ?_;refine V2 ?_;refine Vc ((t-s:Nat):Int) ?_;refine Cz (λIe=>?_) (λIe=>?_)
  . have h12:=Ie
    refine V4 ?_;obtain⟨V,k,S,h⟩:=H4.bG At0;refine aO (YZ (a:=s) (b:=t) k hn E oM oM (e.into H4.au S)) rfl rfl (λW wa m=>?_);obtain⟨rfl,anU,j,i,l⟩:=m;have Ha:=h _ j _ anU i l;refine V0 ?_;exact⟨_,rfl,D _ (insertionSort_holds hO d s t E oM).1 (insertionSort_holds hO d s t E oM).2,Ha.bf⟩
  have h12:=Ie;refine Cz (λIf=>?_) (λIf=>?_)
  . have hl0:=If
    refine V4 ?_;obtain⟨V,k,S,h⟩:=H4.bG At0;refine aO (WE (a:=s) (b:=t) k hn oM oM oM (e.into H4.au S)) rfl rfl (λW wc m=>?_);obtain⟨rfl,_,anV,j,i,l⟩:=m;have Hb:=h _ j _ anV i l;refine V0 ?_;exact⟨_,rfl,D _ (heapSort_holds hO d s t E oM).1 (heapSort_holds hO d s t E oM).2,Hb.bf⟩
  have hl0:=If;refine Sk (dU (λz:Nat×Array α=>[(0,.slice A n c),(1,I s),(2,I t),(3,I z.1),(4,fv),(10,.bool wb),(11,.bool wp),(12,I (t-s:Nat))]) (λz Q=>(z.1<=1000/\PermIn s t d z.2)/\Sep w F [gU f A n c z.2] Q) ?_ ?_)
  . refine O2 ?_
    refine Qn (Cd rfl (λIg=>?_) (λIg=>?_))
    . refine V4 ?_
      obtain⟨V,k,S,h⟩:=H4.bG At0;refine aO (aft (a:=s) (b:=t) k hn oM oM M) rfl rfl (λW wd m=>?_);obtain⟨X,rfl,G,anW,j,i,l⟩:=m;have Hc:=h _ j _ anW i l;refine V1 ?_;refine Vc ((lm-1:Nat):Int) ?_;refine V1 ?_;exact aA (lm-1,X) tR ⟨⟨dO,G⟩,Hc⟩
    refine V0 ?_;exact aA (lm,d) tR ⟨⟨hlm,permIn_refl _ _ _⟩,H4⟩
  rintro⟨C,X⟩ τ we ⟨⟨g,G⟩,Hd⟩;dsimp only at g G Hd;have XM:n=X.size:=by rw[G.1];exact hn
  refine Lp ?_;refine V4 ?_;obtain⟨V,k,S,h⟩:=Hd.bG At0;refine aO (afr (a:=s) (b:=t) k XM oM oM oM (e.into Hd.au S)) rfl rfl (λW wf m=>?_);obtain⟨rfl,anX,j,i,l⟩:=m;have He:=h _ j _ anX i l;obtain⟨Z,P⟩:=choosePivot_holds (ltC cf) X s t oM;obtain⟨pv,hpv⟩: ∃pv,pv=choosePivot (ltC cf) X s t:=⟨_,rfl⟩;rw[<-hpv]at Z P ⊢;refine O5 ?_;refine Qn (dU (λz:Nat×Int×Array α=>[(0,.slice A n c),(1,I s),(2,I t),(3,I C),(4,fv),(10,.bool wb),(11,.bool wp),(12,I (t-s:Nat)),(13,I z.1),(14,I z.2.1)]) (λz Q=>((s<=z.1/\z.1<t)/\PermIn s t d z.2.2)/\Sep w F [gU f A n c z.2.2] Q) ?_ ?_)
  . refine Cz (λIh=>?_) (λIh=>?_)
    . have h56:=Ih
      refine V4 ?_;obtain⟨V,k,S,h⟩:=He.bG At0;refine aO (Y0 (a:=s) (b:=t) k XM oM oM oM) rfl rfl (λW wg m=>?_);obtain⟨rfl,anY,j,i,l⟩:=m;have Hf:=h _ j _ anY i l;refine V1 ?_;refine Vc ((t-1:Nat):Int) ?_;refine V2 ?_;refine Vc ((pv.1-s:Nat):Int) ?_;refine Vc ((t-1-(pv.1-s):Nat):Int) ?_;refine V2 ?_;exact aA (t-1-(pv.1-s),1,reverseRange X s t) tR ⟨⟨⟨dO,dO⟩,permIn_trans _ _ _ _ _ G (reverseRange_holds X s t E oM)⟩,Hf⟩
    have h56:=Ih;refine V0 ?_;exact aA (pv.1,aiR pv.2,X) tR ⟨⟨⟨Z,P⟩,G⟩,He⟩
  rintro⟨J,L,d2⟩ τ wh ⟨⟨⟨v,y⟩,u⟩,Hg⟩;dsimp only at v y u Hg;have hn2:n=d2.size:=by rw[u.1];exact hn
  have hB2:=hB.perm oM u;refine Lp ?_;refine dU (λz:Array α=>[(0,.slice A n c),(1,I s),(2,I t),(3,I C),(4,fv),(10,.bool wb),(11,.bool wp),(12,I (t-s:Nat)),(13,I J)]) (λz Q=>PermIn s t d z/\Sep w F [gU f A n c z] Q) ?_ ?_
  . refine V2 ?_
    refine eO (t:=69) rfl (λSa=>?_) (λSa=>?_)
    . refine V3 ?_
      refine eO (t:=72) rfl (λSb=>?_) (λSb=>?_)
      . refine Cz (λIi=>?_) (λIi=>?_)
        . refine V4 ?_
          obtain⟨V,k,S,h⟩:=Hg.bG At0;refine aO (Y3 (a:=s) (b:=t) k hn2 oM oM oM (e.into Hg.au S)) rfl rfl (λW wi m=>?_);obtain⟨rfl,al0,j,i,l⟩:=m;have Hh:=h _ j _ al0 i l;obtain⟨Y,anZ⟩:=partialInsertionSort_holds hO d2 s t oM oM hB2;refine Qn (Cd rfl (λIj=>?_) (λIj=>?_))
          . have h80:=Ij
            refine V0 ?_;exact⟨_,rfl,D _ (permIn_trans _ _ _ _ _ u Y) (anZ h80),Hh.bf⟩
          refine V0 ?_;exact aA (partialInsertionSort (ltC cf) d2 s t).1 tR ⟨permIn_trans _ _ _ _ _ u Y,Hh⟩
        refine V0 ?_;exact aA d2 tR ⟨u,Hg⟩
      refine V1 ?_;exact aA d2 tR ⟨u,Hg⟩
    refine V3 ?_;exact aA d2 tR ⟨u,Hg⟩
  rintro K τ wj ⟨N,Hi⟩;have hn3:n=K.size:=by rw[N.1];exact hn
  have hB3:=hB.perm oM N;have hR:=rdI hn3 Hi At0;refine Lp ?_;refine dU (λ_:Unit=>[(0,.slice A n c),(1,I s),(2,I t),(3,I C),(4,fv),(10,.bool wb),(11,.bool wp),(12,I (t-s:Nat)),(13,I J)]) (λ_ Q=>Sep w F [gU f A n c K] Q) ?_ ?_
  . refine Dz (λSc wk Hj=>?_)
    refine V3 ?_;refine gu (t:=83) rfl (λSd=>?_) (λSd=>?_)
    . have hs0:0<s:=by have:=Sd;omega
      refine V3 ?_;refine Gc Sc 6 ((s-1:Nat):Int) ?_;refine V6 ?_;refine FcI (λwl Hk=>?_);refine O3 ?_;refine fZ Sc kR ?_;refine Cz (λIk=>?_) (λIk=>?_)
      . have hnl:ltC cf K[s-1]! K[J]! =false:=by simp[ltC];have:=Ik;omega
        obtain⟨g1,g2,g3,g4,g5⟩:=round_eq hO (partitionEqual_holds _) hs0 v y oM hB3 hnl (d4:=(partitionEqual (ltC cf) K s t J).2) (mid:=(partitionEqual (ltC cf) K s t J).1) rfl;refine V5 ?_;obtain⟨V,k,S,h⟩:=Hk.bG At0;refine aO (Tq (a:=s) (b:=t) (p:=J) k hn3 v y oM oM (e.into Hk.au S)) rfl rfl (λW wm m=>?_);obtain⟨rfl,o,al1,j,i,l⟩:=m;have Hl:=h _ j _ al1 i l;refine V3 ?_;exact ak ((partitionEqual (ltC cf) K s t J).1,t,C,wb,wp,(partitionEqual (ltC cf) K s t J).2) tR ⟨⟨⟨o,dO,g2,htb,g⟩,g4,λR T L=>D R (permIn_trans _ _ _ _ _ N (g5 R T L).1) (g5 R T L).2⟩,Hl⟩ dO
      refine V0 ?_;exact aA () tR Hk
    have hs0:=Sd;refine V1 ?_;exact aA () tR Hj
  rintro _ τ wn Hm;refine Lp ?_;refine V5 ?_;obtain⟨V,k,S,h⟩:=Hm.bG At0;refine aO (ahK (a:=s) (b:=t) (p:=J) k hn3 v y oM oM (e.into Hm.au S)) rfl rfl (λW wo m=>?_);obtain⟨rfl,o,al2,j,i,l⟩:=m;have Hn:=h _ j _ al2 i l;obtain⟨g1,g2,g3,g4,g5,g6,g7⟩:=round_part hO (partition_holds _) v y oM hB3 (d4:=(partition (ltC cf) K s t J).2.2) (mid:=(partition (ltC cf) K s t J).1) (ap:=(partition (ltC cf) K s t J).2.1) rfl;obtain⟨pr,hpr⟩: ∃pr,pr=partition (ltC cf) K s t J:=⟨_,rfl⟩;rw[<-hpr]at g1 g2 g3 g4 g5 g6 g7 o Hn ⊢;obtain⟨mid,ap,d4⟩:=pr;dsimp only at g1 g2 g3 g4 g5 g6 g7 o Hn ⊢;refine V9 ?_;refine Vc ((mid-s:Nat):Int) ?_;refine V2 ?_;refine Vc ((t-mid:Nat):Int) ?_;refine V3 ?_;refine Vv (ah.JN (a:=t-s) (b:=8) rfl rfl dC oM) (Cz (λIl=>?_) (λIl=>?_))
  . have XO:=Il
    refine V9 ?_;obtain⟨V,k,S,h⟩:=Hn.bG At0;refine aO (ih (mid-s) oM (a:=s) (b:=mid) (lim:=C) (zbk _) k o g1 oM M g g4 (e.into Hn.au S)) rfl rfl (λW wq m=>?_);obtain⟨d5,rfl,⟨O,hs5⟩,al3,j,i,l⟩:=m;have Ho:=h _ j _ al3 i l;obtain⟨k1,k2⟩:=g6 d5 O hs5;have hn5:n=d5.size:=by rw[O.1];exact o
    refine V1 ?_;refine Vc ((mid+1:Nat):Int) ?_;refine V1 ?_;exact ak (mid+1,t,C,decide ((((t-s)/8:Nat):Int)<=((mid-s:Nat):Int)),ap,d5) tR ⟨⟨⟨hn5,dO,dO,htb,g⟩,k1,λR T L=>D R (permIn_trans _ _ _ _ _ N (k2 R T L).1) (k2 R T L).2⟩,Ho⟩ dO
  have XO:=Il;refine V6 ?_;refine Vc ((mid+1:Nat):Int) ?_;refine V3 ?_;obtain⟨V,k,S,h⟩:=Hn.bG At0;refine aO (ih (t-(mid+1)) oM (a:=mid+1) (b:=t) (lim:=C) (zbk _) k o oM oM M g g5 (e.into Hn.au S)) rfl rfl (λW wr m=>?_);obtain⟨d5,rfl,⟨O,hs5⟩,al4,j,i,l⟩:=m;have Hp:=h _ j _ al4 i l;obtain⟨k1,k2⟩:=g7 d5 O hs5;have hn5:n=d5.size:=by rw[O.1];exact o
  refine V2 ?_;exact ak (s,mid,C,decide ((((t-s)/8:Nat):Int)<=((t-mid:Nat):Int)),ap,d5) tR ⟨⟨⟨hn5,has,g1,dO,g⟩,k1,λR T L=>D R (permIn_trans _ _ _ _ _ N (k2 R T L).1) (k2 R T L).2⟩,Hp⟩ dO
def WG (t:SWO (ltC cf)) (v:(gU f A n c d₀).ok F w) (l:n=d₀.size) (k:n<1000000) (d:pO prog fv f cf F w):
    aX prog 188 [.slice A n c,fv] w λr C=>∃i:Array α,r=.tuple #[]/\(PermIn 0 n d₀ i/\SortedIn (ltC cf) 0 n i)/\cO F (gU f A n c i) w C:=by
  have H:=Sep.dA v
  have u:Lib.bitLen n<=62:=by
    rcases zeh n with e | e
    . rw[e];decide
    exact(Jl e k).2.2
  refine dn func188 ?_;refine V6 ?_;refine Vv (ah.zy (c:=(n:Int)) rfl kU) ?_;refine fF (Et n oM) (h:=?_);refine Mv ?_;obtain⟨D,m,j,S⟩:=H.bG At0;refine aO (ahL t n (a:=0) (b:=n) (lim:=Lib.bitLen n) oM m l (zai _) (zbk _) k oM (.inl rfl) (d.into H.au j)) rfl rfl (λE G z=>?_);obtain⟨s,rfl,o,g,p,x,y⟩:=z;have q:=S _ p _ g x y;refine V0 ?_;exact⟨s,rfl,o,q.bf⟩
end
open Go.RowKit
def Sep.ajz {s:Wd} {X:Wd->Prop} {t:List HP} {p:HP} {put:HP->List HP} (H:Sep s noB (fA X::t) w) (d:At t p put):
    ∃F,p.ok F w/\(∀b,F b->s.heap.size<=b)/\(∀a,aS F w a->X a/\aS noB s a)/\∀g i l,aS F w g->l.ok i g->(∀b,i b->F b\/w.heap.size<=b)->Sep s noB (fA X::put l) g:=by
  obtain⟨F,r,q,j,o,m,S⟩:=H.af9 d;have k: ∀b,F b->s.heap.size<=b:=λb h=>(m b h).resolve_left id;exact⟨F,q,k,λa e=>⟨j.1 a e.size λb h=>e.block b (j.2 b h) (o b h),H.au.trans e λb h=>.inr (k b h)⟩,S⟩
def FM (n:Nat):LV:=[I n]
instance:jl FM 1:=⟨λ_=>rfl⟩
def WH {α S:Type} {e k:Nat} {h:S->LV} {g:α->S} {l:List α}:aY e k h v (l.map g)=aY e k (λx=>h (g x)) v l:=by
 unfold aY;rw[zae,List.flatMap_map]
def aaP {α:Type} [Inhabited α] {g:α->LV} {k:Nat} [d:jl g k] {A:OA} {l:List α} {c j:Nat} (h:Mw.Rd w A g k l) (S:j<=l.length) (b:l.length<=c):Mw.Rd w (if c=j then A else A.map (·.add (j*k))) g k (l.drop j):=by
 have:=iU.cut h (k:=j) (cap:=c) S b;unfold Mw.Rd;rw[zbm]
 have a:((l.take j).flatMap g).length=j*k:=by
  rw[jh d.len (l.take j),zah,zcf S]
 have e:(l.flatMap g).drop (j*k)=(l.drop j).flatMap g:=by
  conv=>lhs;rw[<-zbs j l,zbu]
  exact List.drop_left' a
 rw[<-e];exact this
def xP (n i:Nat):List Nat:=List.range i++List.replicate (n-i) 0
def Qq (h:i<=n):(xP n i).length=n:=by
 unfold xP;rw[zad,zdu,zda];omega
def acK (h:i<n):(xP n i).set i i=xP n (i+1):=by
 unfold xP;rw[zdq _ _ (by rw[zdu];exact zbk _),zdu,zdw,show n-i=(n-(i+1))+1 from oM,zex,zcz,List.range_succ,zbp];rfl
def afu (h:i<n):(xP n i)[i]? =some 0:=by
 unfold xP;rw[zbx (by rw[zdu];exact zbk _),zdu,zdw,show n-i=(n-(i+1))+1 from oM,zex];rfl
def acL (n:Nat):xP n n=List.range n:=by unfold xP;rw[zdw];simp
section
variable {w:Wd}
def MV (t:aP w v aD 2 r) (k:gM w r l) {a b:Nat} {x y:aH} (u:l[a]? =some x) (z:l[b]? =some y):
    Rk Tryz.prog 75 [v,I a,I b] w (I (jU x.row y.row)):=by
  obtain⟨A,m,rfl,⟨D,s⟩,C⟩:=t;obtain⟨G,i,e⟩:=k.get u;obtain⟨J,j,g⟩:=k.get z;have p:=fP i;have q:=fP j;have H:=Sep.aI w;refine uU Tryz.func75 ?_;refine Dz (λS K d=>?_);refine V10 ?_;refine dS S 10 _ d (acJ (e.aK d.au) (g.aK d.au)) (h:=λL o E=>⟨sT,?_⟩);refine V1 ?_;exact⟨rfl,o.au⟩
def WI:Rk Tryz.prog 330 [.slice A n c,I 0,I 0,fv] w (.tuple #[]):=by
 have H:=Sep.aI w;refine yM Tryz.func330 ?_;refine V3 ?_;refine aM (λ_:Unit=>[(2,I 0),(8,I 1)]) (λ_ S=>Sep w noB [] S) (λ_ _=>0) () tR H (λ_ b a k=>?_);refine Lp ?_;refine Cz (λh=>?_) (λh=>?_)
 .exact zas h dC
 refine V0 ?_;exact⟨rfl,k.au⟩
def ahM {l:Value}:Rk Tryz.prog 261 [.slice A n c,I 0,I 0,l,fv] w (.tuple #[]):=by
 have H:=Sep.aI w;refine O8 Tryz.func261 ?_;refine V2 ?_;refine aM (λ_:Unit=>[(0,.slice A n c),(1,I 0),(2,I 0),(3,l),(4,fv),(10,.bool true),(11,.bool true)]) (λ_ S=>Sep w noB [] S) (λ_ _=>0) () tR H (λ_ g d a=>?_);refine Lp ?_;refine Cz (λh=>?_) (λh=>?_)
 .refine Kz WI (λe k b=>?_)
  refine V0 ?_;exact⟨rfl,k.au⟩
 exact zas h dC
def Tt:Rk Tryz.prog 188 [.slice A 0 c,fv] w (.tuple #[]):=by
 have H:=Sep.aI w;refine dn Tryz.func188 ?_;refine V6 ?_;refine Vv (ah.zy (c:=0) rfl Ir) ?_;refine fF (Et 0 dC) (h:=?_);refine Mv ?_;refine Kz ahM (λa k S=>?_);refine V0 ?_;exact⟨rfl,k.au⟩
def OH {c:List aF} (h: ¬jU a b<0) (i: ¬jU b c<0): ¬jU a c<0:=by
 have k:jU b a<=0:=by rw[gL.anti];omega
 have S:jU c b<=0:=by rw[gL.anti];omega
 intro d;have:=GK S (GL (GK k d) (Int.le_of_eq (gL.self c)));have e:=GK k d;have g:=GL e S;rw[gL.self]at g;omega
def Y4 {α:Type} [Inhabited α] {d g:Array α} (S:n=d.size) (h:PermIn 0 n d g):g.toList.Perm d.toList:=by
 obtain⟨a,_,k⟩:=h
 have e: ∀x:Array α,x.size=n->(x.extract 0 n).toList=x.toList:=λx b=>by
  rw[Array.toList_extract,zfz,zdh,Nat.sub_zero,zaj (by rw[zgg];omega)]
 rw[e g oM,e d S.symm]at k;exact k
def ahN {α:Type} [Inhabited α] (g:α->List aF):SWO (ltC λx y=>jU (g x) (g y)) where
 irrefl x:=zam (by show ¬jU (g x) (g x)<0;rw[gL.self];omega)
 trans x y z h1 h2:=zau (gL.trans _ _ _ (zbe h1) (zbe h2))
 ntrans x y z h1 h2:=zam (OH (of_decide_eq_false h1) (of_decide_eq_false h2))
def Tv {X:Wd} {F:NP} {v:Value} {B:OA} (V:aP X v aD 2 r) (t:gM X r l) (O: ∀z,aS F w z->aS noB X z)
    (D:(aY 3 1 FM (.slice B l.length c) (List.range l.length)).ok F w) (T:l.length<=1000):
    aX Tryz.prog 188 [.slice B l.length c,.func (.func 75) #[v] #[]] w λu K=>∃J:List Nat,u=.tuple #[]/\(J.Perm (List.range l.length)/\J.Pairwise λi j=>∀a b,l[i]? =some a->l[j]? =some b->jU a.row b.row<=0)/\cO F (aY 3 1 FM (.slice B l.length c) J) w K:=by
  obtain⟨m,R⟩: ∃m,m=l.length:=⟨_,rfl⟩;rw[<-R]at D T ⊢;cases m with
  | zero=>
    refine aX.mono Tt λu K G=>?_;obtain⟨rfl,s⟩:=G;exact⟨[],rfl,⟨List.Perm.refl _,List.Pairwise.nil⟩,s.mono λ_ h=>h.elim,F,HP.stay D s,λ_ h=>.inl h⟩
  | succ m=>
    have k: ∀x:Fin (m+1),x.val<l.length:=λx=>by have:=x.isLt;omega
    obtain⟨d₀,S⟩: ∃d₀:Array (Fin (m+1)),d₀=(List.finRange (m+1)).toArray:=⟨_,rfl⟩;have q:m+1=d₀.size:=by rw[S];simp
    have p:d₀.toList.map (·.val)=List.range (m+1):=by
      rw[S];refine List.ext_getElem sM λi d L=>?_;simp
    have E:(gU (λx:Fin (m+1)=>(x.val:Int)) B (m+1) c d₀).ok F w:=by
      unfold gU;have:=D;rw[<-p,WH]at this;exact this
    have o:pO Tryz.prog (.func (.func 75) #[v] #[]) (λx:Fin (m+1)=>(x.val:Int)) (λx y=>jU (l[x.val]'(k x)).row (l[y.val]'(k y)).row) F w:=
      ⟨_,[v],[],rfl,eT,λz d x y=>MV (V.aK (O z d)) (t.aK (O z d)) (zaa (k x)) (zaa (k y))⟩
    refine aX.mono (WG (ahN λx:Fin (m+1)=>(l[x.val]'(k x)).row) E q oM o) λu K G=>?_;obtain⟨H,rfl,⟨d,L⟩,W⟩:=G;refine⟨H.toList.map (·.val),rfl,⟨?_,?_⟩,?_⟩
    . rw[<-p]
      exact(Y4 q d).map _
    . rw[zft,zfd]
      intro i j hi N C a b e g;rw[zgg]at hi N;have Q:=L i j (zai _) C (by have:=d.1;omega);have M:=of_decide_eq_false Q;rw[getElem!_pos H j N,getElem!_pos H i hi]at M;dsimp only at M;rw[Array.getElem_toList]at e g;rw[zaa (k _)]at e g;injection e with e
      injection g with g
      subst e;subst g;rw[gL.anti];omega
    rw[WH];exact W
def acM {l:List aH} (X:dM w v l) (Z:l.length<=1000):
    aX Tryz.prog 118 [v] w λu K=>∃x:Value×List Nat,u=x.1/\(x.2.Perm (List.range l.length)/\x.2.Pairwise λi j=>∀a b,l[i]? =some a->l[j]? =some b->jU a.row b.row<=0)/\cO noB (aY 3 1 FM x.1 x.2) w K:=by
  obtain⟨r,N,S⟩:=X;have o:=S.len;have t:=N;obtain⟨A,m,rfl,⟨Y,E⟩,T⟩:=N;have H:=Sep.aI w;refine dL Tryz.func118 ?_;refine V3 ?_;refine agc H (k:=r.length) kS oM (h:=λz w5 y k4=>?_)
  have y:Sep w noB (aY 3 1 FM (.slice (some ⟨z,0,none⟩) r.length r.length) (xP r.length 0)::[]) w5:=by
    have M:=Sep.nC (n:=r.length) (s:=1) y At0 sM kS;unfold aY;rw[Qq (zai _)]
    have e:(xP r.length 0).flatMap FM=List.replicate r.length (Value.int .i64 0):=by
      unfold xP;rw[List.range_zero,zby,Nat.sub_zero];clear M o t Y E T
      induction r.length with
      | zero=>rfl
      | succ k ih=>rw[zex,zbi,ih,zex];rfl
    rw[e];exact M
  refine V4 ?_;refine aM (λi:Nat=>[(0,.slice A r.length m),(3,.slice (some ⟨z,0,none⟩) r.length r.length),(9,I r.length),(10,I i)]) (λi K=>i<=r.length/\Sep w noB [aY 3 1 FM (.slice (some ⟨z,0,none⟩) r.length r.length) (xP r.length i)] K) (λi _=>r.length-i) 0 tR ⟨zai _,y⟩ (λi τ wa V=>?_);obtain⟨hi,p⟩:=V;refine Lp ?_;refine Cz (λQ=>?_) (λQ=>?_)
  . have d:i<r.length:=oM
    refine V5 ?_;refine Vv (ah.idx rfl rfl d) (GZ (enc:=FM) (l:=xP r.length i) (f:=0) i (Qq hi).symm p At0 (afu d) dC rfl rfl rfl rfl (h:=λwb L=>?_));rw[acK d]at L;refine V2 ?_;exact ak (i+1) tR ⟨oM,L⟩ oM
  have D:i=r.length:=oM;rw[D,acL]at p;refine V3 ?_;rw[o]at p ⊢;obtain⟨F0,G,C,g⟩:=p.bG At0;refine aO (Tv (v:=.slice A l.length m) (by rw[<-o];exact t) S (λw1 R=>p.au.trans R λb W=>.inr ((C b W).resolve_left id)) G Z) rfl rfl (λv' wc hv=>?_);obtain⟨ps,rfl,J,q,F,c,P⟩:=hv;have O:=g _ F _ q c P;refine V2 ?_;exact⟨(_,ps),rfl,J,O.bf⟩
end
def acN (A:OA) (c:Nat):Nat->OA
 | 0=>A
 | i+1=>if c-i=1 then acN A c i else(acN A c i).map (·.add 1)
def Y5 (h:Mw.Rd w A FM 1 ps) (S:ps.length<=c): ∀i,i<=ps.length->Mw.Rd w (acN A c i) FM 1 (ps.drop i)
 | 0,_=>by rw[zdh];exact h
 | i+1,hi=>by
  have k:=aaP (c:=c-i) (j:=1) (Y5 h S i oM) Iz Iz;rw[zga,Nat.one_mul]at k;exact k
def bJ {α:Type} {c m k:Nat} {enc:α->LV} {l:List α} (h:aP w (.slice A m c) enc k l):Mw.Rd w A enc k l:=by
 obtain⟨a,b,e,_,S⟩:=h;injection e with e1 e2 d
 subst e1;exact S
def psV (A:OA) (c n i:Nat):Value:=.slice (acN A c i) (n-i) (c-i)
def ah.am0 {ty:Td} {y:Od} {t e:Td} [b:dR P t e] [a:Cells P e 1 bytes] (k:ρ x=psV A c n i) (S:ρ y=I 1) (hi:i<n):ah P ρ (.slice t x (some y) none none) ty w (psV A c n (i+1)) w:=by
 have h:=ah.sliceFrom (P:=P) (ρ:=ρ) (ty:=ty) (w:=w) (t:=t) (e:=e) (x:=x) (y:=y) (l:=1) k S oM;exact h
def ah.ajA {ty:Td} {o:Wd} {y:Od} {t e:Td} [m:dR P t e] [g:Cells P e 1 bytes] {j:Nat} (b:ρ x=psV A c ps.length j) (d:ρ y=I 0) (a:Mw.Rd o A FM 1 ps) (h:ps.length<=c) (l:j<ps.length):ah P ρ (.indexAddr t x y) ty w (adr (acN A c j) 0) w:=by
 have k:=Y5 a h j oM;have S:(ps.drop j).length=ps.length-j:=zbm;exact ah.fT (i:=0) (by rw[S];exact b) d k oM
def ah.afv {ty:Td} {T:Td} [OneCell P T] {j p:Nat} (b:ρ x=adr (acN A c j) 0) (a:Mw.Rd w A FM 1 ps) (h:ps.length<=c) (k:ps[j]? =some p):ah P ρ (.load T x) ty w (I p) w:=by
 have S:=Y5 a h j IJ;exact ah.dY (i:=0) (f:=0) b (Sep.aI w) S (by rw[zco];exact k) rfl
def afw {l:List aH} (h: ∀o∈l,cB o.w) (r:List aF): -((l.length:Int)*9223372036854775808)<=wtL l r/\wtL l r<=(l.length:Int)*9223372036854775808:=by
 induction l with
 | nil=>exact⟨Int.le_refl _,Int.le_refl _⟩
 | cons x l i=>
  obtain⟨S,a⟩:=i λo k=>h o (zap _ k);obtain⟨b,d⟩:=h x zak;rw[wtL,zat]
  split<;>omega
def ahO {o:aH} {r:List aF} (h:l[i]? =some o) (k:o.row=r):wtL (l.take (i+1)) r=wtL (l.take i) r+o.w:=by
 rw[zaq,h,iG];show _+((if o.row=r then o.w else 0)+0)=_
 rw[zac k,zgl]
def am1 (y:Value) (s:Int):Value:=.tuple #[agg (aD (y,if bM s=true then s else 0)),I (if bM s=true then 0 else 50)]
section
variable {w:Wd} {F:NP}
theorem afx {b0 b4 b1:Nat} {E0 E4 E1:Td} {A:OA} {c j p0:Nat} {ps:List Nat} {V:Value} {r:List (Value×Int)} {l q:List aH} {x:aH}
    (hp:(dx (blk b0 [psV A c ps.length j] E0) (dx (blk b4 [V] E4) (blk b1 [V] E1))).ok F w) (L: ∀K,aS F w K->Mw.Rd K A FM 1 ps) (T:ps.length<=c)
    (G: ∀K,aS F w K->aP K V aD 2 r) (a: ∀K,aS F w K->gM K r l) (hj:ps[j]? =some p0) (P:l[p0]? =some x) (hq: ∀(i p:Nat),ps[i]? =some p->p<l.length/\l[p]? =q[i]?) (hql:q.length=ps.length)
    (hn:ps.length<=1000) (hl:l.length<=1000) (hf: ∀o∈q,cB o.w) (s:x.row.length<=1000):
    aX Tryz.prog 119 [aC b0,aC b4,aC b1] w λu w'=>∃z:Value×Nat,u=am1 z.1 (wtL ((q.drop j).take z.2) x.row)/\(0<z.2/\j+z.2<=ps.length/\(∀o∈(q.drop j).take z.2,o.row=x.row)/\∀o,(q.drop j)[z.2]? =some o->o.row≠x.row)/\
      cO F (dx (aY 48 3 aj z.1 x.row) (dx (blk b0 [psV A c ps.length (j+z.2)] E0) (dx (blk b4 [V] E4) (blk b1 [V] E1)))) w w':=by
  have H:=((Sep.dA hp).bW).aJ.bW;have hjl:=fP hj;obtain⟨hpl,hpq⟩:=hq j p0 hj;have hqx:q[j]? =some x:=by rw[<-hpq];exact P
  have hxq:(q.drop j)[0]? =some x:=by rw[zco];exact hqx
  have hdl:(q.drop j).length=ps.length-j:=by rw[zbm,hql]
  have N: ∀o∈q.drop j,cB o.w:=λo S=>hf o (zeq S);obtain⟨B,m,hVe,⟨hBm,Gj⟩,_⟩:=G w (aS.refl _ _);subst hVe;obtain⟨vx,g,hsx⟩:=(a w (aS.refl _ _)).get P;have EO:=(a w (aS.refl _ _)).len;obtain⟨E6,hE6⟩: ∃E6,E6=189:=⟨_,rfl⟩;refine AB Tryz.func119 ?_;refine Az (λb3 w2 H2 k1=>?_);refine V2 ?_;refine Vv (ah.ajA rfl rfl (L _ H2.au) T hjl) (Vv (ah.afv rfl (L _ H2.au) T hj) ?_);refine Az (λb6 w9 H9 k8=>?_);refine V0 ?_;refine aM (λi:Nat=>[(0,aC b0),(1,aC b4),(2,aC b1),(3,aC b3),(4,I 0),(5,I p0),(6,aC b6)]) (λi w'=>(j+i<=ps.length/\∀o∈(q.drop j).take i,o.row=x.row)/\Sep w F [blk b6 (dH (wtL ((q.drop j).take i) x.row)) 189,blk b3 (aD (.slice none 0 0,0)) 25,blk b4 [.slice B r.length m] E4,blk b1 [.slice B r.length m] E1,blk b0 [psV A c ps.length (j+i)] E0] w') (λi _=>ps.length-i) 0 tR ⟨⟨oM,λo S=>by simp at S⟩,H9⟩ (λi τ wa hI=>?_);obtain⟨⟨hi,v⟩,Ha⟩:=hI;have hS1:=L _ Ha.au;refine Lp ?_;refine Dz (λSa wb R=>?_);refine V2 ?_;refine GS (Gn rfl (λ_=>(ah.gtr (k:=.i64) rfl rfl)) ?_);refine V1 ?_;refine gu (t:=15) rfl (λSb=>?_) (λSb=>?_)
  . have E:j+i<ps.length:=oM
    obtain⟨p1,Q⟩:=aN E;obtain⟨X,Y⟩:=hq (j+i) p1 Q;obtain⟨J,O⟩:=aN X;have b:(q.drop j)[i]? =some J:=by rw[zco,<-Y];exact O
    obtain⟨vo,n,hso⟩:=(a w (aS.refl _ _)).get O;refine vS Sa 4 R (h:=?_);refine V2 ?_;refine GS (Gn rfl (λ_=>(ah.ajA rfl rfl (L _ R.au) T E)) ?_);refine GS (Gt rfl (ah.afv rfl (L _ R.au) T Q) ?_);refine dS Sa 9 _ R (MV (G _ R.au) (a _ R.au) P O) (h:=λwc Hc ka=>⟨sT,?_⟩);refine O2 ?_;refine fZ Sa kR ?_;refine Cz (λIe=>?_) (λIe=>?_)
    . have D:J.row=x.row:=by
        have h0:=(gL.eq0 x.row J.row).1 oM;exact h0.symm
      have Z:=ahO b D
      have M: ∀o∈(q.drop j).take (i+1),o.row=x.row:=by
        intro o S;rw[zaq,b]at S
        rcases zbh.1 S with h | h
        . exact v o h
        rw[zct,zaw]at h;rw[h];exact D
      refine Dz (λSc wd W=>?_);refine V3 ?_;refine GS (Gn rfl (λ_=>(ah.ajA rfl rfl (L _ W.au) T E)) ?_);refine GS (Gt rfl (ah.afv rfl (L _ W.au) T Q) ?_);refine GS (Gn rfl (λ_=>(ah.fT rfl rfl (bJ (G _ W.au)) (fP n))) ?_);refine V1 ?_;refine GS (Gt rfl (ah.dY (f:=1) rfl (Sep.aI _) (bJ (G _ W.au)) n rfl) ?_);refine dS Sc 8 [(0,false)] W (Tk J.w (N J (zag b))) (h:=λwe He kb=>⟨sU,?_⟩);refine dS Sc 9 _ He (Tm (wtL ((q.drop j).take i) x.row) J.w) (h:=λwf Hf kc=>⟨sT,?_⟩);refine cu Sc 10 _ Hf (h:=λwg Hg=>⟨sT,?_⟩);refine V1 ?_;refine Vv (ah.am0 rfl rfl E) (Uz (λwh Hh=>?_));refine V0 ?_;exact ak (i+1) tR ⟨⟨oM,M⟩,by rw[Z];exact Hh⟩ oM
    refine V1 ?_
    have d:0<i/\∀o,(q.drop j)[i]? =some o->o.row≠x.row:=by
      first
      | exact⟨oM,λo S=>by have:=fP S;omega⟩
      | (have C:jU x.row J.row≠0:=oM
         refine⟨Nat.pos_of_ne_zero λh=>C ?_,λo S e=>C ?_⟩
         . subst h;rw[hxq]at b;injection b with e;rw[<-e];exact gL.self _
         rw[b]at S;injection S with S;rw[S,e];exact gL.self _)
    have hb:=afw (l:=(q.drop j).take i) (λo S=>N o (zcj S)) x.row;have htl:((q.drop j).take i).length<=1000:=by rw[zah];omega
    refine Kz (Tn (wtL ((q.drop j).take i) x.row) oM oM) (λwi Hi kd=>?_);refine V7 ?_;refine Vv (ah.fT rfl rfl (bJ (G _ Hi.au)) (fP g)) (V1 ?_);refine Vv (ah.dY (f:=0) rfl (Sep.aI _) (bJ (G _ Hi.au)) g rfl) (F5 Hi (qw ((a _ Hi.au).2 p0 _ _ g P) s) (h:=?_));intro y wj _ Hj ke;obtain⟨Ay,cy,rfl,_,_⟩:=Sep.bX Hj At0;refine Mv ?_;refine Vb (aD (.slice Ay x.row.length cy,_)) ?_;refine Mv ?_;refine Tz (λwk Hk=>?_);refine V1 ?_;exact⟨_,dD Hk,(_,i),rfl,⟨d.1,hi,v,d.2⟩,(Hk.iy.iy.iy.aZ.aJ.aZ.aJ.aZ).first.bf⟩
  refine V2 ?_
  have d:0<i/\∀o,(q.drop j)[i]? =some o->o.row≠x.row:=by
    first
    | exact⟨oM,λo S=>by have:=fP S;omega⟩
    | (have C:jU x.row J.row≠0:=oM
       refine⟨Nat.pos_of_ne_zero λh=>C ?_,λo S e=>C ?_⟩
       . subst h;rw[hxq]at b;injection b with e;rw[<-e];exact gL.self _
       rw[b]at S;injection S with S;rw[S,e];exact gL.self _)
  have hb:=afw (l:=(q.drop j).take i) (λo S=>N o (zcj S)) x.row;have htl:((q.drop j).take i).length<=1000:=by rw[zah];omega
  refine Kz (Tn (wtL ((q.drop j).take i) x.row) oM oM) (λwl Hl kf=>?_);refine V7 ?_;refine Vv (ah.fT rfl rfl (bJ (G _ Hl.au)) (fP g)) (V1 ?_);refine Vv (ah.dY (f:=0) rfl (Sep.aI _) (bJ (G _ Hl.au)) g rfl) (F5 Hl (qw ((a _ Hl.au).2 p0 _ _ g P) s) (h:=?_));intro y wm _ Hm kg;obtain⟨Ay,cy,rfl,_,_⟩:=Sep.bX Hm At0;refine Mv ?_;refine Vb (aD (.slice Ay x.row.length cy,_)) ?_;refine Mv ?_;refine Tz (λwn Hn=>?_);refine V1 ?_;exact⟨_,dD Hn,(_,i),rfl,⟨d.1,hi,v,d.2⟩,(Hn.iy.iy.iy.aZ.aJ.aZ.aJ.aZ).first.bf⟩
end
def ahP (g:ps.Perm (List.range l.length)) (r:ps.Pairwise λi j=>∀a b,l[i]? =some a->l[j]? =some b->jU a.row b.row<=0):
    ∃q:List aH,q.length=ps.length/\(∀(i p:Nat),ps[i]? =some p->p<l.length/\l[p]? =q[i]?)/\q.Perm l/\CB q:=by
  have k: ∀p∈ps,p<l.length:=λp h=>zeg.1 (g.mem_iff.1 h);refine⟨ps.map λp=>l[p]?.getD ⟨[],0⟩,zae _,λi p h=>⟨k p (zag h),?_⟩,?_,?_⟩
  . have d:=k p (zag h)
    rw[zbw,h,zdk,zaa d];rfl
  . have S:=g.map λp=>l[p]?.getD ⟨[],0⟩
    have e:((List.range l.length).map λp=>l[p]?.getD ⟨[],0⟩)=l:=by
      refine List.ext_getElem sM λi d S=>?_;simp[zaa S]
    rw[e]at S;exact S
  unfold CB;rw[zft];refine r.imp_of_mem λ{a b} m o h=>h _ _ ?_ ?_
  . rw[zaa (k a m)];rfl
  rw[zaa (k b o)];rfl
section
variable {w:Wd}
theorem FN (hl:dM w v l) (hn:l.length<=1000) (hf: ∀o∈l,cB o.w) (G: ∀o∈l,o.row.length<=1000):
    aX Tryz.prog 73 [v] w λu w'=>∃x:Value×List fH,u=.tuple #[x.1,I (dJ l).2]/\x.2.map (·.2)=(dJ l).1/\cO noB (dB x.1 x.2) w w':=by
  have hl0:=hl;obtain⟨r,hr,E⟩:=hl;have hr0:=hr;obtain⟨B,m,rfl,⟨hm,Gj⟩,hA⟩:=hr;have EO:=E.len;have H:=Sep.aI w;refine dL Tryz.func73 ?_;refine Sr (bK H (cs:=[.slice B r.length m]) rfl (h:=λb1 w2 H2 k1=>?_));refine Az (λb4 w7 H7 k6=>?_);refine Uz (λw9 H9=>?_);refine Nz (acM (l:=l) (hl0.aK H9.au) hn) (λy wa hy Ha ka=>?_);obtain⟨S,ps⟩:=y;obtain⟨a,g⟩:=hy;dsimp only at Ha a g ⊢;obtain⟨A,c,rfl,hc,_⟩:=Sep.bX Ha At0;have Ha:=dz Ha At0;obtain⟨q,hql,hq,n,hqs⟩:=ahP a g;have hpl:ps.length=l.length:=by rw[a.length_eq,zdu]
  have hqf: ∀o∈q,cB o.w:=λo ho=>hf o (n.mem_iff.1 ho);refine Az (λb5 wb Hb kb=>?_);refine Uz (λwc Hc=>?_);refine V2 ?_;have hin:=(Sep.gQ (bU Hc) 25 2).iy.iy.eZ.iy;refine aM (λx:(OA×Nat)×List fH×Nat=>[(1,aC b1),(2,.slice x.1.1 (aW x.2.1).length x.1.2),(4,aC b4),(5,aC b5),(6,.func (.func 119) #[] #[aC b5,aC b4,aC b1])]) (λx w'=>(xH l (x.2.1.map (·.2)) (q.drop x.2.2)/\x.2.2<=ps.length/\x.2.1.length<=x.2.2)/\Mw.Sep w noB [Eo (.slice A ps.length c) FM 1 ps,blk b5 [psV A c ps.length x.2.2] 83,blk b4 [.slice B r.length m] 139,blk b1 [.slice B r.length m] 27,aY 25 2 aD (.slice x.1.1 (aW x.2.1).length x.1.2) (aW x.2.1),xg 48 3 aj (·.1) (λb:fH=>b.2.row) x.2.1] w') (λx _=>ps.length-x.2.2) ((none,0),[],0) tR ⟨⟨xH.start n hqs,zai _,zbk _⟩,hin⟩ (λx τ wd hI=>?_);obtain⟨⟨R,cR⟩,L,j⟩:=x;obtain⟨⟨d,hjn,hLj⟩,Hd⟩:=hI;dsimp only at d hjn hLj Hd;refine Lp ?_;refine Cz (λIe=>?_) (λIe=>?_)
  . have yL:j<ps.length:=oM
    obtain⟨p0,Y⟩:=aN yL;obtain⟨Z,f⟩:=hq j p0 Y;obtain⟨x,hx⟩:=aN Z;have F:(q.drop j)[0]? =some x:=by rw[zco,zfi,<-f];exact hx
    refine V1 ?_;have He:=Hd.bB.bB.aZ.aR.aZ.aJ;obtain⟨F0,hpF,hS0,K,Q⟩:=Sep.ajz He At0;refine fQ (fs:=[]) (cs:=[aC b5,aC b4,aC b1]) (vals:=[]) rfl (afx (A:=A) (c:=c) (j:=j) (ps:=ps) (V:=.slice B r.length m) (r:=r) (l:=l) (q:=q) (x:=x) hpF (λP t=>bJ (K P t).1) hc (λP t=>hr0.aK (K P t).2) (λP t=>E.aK (K P t).2) Y hx hq hql oM hn hqf (G x (zag hx))) rfl rfl (λv' we hv=>?_);obtain⟨⟨y,i⟩,rfl,⟨hi0,M,C,O⟩,W,F1,hq1,hs1⟩:=hv;have He:=(Q _ F1 _ W hq1 hs1).aJ.bW.aJ.bW.aJ.bW;dsimp only at hi0 M C O He;obtain⟨p,s,rfl,_,_⟩:=Sep.bX He At3;refine Az (λb7 wf Hf kc=>?_);refine Tz (λwg Hg=>?_);refine Cz (λIf=>?_) (λIf=>?_)
    . have e: ¬bM (wtL ((q.drop j).take i) x.row)=true:=λh=>If (by rw[zac h])
      have D:=d.bad F O e;refine V3 ?_;exact⟨(.slice none 0 0,[]),by rw[D];exact zay (λz=>Value.tuple #[Value.slice none 0 0,I z]) (zab e),by rw[D];rfl,(Sep.gQ (bU Hg) 25 2).aZ.first.bf⟩
    have e:bM (wtL ((q.drop j).take i) x.row)=true:=Decidable.of_not_not λh=>by
      have t:=If;rw[zab h]at t;exact t dC
    have k:=d.step F C O e;rw[zga]at k;rw[zac e]at Hg;refine Cz (λIg=>?_) (λIg=>?_)
    . rw[zac Ig]at k
      refine V2 ?_;refine Bs Hg ([(Value.slice p x.row.length s,wtL ((q.drop j).take i) x.row)].flatMap aD) (λbs wh Hh kd=>?_);have hLr:(aW L).length=L.length:=zae _;refine eH Hh (news:=[(Value.slice p x.row.length s,wtL ((q.drop j).take i) x.row)]) At6 kP kN (λu hu=>zaz.1 (show([(Value.slice p x.row.length s,wtL ((q.drop j).take i) x.row)].flatMap aD).all Value.oneCell'=true from rfl) u hu) (h:=?_);intro v9 wi Hi;obtain⟨R2,cR2,rfl,_,_⟩:=Sep.bX Hi At6;have J:=iO (x:=.slice p x.row.length s) (o:=⟨x.row,wtL ((q.drop j).take i) x.row⟩) (Hi.bN.jq.eZ)
      have T:aW L++[(Value.slice p x.row.length s,wtL ((q.drop j).take i) x.row)]=aW (L++[(Value.slice p x.row.length s,(⟨x.row,wtL ((q.drop j).take i) x.row⟩:aH))]):=by
        unfold aW;rw[zan];rfl
      have X:xH l ((L++[(Value.slice p x.row.length s,(⟨x.row,wtL ((q.drop j).take i) x.row⟩:aH))]).map (·.2)) (q.drop (j+i)):=by rw[zan];exact k
      have N:(L++[(Value.slice p x.row.length s,(⟨x.row,wtL ((q.drop j).take i) x.row⟩:aH))]).length=L.length+1:=by rw[zad];rfl
      rw[T]at J ⊢;clear T
      generalize L++[(Value.slice p x.row.length s,(⟨x.row,wtL ((q.drop j).take i) x.row⟩:aH))]=L2 at J X N |-
      refine V1 ?_;exact ak ((R2,cR2),L2,j+i) tR ⟨⟨X,M,dO⟩,J.iy.bB.bB.eZ.iy⟩ dO
    rw[zab Ig]at k;refine V0 ?_;exact ak ((R,cR),L,j+i) tR ⟨⟨k,M,dO⟩,Hg.bN.bB.bN.aR.bB⟩ dO
  have aqp:j=ps.length:=oM;have hno:q.drop j=[]:=zbv oM;rw[hno]at d;refine V3 ?_;exact⟨(_,L),by rw[d.done];rfl,by rw[d.done],Hd.eZ.iy.aJ.aZ.first.bf⟩
end
def okN (l:List aH) (i:Nat):Prop:=(∀(k:Nat) x,k<i->l[k]? =some x->x.w≠0)/\∀(k:Nat) x y,k+1<i->l[k]? =some x->l[k+1]? =some y->jU x.row y.row<0
def WJ (l:List aH):okN l 0:=⟨λ_ _ h=>zas h (zdy _),λ_ _ _ h=>zas h (zdy _)⟩
def FP {o:aH} (h:okN l i) (j:l[i]? =some o) (m:o.w≠0) (g:i=0\/∃p,l[i-1]? =some p/\jU p.row o.row<0):okN l (i+1):=by
 refine⟨λk x q S=>?_,λk x y q S a=>?_⟩
 .by_cases e:k=i
  .subst e;rw[j]at S;injection S with S;rw[<-S];exact m
  exact h.1 k x oM S
 by_cases e:k+1=i
 .rcases g with g | ⟨p,b,d⟩
  .omega
  rw[e,j]at a;injection a with a
  rw[<-e,zgi,S]at b;injection b with b
  rw[<-a,b];exact d
 exact h.2 k x y oM S a
def aaQ (h:okN l i) (hi:l.length<=i):iJ l=true:=
 yP.2 ⟨λx S=>by
  obtain⟨k,b,e⟩:=zew S;exact h.1 k x oM (by rw[zaa b,e]),λk x y S a=>h.2 k x y (by have:=fP a;omega) S a⟩
section
variable {w:Wd}
def Jm (K:dM w v l) (Y:l.length<=1000):Rk prog 32 [v] w (I (if iJ l=true then 0 else 2)):=by
 obtain⟨r,y,S⟩:=K;have t:=y;obtain⟨A,m,rfl,⟨X,M⟩,W⟩:=y;have N:=S.len;have H:=Sep.aI w;refine dL func32 ?_;refine V4 ?_;refine aM (λi:Nat=>[(0,.slice A r.length m),(5,.slice A r.length m),(6,I r.length),(7,I i)]) (λi Q=>(i<=r.length/\okN l i)/\Mw.Sep w noB [] Q) (λi _=>r.length-i) 0 tR ⟨⟨zai _,WJ l⟩,H⟩ (λi τ n J=>?_);obtain⟨⟨hi,b⟩,z⟩:=J;refine Lp ?_;refine Cz (λq=>?_) (λq=>?_)
 .have L:i<r.length:=oM
  have s:i<l.length:=oM;obtain⟨o,a⟩:=aN s;obtain⟨f,O,u⟩:=S.get a;obtain⟨R,co,rfl,_,_⟩:=u;refine Az (λV F T Z=>?_);refine Am ?_;refine Tz (λP g=>?_);refine Sz (λD=>?_) (λD=>?_)
  .refine V2 ?_
   have j: ¬iJ l=true:=λh=>by
    have d:=yP.1 h
    first
    | exact d.1 o (zag a) oM
    | (have G:=d.2 (i-1) p o k (by rw[zgk oM];exact a);omega)
   exact⟨by rw[zab j];rfl,g.au⟩
  refine Sz (λE=>?_) (λE=>?_)
  .refine V2 ?_
   obtain⟨p,k⟩:=aN (l:=l) (show i-1<l.length from oM);refine Vc ((i-1:Nat):Int) ?_;refine Kz (MV (t.aK g.au) (S.aK g.au) k a) (λwc x c=>?_);refine Cz (λC=>?_) (λC=>?_)
   .refine V1 ?_
    have j: ¬iJ l=true:=λh=>by
     have d:=yP.1 h
     first
     | exact d.1 o (zag a) oM
     | (have G:=d.2 (i-1) p o k (by rw[zgk oM];exact a);omega)
    exact⟨by rw[zab j];rfl,x.au⟩
   refine V2 ?_;exact ak (i+1) tR ⟨⟨oM,FP b a oM kW⟩,x.bN⟩ oM
  refine V4 ?_;exact ak (i+1) tR ⟨⟨oM,FP b a oM kW⟩,g.bN⟩ oM
 have e:l.length<=i:=oM;refine V1 ?_;exact⟨by rw[zac (aaQ b e)];rfl,z.au⟩
def afy {n m:Int} (g:aP w va aj 3 a) (i:aP w vb aj 3 b):Rk prog 71 [agg (aD (va,n)),agg (aD (vb,m))] w (.bool (decide (n=m/\a=b))):=by
 have H:=Sep.aI w;refine dn func71 ?_;refine Sr (bK H (cs:=aD (va,n)) rfl (h:=λj r S o=>?_));refine bK S (cs:=aD (vb,m)) rfl (h:=λl s k p=>?_);refine Sz (λe=>?_) (λe=>?_)
 .refine Kz (YX (g.aK k.au) (i.aK k.au)) (λt d q=>?_)
  refine V2 ?_;exact⟨by simp only[*,true_and,false_and,decide_false,fU]<;>rfl,d.au⟩
 refine V2 ?_;exact⟨by simp only[*,true_and,false_and,decide_false,fU]<;>rfl,k.au⟩
def uK (J:aP w va aj 3 a) (K:aP w vb aj 3 b):Rk prog 69 [va,vb] w (.bool (decide (a=b))):=by
  obtain⟨A,m,rfl,⟨Q,L⟩,t⟩:=J;obtain⟨B,N,rfl,⟨M,z⟩,u⟩:=K;have H:=Sep.aI w;refine dn func69 ?_;refine Cz (λd=>?_) (λd=>?_)
  . have k: ¬a=b:=λe=>d (by rw[e])
    refine V1 ?_;exact⟨by rw[zam k];rfl,H.au⟩
  have v:a.length=b.length:=oM;refine V1 ?_;refine aM (λi:Nat=>[(0,.slice A a.length m),(1,.slice B b.length N),(5,I i)]) (λi O=>(i<=a.length/\a.take i=b.take i)/\Sep w noB [] O) (λi _=>a.length-i) 0 tR ⟨⟨zai _,rfl⟩,H⟩ (λi V R G=>?_);obtain⟨⟨hi,heq⟩,C⟩:=G;refine Lp ?_;refine Cz (λD=>?_) (λD=>?_)
  . have g:i<a.length:=oM
    have h:i<b.length:=oM;obtain⟨x,q⟩:=aN g;obtain⟨y,S⟩:=aN h;refine Dz (λE T j=>?_);refine V2 ?_;refine GS (Gn rfl (λ_=>ah.fT rfl rfl t g) ?_);refine GS (Gt rfl (ah.iT rfl j t q) ?_);refine V2 ?_;refine GS (Gn rfl (λ_=>ah.fT rfl rfl u h) ?_);refine GS (Gt rfl (ah.iT rfl j u S) ?_);refine GS (Gn rfl (λ_=>ah.af8 (enc:=aj) x y rfl rfl) ?_);refine fZ E kR ?_;refine Cz (λl=>?_) (λl=>?_)
    . have k: ¬a=b:=λe=>by
        subst e;rw[q]at S;injection S with S
        exact l S
      refine V1 ?_;exact⟨by rw[zam k];rfl,j.au⟩
    have r:x=y:=Decidable.of_not_not l;have p:a.take (i+1)=b.take (i+1):=by rw[zaq,zaq,q,S,heq,r]
    refine V3 ?_;exact ak (i+1) tR ⟨⟨oM,p⟩,j⟩ oM
  have o:a=b:=by
    have s:=heq;rw[zaj oM,zaj oM]at s;exact s
  refine V1 ?_;exact⟨by rw[zau o];rfl,C.au⟩
def lV {l:List aF} (b:aP w v aj 3 l) (S:l.length<=1000):aX prog 37 [v] w λe g=>∃x,e=x/\True/\cO noB (aY 48 3 aj x l) w g:=by
 obtain⟨A,m,rfl,⟨i,d⟩,a⟩:=b;have H:=Sep.aI w;refine dL func37 ?_;refine V4 ?_;have k:=Sep.iX H 48 3 aj;refine mq k At0 (a.aK H.au) kP kN (dW (λ_=>rfl) _) (h:=?_);intro j o k;refine V1 ?_;exact⟨_,rfl,trivial,by rw[zby]at k;exact k.bf⟩
end
end
open Go.RowKit
variable {P:Program} {ρ:Od->Value} {ty:Td} {w:Wd}
def ah.zf {T e m size:Nat} [d:zI P T m e] [a:Cells P e size bytes] {z:Value} [g:Zero P T z] {zs:LV} {parts:List (Nat×Od)} {out:LV} (S:z.cells=zs.toArray) (h:bQ (λi:Nat=>some (i*size,size)) ρ parts zs out):ah P ρ (.build T parts.toArray) ty w (.agg out.toArray) w:=λ_ _ _ _=>by
 obtain⟨i,hi,k⟩:=zbb.1 a.size;simp only[Prod.mk.injEq]at k;have b:=FZ h;simp only[execOp,Instr.build,zbj,g.run,zar,run_underlying d.und,S,zch,sizeOf,typeInfo,run_program,hi,zbl,k.1,b]
section
attribute [local irreducible] FW FL FG FGn jX lg gD l7 Qfn ah
def pwL (l:List aH) (r:List aF):List (Int×Int):=(l.filter λx=>decide (x.row=r)).map λx=>(x.w,1)
def afz (r:List aF): ∀l:List aH,rP (pwL l r)=wtL l r
 | []=>rfl
 | x::l=>by
  have i:=afz r l;unfold pwL at i ⊢;rw[wtL,zej]
  by_cases h:x.row=r
  .rw[zac (zau h),zac h,zbc,rP,i];show x.w*1+_=_;omega
  rw[zab Iy,zab h,i];omega
def ahQ {o:aH} {r:List aF} (h:l[i]? =some o):pwL (l.take (i+1)) r=pwL (l.take i) r++(if o.row=r then [(o.w,1)]else []):=by
 unfold pwL;rw[zaq,h,zel,zan]
 congr 1
 by_cases k:o.row=r
 .rw[zac k];simp[k]
 rw[zab k];simp[k]
def afA (l:List aH) (r:List aF):(pwL l r).length<=l.length:=by
 unfold pwL;rw[zae];exact zee _ _
def tN (f:Int) (l:List aH):List aH×Int:=if iJ l=true then(if(l.all λx=>bM (f*x.w))=true then((l.map λx=>(⟨x.row,f*x.w⟩:aH)).filter λx=>decide (x.w≠0),0)else([],50))else([],2)
section
variable {w:Wd}
def acO {vr:Value} {r:List aF} (L:dM w v l) (O:aP w vr aj 3 r) (n:l.length<=1000) (K: ∀o∈l,cB o.w):
    Rk Tryz.prog 114 [v,vr] w (.tuple #[I (if bM (wtL l r)=true then wtL l r else 0),I (if bM (wtL l r)=true then 0 else 50)]):=by
  obtain⟨z,V,S⟩:=L;obtain⟨A,m,rfl,⟨f,N⟩,Z⟩:=V;have W:=S.len;have H:=Sep.aI w;refine dn Tryz.func114 ?_;refine V4 ?_;refine aM (λx:(OA×Nat)×Nat=>[(0,.slice A z.length m),(1,vr),(6,.slice x.1.1 (pwL (l.take x.2) r).length x.1.2),(7,I x.2)]) (λx X=>x.2<=z.length/\Sep w noB [aY 262 2 mI (.slice x.1.1 (pwL (l.take x.2) r).length x.1.2) (pwL (l.take x.2) r)] X) (λx _=>z.length-x.2) ((none,0),0) tR ⟨zai _,Sep.iX H 262 2 mI⟩ (λx τ w6 J=>?_);obtain⟨⟨R,G⟩,i⟩:=x;obtain⟨hi,a⟩:=J;dsimp only at hi a;refine Lp ?_;refine Cz (λD=>?_) (λD=>?_)
  . have M:i<z.length:=oM
    obtain⟨o,b⟩:=aN (l:=l) (show i<l.length from oM);obtain⟨vo,Q,t⟩:=S.get b;have k:=ahQ (r:=r) b;have q:=afA (l.take i) r;rw[zah]at q;refine Kz (uK (t.aK a.au) (O.aK a.au)) (λwa u F=>?_);refine Cz (λe=>?_) (λe=>?_)
    . rw[zac e]at k
      refine V6 ?_;refine Vv (ah.zf (zs:=[I 0,I 0]) (out:=mI (o.w,1)) rfl (bQ.one rfl rfl rfl sM rfl (bQ.one rfl rfl rfl sM rfl bQ.nil))) (Bs u ([(o.w,(1:Int))].flatMap mI) (λY wb y P=>?_));refine eH y (news:=[(o.w,(1:Int))]) At0 kJ kM (dW (λ_=>rfl) _) (h:=?_);intro v6 wc d;rw[<-k]at d;obtain⟨E,c,rfl,_,_⟩:=Sep.bX d At0;refine V4 ?_;exact ak ((E,c),i+1) tR ⟨dO,d⟩ dO
    rw[zab e,zbt]at k;refine V3 ?_;exact ak ((R,G),i+1) ⟨rfl,rfl,by dsimp only;rw[k];rfl,rfl,trivial⟩ ⟨dO,by dsimp only;rw[k];exact u⟩ dO
  have g:l.take i=l:=zaj oM;refine V1 ?_;have j:=gP a At0
  have p: ∀x∈pwL (l.take i) r,cB x.1/\cB x.2:=λx T=>by
    obtain⟨o,b,rfl⟩:=zav.1 T;exact⟨K o (zcj (zca.1 b).1),by show -9223372036854775808<=(1:Int)/\(1:Int)<=9223372036854775807;decide⟩
  have s:=afA (l.take i) r;rw[zah]at s;refine Kz (Jj j p oM) (λwd C kc=>?_);rw[afz,g];refine V4 ?_;exact⟨rfl,C.au⟩
def Jo (Q:dM w v l) (Y:l.length<=1000):Rk Tryz.prog 116 [v] w (I (if iJ l=true then 0 else 2)):=by
 obtain⟨r,T,S⟩:=Q;obtain⟨A,m,rfl,⟨X,R⟩,e⟩:=T;have V:=S.len;have H:=Sep.aI w;refine dL Tryz.func116 ?_;refine V2 ?_;refine aM (λi:Nat=>[(0,.slice A r.length m),(3,I i)]) (λi W=>(i<=r.length/\okN l i)/\Mw.Sep w noB [] W) (λi _=>r.length-i) 0 tR ⟨⟨zai _,WJ l⟩,H⟩ (λi τ F O=>?_);obtain⟨⟨hi,d⟩,J⟩:=O;refine Lp ?_;refine Cz (λy=>?_) (λy=>?_)
 .have q:i<r.length:=oM
  have z:i<l.length:=oM;obtain⟨o,b⟩:=aN z;obtain⟨c,s,C⟩:=S.get b;refine Dz (λu P a=>?_);refine V2 ?_;refine GS (Gn rfl (λ_=>ah.fT rfl rfl e q) ?_);refine V1 ?_;refine GS (Gt rfl (ah.dY (f:=1) rfl a e s rfl) ?_);refine V2 ?_;refine gu (t:=16) rfl (λL=>?_) (λL=>?_)
  .refine V2 ?_
   have x: ¬iJ l=true:=λh=>by
    have g:=yP.1 h
    first
    | exact g.1 o (zag b) oM
    | (have N:=g.2 (i-1) p o k (by rw[zgk oM];exact b);omega)
   exact⟨by rw[zab x];rfl,a.au⟩
  refine V3 ?_;refine gu (t:=19) rfl (λM=>?_) (λM=>?_)
  .obtain⟨p,k⟩:=aN (l:=l) (show i-1<l.length from oM)
   obtain⟨n,E,D⟩:=S.get k;refine Gm u 10 ?_;refine V1 ?_;refine Gc u 12 ((i-1:Nat):Int) ?_;refine GS (Gn rfl (λ_=>ah.fT (i:=i-1) rfl rfl e oM) ?_);refine V1 ?_;refine GS (Gt rfl (ah.dY (f:=0) rfl a e E rfl) ?_);refine V2 ?_;refine GS (Gn rfl (λ_=>ah.fT rfl rfl e q) ?_);refine V1 ?_;refine GS (Gt rfl (ah.dY (f:=0) rfl a e s rfl) ?_);refine dS u 21 _ a (Kq (D.aK a.au) (C.aK a.au)) (h:=λwb G Z=>⟨sT,?_⟩);refine O3 ?_;refine fZ u kR ?_;refine Cz (λK=>?_) (λK=>?_)
   .refine V1 ?_
    have x: ¬iJ l=true:=λh=>by
     have g:=yP.1 h
     first
     | exact g.1 o (zag b) oM
     | (have N:=g.2 (i-1) p o k (by rw[zgk oM];exact b);omega)
    exact⟨by rw[zab x];rfl,G.au⟩
   refine V3 ?_;exact ak (i+1) tR ⟨⟨oM,FP d b oM kW⟩,G⟩ oM
  refine V5 ?_;exact ak (i+1) tR ⟨⟨oM,FP d b oM kW⟩,a⟩ oM
 have j:l.length<=i:=oM;refine V1 ?_;exact⟨by rw[zac (aaQ d j)];rfl,J.au⟩
end
end
variable {m:List aH}
def ah.WK {t e:Td} [h:dR P t e] {m c:Nat} (k:ρ x=.slice A m c):ah P ρ (.call {callee:=.builtin .cap,args:= #[x],argTypes:= #[t]}) ty w (.int .i64 c) w:=λ_ _ _ _=>by
 simp[execOp,resolve,invoke,builtin,k,Builtin.cap_,run_underlying h.und,goInt]
section
attribute [local irreducible] FW FL FG FGn jX lg gD l7 Qfn ah
def FQ {a b:aH} (h:l.take i=m.take i) (k:l[i]? =some a) (S:m[i]? =some b):(l.take (i+1)=m.take (i+1))↔a=b:=by
 rw[zaq,zaq,k,S,h];simp
def C9 {a b:aH}:(a.w=b.w/\a.row=b.row)↔a=b:=⟨λh=>aH.ext' h.2 h.1,λh=>by rw[h];exact⟨rfl,rfl⟩⟩
instance:DecidableEq aH:=λa b=>decidable_of_iff (a.w=b.w/\a.row=b.row) C9
abbrev Tw:=OA×Nat×List (Value×Int)
def am2 (x:Tw):Value:=.slice x.1 x.2.2.length x.2.1
def ahR (x:Tw):LV:=[am2 x]
instance:jl ahR 1:=⟨λ_=>rfl⟩
def Qr {l:List Tw} {x:Tw} (h:l[i]? =some x):(l.take (i+1)).flatMap (·.2.2)=(l.take i).flatMap (·.2.2)++x.2.2:=by
 rw[zaq,h,zbu];simp
def aaR {l:List Tw} (i:Nat):((l.take i).flatMap (·.2.2)).length<=(l.flatMap (·.2.2)).length:=by
 conv=>rhs;rw[<-zbs i l,zbu,zad]
 omega
def uE {l:List aH} (h:gM w r l): ∀u∈r.flatMap aD,u.oneCell'=true:=by
 intro u k;obtain⟨x,a,k⟩:=zcc.1 k;obtain⟨i,hi,e⟩:=zew a;have b:=h.len;obtain⟨A,c,S,_,_⟩:=h.2 i x l[i] (by rw[zaa hi,e]) (zaa oM);have k:u=x.1\/u=I x.2:=by simpa[aD]using k
 rcases k with e | e
 .rw[e,S];rfl
 rw[e];rfl
section
variable {w:Wd}
def Y6 (W:dM w va l) (Y:dM w vb m):
    Rk Tryz.prog 70 [va,vb,.func (.func 71) #[] #[]] w (.bool (decide (l=m))):=by
  obtain⟨r,Z,h⟩:=W;obtain⟨s,f,k⟩:=Y;obtain⟨A,c,rfl,⟨hc,T⟩,hA⟩:=Z;obtain⟨B,d,rfl,⟨hd,V⟩,hB⟩:=f;have z:=h.len;have C:=k.len;have H:=Sep.aI w;refine uU Tryz.func70 ?_;refine Cz (λa=>?_) (λa=>?_)
  . have S: ¬l=m:=λe=>a (by rw[z,C,e])
    refine V1 ?_;exact⟨by rw[zam S];rfl,H.au⟩
  have E:r.length=s.length:=oM;refine V3 ?_;refine aM (λi:Nat=>[(0,.slice A r.length c),(1,.slice B s.length d),(2,.func (.func 71) #[] #[]),(15,.slice A r.length c),(16,I r.length),(17,I i)]) (λi w'=>(i<=r.length/\l.take i=m.take i)/\Mw.Sep w noB [] w') (λi _=>r.length-i) 0 tR ⟨⟨zai _,rfl⟩,H⟩ (λi τ wa R=>?_);obtain⟨⟨hi,heq⟩,N⟩:=R;refine Lp ?_;refine Cz (λO=>?_) (λO=>?_)
  . have X:i<r.length:=oM
    have G:i<s.length:=oM;obtain⟨o,J⟩:=aN (l:=l) (show i<l.length from oM);obtain⟨p,K⟩:=aN (l:=m) (show i<m.length from oM);obtain⟨vo,F,g⟩:=h.get J;obtain⟨vp,P,q⟩:=k.get K;have u:=FQ heq J K;have j:=g;have t:=q;obtain⟨L,co,rfl,_,_⟩:=g;obtain⟨M,Q,rfl,_,_⟩:=q;refine Az (λb8 wb Hb ka=>?_);refine Am ?_;refine Tz (λwc Hc=>?_);refine Az (λb9 wd Hd kb=>?_);refine Tz (λwe v=>?_);refine V3 ?_;refine fQ (fs:=[]) (cs:=[]) (vals:=[agg (aD (.slice L o.row.length co,o.w)),agg (aD (.slice M p.row.length Q,p.w))]) rfl (afy (j.aK v.au) (t.aK v.au)) rfl rfl (λv' wf n=>?_);obtain⟨rfl,kc⟩:=n;have D:=v.aK kc;refine Vv (ah.notP rfl) (Cz (λx=>?_) (λx=>?_))
    . have S: ¬l=m:=λe=>x (C9.2 (u.1 (by rw[e])))
      refine V1 ?_;exact⟨by rw[zam S];rfl,D.au⟩
    have y:=u.2 (C9.1 (Decidable.of_not_not x));refine V2 ?_;exact ak (i+1) tR ⟨⟨oM,y⟩,D.bN.bN⟩ oM
  have b:l=m:=by
    rw[zaj oM,zaj oM]at heq;exact heq
  refine V1 ?_;exact⟨by rw[zau b];rfl,N.au⟩
def FR (k:dM w va l) (S:dM w vb m):Rk Tryz.prog 30 [va,vb] w (.bool (decide (l=m))):=by
 have H:=Sep.aI w;refine dn Tryz.func30 ?_;refine Kz (Y6 (k.aK H.au) (S.aK H.au)) (λb h a=>?_);refine V1 ?_;exact⟨rfl,h.au⟩
def afB (n:Nat) (i:n<=100000):aX Tryz.prog 124 [.slice none 0 0,I n] w λu e=>∃x:Value,u=x/\True/\cO noB (aY 25 2 aD x []) w e:=by
 have H:=Sep.aI w;refine dn Tryz.func124 ?_;refine Cz (λk=>?_) (λk=>?_)
 .omega
 refine V2 ?_;refine Vv (ah.WK rfl) (V2 ?_);refine Vc 0 ?_;refine Vc (n:Int) ?_;refine Cz (λa=>?_) (λa=>?_)
 .refine V2 ?_
  refine Vv (ah.WK rfl) (Vv (ah.sliceTo (h:=0) rfl rfl oM) ?_);refine Mv ?_;refine aiq H (m:=n) rfl rfl oM (h63:=by unfold maxLen;omega) (hbytes:=by omega) (h:=?_);intro g c j d b S;refine V2 ?_;refine Vv (ah.sliceTo (h:=0) rfl rfl oM) (V3 ?_);exact⟨_,rfl,trivial,S.first.bf⟩
 refine V2 ?_;exact⟨_,rfl,trivial,(Sep.gQ H 25 2).first.bf⟩
end
end
end Go.Proofs.Mw
