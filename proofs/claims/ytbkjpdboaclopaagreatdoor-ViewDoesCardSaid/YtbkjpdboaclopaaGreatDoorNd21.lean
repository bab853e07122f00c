/-
 Sorting by a function:rows turned round,patterns broken,a few insertions,walked.
-/
import Derived.Test.YtbkjpdboaclopaaGreatDoorNd20
set_option linter.all false
set_option maxRecDepth 4000
namespace Go.Proofs.Mw
open Go.Lib Go.Sort Go.Proofs.Tryz
attribute [local irreducible] FW FL FG FGn jJ jO fC lJ Qfn Gives
section
variable {α:Type} [Inhabited α] {f:α->Int} {cf:α->α->Int} {w:Wd} {F:NP} {A:OA} {n c:Nat} {d₀:Array α} {fv:Value}
def aat {a b:Nat} (hp:(gG f A n c d₀).ok F w) (zG:n=d₀.size) (LU:a<b) (hb:b<=n) (pR:n<=1000000):
    aQ prog 348 [.slice A n c,I a,I b,fv] w λr w'=>r=.tuple #[]/\Turn F (gG f A n c (reverseRange d₀ a b)) w w':=by
  have H:=Sep.bW hp;obtain⟨res,ak⟩: ∃res,res=reverseRange d₀ a b:=⟨_,rfl⟩;rw[<-ak];unfold reverseRange at ak;refine yM func348 ?_;refine V3 ?_;refine Vc ((b-1:Nat):Int) ?_;refine V1 ?_;refine aI (λx:Nat×Nat×Array α=>[(0,.slice A n c),(8,I x.1),(9,I x.2.1)]) (λx w'=>((n=x.2.2.size/\x.2.1<n)/\reverseLoop x.1 x.2.1 x.2.2=res)/\Sep w F [gG f A n c x.2.2] w') (λx _=>x.2.1-x.1) (a,b-1,d₀) tR ⟨⟨⟨zG,dO⟩,ak.symm⟩,H⟩ (λx τ _ hI=>?_);obtain⟨i,j,d⟩:=x;obtain⟨⟨⟨hn,hjn⟩,hi⟩,k⟩:=hI;dsimp only at hn hjn hi k;have hR:=rdI hn k At0;refine Lp ?_;refine Cz (λS=>?_) (λS=>?_)
  . have aX:i<j:=oM
    rw[reverseLoop,zac aX]at hi;refine Dz (λ_ _ _=>?_);refine V13 ?_;refine FsI (λ_ _=>?_);refine V1 ?_;refine FsI (λ_ S=>?_);refine V1 ?_;refine Vc ((i+1:Nat):Int) ?_;refine V2 ?_;refine Vc ((j-1:Nat):Int) ?_;refine V1 ?_;exact aj (i+1,j-1,swp d i j) tR ⟨⟨⟨by rw[swp_size];exact hn,dO⟩,hi⟩,S⟩ dO
  rw[reverseLoop,zaa oM]at hi;refine V0 ?_;exact⟨rfl,by rw[<-hi];exact k.turn⟩
def ahq {b x:Nat} {E:Td} (hp:(blk b [U x] E).ok F w) (hx:x<18446744073709551616):aQ prog 309 [av b] w λr w'=>∃y:Nat,r=U y/\y<18446744073709551616/\Turn F (blk b [U y] E) w w':=by
 have H:=Sep.bW hp;refine dh func309 ?_;obtain⟨a1,Vj⟩: ∃a:Nat,a=x^^^(x*8192%18446744073709551616):=⟨_,rfl⟩;obtain⟨a2,Vz⟩: ∃a:Nat,a=a1^^^(a1/128):=⟨_,rfl⟩;obtain⟨a3,ha3⟩: ∃a:Nat,a=a2^^^(a2*131072%18446744073709551616):=⟨_,rfl⟩;have l1:a1<18446744073709551616:=by rw[Vj];exact Nat.xor_lt_two_pow (n:=64) oM oM
 have l2:a2<18446744073709551616:=by rw[Vz];exact Nat.xor_lt_two_pow (n:=64) oM oM
 have l3:a3<18446744073709551616:=by rw[ha3];exact Nat.xor_lt_two_pow (n:=64) oM oM
 refine Dz (λk _ S=>?_);refine V6 ?_;refine GS (Gn rfl (λ_=>Gives.am7 (c:=((x*8192%18446744073709551616:Nat):Int)) rfl rfl dC (by show IntKind.u64.wrap ((x:Int)*2^13)=_;rw[IntKind.wrap_u64];omega)) ?_);refine GS (Gn rfl (λ_=>Gives.am8 (c:=(a1:Int)) rfl rfl (by rw[bits_xor_u64_nat _ _ hx oM,Vj])) ?_);refine V1 ?_;refine l8 k 9 _ S (h:=λ_ _=>⟨sT,?_⟩);refine Dz (λS _ k=>?_);refine V6 ?_;refine GS (Gn rfl (λ_=>Gives.arp (c:=((a1/128:Nat):Int)) rfl rfl dC (by show(a1:Int).fdiv (2^7)=_;rw[zfv _ dC];omega)) ?_);refine GS (Gn rfl (λ_=>Gives.am8 (c:=(a2:Int)) rfl rfl (by rw[bits_xor_u64_nat _ _ l1 oM,Vz])) ?_);refine V1 ?_;refine l8 S 9 _ k (h:=λ_ _=>⟨sT,?_⟩);refine Dz (λk _ S=>?_);refine V6 ?_;refine GS (Gn rfl (λ_=>Gives.am7 (c:=((a2*131072%18446744073709551616:Nat):Int)) rfl rfl dC (by show IntKind.u64.wrap ((a2:Int)*2^17)=_;rw[IntKind.wrap_u64];omega)) ?_);refine GS (Gn rfl (λ_=>Gives.am8 (c:=(a3:Int)) rfl rfl (by rw[bits_xor_u64_nat _ _ l2 oM,ha3])) ?_);refine V1 ?_;refine l8 k 9 _ S (h:=λ_ S=>⟨sT,?_⟩);refine V4 ?_;exact⟨a3,rfl,l3,S.turn⟩
def JL {m:Nat} (h0:0<m) (hm:m<1000000):2^Lib.bitLen m<=2*m/\m<2^Lib.bitLen m/\Lib.bitLen m<=62:=by
 obtain⟨h1,h2,h3⟩:=bitLenAux_bounds 64 m oM oM;have h1':1<=Lib.bitLen m:=h1;have h2':2^(Lib.bitLen m-1)<=m:=h2
 have e:2^Lib.bitLen m=2*2^(Lib.bitLen m-1):=by
  conv=>lhs;rw[show Lib.bitLen m=(Lib.bitLen m-1)+1 from oM,Nat.pow_succ]
  omega
 refine⟨oM,h3,?_⟩;refine Classical.byContradiction λh=>?_;have:=Nat.pow_le_pow_right (n:=2) dC (show 20<=Lib.bitLen m-1 from oM);omega
def EK (m:Nat) (hm:m<4611686018427387904):aQ prog 159 [U m] w λr w'=>r=I (Lib.bitLen m)/\w=w':=by
 have:=Tryz.bits_Len (m:Int) w oM oM;rw[zds]at this;refine lH (Calls.mono this λe w' he=>?_);obtain⟨rfl,rfl⟩:=he;exact⟨rfl,rfl⟩
def amS (m:Nat) (h0:0<m) (hm:m<1000000):aQ prog 308 [I m] w λr w'=>r=U ((2^Lib.bitLen m:Nat):Int)/\w=w':=by
 obtain⟨Fv,hb2,hb3⟩:=JL h0 hm;obtain⟨q,hq⟩: ∃q,q=Lib.bitLen m:=⟨_,rfl⟩;obtain⟨M,hM⟩: ∃M,M=2^q:=⟨_,rfl⟩;have hb:=EK (w:=w) m oM;rw[<-hq]at Fv hb2 hb3 hb ⊢;rw[<-hM]at Fv hb2 |-
 have e:(1:Int)*2^(Min.min (Int.toNat (q:Int)) 64)=(M:Int):=by
  rw[zds,zcp oM,Int.one_mul,hM,Int.natCast_pow];rfl
 refine dh func308 ?_;refine V2 ?_;refine Vv (Gives.zw (c:=(m:Int)) rfl (by rw[IntKind.wrap_u64];omega)) ?_;refine eG hb (h:=?_);refine dD (Gives.am7 (c:=(M:Int)) rfl rfl oM (by
 show IntKind.u64.wrap ((1:Int)*2^(Min.min (Int.toNat (q:Int)) 64))=_
 rw[e,IntKind.wrap_u64];omega)) rfl ?_
 refine V1 ?_;exact⟨rfl,rfl⟩
def ahr {a b:Nat} (hp:(gG f A n c d₀).ok F w) (zG:n=d₀.size) (LU:a+12<b) (hb:b<=n) (pR:n<1000000):
    aQ prog 346 [.slice A n c,I a,I b,fv] w λr w'=>∃d':Array α,r=.tuple #[]/\PermIn a b d₀ d'/\Turn F (gG f A n c d') w w':=by
  have H:=Sep.bW hp;obtain⟨l,hl⟩: ∃l,l=b-a:=⟨_,rfl⟩;obtain⟨i0,hi0⟩: ∃i0,i0=a+l/4*2-1:=⟨_,rfl⟩;obtain⟨hpw,Ql,_⟩:=JL (m:=l) oM oM;obtain⟨M,hM⟩: ∃M,M=2^Lib.bitLen l:=⟨_,rfl⟩;rw[<-hM]at hpw Ql;refine yM func346 ?_;refine V2 ?_;refine Vc (l:Int) ?_;refine Cz (λS=>?_) (λS=>?_)
  . have h8:=S
    refine V1 ?_;refine Vv (Gives.zw (c:=(l:Int)) rfl (by rw[IntKind.wrap_u64];omega)) ?_;refine Az (λb9 _ _ _=>?_);refine Uz (λ_ e=>?_);refine V1 ?_;refine eG (amS l oM oM) (h:=?_);rw[<-hM];refine V3 ?_;refine Vv (Gives.GZ (a:=l) (b:=4) rfl rfl dC oM) (Vc ((l/4*2:Nat):Int) ?_);refine Vc ((a+l/4*2:Nat):Int) ?_;refine Vc (i0:Int) ?_;refine V1 ?_;refine aI (λx:Nat×Nat×Array α=>[(0,.slice A n c),(1,I a),(8,I l),(9,av b9),(10,U M),(11,I ((i0+x.1:Nat):Int))]) (λx w'=>(x.1<=3/\x.2.1<18446744073709551616/\PermIn a b d₀ x.2.2)/\Sep w F [blk b9 [U x.2.1] 363,gG f A n c x.2.2] w') (λx _=>3-x.1) (0,l,d₀) tR ⟨⟨zai _,dO,permIn_refl _ _ _⟩,e⟩ (λx τ _ hI=>?_);obtain⟨k,x,d⟩:=x;obtain⟨⟨hk3,hx,DT⟩,e⟩:=hI;dsimp only at hk3 hx DT e;have hn:n=d.size:=by rw[DT.1];exact zG
    refine Lp ?_;refine V3 ?_;refine Vv (Gives.GZ (a:=l) (b:=4) rfl rfl dC oM) (Vc ((l/4*2:Nat):Int) ?_);refine Vc ((a+l/4*2:Nat):Int) ?_;refine Vc ((a+l/4*2+1:Nat):Int) ?_;refine Cz (λg=>?_) (λg=>?_)
    . have hk2:k<3:=oM
      refine V0 ?_;obtain⟨F0,eO,gQ,aK⟩:=e.focus At0;refine aL (ahq eO hx) rfl rfl (λv' _ hv=>?_);obtain⟨y,rfl,hy,asA,F1,hq,hs⟩:=hv;have g:=aK _ F1 _ asA hq hs;refine Mv ?_;refine Vv (Gives.am5 (c:=((M-1:Nat):Int)) rfl rfl (by rw[IntKind.wrap_u64];omega)) ?_;have asB:y&&& (M-1)<=M-1:=Nat.and_le_right;refine Vv (Gives.am6 (c:=((y&&& (M-1):Nat):Int)) rfl rfl (bits_and_u64_nat y (M-1) hy oM)) ?_;obtain⟨z,hz⟩: ∃z,z=y&&& (M-1):=⟨_,rfl⟩;rw[<-hz]at asB ⊢;refine Vv (Gives.zw (c:=(z:Int)) rfl (by rw[IntKind.wrap_i64];omega)) ?_;refine Am ?_;refine Qn (dB (λz:Nat=>[(0,.slice A n c),(1,I a),(8,I l),(9,av b9),(10,U M),(11,I ((i0+k:Nat):Int)),(12,I z)]) (λz w'=>z<l/\Sep w F [blk b9 [U y] 363,gG f A n c d] w') ?_ ?_)
      . refine Cz (λi=>?_) (λi=>?_)
        . have hzl:=i
          refine V2 ?_;refine Vc ((z-l:Nat):Int) ?_;refine V1 ?_;exact au (z-l) tR ⟨oM,g⟩
        have hzl:=i;refine V0 ?_;exact au z tR ⟨oM,g⟩
      intro o τ i ⟨ho,i⟩;have i:=i.aF;have hR:=rdI hn i At0;refine Lp ?_;refine Dz (λi _ _=>?_);refine V5 ?_;refine Gc i 5 ((a+o:Nat):Int) ?_;refine V3 ?_;refine Gc i 9 ((a+o:Nat):Int) ?_;refine V7 ?_;refine FsI (λ_ _=>?_);refine V1 ?_;refine FsI (λ_ i=>?_);refine V1 ?_;refine Vc ((i0+(k+1):Nat):Int) ?_;refine V1 ?_;exact aj (k+1,y,swp d (i0+k) (a+o)) tR ⟨⟨dO,hy,permIn_trans _ _ _ _ _ DT (swp_permIn d a b (i0+k) (a+o) oM oM oM oM oM)⟩,i.aF⟩ dO
    have nW:k=3:=oM;refine V0 ?_;exact⟨d,rfl,DT,e.bI.turn⟩
  exact zas S oM
def PY (lt:α->α->Bool) (d:Array α) (b:Nat): ∀(k i:Nat),b-i=k->i<=scanSorted lt d b i/\(i<=b->scanSorted lt d b i<=b):=by
 intro k
 induction k with
 | zero=>intro i h;rw[scanSorted,zaa (by simp;intro _;omega)];exact⟨zbi _,id⟩
 | succ k ih=>
  intro i h;rw[scanSorted]
  split
  .obtain⟨h1,h2⟩:=ih (i+1) oM
   exact⟨oM,λ_=>h2 oM⟩
  exact⟨zbi _,id⟩
set_option maxHeartbeats 1000000 in
theorem aau {a b:Nat} (hp:(gG f A n c d₀).ok F w) (zG:n=d₀.size) (LU:a+12<b) (hb:b<=n) (pR:n<=1000000) (oJ:pK Tryz.prog fv f cf F w):
    aQ Tryz.prog 349 [.slice A n c,I a,I b,fv] w λr w'=>r=.bool (partialInsertionSort (ltC cf) d₀ a b).2/\Turn F (gG f A n c (partialInsertionSort (ltC cf) d₀ a b).1) w w':=by
  have H:=Sep.bW hp;obtain⟨res,ak⟩: ∃res,res=partialInsertionSort (ltC cf) d₀ a b:=⟨_,rfl⟩;rw[<-ak];unfold partialInsertionSort at ak;refine yM Tryz.func349 ?_;refine V2 ?_;refine Vc ((a+1:Nat):Int) ?_;refine V2 ?_;refine aI (λx:Nat×Nat×Array α=>[(0,.slice A n c),(1,I a),(2,I b),(3,fv),(9,I x.2.1),(10,I x.1)]) (λx w'=>((n=x.2.2.size/\x.1<=5/\a<x.2.1/\x.2.1<=b)/\partialIns (ltC cf) a b (5-x.1) x.2.1 x.2.2=res)/\Sep w F [gG f A n c x.2.2] w') (λx _=>5-x.1) (0,a+1,d₀) tR ⟨⟨⟨zG,zai _,dO,dO⟩,ak.symm⟩,H⟩ (λx τ w7 hI=>?_);obtain⟨s,i,d⟩:=x;obtain⟨⟨⟨hn,hs5,hai,hib⟩,hi⟩,H7⟩:=hI;dsimp only at hn hs5 hai hib hi H7;have hR:=rdI hn H7 At0;refine Lp ?_;refine Cz (λIe=>?_) (λIe=>?_)
  . obtain⟨q,hq⟩: ∃q,5-s=q+1:=⟨4-s,oM⟩
    obtain⟨e,he⟩: ∃e,e=scanSorted (ltC cf) d b i:=⟨_,rfl⟩;obtain⟨hg1,Vk⟩:=PY (ltC cf) d b _ i rfl;rw[hq,partialIns]at hi;dsimp only at hi;rw[<-he]at hi hg1 Vk;have heb:=Vk hib;refine Sk (dB (λx:Array α=>[(0,.slice A n c),(1,I a),(2,I b),(3,fv),(9,I e),(10,I s)]) (λx w'=>(n=x.size/\partialIns (ltC cf) a b q e x=res)/\Sep w F [gG f A n c x] w') ?_ ?_)
    . refine uS (dB (λk:Nat=>[(0,.slice A n c),(1,I a),(2,I b),(3,fv),(9,I k),(10,I s)]) (λk w'=>k=e/\Sep w F [gG f A n c d] w') ?_ ?_)
      . refine V0 ?_
        refine aI (λk:Nat=>[(0,.slice A n c),(1,I a),(2,I b),(3,fv),(9,I k),(10,I s)]) (λk w'=>(a<k/\k<=b/\scanSorted (ltC cf) d b k=e)/\Sep w F [gG f A n c d] w') (λk _=>b-k) i tR ⟨⟨hai,hib,he.symm⟩,H7⟩ (λk τ wa hI=>?_);obtain⟨⟨hak,hkb,nW⟩,Ha⟩:=hI;refine Lp ?_;refine Dz (λSa wb Hb=>?_);refine V4 ?_;refine fK (t:=22) rfl (λSb=>?_) (λSb=>?_)
        . have asD:k<b:=oM
          refine V7 ?_;refine Gc Sa 11 ((k-1:Nat):Int) ?_;refine V2 ?_;refine FcI (λwc Hc=>?_);refine O3 ?_;refine fO Sa kR ?_;refine Cz (λIf=>?_) (λIf=>?_)
          . rw[scanSorted,zac (by simp[ltC];exact⟨asD,by have:=If;omega⟩)]at nW
            refine V1 ?_;refine Vc ((k+1:Nat):Int) ?_;refine V1 ?_;exact aj (k+1) tR ⟨⟨oM,oM,nW⟩,Hc⟩ oM
          rw[scanSorted,zaa (by simp[ltC];intro _;have:=If;omega)]at nW;refine V0 ?_;exact au k tR ⟨nW,Hc⟩
        rw[scanSorted,zaa (by simp;intro _;omega)]at nW;refine V1 ?_;exact au k tR ⟨nW,Hb⟩
      rintro k τ wd ⟨hk,Hd⟩;subst hk;refine Lp ?_;refine Cz (λIg=>?_) (λIg=>?_)
      . rw[zac (show k=b from oM)]at hi
        refine V1 ?_;exact⟨by rw[<-hi];rfl,by rw[<-hi];exact Hd.turn⟩
      have avY:k<b:=oM;rw[zaa (show ¬k=b from oM)]at hi;refine V2 ?_;refine Vc ((b-a:Nat):Int) ?_;refine Vl ?_;refine Cz (λIh=>?_) (λIh=>?_)
      . rw[zac (show b-a<50 from oM)]at hi
        refine V1 ?_;exact⟨by rw[<-hi];rfl,by rw[<-hi];exact Hd.turn⟩
      rw[zaa (show ¬b-a<50 from oM)]at hi;refine Dz (λSc we He=>?_);refine V4 ?_;refine Gc Sc 4 ((k-1:Nat):Int) ?_;refine V2 ?_;refine Gc Sc 7 ((k-1:Nat):Int) ?_;refine V7 ?_;refine FsI (λwf Hf=>?_);refine V1 ?_;refine FsI (λwg Hg=>?_);refine fO Sc kR ?_;refine iK (dB (λx:Array α=>[(0,.slice A n c),(1,I a),(2,I b),(3,fv),(9,I k),(10,I s)]) (λx w'=>(n=x.size/\partialIns (ltC cf) a b q k (if b-k≥2 then shiftUp (ltC cf) b (k+1) x else x)=res)/\Sep w F [gG f A n c x] w') ?_ ?_)
      . refine V2 ?_
        refine Vc ((k-a:Nat):Int) ?_;refine Cz (λIi=>?_) (λIi=>?_)
        . rw[zac (show k-a≥2 from oM)]at hi
          refine V1 ?_;have AZ:n=(swp d k (k-1)).size:=by rw[swp_size];exact hn
          refine Vc ((k-1:Nat):Int) ?_;refine V1 ?_;refine aI (λx:Nat×Array α=>[(0,.slice A n c),(1,I a),(2,I b),(3,fv),(9,I k),(10,I s),(11,I x.1)]) (λx w'=>((n=x.2.size/\x.1<n)/\partialIns (ltC cf) a b q k (if b-k≥2 then shiftUp (ltC cf) b (k+1) (shiftDown (ltC cf) x.1 x.2)else shiftDown (ltC cf) x.1 x.2)=res)/\Sep w F [gG f A n c x.2] w') (λx _=>x.1) (k-1,swp d k (k-1)) tR ⟨⟨⟨AZ,dO⟩,hi⟩,Hg⟩ (λx τ wh hI=>?_);clear hi hn hR AZ;obtain⟨j,d⟩:=x;obtain⟨⟨⟨hn,hjn⟩,hi⟩,Hh⟩:=hI;dsimp only at hn hjn hi Hh;have hR:=rdI hn Hh At0;refine Lp ?_;refine Cz (λIj=>?_) (λIj=>?_)
          . obtain⟨m,rfl⟩: ∃m,j=m+1:=⟨j-1,oM⟩
            rw[shiftDown]at hi;refine Dz (λSd wi Hi=>?_);refine V7 ?_;refine Gc Sd 7 ((m:Nat):Int) ?_;refine V2 ?_;refine FcI (λwj Hj=>?_);refine O2 ?_;refine fO Sd kR ?_;refine Cz (λIk=>?_) (λIk=>?_)
            . rw[zac (show(!ltC cf d[m+1]! d[m]!)=true by simp[ltC];have:=Ik;omega)]at hi
              refine V0 ?_;exact au d tR ⟨⟨hn,hi⟩,Hj⟩
            rw[zaa (show ¬(!ltC cf d[m+1]! d[m]!)=true by simp[ltC];have:=Ik;omega)]at hi;refine Dz (λSe wk Hk=>?_);refine V4 ?_;refine Gc Se 4 ((m:Nat):Int) ?_;refine V2 ?_;refine Gc Se 7 ((m:Nat):Int) ?_;refine V7 ?_;refine FsI (λwl Hl=>?_);refine V1 ?_;refine FsI (λwm Hm=>?_);refine V1 ?_;refine Vc (m:Int) ?_;refine V1 ?_;exact aj (m,swp d (m+1) m) tR ⟨⟨⟨by rw[swp_size];exact hn,dO⟩,hi⟩,Hm⟩ dO
          have hj0:j=0:=oM;subst hj0;rw[shiftDown]at hi;refine V0 ?_;exact au d tR ⟨⟨hn,hi⟩,Hh⟩
        rw[zaa (show ¬k-a≥2 from oM)]at hi;refine V0 ?_;exact au (swp d k (k-1)) tR ⟨⟨by rw[swp_size];exact hn,hi⟩,Hg⟩
      intro d2 τ wn ⟨⟨Ms,Ku⟩,Hn⟩;refine Lp ?_;refine V2 ?_;refine Vc ((b-k:Nat):Int) ?_;refine Cz (λIl=>?_) (λIl=>?_)
      . rw[zac (show b-k≥2 from oM)]at Ku
        refine V1 ?_;refine Vc ((k+1:Nat):Int) ?_;refine V1 ?_;refine aI (λx:Nat×Array α=>[(0,.slice A n c),(1,I a),(2,I b),(3,fv),(9,I k),(10,I s),(12,I x.1)]) (λx w'=>((n=x.2.size/\1<=x.1)/\partialIns (ltC cf) a b q k (shiftUp (ltC cf) b x.1 x.2)=res)/\Sep w F [gG f A n c x.2] w') (λx _=>b-x.1) (k+1,d2) tR ⟨⟨⟨Ms,dO⟩,Ku⟩,Hn⟩ (λx τ wo hI=>?_);clear Ku Ms;obtain⟨j,d⟩:=x;obtain⟨⟨⟨hn,hj1⟩,hi⟩,Ho⟩:=hI;dsimp only at hn hj1 hi Ho;have hR:=rdI hn Ho At0;refine Lp ?_;refine Cz (λIm=>?_) (λIm=>?_)
        . have hjb:j<b:=oM
          rw[shiftUp,zac hjb]at hi;refine Dz (λSf wp Hp=>?_);refine V7 ?_;refine Gc Sf 7 ((j-1:Nat):Int) ?_;refine V2 ?_;refine FcI (λwq Hq=>?_);refine O2 ?_;refine fO Sf kR ?_;refine Cz (λIn=>?_) (λIn=>?_)
          . rw[zac (show(!ltC cf d[j]! d[j-1]!)=true by simp[ltC];have:=In;omega)]at hi
            refine V0 ?_;exact au d tR ⟨⟨hn,hi⟩,Hq⟩
          rw[zaa (show ¬(!ltC cf d[j]! d[j-1]!)=true by simp[ltC];have:=In;omega)]at hi;refine Dz (λSg wr Hr=>?_);refine V4 ?_;refine Gc Sg 4 ((j-1:Nat):Int) ?_;refine V2 ?_;refine Gc Sg 7 ((j-1:Nat):Int) ?_;refine V7 ?_;refine FsI (λws Hs=>?_);refine V1 ?_;refine FsI (λwt Ht=>?_);refine V1 ?_;refine Vc ((j+1:Nat):Int) ?_;refine V1 ?_;exact aj (j+1,swp d j (j-1)) tR ⟨⟨⟨by rw[swp_size];exact hn,dO⟩,hi⟩,Ht⟩ dO
        rw[shiftUp,zaa oM]at hi;refine V0 ?_;exact au d tR ⟨⟨hn,hi⟩,Ho⟩
      rw[zaa (show ¬b-k≥2 from oM)]at Ku;refine V0 ?_;exact au d2 tR ⟨⟨Ms,Ku⟩,Hn⟩
    intro d2 τ wu ⟨⟨Ms,Ku⟩,Hu⟩;refine Lp ?_;refine V1 ?_;refine Vc ((s+1:Nat):Int) ?_;refine V1 ?_;exact aj (s+1,e,d2) tR ⟨⟨⟨Ms,dO,dO,heb⟩,by dsimp only;rw[show 5-(s+1)=q from oM];exact Ku⟩,Hu⟩ dO
  rw[show 5-s=0 from oM,partialIns]at hi;refine V1 ?_;exact⟨by rw[<-hi];rfl,by rw[<-hi];exact H7.turn⟩
set_option maxHeartbeats 1000000 in
theorem Ur {a b p:Nat} (hp:(gG f A n c d₀).ok F w) (zG:n=d₀.size) (Qm:a<=p) (hpb:p<b) (hb:b<=n) (pR:n<=1000000) (oJ:pK prog fv f cf F w):
    aQ prog 350 [.slice A n c,I a,I b,I p,fv] w λr w'=>r=I (partitionEqual (ltC cf) d₀ a b p).1/\n=(partitionEqual (ltC cf) d₀ a b p).2.size/\Turn F (gG f A n c (partitionEqual (ltC cf) d₀ a b p).2) w w':=by
  have H:=Sep.bW hp;have hR:=rdI zG H At0;obtain⟨res,ak⟩: ∃res,res=partitionEqual (ltC cf) d₀ a b p:=⟨_,rfl⟩;rw[<-ak];unfold partitionEqual at ak;refine Qt func350 ?_;refine Dz (λFj w4 H4=>?_);refine V13 ?_;refine FsI (λwa Ha=>?_);refine V1 ?_;refine FsI (λwb Hb=>?_);refine V1 ?_;refine Vc ((a+1:Nat):Int) ?_;refine Mv ?_;refine Vc ((b-1:Nat):Int) ?_;refine V2 ?_;refine aI (λx:Nat×Nat×Array α=>[(0,.slice A n c),(1,I a),(4,fv),(11,I x.1),(12,I x.2.1)]) (λx w'=>((n=x.2.2.size/\a<x.1/\x.1<=x.2.1+1/\x.2.1<n)/\partEqLoop (ltC cf) a x.1 x.2.1 x.2.2=res)/\Sep w F [gG f A n c x.2.2] w') (λx _=>x.2.1+1-x.1) (a+1,b-1,swp d₀ a p) tR ⟨⟨⟨by dsimp only;rw[swp_size];exact zG,dO,dO,dO⟩,ak.symm⟩,Hb⟩ (λx τ wc hI=>?_);clear hR;obtain⟨i,j,d⟩:=x;obtain⟨⟨⟨hn,hai,hij,hjn⟩,hi⟩,Hc⟩:=hI;dsimp only at hn hai hij hjn hi Hc;have hR:=rdI hn Hc At0;obtain⟨i2,Ku⟩: ∃i2,i2=scanUp (λx=> !ltC cf d[a]! x) d j i:=⟨_,rfl⟩;have afV:=scanUp_ge (λx=> !ltC cf d[a]! x) d j i;rw[<-Ku]at afV;obtain⟨j2,hj2⟩: ∃j2,j2=scanDown (λx=>ltC cf d[a]! x) d i2 j:=⟨_,rfl⟩;have afW:=scanDown_le (λx=>ltC cf d[a]! x) d i2 j;rw[<-hj2]at afW;have Qo:=Ku;have Qp:=hj2;refine Lp ?_;refine uS (dB (λk:Nat=>[(0,.slice A n c),(1,I a),(4,fv),(11,I k),(12,I j)]) (λk w'=>k=i2/\Sep w F [gG f A n c d] w') ?_ ?_)
  . refine V0 ?_
    refine aI (λk:Nat=>[(0,.slice A n c),(1,I a),(4,fv),(11,I k),(12,I j)]) (λk w'=>(a<k/\k<=j+1/\scanUp (λx=> !ltC cf d[a]! x) d j k=i2)/\Sep w F [gG f A n c d] w') (λk _=>j+1-k) i tR ⟨⟨hai,hij,Ku.symm⟩,Hc⟩ (λk τ wd hI=>?_);obtain⟨⟨hak,hkj,nW⟩,Hd⟩:=hI;refine Lp ?_;refine Dz (λSa we He=>?_);refine V4 ?_;refine fK (t:=34) rfl (λSb=>?_) (λSb=>?_)
    . have ajg:k<=j:=oM
      refine V9 ?_;refine FcI (λwf Hf=>?_);refine O3 ?_;refine fO Sa kR ?_;refine Cz (λIe=>?_) (λIe=>?_)
      . rw[scanUp_go _ _ _ _ ajg (by simp[ltC];have:=Ie;omega)]at nW
        refine V1 ?_;refine Vc ((k+1:Nat):Int) ?_;refine V1 ?_;exact aj (k+1) tR ⟨⟨oM,oM,nW⟩,Hf⟩ oM
      rw[scanUp_end _ _ _ _ (.inr (by simp[ltC];have:=Ie;omega))]at nW;refine V0 ?_;exact au k tR ⟨nW,Hf⟩
    rw[scanUp_end _ _ _ _ (.inl oM)]at nW;refine V1 ?_;exact au k tR ⟨nW,He⟩
  rintro k τ wg ⟨hk,Hg⟩;subst hk;refine Lp ?_;refine dB (λm:Nat=>[(0,.slice A n c),(1,I a),(4,fv),(11,I k),(12,I m)]) (λm w'=>m=j2/\Sep w F [gG f A n c d] w') ?_ ?_
  . refine V0 ?_
    refine aI (λm:Nat=>[(0,.slice A n c),(1,I a),(4,fv),(11,I k),(12,I m)]) (λm w'=>(m<=j/\scanDown (λx=>ltC cf d[a]! x) d k m=j2)/\Sep w F [gG f A n c d] w') (λm _=>m) j tR ⟨⟨zbi _,hj2.symm⟩,Hg⟩ (λm τ wh hI=>?_);obtain⟨⟨hmj,Mx⟩,Hh⟩:=hI;refine Lp ?_;refine Dz (λSc wi Hi=>?_);refine V4 ?_;refine fK (t:=53) rfl (λSd=>?_) (λSd=>?_)
    . have hkm:k<=m:=oM
      refine V9 ?_;refine FcI (λwj Hj=>?_);refine O2 ?_;refine fO Sc kR ?_;refine Cz (λIf=>?_) (λIf=>?_)
      . rw[scanDown_go _ _ _ _ hkm oM (by simp[ltC];have:=If;omega)]at Mx
        refine V1 ?_;refine Vc ((m-1:Nat):Int) ?_;refine V1 ?_;exact aj (m-1) tR ⟨⟨oM,Mx⟩,Hj⟩ oM
      rw[scanDown_end _ _ _ _ (.inr (by simp[ltC];have:=If;omega))]at Mx;refine V0 ?_;exact au m tR ⟨Mx,Hj⟩
    rw[scanDown_end _ _ _ _ (.inl oM)]at Mx;refine V1 ?_;exact au m tR ⟨Mx,Hi⟩
  rintro m τ wk ⟨hm,Hk⟩;subst hm;refine Lp ?_;refine Cz (λIg=>?_) (λIg=>?_)
  . rw[partEq_break (ltC cf) a i j d Qo Qp oM]at hi
    refine V2 ?_;exact⟨by rw[<-hi];rfl,by rw[<-hi];exact hn,by rw[<-hi];exact Hk.turn⟩
  have rW:k<=m:=oM;have aX:=scans_lt (ltC cf) a i j d oM Qo Qp oM;rw[partEq_go (ltC cf) a i j d Qo Qp oM]at hi;refine Dz (λSe wl Hl=>?_);refine V13 ?_;refine FsI (λwm Hm=>?_);refine V1 ?_;refine FsI (λwn Hn=>?_);refine V1 ?_;refine Vc ((k+1:Nat):Int) ?_;refine V2 ?_;refine Vc ((m-1:Nat):Int) ?_;refine V1 ?_;exact aj (k+1,m-1,swp d k m) tR ⟨⟨⟨by rw[swp_size];exact hn,dO,dO,dO⟩,hi⟩,Hn⟩ dO
set_option maxHeartbeats 1000000 in
theorem acw {a b p:Nat} (hp:(gG f A n c d₀).ok F w) (zG:n=d₀.size) (Qm:a<=p) (hpb:p<b) (hb:b<=n) (pR:n<=1000000) (oJ:pK prog fv f cf F w):
    aQ prog 351 [.slice A n c,I a,I b,I p,fv] w λr w'=>r=.tuple #[I (partition (ltC cf) d₀ a b p).1,.bool (partition (ltC cf) d₀ a b p).2.1]/\n=(partition (ltC cf) d₀ a b p).2.2.size/\Turn F (gG f A n c (partition (ltC cf) d₀ a b p).2.2) w w':=by
  have H:=Sep.bW hp;have hR:=rdI zG H At0;obtain⟨res,ak⟩: ∃res,res=partition (ltC cf) d₀ a b p:=⟨_,rfl⟩;rw[<-ak];unfold partition at ak;dsimp only at ak;refine Qt func351 ?_;refine Dz (λasE w5 H5=>?_);refine V13 ?_;refine FsI (λwa Ha=>?_);refine V1 ?_;have hn:n=(swp d₀ a p).size:=by rw[swp_size];exact zG
  refine XP asE 15 _ (i:=p) (a:=d₀[a]!) (by rw[zej];exact zG) Ha At0 (by rw[zej];omega) (h:=λwb Hb=>⟨sT,?_⟩);clear hR;obtain⟨d,hd⟩: ∃d,d=swp d₀ a p:=⟨_,rfl⟩;have Hb:Sep w F [gG f A n c d] wb:=by rw[hd];exact Hb
  rw[<-hd]at ak hn;have hR:=rdI hn Hb At0;obtain⟨i,hi⟩: ∃i,i=a+1:=⟨_,rfl⟩;obtain⟨j,hj⟩: ∃j,j=b-1:=⟨_,rfl⟩;rw[<-hi,<-hj]at ak;have hai:a<i:=oM;have hij:i<=j+1:=oM;have hjn:j<n:=oM;obtain⟨i2,Ku⟩: ∃i2,i2=scanUp (λx=>ltC cf x d[a]!) d j i:=⟨_,rfl⟩;have afV:=scanUp_ge (λx=>ltC cf x d[a]!) d j i;rw[<-Ku]at afV;obtain⟨j2,hj2⟩: ∃j2,j2=scanDown (λx=> !ltC cf x d[a]!) d i2 j:=⟨_,rfl⟩;have afW:=scanDown_le (λx=> !ltC cf x d[a]!) d i2 j;rw[<-hj2]at afW;have Qo:=Ku;have Qp:=hj2;rw[<-Ku,<-hj2]at ak;refine V1 ?_;refine Vc (i:Int) ?_;refine Mv ?_;refine Vc (j:Int) ?_;refine O2 ?_;refine Qn (dB (λk:Nat=>[(0,.slice A n c),(1,I a),(4,fv),(12,I k),(13,I j)]) (λk w'=>k=i2/\Sep w F [gG f A n c d] w') ?_ ?_)
  . refine V0 ?_
    refine aI (λk:Nat=>[(0,.slice A n c),(1,I a),(4,fv),(12,I k),(13,I j)]) (λk w'=>(a<k/\k<=j+1/\scanUp (λx=>ltC cf x d[a]!) d j k=i2)/\Sep w F [gG f A n c d] w') (λk _=>j+1-k) i tR ⟨⟨hai,hij,Ku.symm⟩,Hb⟩ (λk τ wc hI=>?_);obtain⟨⟨hak,hkj,nW⟩,Hc⟩:=hI;refine Lp ?_;refine Dz (λSa wd Hd=>?_);refine V4 ?_;refine fK (t:=35) rfl (λSb=>?_) (λSb=>?_)
    . have ajg:k<=j:=oM
      refine V9 ?_;refine FcI (λwe He=>?_);refine O2 ?_;refine fO Sa kR ?_;refine Cz (λIe=>?_) (λIe=>?_)
      . rw[scanUp_go _ _ _ _ ajg (by simp[ltC];have:=Ie;omega)]at nW
        refine V1 ?_;refine Vc ((k+1:Nat):Int) ?_;refine V1 ?_;exact aj (k+1) tR ⟨⟨oM,oM,nW⟩,He⟩ oM
      rw[scanUp_end _ _ _ _ (.inr (by simp[ltC];have:=Ie;omega))]at nW;refine V0 ?_;exact au k tR ⟨nW,He⟩
    rw[scanUp_end _ _ _ _ (.inl oM)]at nW;refine V1 ?_;exact au k tR ⟨nW,Hd⟩
  rintro k τ wf ⟨hk,Hf⟩;subst hk;refine Lp ?_;refine dB (λm:Nat=>[(0,.slice A n c),(1,I a),(4,fv),(12,I k),(13,I m)]) (λm w'=>m=j2/\Sep w F [gG f A n c d] w') ?_ ?_
  . refine V0 ?_
    refine aI (λm:Nat=>[(0,.slice A n c),(1,I a),(4,fv),(12,I k),(13,I m)]) (λm w'=>(m<=j/\scanDown (λx=> !ltC cf x d[a]!) d k m=j2)/\Sep w F [gG f A n c d] w') (λm _=>m) j tR ⟨⟨zbi _,hj2.symm⟩,Hf⟩ (λm τ wg hI=>?_);obtain⟨⟨hmj,Mx⟩,Hg⟩:=hI;refine Lp ?_;refine Dz (λSc wh Hh=>?_);refine V4 ?_;refine fK (t:=53) rfl (λSd=>?_) (λSd=>?_)
    . have hkm:k<=m:=oM
      refine V9 ?_;refine FcI (λwi Hi=>?_);refine O3 ?_;refine fO Sc kR ?_;refine Cz (λIf=>?_) (λIf=>?_)
      . rw[scanDown_go _ _ _ _ hkm oM (by simp[ltC];have:=If;omega)]at Mx
        refine V1 ?_;refine Vc ((m-1:Nat):Int) ?_;refine V1 ?_;exact aj (m-1) tR ⟨⟨oM,Mx⟩,Hi⟩ oM
      rw[scanDown_end _ _ _ _ (.inr (by simp[ltC];have:=If;omega))]at Mx;refine V0 ?_;exact au m tR ⟨Mx,Hi⟩
    rw[scanDown_end _ _ _ _ (.inl oM)]at Mx;refine V1 ?_;exact au m tR ⟨Mx,Hh⟩
  rintro m τ wj ⟨hm,Hj⟩;subst hm;refine Lp ?_;refine Cz (λIg=>?_) (λIg=>?_)
  . rw[zac (show k>m from oM)]at ak
    refine Dz (λSe wk Hk=>?_);refine V13 ?_;refine FsI (λwl Hl=>?_);refine V1 ?_;refine FsI (λwm Hm=>?_);refine V3 ?_;exact⟨by rw[ak];rfl,by rw[ak];rw[swp_size];exact hn,by rw[ak];exact Hm.turn⟩
  rw[zaa (show ¬k>m from oM)]at ak;have asF:=part_scans_lt (ltC cf) a i j d oM Qo Qp oM;refine Dz (λSf wn Hn=>?_);refine V13 ?_;refine FsI (λwo Ho=>?_);refine V1 ?_;refine FsI (λwp Hp=>?_);refine V1 ?_;refine Vc ((k+1:Nat):Int) ?_;refine V2 ?_;refine Vc ((m-1:Nat):Int) ?_;refine V1 ?_;obtain⟨r0,hr0⟩: ∃r0,r0=partLoop (ltC cf) a (k+1) (m-1) (swp d k m):=⟨_,rfl⟩;rw[<-hr0]at ak;refine aI (λx:Nat×Nat×Array α=>[(0,.slice A n c),(1,I a),(4,fv),(12,I x.1),(13,I x.2.1)]) (λx w'=>((n=x.2.2.size/\a<x.1/\x.1<=x.2.1+1/\x.2.1<n)/\partLoop (ltC cf) a x.1 x.2.1 x.2.2=r0)/\Sep w F [gG f A n c x.2.2] w') (λx _=>x.2.1+1-x.1) (k+1,m-1,swp d k m) tR ⟨⟨⟨by dsimp only;rw[swp_size];exact hn,dO,dO,dO⟩,hr0.symm⟩,Hp⟩ (λx τ wq hI=>?_);clear hR hn Qo Qp afV afW hd hi hj hai hij hjn hr0 asF;obtain⟨i,j,d⟩:=x;obtain⟨⟨⟨hn,hai,hij,hjn⟩,hi⟩,Hq⟩:=hI;dsimp only at hn hai hij hjn hi Hq;have hR:=rdI hn Hq At0;obtain⟨i2,Ku⟩: ∃i2,i2=scanUp (λx=>ltC cf x d[a]!) d j i:=⟨_,rfl⟩;have afV:=scanUp_ge (λx=>ltC cf x d[a]!) d j i;rw[<-Ku]at afV;obtain⟨j2,hj2⟩: ∃j2,j2=scanDown (λx=> !ltC cf x d[a]!) d i2 j:=⟨_,rfl⟩;have afW:=scanDown_le (λx=> !ltC cf x d[a]!) d i2 j;rw[<-hj2]at afW;have Qo:=Ku;have Qp:=hj2;refine Lp ?_;refine uS (dB (λk:Nat=>[(0,.slice A n c),(1,I a),(4,fv),(12,I k),(13,I j)]) (λk w'=>k=i2/\Sep w F [gG f A n c d] w') ?_ ?_)
  . refine V0 ?_
    refine aI (λk:Nat=>[(0,.slice A n c),(1,I a),(4,fv),(12,I k),(13,I j)]) (λk w'=>(a<k/\k<=j+1/\scanUp (λx=>ltC cf x d[a]!) d j k=i2)/\Sep w F [gG f A n c d] w') (λk _=>j+1-k) i tR ⟨⟨hai,hij,Ku.symm⟩,Hq⟩ (λk τ wr hI=>?_);obtain⟨⟨hak,hkj,nW⟩,Hr⟩:=hI;refine Lp ?_;refine Dz (λSg ws Hs=>?_);refine V4 ?_;refine fK (t:=108) rfl (λSh=>?_) (λSh=>?_)
    . have ajg:k<=j:=oM
      refine V9 ?_;refine FcI (λwt Ht=>?_);refine O2 ?_;refine fO Sg kR ?_;refine Cz (λIh=>?_) (λIh=>?_)
      . rw[scanUp_go _ _ _ _ ajg (by simp[ltC];have:=Ih;omega)]at nW
        refine V1 ?_;refine Vc ((k+1:Nat):Int) ?_;refine V1 ?_;exact aj (k+1) tR ⟨⟨oM,oM,nW⟩,Ht⟩ oM
      rw[scanUp_end _ _ _ _ (.inr (by simp[ltC];have:=Ih;omega))]at nW;refine V0 ?_;exact au k tR ⟨nW,Ht⟩
    rw[scanUp_end _ _ _ _ (.inl oM)]at nW;refine V1 ?_;exact au k tR ⟨nW,Hs⟩
  rintro k τ wu ⟨hk,Hu⟩;subst hk;refine Lp ?_;refine dB (λm:Nat=>[(0,.slice A n c),(1,I a),(4,fv),(12,I k),(13,I m)]) (λm w'=>m=j2/\Sep w F [gG f A n c d] w') ?_ ?_
  . refine V0 ?_
    refine aI (λm:Nat=>[(0,.slice A n c),(1,I a),(4,fv),(12,I k),(13,I m)]) (λm w'=>(m<=j/\scanDown (λx=> !ltC cf x d[a]!) d k m=j2)/\Sep w F [gG f A n c d] w') (λm _=>m) j tR ⟨⟨zbi _,hj2.symm⟩,Hu⟩ (λm τ wv hI=>?_);obtain⟨⟨hmj,Mx⟩,Hv⟩:=hI;refine Lp ?_;refine Dz (λSi ww Hw=>?_);refine V4 ?_;refine fK (t:=126) rfl (λSj=>?_) (λSj=>?_)
    . have hkm:k<=m:=oM
      refine V9 ?_;refine FcI (λwx Hx=>?_);refine O3 ?_;refine fO Si kR ?_;refine Cz (λIi=>?_) (λIi=>?_)
      . rw[scanDown_go _ _ _ _ hkm oM (by simp[ltC];have:=Ii;omega)]at Mx
        refine V1 ?_;refine Vc ((m-1:Nat):Int) ?_;refine V1 ?_;exact aj (m-1) tR ⟨⟨oM,Mx⟩,Hx⟩ oM
      rw[scanDown_end _ _ _ _ (.inr (by simp[ltC];have:=Ii;omega))]at Mx;refine V0 ?_;exact au m tR ⟨Mx,Hx⟩
    rw[scanDown_end _ _ _ _ (.inl oM)]at Mx;refine V1 ?_;exact au m tR ⟨Mx,Hw⟩
  rintro m τ wy ⟨hm,Hy⟩;subst hm;refine Lp ?_;refine Cz (λIj=>?_) (λIj=>?_)
  . rw[part_break (ltC cf) a i j d Qo Qp oM]at hi
    refine Dz (λSl wz Hz=>?_);refine V13 ?_;refine FsI (λwD HA=>?_);refine V1 ?_;refine FsI (λwE HB=>?_);refine V3 ?_;exact⟨by rw[ak,<-hi];rfl,by rw[ak,<-hi];rw[swp_size];exact hn,by rw[ak,<-hi];exact HB.turn⟩
  have rW:k<=m:=oM;have aX:=part_scans_lt (ltC cf) a i j d oM Qo Qp oM;rw[part_go (ltC cf) a i j d Qo Qp oM]at hi;refine Dz (λSm wF HC=>?_);refine V13 ?_;refine FsI (λwG HD=>?_);refine V1 ?_;refine FsI (λwH HE=>?_);refine V1 ?_;refine Vc ((k+1:Nat):Int) ?_;refine V2 ?_;refine Vc ((m-1:Nat):Int) ?_;refine V1 ?_;exact aj (k+1,m-1,swp d k m) tR ⟨⟨⟨by rw[swp_size];exact hn,dO,dO,dO⟩,hi⟩,HE⟩ dO
theorem akj (hO:SWO (ltC cf)): ∀(q:Nat) {a b lim n c:Nat} {A:OA} {d₀:Array α} {w:Wd} {F:NP},b-a<=q->(gG f A n c d₀).ok F w->n=d₀.size->a<=b->b<=n->n<1000000->lim<=1000->Below (ltC cf) a b d₀->pK prog fv f cf F w->
    aQ prog 304 [.slice A n c,I a,I b,I lim,fv] w λr w'=>∃d':Array α,r=.tuple #[]/\(PermIn a b d₀ d'/\SortedIn (ltC cf) a b d')/\Turn F (gG f A n c d') w w':=by
  intro q
  induction q using Nat.strongRecOn with
  | _ q ih=>
  intro a b lim n c A d₀ w F hq hp zG LU hb pR hlim hB0 oJ;have H:=Sep.bW hp;refine Qt func304 ?_;refine V2 ?_;refine aI (λx:Nat×Nat×Nat×Bool×Bool×Array α=>[(0,.slice A n c),(1,I x.1),(2,I x.2.1),(3,I x.2.2.1),(4,fv),(10,.bool x.2.2.2.1),(11,.bool x.2.2.2.2.1)]) (λx w'=>((n=x.2.2.2.2.2.size/\a<=x.1/\x.1<=x.2.1/\x.2.1<=b/\x.2.2.1<=1000)/\Below (ltC cf) x.1 x.2.1 x.2.2.2.2.2/\∀R,PermIn x.1 x.2.1 x.2.2.2.2.2 R->SortedIn (ltC cf) x.1 x.2.1 R->PermIn a b d₀ R/\SortedIn (ltC cf) a b R)/\Sep w F [gG f A n c x.2.2.2.2.2] w') (λx _=>x.2.1-x.1) (a,b,lim,true,true,d₀) tR ⟨⟨⟨zG,zbi _,LU,zbi _,hlim⟩,hB0,λR h1 h2=>⟨h1,h2⟩⟩,H⟩ (λx τ _ hI=>?_);obtain⟨s,t,lm,wb,wp,d⟩:=x;obtain⟨⟨⟨hn,has,dK,VA,hlm⟩,hB,Vu⟩,k⟩:=hI;dsimp only at hn has dK VA hlm hB Vu k;refine Lp ?_;refine V2 ?_;refine Vc ((t-s:Nat):Int) ?_;refine Cz (λS=>?_) (λS=>?_)
  . have h12:=S
    refine V4 ?_;obtain⟨F0,eO,gQ,aK⟩:=k.focus At0;refine aL (aas (a:=s) (b:=t) eO hn dK oM oM (oJ.into k.kept gQ)) rfl rfl (λv' _ hv=>?_);obtain⟨rfl,asG,F1,hq,hs⟩:=hv;have e:=aK _ F1 _ asG hq hs;refine V0 ?_;exact⟨_,rfl,Vu _ (insertionSort_holds hO d s t dK oM).1 (insertionSort_holds hO d s t dK oM).2,e.turn⟩
  have h12:=S;refine Cz (λe=>?_) (λe=>?_)
  . have Jb:=e
    refine V4 ?_;obtain⟨F0,eO,gQ,aK⟩:=k.focus At0;refine aL (XT (a:=s) (b:=t) eO hn oM oM oM (oJ.into k.kept gQ)) rfl rfl (λv' _ hv=>?_);obtain⟨rfl,_,asH,F1,hq,hs⟩:=hv;have S:=aK _ F1 _ asH hq hs;refine V0 ?_;exact⟨_,rfl,Vu _ (heapSort_holds hO d s t dK oM).1 (heapSort_holds hO d s t dK oM).2,S.turn⟩
  have Jb:=e;refine Sk (dB (λz:Nat×Array α=>[(0,.slice A n c),(1,I s),(2,I t),(3,I z.1),(4,fv),(10,.bool wb),(11,.bool wp),(12,I (t-s:Nat))]) (λz w'=>(z.1<=1000/\PermIn s t d z.2)/\Sep w F [gG f A n c z.2] w') ?_ ?_)
  . refine O2 ?_
    refine Qn (Cd rfl (λS=>?_) (λS=>?_))
    . refine V4 ?_
      obtain⟨F0,eO,gQ,aK⟩:=k.focus At0;refine aL (ahr (a:=s) (b:=t) eO hn oM oM pR) rfl rfl (λv' _ hv=>?_);obtain⟨d1,rfl,hp1,asI,F1,hq,hs⟩:=hv;have S:=aK _ F1 _ asI hq hs;refine V1 ?_;refine Vc ((lm-1:Nat):Int) ?_;refine V1 ?_;exact au (lm-1,d1) tR ⟨⟨dO,hp1⟩,S⟩
    refine V0 ?_;exact au (lm,d) tR ⟨⟨hlm,permIn_refl _ _ _⟩,k⟩
  rintro⟨lm1,d1⟩ τ S ⟨⟨zI,hp1⟩,S⟩;dsimp only at zI hp1 S;have AZ:n=d1.size:=by rw[hp1.1];exact hn
  refine Lp ?_;refine V4 ?_;obtain⟨F0,eO,gQ,aK⟩:=S.focus At0;refine aL (ahp (a:=s) (b:=t) eO AZ oM oM oM (oJ.into S.kept gQ)) rfl rfl (λv' _ hv=>?_);obtain⟨rfl,asJ,F1,hq,hs⟩:=hv;have S:=aK _ F1 _ asJ hq hs;obtain⟨apP,apQ⟩:=choosePivot_holds (ltC cf) d1 s t oM;obtain⟨pv,hpv⟩: ∃pv,pv=choosePivot (ltC cf) d1 s t:=⟨_,rfl⟩;rw[<-hpv]at apP apQ ⊢;refine O5 ?_;refine Qn (dB (λz:Nat×Int×Array α=>[(0,.slice A n c),(1,I s),(2,I t),(3,I lm1),(4,fv),(10,.bool wb),(11,.bool wp),(12,I (t-s:Nat)),(13,I z.1),(14,I z.2.1)]) (λz w'=>((s<=z.1/\z.1<t)/\PermIn s t d z.2.2)/\Sep w F [gG f A n c z.2.2] w') ?_ ?_)
  . refine Cz (λk=>?_) (λk=>?_)
    . have h56:=k
      refine V4 ?_;obtain⟨F0,eO,gQ,aK⟩:=S.focus At0;refine aL (aat (a:=s) (b:=t) eO AZ oM oM oM) rfl rfl (λv' _ hv=>?_);obtain⟨rfl,asL,F1,hq,hs⟩:=hv;have e:=aK _ F1 _ asL hq hs;refine V1 ?_;refine Vc ((t-1:Nat):Int) ?_;refine V2 ?_;refine Vc ((pv.1-s:Nat):Int) ?_;refine Vc ((t-1-(pv.1-s):Nat):Int) ?_;refine V2 ?_;exact au (t-1-(pv.1-s),1,reverseRange d1 s t) tR ⟨⟨⟨dO,dO⟩,permIn_trans _ _ _ _ _ hp1 (reverseRange_holds d1 s t dK oM)⟩,e⟩
    have h56:=k;refine V0 ?_;exact au (pv.1,alQ pv.2,d1) tR ⟨⟨⟨apP,apQ⟩,hp1⟩,S⟩
  rintro⟨p2,h2,d2⟩ τ e ⟨⟨⟨abM,abN⟩,hp2⟩,e⟩;dsimp only at abM abN hp2 e;have Ms:n=d2.size:=by rw[hp2.1];exact hn
  have hB2:=hB.perm oM hp2;refine Lp ?_;refine dB (λz:Array α=>[(0,.slice A n c),(1,I s),(2,I t),(3,I lm1),(4,fv),(10,.bool wb),(11,.bool wp),(12,I (t-s:Nat)),(13,I p2)]) (λz w'=>PermIn s t d z/\Sep w F [gG f A n c z] w') ?_ ?_
  . refine V2 ?_
    refine dL (t:=69) rfl (λk=>?_) (λk=>?_)
    . refine V3 ?_
      refine dL (t:=72) rfl (λk=>?_) (λk=>?_)
      . refine Cz (λk=>?_) (λk=>?_)
        . refine V4 ?_
          obtain⟨F0,eO,gQ,aK⟩:=e.focus At0;refine aL (aau (a:=s) (b:=t) eO Ms oM oM oM (oJ.into e.kept gQ)) rfl rfl (λv' _ hv=>?_);obtain⟨rfl,apR,F1,hq,hs⟩:=hv;have k:=aK _ F1 _ apR hq hs;obtain⟨apS,asM⟩:=partialInsertionSort_holds hO d2 s t oM oM hB2;refine Qn (Cd rfl (λS=>?_) (λS=>?_))
          . have h80:=S
            refine V0 ?_;exact⟨_,rfl,Vu _ (permIn_trans _ _ _ _ _ hp2 apS) (asM h80),k.turn⟩
          refine V0 ?_;exact au (partialInsertionSort (ltC cf) d2 s t).1 tR ⟨permIn_trans _ _ _ _ _ hp2 apS,k⟩
        refine V0 ?_;exact au d2 tR ⟨hp2,e⟩
      refine V1 ?_;exact au d2 tR ⟨hp2,e⟩
    refine V3 ?_;exact au d2 tR ⟨hp2,e⟩
  rintro d3 τ S ⟨Qh,S⟩;have hn3:n=d3.size:=by rw[Qh.1];exact hn
  have hB3:=hB.perm oM Qh;have hR:=rdI hn3 S At0;refine Lp ?_;refine Dz (λS _ k=>?_);refine V3 ?_;refine fK (t:=83) rfl (λe=>?_) (λe=>?_)
  . have g:0<s:=by have:=e;omega
    refine V3 ?_;refine Gc S 6 ((s-1:Nat):Int) ?_;refine V6 ?_;refine FcI (λ_ h=>?_);refine O3 ?_;refine fO S kR ?_;refine Cz (λS=>?_) (λS=>?_)
    . have Mq:ltC cf d3[s-1]! d3[p2]! =false:=by simp[ltC];have:=S;omega
      obtain⟨g1,g2,g3,g4,g5⟩:=round_eq hO (partitionEqual_holds _) g abM abN oM hB3 Mq (d4:=(partitionEqual (ltC cf) d3 s t p2).2) (mid:=(partitionEqual (ltC cf) d3 s t p2).1) rfl;refine V5 ?_;obtain⟨F0,eO,gQ,aK⟩:=h.focus At0;refine aL (Ur (a:=s) (b:=t) (p:=p2) eO hn3 abM abN oM oM (oJ.into h.kept gQ)) rfl rfl (λv' _ hv=>?_);obtain⟨rfl,Vw,apT,F1,hq,hs⟩:=hv;have S:=aK _ F1 _ apT hq hs;refine V3 ?_
      first
      | exact aj ((partitionEqual (ltC cf) d3 s t p2).1,t,lm1,wb,wp,(partitionEqual (ltC cf) d3 s t p2).2) tR ⟨⟨⟨Vw,dO,g2,VA,zI⟩,g4,λR h1 h2=>Vu R (permIn_trans _ _ _ _ _ Qh (g5 R h1 h2).1) (g5 R h1 h2).2⟩,S⟩ dO
      | exact aj (mid+1,t,lm1,decide ((((t-s)/8:Nat):Int)<=((mid-s:Nat):Int)),ap,d5) tR ⟨⟨⟨hn5,dO,dO,VA,zI⟩,i,λR h1 h2=>Vu R (permIn_trans _ _ _ _ _ Qh (j R h1 h2).1) (j R h1 h2).2⟩,S⟩ dO
      | exact aj (s,mid,lm1,decide ((((t-s)/8:Nat):Int)<=((t-mid:Nat):Int)),ap,d5) tR ⟨⟨⟨hn5,has,g1,dO,zI⟩,i,λR h1 h2=>Vu R (permIn_trans _ _ _ _ _ Qh (j R h1 h2).1) (j R h1 h2).2⟩,S⟩ dO
    refine V5 ?_;obtain⟨F0,eO,gQ,aK⟩:=h.focus At0;refine aL (acw (a:=s) (b:=t) (p:=p2) eO hn3 abM abN oM oM (oJ.into h.kept gQ)) rfl rfl (λv' _ hv=>?_);obtain⟨rfl,Vw,apU,F1,hq,hs⟩:=hv;have S:=aK _ F1 _ apU hq hs;obtain⟨g1,g2,g3,g4,g5,g6,g7⟩:=round_part hO (partition_holds _) abM abN oM hB3 (d4:=(partition (ltC cf) d3 s t p2).2.2) (mid:=(partition (ltC cf) d3 s t p2).1) (ap:=(partition (ltC cf) d3 s t p2).2.1) rfl;obtain⟨pr,hpr⟩: ∃pr,pr=partition (ltC cf) d3 s t p2:=⟨_,rfl⟩;rw[<-hpr]at g1 g2 g3 g4 g5 g6 g7 Vw S ⊢;obtain⟨mid,ap,d4⟩:=pr;dsimp only at g1 g2 g3 g4 g5 g6 g7 Vw S ⊢;refine V9 ?_;refine Vc ((mid-s:Nat):Int) ?_;refine V2 ?_;refine Vc ((t-mid:Nat):Int) ?_;refine V3 ?_;refine Vv (Gives.GZ (a:=t-s) (b:=8) rfl rfl dC oM) (Cz (λh=>?_) (λh=>?_))
    . have Kw:=h
      refine V9 ?_;obtain⟨F0,eO,gQ,aK⟩:=S.focus At0;refine aL (ih (mid-s) oM (a:=s) (b:=mid) (lim:=lm1) (zbi _) eO Vw g1 oM pR zI g4 (oJ.into S.kept gQ)) rfl rfl (λv' _ hv=>?_);obtain⟨d5,rfl,⟨hp5,l⟩,apV,F1,hq,hs⟩:=hv;have m:=aK _ F1 _ apV hq hs;obtain⟨i,j⟩:=g6 d5 hp5 l;have hn5:n=d5.size:=by rw[hp5.1];exact Vw
      refine V1 ?_;refine Vc ((mid+1:Nat):Int) ?_;refine V1 ?_
      first
      | exact aj ((partitionEqual (ltC cf) d3 s t p2).1,t,lm1,wb,wp,(partitionEqual (ltC cf) d3 s t p2).2) tR ⟨⟨⟨Vw,dO,g2,VA,zI⟩,g4,λR h1 h2=>Vu R (permIn_trans _ _ _ _ _ Qh (g5 R h1 h2).1) (g5 R h1 h2).2⟩,m⟩ dO
      | exact aj (mid+1,t,lm1,decide ((((t-s)/8:Nat):Int)<=((mid-s:Nat):Int)),ap,d5) tR ⟨⟨⟨hn5,dO,dO,VA,zI⟩,i,λR h1 h2=>Vu R (permIn_trans _ _ _ _ _ Qh (j R h1 h2).1) (j R h1 h2).2⟩,m⟩ dO
      | exact aj (s,mid,lm1,decide ((((t-s)/8:Nat):Int)<=((t-mid:Nat):Int)),ap,d5) tR ⟨⟨⟨hn5,has,g1,dO,zI⟩,i,λR h1 h2=>Vu R (permIn_trans _ _ _ _ _ Qh (j R h1 h2).1) (j R h1 h2).2⟩,m⟩ dO
    have Kw:=h;refine V6 ?_;refine Vc ((mid+1:Nat):Int) ?_;refine V3 ?_;obtain⟨F0,eO,gQ,aK⟩:=S.focus At0;refine aL (ih (t-(mid+1)) oM (a:=mid+1) (b:=t) (lim:=lm1) (zbi _) eO Vw oM oM pR zI g5 (oJ.into S.kept gQ)) rfl rfl (λv' _ hv=>?_);obtain⟨d5,rfl,⟨hp5,l⟩,apW,F1,hq,hs⟩:=hv;have m:=aK _ F1 _ apW hq hs;obtain⟨i,j⟩:=g7 d5 hp5 l;have hn5:n=d5.size:=by rw[hp5.1];exact Vw
    refine V2 ?_
    first
    | exact aj ((partitionEqual (ltC cf) d3 s t p2).1,t,lm1,wb,wp,(partitionEqual (ltC cf) d3 s t p2).2) tR ⟨⟨⟨Vw,dO,g2,VA,zI⟩,g4,λR h1 h2=>Vu R (permIn_trans _ _ _ _ _ Qh (g5 R h1 h2).1) (g5 R h1 h2).2⟩,m⟩ dO
    | exact aj (mid+1,t,lm1,decide ((((t-s)/8:Nat):Int)<=((mid-s:Nat):Int)),ap,d5) tR ⟨⟨⟨hn5,dO,dO,VA,zI⟩,i,λR h1 h2=>Vu R (permIn_trans _ _ _ _ _ Qh (j R h1 h2).1) (j R h1 h2).2⟩,m⟩ dO
    | exact aj (s,mid,lm1,decide ((((t-s)/8:Nat):Int)<=((t-mid:Nat):Int)),ap,d5) tR ⟨⟨⟨hn5,has,g1,dO,zI⟩,i,λR h1 h2=>Vu R (permIn_trans _ _ _ _ _ Qh (j R h1 h2).1) (j R h1 h2).2⟩,m⟩ dO
  have g:=e;refine V6 ?_;obtain⟨F0,eO,gQ,aK⟩:=k.focus At0;refine aL (acw (a:=s) (b:=t) (p:=p2) eO hn3 abM abN oM oM (oJ.into k.kept gQ)) rfl rfl (λv' _ hv=>?_);obtain⟨rfl,Vw,apX,F1,hq,hs⟩:=hv;have m:=aK _ F1 _ apX hq hs;obtain⟨g1,g2,g3,g4,g5,g6,g7⟩:=round_part hO (partition_holds _) abM abN oM hB3 (d4:=(partition (ltC cf) d3 s t p2).2.2) (mid:=(partition (ltC cf) d3 s t p2).1) (ap:=(partition (ltC cf) d3 s t p2).2.1) rfl;obtain⟨pr,hpr⟩: ∃pr,pr=partition (ltC cf) d3 s t p2:=⟨_,rfl⟩;rw[<-hpr]at g1 g2 g3 g4 g5 g6 g7 Vw m ⊢;obtain⟨mid,ap,d4⟩:=pr;dsimp only at g1 g2 g3 g4 g5 g6 g7 Vw m ⊢;refine V9 ?_;refine Vc ((mid-s:Nat):Int) ?_;refine V2 ?_;refine Vc ((t-mid:Nat):Int) ?_;refine V3 ?_;refine Vv (Gives.GZ (a:=t-s) (b:=8) rfl rfl dC oM) (Cz (λg=>?_) (λg=>?_))
  . have Kw:=g
    refine V9 ?_;obtain⟨F0,eO,gQ,aK⟩:=m.focus At0;refine aL (ih (mid-s) oM (a:=s) (b:=mid) (lim:=lm1) (zbi _) eO Vw g1 oM pR zI g4 (oJ.into m.kept gQ)) rfl rfl (λv' _ hv=>?_);obtain⟨d5,rfl,⟨hp5,l⟩,apY,F1,hq,hs⟩:=hv;have e:=aK _ F1 _ apY hq hs;obtain⟨i,j⟩:=g6 d5 hp5 l;have hn5:n=d5.size:=by rw[hp5.1];exact Vw
    refine V1 ?_;refine Vc ((mid+1:Nat):Int) ?_;refine V1 ?_
    first
    | exact aj ((partitionEqual (ltC cf) d3 s t p2).1,t,lm1,wb,wp,(partitionEqual (ltC cf) d3 s t p2).2) tR ⟨⟨⟨Vw,dO,g2,VA,zI⟩,g4,λR h1 h2=>Vu R (permIn_trans _ _ _ _ _ Qh (g5 R h1 h2).1) (g5 R h1 h2).2⟩,e⟩ dO
    | exact aj (mid+1,t,lm1,decide ((((t-s)/8:Nat):Int)<=((mid-s:Nat):Int)),ap,d5) tR ⟨⟨⟨hn5,dO,dO,VA,zI⟩,i,λR h1 h2=>Vu R (permIn_trans _ _ _ _ _ Qh (j R h1 h2).1) (j R h1 h2).2⟩,e⟩ dO
    | exact aj (s,mid,lm1,decide ((((t-s)/8:Nat):Int)<=((t-mid:Nat):Int)),ap,d5) tR ⟨⟨⟨hn5,has,g1,dO,zI⟩,i,λR h1 h2=>Vu R (permIn_trans _ _ _ _ _ Qh (j R h1 h2).1) (j R h1 h2).2⟩,e⟩ dO
  have Kw:=g;refine V6 ?_;refine Vc ((mid+1:Nat):Int) ?_;refine V3 ?_;obtain⟨F0,eO,gQ,aK⟩:=m.focus At0;refine aL (ih (t-(mid+1)) oM (a:=mid+1) (b:=t) (lim:=lm1) (zbi _) eO Vw oM oM pR zI g5 (oJ.into m.kept gQ)) rfl rfl (λv' _ hv=>?_);obtain⟨d5,rfl,⟨hp5,l⟩,apZ,F1,hq,hs⟩:=hv;have e:=aK _ F1 _ apZ hq hs;obtain⟨i,j⟩:=g7 d5 hp5 l;have hn5:n=d5.size:=by rw[hp5.1];exact Vw
  refine V2 ?_
  first
  | exact aj ((partitionEqual (ltC cf) d3 s t p2).1,t,lm1,wb,wp,(partitionEqual (ltC cf) d3 s t p2).2) tR ⟨⟨⟨Vw,dO,g2,VA,zI⟩,g4,λR h1 h2=>Vu R (permIn_trans _ _ _ _ _ Qh (g5 R h1 h2).1) (g5 R h1 h2).2⟩,e⟩ dO
  | exact aj (mid+1,t,lm1,decide ((((t-s)/8:Nat):Int)<=((mid-s:Nat):Int)),ap,d5) tR ⟨⟨⟨hn5,dO,dO,VA,zI⟩,i,λR h1 h2=>Vu R (permIn_trans _ _ _ _ _ Qh (j R h1 h2).1) (j R h1 h2).2⟩,e⟩ dO
  | exact aj (s,mid,lm1,decide ((((t-s)/8:Nat):Int)<=((t-mid:Nat):Int)),ap,d5) tR ⟨⟨⟨hn5,has,g1,dO,zI⟩,i,λR h1 h2=>Vu R (permIn_trans _ _ _ _ _ Qh (j R h1 h2).1) (j R h1 h2).2⟩,e⟩ dO
def XU (hO:SWO (ltC cf)) (hp:(gG f A n c d₀).ok F w) (zG:n=d₀.size) (pR:n<1000000) (oJ:pK prog fv f cf F w):
    aQ prog 213 [.slice A n c,fv] w λr w'=>∃d':Array α,r=.tuple #[]/\(PermIn 0 n d₀ d'/\SortedIn (ltC cf) 0 n d')/\Turn F (gG f A n c d') w w':=by
  have H:=Sep.bW hp
  have hbl:Lib.bitLen n<=62:=by
    rcases zef n with e | e
    . rw[e];decide
    exact(JL e pR).2.2
  refine bU func213 ?_;refine V6 ?_;refine Vv (Gives.zw (c:=(n:Int)) rfl (by rw[IntKind.wrap_u64];omega)) ?_;refine eG (EK n oM) (h:=?_);refine Mv ?_;obtain⟨F0,eO,gQ,aK⟩:=H.focus At0;refine aL (akj hO n (a:=0) (b:=n) (lim:=Lib.bitLen n) oM eO zG (zai _) (zbi _) pR oM (.inl rfl) (oJ.into H.kept gQ)) rfl rfl (λv' _ hv=>?_);obtain⟨d5,rfl,hps,anT,F1,hq,hs⟩:=hv;have k:=aK _ F1 _ anT hq hs;refine V0 ?_;exact⟨d5,rfl,hps,k.turn⟩
end
open Go.RowKit
def Sep.amT {w0 w:Wd} {X:Wd->Prop} {rs:List HP} {p:HP} {put:HP->List HP} (H:Sep w0 noB (fP X::rs) w) (hat:At rs p put):
    ∃F,p.ok F w/\(∀b,F b->w0.heap.size<=b)/\(∀w1,Kept F w w1->X w1/\Kept noB w0 w1)/\∀w' F' p',Kept F w w'->p'.ok F' w'->(∀b,F' b->F b\/w.heap.size<=b)->Sep w0 noB (fP X::put p') w':=by
  obtain⟨F,Fq,hp,hq,hd,hS,lG⟩:=H.ah3 hat;have hS': ∀b,F b->w0.heap.size<=b:=λb hb=>(hS b hb).resolve_left id;exact⟨F,hp,hS',λw1 hk=>⟨hq.1 w1 hk.size λb hb=>hk.block b (hq.2 b hb) (hd b hb),H.kept.trans hk λb hb=>.inr (hS' b hb)⟩,lG⟩
def Gq (n:Nat):LV:=[I n]
instance:jd Gq 1:=⟨λ_=>rfl⟩
variable {v:Value}
def XV {α β:Type} {e k:Nat} {enc:β->LV} {g:α->β} {l:List α}:aU e k enc v (l.map g)=aU e k (λx=>enc (g x)) v l:=by
 unfold aU;rw[zae,List.flatMap_map]
def Us {α:Type} [Inhabited α] {enc:α->LV} {k:Nat} [hk:jd enc k] {w:Wd} {A:OA} {l:List α} {c j:Nat} (h:Mw.Rd w A enc k l) (hj:j<=l.length) (hc:l.length<=c):Mw.Rd w (if c=j then A else A.map (·.add (j*k))) enc k (l.drop j):=by
 have:=gZ.cut h (k:=j) (cap:=c) hj hc;unfold Mw.Rd;rw[zbo]
 have e0:((l.take j).flatMap enc).length=j*k:=by
  rw[jw hk.len (l.take j),zah,zcp hj]
 have e:(l.flatMap enc).drop (j*k)=(l.drop j).flatMap enc:=by
  conv=>lhs;rw[<-zbs j l,zbv]
  exact List.drop_left' e0
 rw[<-e];exact this
def xS (n i:Nat):List Nat:=List.range i++List.replicate (n-i) 0
variable {i n:Nat}
def Rt (h:i<=n):(xS n i).length=n:=by
 unfold xS;rw[zad,zeb,zcx];omega
def aeC (h:i<n):(xS n i).set i i=xS n (i+1):=by
 unfold xS;rw[zed _ _ (by rw[zeb];exact zbi _),zeb,zec,show n-i=(n-(i+1))+1 from oM,zes,zdf,List.range_succ,zbm];rfl
def ahs (h:i<n):(xS n i)[i]? =some 0:=by
 unfold xS;rw[zby (by rw[zeb];exact zbi _),zeb,zec,show n-i=(n-(i+1))+1 from oM,zes];rfl
def aeD (n:Nat):xS n n=List.range n:=by unfold xS;rw[zec];simp
variable {w:Wd}
def ND {l:List aG} {r:List (Value×Int)} (hr:aJ w v aA 2 r) (eP:gN w r l) {a b:Nat} {x y:aG} (hx:l[a]? =some x) (hy:l[b]? =some y):
    Rk Tryz.prog 98 [v,I a,I b] w (I (jK x.row y.row)):=by
  obtain⟨A,m,rfl,⟨hm,nX⟩,hA⟩:=hr;obtain⟨vx,hvx,CS⟩:=eP.get hx;obtain⟨vy,hvy,hsy⟩:=eP.get hy;have hla:=fI hvx;have hlb:=fI hvy;have H:=Sep.aH w;refine D9 Tryz.func98 ?_;refine Dz (λk _ S=>?_);refine V10 ?_;refine dA k 10 _ S (aew (CS.keep S.kept) (hsy.keep S.kept)) (h:=λ_ S _=>⟨sT,?_⟩);refine V1 ?_;exact⟨rfl,S.kept⟩
variable {c:Nat} {fv:Value}
def XW {A:OA}:Rk Tryz.prog 344 [.slice A n c,I 0,I 0,fv] w (.tuple #[]):=by
 have H:=Sep.aH w;refine yM Tryz.func344 ?_;refine V3 ?_;refine aI (λ_:Unit=>[(2,I 0),(8,I 1)]) (λ_ w'=>Sep w noB [] w') (λ_ _=>0) () tR H (λ_ τ _ k=>?_);refine Lp ?_;refine Cz (λS=>?_) (λS=>?_)
 .exact zas S dC
 refine V0 ?_;exact⟨rfl,k.kept⟩
def akk {A:OA} {lim:Value}:Rk Tryz.prog 304 [.slice A n c,I 0,I 0,lim,fv] w (.tuple #[]):=by
 have H:=Sep.aH w;refine Qt Tryz.func304 ?_;refine V2 ?_;refine aI (λ_:Unit=>[(0,.slice A n c),(1,I 0),(2,I 0),(3,lim),(4,fv),(10,.bool true),(11,.bool true)]) (λ_ w'=>Sep w noB [] w') (λ_ _=>0) () tR H (λ_ τ _ _=>?_);refine Lp ?_;refine Cz (λk=>?_) (λk=>?_)
 .refine Kz XW (λ_ S _=>?_)
  refine V0 ?_;exact⟨rfl,S.kept⟩
 exact zas k dC
def Ut {A:OA}:Rk Tryz.prog 213 [.slice A 0 c,fv] w (.tuple #[]):=by
 have H:=Sep.aH w;refine bU Tryz.func213 ?_;refine V6 ?_;refine Vv (Gives.zw (c:=0) rfl (by rw[IntKind.wrap_u64];rfl)) ?_;refine eG (EK 0 dC) (h:=?_);refine Mv ?_;refine Kz akk (λ_ k _=>?_);refine V0 ?_;exact⟨rfl,k.kept⟩
def PZ {a b c:List aC} (h: ¬jK a b<0) (h2: ¬jK b c<0): ¬jK a c<0:=by
 have h3:jK b a<=0:=by rw[fT.anti];omega
 have h4:jK c b<=0:=by rw[fT.anti];omega
 intro h5;have:=Jm h4 (Jo (Jm h3 h5) (Int.le_of_eq (fT.self c)));have h6:=Jm h3 h5;have h7:=Jo h6 h4;rw[fT.self]at h7;omega
def aav {α:Type} [Inhabited α] {d d':Array α} (hn:n=d.size) (h:PermIn 0 n d d'):d'.toList.Perm d.toList:=by
 obtain⟨h1,_,h2⟩:=h
 have e: ∀x:Array α,x.size=n->(x.extract 0 n).toList=x.toList:=λx hx=>by
  rw[Array.toList_extract,zfw,zde,Nat.sub_zero,zaj (by rw[Array.length_toList];omega)]
 rw[e d' oM,e d hn.symm]at h2;exact h2
def akl {α:Type} [Inhabited α] (g:α->List aC):SWO (ltC λx y=>jK (g x) (g y)) where
 irrefl x:=zal (by show ¬jK (g x) (g x)<0;rw[fT.self];omega)
 trans x y z h1 h2:=zap (fT.trans _ _ _ (zbd h1) (zbd h2))
 ntrans x y z h1 h2:=zal (PZ (of_decide_eq_false h1) (of_decide_eq_false h2))
def Uu {w0:Wd} {F:NP} {l:List aG} {r:List (Value×Int)} {v:Value} {B:OA} (hr:aJ w0 v aA 2 r) (eP:gN w0 r l) (hk: ∀w1,Kept F w w1->Kept noB w0 w1)
    (hp:(aU 3 1 Gq (.slice B l.length c) (List.range l.length)).ok F w) (hn:l.length<=1000):
    aQ Tryz.prog 213 [.slice B l.length c,.func (.func 98) #[v] #[]] w λu w'=>∃ps:List Nat,u=.tuple #[]/\(ps.Perm (List.range l.length)/\ps.Pairwise λi j=>∀a b,l[i]? =some a->l[j]? =some b->jK a.row b.row<=0)/\Turn F (aU 3 1 Gq (.slice B l.length c) ps) w w':=by
  obtain⟨m,hm⟩: ∃m,m=l.length:=⟨_,rfl⟩;rw[<-hm]at hp hn ⊢;cases m with
  | zero=>
    refine aQ.mono Ut λu w' hu=>?_;obtain⟨rfl,zF⟩:=hu;exact⟨[],rfl,⟨List.Perm.refl _,List.Pairwise.nil⟩,zF.mono λ_ h=>h.elim,F,HP.stay hp zF,λ_ h=>.inl h⟩
  | succ m=>
    have aX: ∀x:Fin (m+1),x.val<l.length:=λx=>by have:=x.isLt;omega
    obtain⟨d₀,hd₀⟩: ∃d₀:Array (Fin (m+1)),d₀=(List.finRange (m+1)).toArray:=⟨_,rfl⟩;have Zf:m+1=d₀.size:=by rw[hd₀];simp
    have hdl:d₀.toList.map (·.val)=List.range (m+1):=by
      rw[hd₀];refine List.ext_getElem sM λi h1 h2=>?_;simp
    have hp':(gG (λx:Fin (m+1)=>(x.val:Int)) B (m+1) c d₀).ok F w:=by
      unfold gG;have:=hp;rw[<-hdl,XV]at this;exact this
    have oJ:pK Tryz.prog (.func (.func 98) #[v] #[]) (λx:Fin (m+1)=>(x.val:Int)) (λx y=>jK (l[x.val]'(aX x)).row (l[y.val]'(aX y)).row) F w:=
      ⟨_,[v],[],rfl,eT,λw1 h1 x y=>ND (hr.keep (hk w1 h1)) (eP.keep (hk w1 h1)) (zab (aX x)) (zab (aX y))⟩
    refine aQ.mono (XU (akl λx:Fin (m+1)=>(l[x.val]'(aX x)).row) hp' Zf oM oJ) λu w' hu=>?_;obtain⟨d',rfl,⟨h1,h2⟩,ht⟩:=hu;refine⟨d'.toList.map (·.val),rfl,⟨?_,?_⟩,?_⟩
    . rw[<-hdl]
      exact(aav Zf h1).map _
    . rw[List.pairwise_map,List.pairwise_iff_getElem]
      intro i j hi hj hij a b ha hb;rw[Array.length_toList]at hi hj;have h3:=h2 i j (zai _) hij (by have:=h1.1;omega);have h4:=of_decide_eq_false h3;rw[getElem!_pos d' j hj,getElem!_pos d' i hi]at h4;dsimp only at h4;rw[Array.getElem_toList]at ha hb;rw[zab (aX _)]at ha hb;injection ha with ha
      injection hb with hb
      subst ha;subst hb;rw[fT.anti];omega
    rw[XV];exact ht
def aeE {l:List aG} (hl:dS w v l) (hn:l.length<=1000):
    aQ Tryz.prog 150 [v] w λu w'=>∃x:Value×List Nat,u=x.1/\(x.2.Perm (List.range l.length)/\x.2.Pairwise λi j=>∀a b,l[i]? =some a->l[j]? =some b->jK a.row b.row<=0)/\Turn noB (aU 3 1 Gq x.1 x.2) w w':=by
  obtain⟨r,hr,eP⟩:=hl;have yL:=eP.len;have hr0:=hr;obtain⟨A,m,rfl,⟨hm,nX⟩,hA⟩:=hr;have H:=Sep.aH w;refine dh Tryz.func150 ?_;refine V3 ?_;refine ah6 H (k:=r.length) (by unfold maxLen;omega) oM (h:=λb3 S c _=>?_)
  have c:Sep w noB (aU 3 1 Gq (.slice (some ⟨b3,0,none⟩) r.length r.length) (xS r.length 0)::[]) S:=by
    have h0:=Sep.nU (n:=r.length) (s:=1) c At0 sM (by unfold maxLen;omega);unfold aU;rw[Rt (zai _)]
    have e:(xS r.length 0).flatMap Gq=List.replicate r.length (Value.int .i64 0):=by
      unfold xS;rw[List.range_zero,zbw,Nat.sub_zero];clear h0 yL hr0 hm nX hA
      induction r.length with
      | zero=>rfl
      | succ k ih=>rw[zes,zbh,ih,zes];rfl
    rw[e];exact h0
  refine V4 ?_;refine aI (λi:Nat=>[(0,.slice A r.length m),(3,.slice (some ⟨b3,0,none⟩) r.length r.length),(9,I r.length),(10,I i)]) (λi w'=>i<=r.length/\Sep w noB [aU 3 1 Gq (.slice (some ⟨b3,0,none⟩) r.length r.length) (xS r.length i)] w') (λi _=>r.length-i) 0 tR ⟨zai _,c⟩ (λi τ _ hI=>?_);obtain⟨hi,c⟩:=hI;refine Lp ?_;refine Cz (λS=>?_) (λS=>?_)
  . have aX:i<r.length:=oM
    refine V5 ?_;refine Vv (Gives.idx rfl rfl aX) (QL (enc:=Gq) (l:=xS r.length i) (f:=0) i (Rt hi).symm c At0 (ahs aX) dC rfl rfl rfl rfl (h:=λ_ S=>?_));rw[aeC aX]at S;refine V0 ?_;refine Vc ((i+1:Nat):Int) ?_;refine V1 ?_;exact aj (i+1) tR ⟨oM,S⟩ oM
  have jG:i=r.length:=oM;rw[jG,aeD]at c;refine V3 ?_;rw[yL]at c ⊢;obtain⟨F0,eO,gQ,aK⟩:=c.focus At0;refine aL (Uu (v:=.slice A l.length m) (by rw[<-yL];exact hr0) eP (λ_ h1=>c.kept.trans h1 λb hb=>.inr ((gQ b hb).resolve_left id)) eO hn) rfl rfl (λv' _ hv=>?_);obtain⟨ps,rfl,hps,asP,F1,hq,hs⟩:=hv;have c:=aK _ F1 _ asP hq hs;refine V2 ?_;exact⟨(_,ps),rfl,hps,c.turn⟩
end Go.Proofs.Mw
