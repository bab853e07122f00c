/-
 Sorting by a function:rows turned round,patterns broken,a few insertions,walked.
-/
import Derived.Test.YtjcgliljofbopaaGreatDoorNv20
import Derived.Sort.LotD5
import Derived.Sort.WalkC4
import Derived.Sort.AssemblyPlain
set_option linter.all false
set_option maxRecDepth 4000
namespace Go.Proofs.Mw
open Go.Lib Go.Sort Go.Proofs.Tryz
attribute [local irreducible] FW FL FG FGn jK jO fI lU Qfn Gives
section
variable {α:Type} [Inhabited α] {f:α->Int} {cf:α->α->Int} {w:Wd} {F:NP} {A:OA} {n c:Nat} {d₀:Array α} {fv:Value}
def ZH {a b:Nat} (hp:(gD f A n c d₀).ok F w) (za:n=d₀.size) (Oy:a<b) (hb:b<=n) (pF:n<=1000000):
    aR prog 344 [.slice A n c,I a,I b,fv] w λr w'=>r=.tuple #[]/\Turn F (gD f A n c (reverseRange d₀ a b)) w w':=by
  have H:=Sep.bR hp;obtain⟨res,ak⟩: ∃res,res=reverseRange d₀ a b:=⟨_,rfl⟩;rw[<-ak];unfold reverseRange at ak;refine yg func344 ?_;refine Zb3 ?_;refine Vc ((b-1:Nat):Int) ?_;refine Zb1 ?_;refine aI (λx:Nat×Nat×Array α=>[(0,.slice A n c),(8,I x.1),(9,I x.2.1)]) (λx w'=>((n=x.2.2.size/\x.2.1<n)/\reverseLoop x.1 x.2.1 x.2.2=res)/\Sep w F [gD f A n c x.2.2] w') (λx _=>x.2.1-x.1) (a,b-1,d₀) tR ⟨⟨⟨za,dO⟩,ak.symm⟩,H⟩ (λx τ _ hI=>?_);obtain⟨i,j,d⟩:=x;obtain⟨⟨⟨hn,hjn⟩,hi⟩,k⟩:=hI;dsimp only at hn hjn hi k;have hR:=rdI hn k At0;refine Lp ?_;refine Cz (λS=>?_) (λS=>?_)
  . have aS:i<j:=oM
    rw[reverseLoop,zac aS]at hi;refine Dz (λ_ _ _=>?_);refine Un ?_;refine FsI (λ_ _=>?_);refine Zb1 ?_;refine FsI (λ_ S=>?_);refine Zb1 ?_;refine Vc ((i+1:Nat):Int) ?_;refine Zb2 ?_;refine Vc ((j-1:Nat):Int) ?_;refine Zb1 ?_;exact aj (i+1,j-1,swp d i j) tR ⟨⟨⟨by rw[swp_size];exact hn,dO⟩,hi⟩,S⟩ dO
  rw[reverseLoop,zab oM]at hi;refine Zb0 ?_;exact⟨rfl,by rw[<-hi];exact k.turn⟩
def agz {b x:Nat} {E:Td} (hp:(blk b [U x] E).ok F w) (hx:x<18446744073709551616):aR prog 352 [ay b] w λr w'=>∃y:Nat,r=U y/\y<18446744073709551616/\Turn F (blk b [U y] E) w w':=by
 have H:=Sep.bR hp;refine cK func352 ?_;obtain⟨a1,UH⟩: ∃a:Nat,a=x^^^(x*8192%18446744073709551616):=⟨_,rfl⟩;obtain⟨a2,UW⟩: ∃a:Nat,a=a1^^^(a1/128):=⟨_,rfl⟩;obtain⟨a3,ha3⟩: ∃a:Nat,a=a2^^^(a2*131072%18446744073709551616):=⟨_,rfl⟩;have l1:a1<18446744073709551616:=by rw[UH];exact Nat.xor_lt_two_pow (n:=64) oM oM
 have l2:a2<18446744073709551616:=by rw[UW];exact Nat.xor_lt_two_pow (n:=64) oM oM
 have l3:a3<18446744073709551616:=by rw[ha3];exact Nat.xor_lt_two_pow (n:=64) oM oM
 refine Dz (λk _ S=>?_);refine Zb6 ?_;refine GS (Gn rfl (λ_=>Gives.al5 (c:=((x*8192%18446744073709551616:Nat):Int)) rfl rfl dC (by show IntKind.u64.wrap ((x:Int)*2^13)=_;rw[IntKind.wrap_u64];omega)) ?_);refine GS (Gn rfl (λ_=>Gives.al6 (c:=(a1:Int)) rfl rfl (by rw[bits_xor_u64_nat _ _ hx oM,UH])) ?_);refine Zb1 ?_;refine lX k 9 _ S (h:=λ_ _=>⟨sT,?_⟩);refine Dz (λS _ k=>?_);refine Zb6 ?_;refine GS (Gn rfl (λ_=>Gives.aqa (c:=((a1/128:Nat):Int)) rfl rfl dC (by show(a1:Int).fdiv (2^7)=_;rw[zfv _ dC];omega)) ?_);refine GS (Gn rfl (λ_=>Gives.al6 (c:=(a2:Int)) rfl rfl (by rw[bits_xor_u64_nat _ _ l1 oM,UW])) ?_);refine Zb1 ?_;refine lX S 9 _ k (h:=λ_ _=>⟨sT,?_⟩);refine Dz (λk _ S=>?_);refine Zb6 ?_;refine GS (Gn rfl (λ_=>Gives.al5 (c:=((a2*131072%18446744073709551616:Nat):Int)) rfl rfl dC (by show IntKind.u64.wrap ((a2:Int)*2^17)=_;rw[IntKind.wrap_u64];omega)) ?_);refine GS (Gn rfl (λ_=>Gives.al6 (c:=(a3:Int)) rfl rfl (by rw[bits_xor_u64_nat _ _ l2 oM,ha3])) ?_);refine Zb1 ?_;refine lX k 9 _ S (h:=λ_ S=>⟨sT,?_⟩);refine Zb4 ?_;exact⟨a3,rfl,l3,S.turn⟩
def Jj {m:Nat} (h0:0<m) (hm:m<1000000):2^Lib.bitLen m<=2*m/\m<2^Lib.bitLen m/\Lib.bitLen m<=62:=by
 obtain⟨h1,h2,h3⟩:=bitLenAux_bounds 64 m oM oM;have h1':1<=Lib.bitLen m:=h1;have h2':2^(Lib.bitLen m-1)<=m:=h2
 have e:2^Lib.bitLen m=2*2^(Lib.bitLen m-1):=by
  conv=>lhs;rw[show Lib.bitLen m=(Lib.bitLen m-1)+1 from oM,Nat.pow_succ]
  omega
 refine⟨oM,h3,?_⟩;refine Classical.byContradiction λh=>?_;have:=Nat.pow_le_pow_right (n:=2) dC (show 20<=Lib.bitLen m-1 from oM);omega
def Ep (m:Nat) (hm:m<4611686018427387904):aR prog 337 [U m] w λr w'=>r=I (Lib.bitLen m)/\w=w':=by
 have:=Tryz.bits_Len (m:Int) w oM oM;rw[zdq]at this;refine j6 (Calls.mono this λe w' he=>?_);obtain⟨rfl,rfl⟩:=he;exact⟨rfl,rfl⟩
def alP (m:Nat) (h0:0<m) (hm:m<1000000):aR prog 351 [I m] w λr w'=>r=U ((2^Lib.bitLen m:Nat):Int)/\w=w':=by
 obtain⟨EL,hb2,hb3⟩:=Jj h0 hm;obtain⟨q,hq⟩: ∃q,q=Lib.bitLen m:=⟨_,rfl⟩;obtain⟨M,hM⟩: ∃M,M=2^q:=⟨_,rfl⟩;have hb:=Ep (w:=w) m oM;rw[<-hq]at EL hb2 hb3 hb ⊢;rw[<-hM]at EL hb2 |-
 have e:(1:Int)*2^(Min.min (Int.toNat (q:Int)) 64)=(M:Int):=by
  rw[zdq,zdc oM,Int.one_mul,hM,Int.natCast_pow];rfl
 refine cK func351 ?_;refine Zb2 ?_;refine Vv (Gives.yU (c:=(m:Int)) rfl (by rw[IntKind.wrap_u64];omega)) ?_;refine eB hb (h:=?_);refine dw (Gives.al5 (c:=(M:Int)) rfl rfl oM (by
 show IntKind.u64.wrap ((1:Int)*2^(Min.min (Int.toNat (q:Int)) 64))=_
 rw[e,IntKind.wrap_u64];omega)) rfl ?_
 refine Zb1 ?_;exact⟨rfl,rfl⟩
def agA {a b:Nat} (hp:(gD f A n c d₀).ok F w) (za:n=d₀.size) (Oy:a+12<b) (hb:b<=n) (pF:n<1000000):
    aR prog 342 [.slice A n c,I a,I b,fv] w λr w'=>∃d':Array α,r=.tuple #[]/\PermIn a b d₀ d'/\Turn F (gD f A n c d') w w':=by
  have H:=Sep.bR hp;obtain⟨l,hl⟩: ∃l,l=b-a:=⟨_,rfl⟩;obtain⟨i0,hi0⟩: ∃i0,i0=a+l/4*2-1:=⟨_,rfl⟩;obtain⟨hpw,Py,_⟩:=Jj (m:=l) oM oM;obtain⟨M,hM⟩: ∃M,M=2^Lib.bitLen l:=⟨_,rfl⟩;rw[<-hM]at hpw Py;refine yg func342 ?_;refine Zb2 ?_;refine Vc (l:Int) ?_;refine Cz (λS=>?_) (λS=>?_)
  . have h8:=S
    refine Zb1 ?_;refine Vv (Gives.yU (c:=(l:Int)) rfl (by rw[IntKind.wrap_u64];omega)) ?_;refine Az (λb9 _ _ _=>?_);refine Uz (λ_ e=>?_);refine Zb1 ?_;refine eB (alP l oM oM) (h:=?_);rw[<-hM];refine Zb3 ?_;refine Vv (Gives.Gg (a:=l) (b:=4) rfl rfl dC oM) (Vc ((l/4*2:Nat):Int) ?_);refine Vc ((a+l/4*2:Nat):Int) ?_;refine Vc (i0:Int) ?_;refine Zb1 ?_;refine aI (λx:Nat×Nat×Array α=>[(0,.slice A n c),(1,I a),(8,I l),(9,ay b9),(10,U M),(11,I ((i0+x.1:Nat):Int))]) (λx w'=>(x.1<=3/\x.2.1<18446744073709551616/\PermIn a b d₀ x.2.2)/\Sep w F [blk b9 [U x.2.1] 396,gD f A n c x.2.2] w') (λx _=>3-x.1) (0,l,d₀) tR ⟨⟨zak _,dO,permIn_refl _ _ _⟩,e⟩ (λx τ _ hI=>?_);obtain⟨k,x,d⟩:=x;obtain⟨⟨hk3,hx,Dm⟩,e⟩:=hI;dsimp only at hk3 hx Dm e;have hn:n=d.size:=by rw[Dm.1];exact za
    refine Lp ?_;refine Zb3 ?_;refine Vv (Gives.Gg (a:=l) (b:=4) rfl rfl dC oM) (Vc ((l/4*2:Nat):Int) ?_);refine Vc ((a+l/4*2:Nat):Int) ?_;refine Vc ((a+l/4*2+1:Nat):Int) ?_;refine Cz (λg=>?_) (λg=>?_)
    . have hk2:k<3:=oM
      refine Zb0 ?_;obtain⟨F0,eD,gV,aK⟩:=e.focus At0;refine aL (agz eD hx) rfl rfl (λv' _ hv=>?_);obtain⟨y,rfl,hy,ark,F1,hq,hs⟩:=hv;have g:=aK _ F1 _ ark hq hs;refine Mv ?_;refine Vv (Gives.al3 (c:=((M-1:Nat):Int)) rfl rfl (by rw[IntKind.wrap_u64];omega)) ?_;have arl:y&&& (M-1)<=M-1:=Nat.and_le_right;refine Vv (Gives.al4 (c:=((y&&& (M-1):Nat):Int)) rfl rfl (bits_and_u64_nat y (M-1) hy oM)) ?_;obtain⟨z,hz⟩: ∃z,z=y&&& (M-1):=⟨_,rfl⟩;rw[<-hz]at arl ⊢;refine Vv (Gives.yU (c:=(z:Int)) rfl (by rw[IntKind.wrap_i64];omega)) ?_;refine Am ?_;refine Qn (dD (λz:Nat=>[(0,.slice A n c),(1,I a),(8,I l),(9,ay b9),(10,U M),(11,I ((i0+k:Nat):Int)),(12,I z)]) (λz w'=>z<l/\Sep w F [blk b9 [U y] 396,gD f A n c d] w') ?_ ?_)
      . refine Cz (λi=>?_) (λi=>?_)
        . have hzl:=i
          refine Zb2 ?_;refine Vc ((z-l:Nat):Int) ?_;refine Zb1 ?_;exact au (z-l) tR ⟨oM,g⟩
        have hzl:=i;refine Zb0 ?_;exact au z tR ⟨oM,g⟩
      intro o τ i ⟨ho,i⟩;have i:=i.aG;have hR:=rdI hn i At0;refine Lp ?_;refine Dz (λi _ _=>?_);refine Zb5 ?_;refine Gc i 5 ((a+o:Nat):Int) ?_;refine Zb3 ?_;refine Gc i 9 ((a+o:Nat):Int) ?_;refine Zb7 ?_;refine FsI (λ_ _=>?_);refine Zb1 ?_;refine FsI (λ_ i=>?_);refine Zb1 ?_;refine Vc ((i0+(k+1):Nat):Int) ?_;refine Zb1 ?_;exact aj (k+1,y,swp d (i0+k) (a+o)) tR ⟨⟨dO,hy,permIn_trans _ _ _ _ _ Dm (swp_permIn d a b (i0+k) (a+o) oM oM oM oM oM)⟩,i.aG⟩ dO
    have nP:k=3:=oM;refine Zb0 ?_;exact⟨d,rfl,Dm,e.bH.turn⟩
  exact zar S oM
def O9 (lt:α->α->Bool) (d:Array α) (b:Nat): ∀(k i:Nat),b-i=k->i<=scanSorted lt d b i/\(i<=b->scanSorted lt d b i<=b):=by
 intro k
 induction k with
 | zero=>intro i h;rw[scanSorted,zab (by simp;intro _;omega)];exact⟨zbj _,id⟩
 | succ k ih=>
  intro i h;rw[scanSorted]
  split
  .obtain⟨h1,h2⟩:=ih (i+1) oM
   exact⟨oM,λ_=>h2 oM⟩
  exact⟨zbj _,id⟩
set_option maxHeartbeats 1000000 in
theorem ZI {a b:Nat} (hp:(gD f A n c d₀).ok F w) (za:n=d₀.size) (Oy:a+12<b) (hb:b<=n) (pF:n<=1000000) (ou:pq Tryz.prog fv f cf F w):
    aR Tryz.prog 345 [.slice A n c,I a,I b,fv] w λr w'=>r=.bool (partialInsertionSort (ltC cf) d₀ a b).2/\Turn F (gD f A n c (partialInsertionSort (ltC cf) d₀ a b).1) w w':=by
  have H:=Sep.bR hp;obtain⟨res,ak⟩: ∃res,res=partialInsertionSort (ltC cf) d₀ a b:=⟨_,rfl⟩;rw[<-ak];unfold partialInsertionSort at ak;refine yg Tryz.func345 ?_;refine Zb2 ?_;refine Vc ((a+1:Nat):Int) ?_;refine Zb2 ?_;refine aI (λx:Nat×Nat×Array α=>[(0,.slice A n c),(1,I a),(2,I b),(3,fv),(9,I x.2.1),(10,I x.1)]) (λx w'=>((n=x.2.2.size/\x.1<=5/\a<x.2.1/\x.2.1<=b)/\partialIns (ltC cf) a b (5-x.1) x.2.1 x.2.2=res)/\Sep w F [gD f A n c x.2.2] w') (λx _=>5-x.1) (0,a+1,d₀) tR ⟨⟨⟨za,zak _,dO,dO⟩,ak.symm⟩,H⟩ (λx τ w7 hI=>?_);obtain⟨s,i,d⟩:=x;obtain⟨⟨⟨hn,hs5,hai,hib⟩,hi⟩,H7⟩:=hI;dsimp only at hn hs5 hai hib hi H7;have hR:=rdI hn H7 At0;refine Lp ?_;refine Cz (λIe=>?_) (λIe=>?_)
  . obtain⟨q,hq⟩: ∃q,5-s=q+1:=⟨4-s,oM⟩
    obtain⟨e,he⟩: ∃e,e=scanSorted (ltC cf) d b i:=⟨_,rfl⟩;obtain⟨hg1,UJ⟩:=O9 (ltC cf) d b _ i rfl;rw[hq,partialIns]at hi;dsimp only at hi;rw[<-he]at hi hg1 UJ;have heb:=UJ hib;refine Sk (dD (λx:Array α=>[(0,.slice A n c),(1,I a),(2,I b),(3,fv),(9,I e),(10,I s)]) (λx w'=>(n=x.size/\partialIns (ltC cf) a b q e x=res)/\Sep w F [gD f A n c x] w') ?_ ?_)
    . refine uz (dD (λk:Nat=>[(0,.slice A n c),(1,I a),(2,I b),(3,fv),(9,I k),(10,I s)]) (λk w'=>k=e/\Sep w F [gD f A n c d] w') ?_ ?_)
      . refine Zb0 ?_
        refine aI (λk:Nat=>[(0,.slice A n c),(1,I a),(2,I b),(3,fv),(9,I k),(10,I s)]) (λk w'=>(a<k/\k<=b/\scanSorted (ltC cf) d b k=e)/\Sep w F [gD f A n c d] w') (λk _=>b-k) i tR ⟨⟨hai,hib,he.symm⟩,H7⟩ (λk τ wa hI=>?_);obtain⟨⟨hak,hkb,nP⟩,Ha⟩:=hI;refine Lp ?_;refine Dz (λSa wb Hb=>?_);refine Zb4 ?_;refine fM (t:=22) rfl (λSb=>?_) (λSb=>?_)
        . have aro:k<b:=oM
          refine Zb7 ?_;refine Gc Sa 11 ((k-1:Nat):Int) ?_;refine Zb2 ?_;refine FcI (λwc Hc=>?_);refine Za3 ?_;refine fK Sa kR ?_;refine Cz (λIf=>?_) (λIf=>?_)
          . rw[scanSorted,zac (by simp[ltC];exact⟨aro,by have:=If;omega⟩)]at nP
            refine Zb1 ?_;refine Vc ((k+1:Nat):Int) ?_;refine Zb1 ?_;exact aj (k+1) tR ⟨⟨oM,oM,nP⟩,Hc⟩ oM
          rw[scanSorted,zab (by simp[ltC];intro _;have:=If;omega)]at nP;refine Zb0 ?_;exact au k tR ⟨nP,Hc⟩
        rw[scanSorted,zab (by simp;intro _;omega)]at nP;refine Zb1 ?_;exact au k tR ⟨nP,Hb⟩
      rintro k τ wd ⟨hk,Hd⟩;subst hk;refine Lp ?_;refine Cz (λIg=>?_) (λIg=>?_)
      . rw[zac (show k=b from oM)]at hi
        refine Zb1 ?_;exact⟨by rw[<-hi];rfl,by rw[<-hi];exact Hd.turn⟩
      have auP:k<b:=oM;rw[zab (show ¬k=b from oM)]at hi;refine Zb2 ?_;refine Vc ((b-a:Nat):Int) ?_;refine Vl ?_;refine Cz (λIh=>?_) (λIh=>?_)
      . rw[zac (show b-a<50 from oM)]at hi
        refine Zb1 ?_;exact⟨by rw[<-hi];rfl,by rw[<-hi];exact Hd.turn⟩
      rw[zab (show ¬b-a<50 from oM)]at hi;refine Dz (λSc we He=>?_);refine Zb4 ?_;refine Gc Sc 4 ((k-1:Nat):Int) ?_;refine Zb2 ?_;refine Gc Sc 7 ((k-1:Nat):Int) ?_;refine Zb7 ?_;refine FsI (λwf Hf=>?_);refine Zb1 ?_;refine FsI (λwg Hg=>?_);refine fK Sc kR ?_;refine iX (dD (λx:Array α=>[(0,.slice A n c),(1,I a),(2,I b),(3,fv),(9,I k),(10,I s)]) (λx w'=>(n=x.size/\partialIns (ltC cf) a b q k (if b-k≥2 then shiftUp (ltC cf) b (k+1) x else x)=res)/\Sep w F [gD f A n c x] w') ?_ ?_)
      . refine Zb2 ?_
        refine Vc ((k-a:Nat):Int) ?_;refine Cz (λIi=>?_) (λIi=>?_)
        . rw[zac (show k-a≥2 from oM)]at hi
          refine Zb1 ?_;have Ag:n=(swp d k (k-1)).size:=by rw[swp_size];exact hn
          refine Vc ((k-1:Nat):Int) ?_;refine Zb1 ?_;refine aI (λx:Nat×Array α=>[(0,.slice A n c),(1,I a),(2,I b),(3,fv),(9,I k),(10,I s),(11,I x.1)]) (λx w'=>((n=x.2.size/\x.1<n)/\partialIns (ltC cf) a b q k (if b-k≥2 then shiftUp (ltC cf) b (k+1) (shiftDown (ltC cf) x.1 x.2)else shiftDown (ltC cf) x.1 x.2)=res)/\Sep w F [gD f A n c x.2] w') (λx _=>x.1) (k-1,swp d k (k-1)) tR ⟨⟨⟨Ag,dO⟩,hi⟩,Hg⟩ (λx τ wh hI=>?_);clear hi hn hR Ag;obtain⟨j,d⟩:=x;obtain⟨⟨⟨hn,hjn⟩,hi⟩,Hh⟩:=hI;dsimp only at hn hjn hi Hh;have hR:=rdI hn Hh At0;refine Lp ?_;refine Cz (λIj=>?_) (λIj=>?_)
          . obtain⟨m,rfl⟩: ∃m,j=m+1:=⟨j-1,oM⟩
            rw[shiftDown]at hi;refine Dz (λSd wi Hi=>?_);refine Zb7 ?_;refine Gc Sd 7 ((m:Nat):Int) ?_;refine Zb2 ?_;refine FcI (λwj Hj=>?_);refine Za2 ?_;refine fK Sd kR ?_;refine Cz (λIk=>?_) (λIk=>?_)
            . rw[zac (show(!ltC cf d[m+1]! d[m]!)=true by simp[ltC];have:=Ik;omega)]at hi
              refine Zb0 ?_;exact au d tR ⟨⟨hn,hi⟩,Hj⟩
            rw[zab (show ¬(!ltC cf d[m+1]! d[m]!)=true by simp[ltC];have:=Ik;omega)]at hi;refine Dz (λSe wk Hk=>?_);refine Zb4 ?_;refine Gc Se 4 ((m:Nat):Int) ?_;refine Zb2 ?_;refine Gc Se 7 ((m:Nat):Int) ?_;refine Zb7 ?_;refine FsI (λwl Hl=>?_);refine Zb1 ?_;refine FsI (λwm Hm=>?_);refine Zb1 ?_;refine Vc (m:Int) ?_;refine Zb1 ?_;exact aj (m,swp d (m+1) m) tR ⟨⟨⟨by rw[swp_size];exact hn,dO⟩,hi⟩,Hm⟩ dO
          have hj0:j=0:=oM;subst hj0;rw[shiftDown]at hi;refine Zb0 ?_;exact au d tR ⟨⟨hn,hi⟩,Hh⟩
        rw[zab (show ¬k-a≥2 from oM)]at hi;refine Zb0 ?_;exact au (swp d k (k-1)) tR ⟨⟨by rw[swp_size];exact hn,hi⟩,Hg⟩
      intro d2 τ wn ⟨⟨Lm,JR⟩,Hn⟩;refine Lp ?_;refine Zb2 ?_;refine Vc ((b-k:Nat):Int) ?_;refine Cz (λIl=>?_) (λIl=>?_)
      . rw[zac (show b-k≥2 from oM)]at JR
        refine Zb1 ?_;refine Vc ((k+1:Nat):Int) ?_;refine Zb1 ?_;refine aI (λx:Nat×Array α=>[(0,.slice A n c),(1,I a),(2,I b),(3,fv),(9,I k),(10,I s),(12,I x.1)]) (λx w'=>((n=x.2.size/\1<=x.1)/\partialIns (ltC cf) a b q k (shiftUp (ltC cf) b x.1 x.2)=res)/\Sep w F [gD f A n c x.2] w') (λx _=>b-x.1) (k+1,d2) tR ⟨⟨⟨Lm,dO⟩,JR⟩,Hn⟩ (λx τ wo hI=>?_);clear JR Lm;obtain⟨j,d⟩:=x;obtain⟨⟨⟨hn,hj1⟩,hi⟩,Ho⟩:=hI;dsimp only at hn hj1 hi Ho;have hR:=rdI hn Ho At0;refine Lp ?_;refine Cz (λIm=>?_) (λIm=>?_)
        . have hjb:j<b:=oM
          rw[shiftUp,zac hjb]at hi;refine Dz (λSf wp Hp=>?_);refine Zb7 ?_;refine Gc Sf 7 ((j-1:Nat):Int) ?_;refine Zb2 ?_;refine FcI (λwq Hq=>?_);refine Za2 ?_;refine fK Sf kR ?_;refine Cz (λIn=>?_) (λIn=>?_)
          . rw[zac (show(!ltC cf d[j]! d[j-1]!)=true by simp[ltC];have:=In;omega)]at hi
            refine Zb0 ?_;exact au d tR ⟨⟨hn,hi⟩,Hq⟩
          rw[zab (show ¬(!ltC cf d[j]! d[j-1]!)=true by simp[ltC];have:=In;omega)]at hi;refine Dz (λSg wr Hr=>?_);refine Zb4 ?_;refine Gc Sg 4 ((j-1:Nat):Int) ?_;refine Zb2 ?_;refine Gc Sg 7 ((j-1:Nat):Int) ?_;refine Zb7 ?_;refine FsI (λws Hs=>?_);refine Zb1 ?_;refine FsI (λwt Ht=>?_);refine Zb1 ?_;refine Vc ((j+1:Nat):Int) ?_;refine Zb1 ?_;exact aj (j+1,swp d j (j-1)) tR ⟨⟨⟨by rw[swp_size];exact hn,dO⟩,hi⟩,Ht⟩ dO
        rw[shiftUp,zab oM]at hi;refine Zb0 ?_;exact au d tR ⟨⟨hn,hi⟩,Ho⟩
      rw[zab (show ¬b-k≥2 from oM)]at JR;refine Zb0 ?_;exact au d2 tR ⟨⟨Lm,JR⟩,Hn⟩
    intro d2 τ wu ⟨⟨Lm,JR⟩,Hu⟩;refine Lp ?_;refine Zb1 ?_;refine Vc ((s+1:Nat):Int) ?_;refine Zb1 ?_;exact aj (s+1,e,d2) tR ⟨⟨⟨Lm,dO,dO,heb⟩,by dsimp only;rw[show 5-(s+1)=q from oM];exact JR⟩,Hu⟩ dO
  rw[show 5-s=0 from oM,partialIns]at hi;refine Zb1 ?_;exact⟨by rw[<-hi];rfl,by rw[<-hi];exact H7.turn⟩
set_option maxHeartbeats 1000000 in
theorem TJ {a b p:Nat} (hp:(gD f A n c d₀).ok F w) (za:n=d₀.size) (Pz:a<=p) (hpb:p<b) (hb:b<=n) (pF:n<=1000000) (ou:pq prog fv f cf F w):
    aR prog 346 [.slice A n c,I a,I b,I p,fv] w λr w'=>r=I (partitionEqual (ltC cf) d₀ a b p).1/\n=(partitionEqual (ltC cf) d₀ a b p).2.size/\Turn F (gD f A n c (partitionEqual (ltC cf) d₀ a b p).2) w w':=by
  have H:=Sep.bR hp;have hR:=rdI za H At0;obtain⟨res,ak⟩: ∃res,res=partitionEqual (ltC cf) d₀ a b p:=⟨_,rfl⟩;rw[<-ak];unfold partitionEqual at ak;refine PO func346 ?_;refine Dz (λEI w4 H4=>?_);refine Un ?_;refine FsI (λwa Ha=>?_);refine Zb1 ?_;refine FsI (λwb Hb=>?_);refine Zb1 ?_;refine Vc ((a+1:Nat):Int) ?_;refine Mv ?_;refine Vc ((b-1:Nat):Int) ?_;refine Zb2 ?_;refine aI (λx:Nat×Nat×Array α=>[(0,.slice A n c),(1,I a),(4,fv),(11,I x.1),(12,I x.2.1)]) (λx w'=>((n=x.2.2.size/\a<x.1/\x.1<=x.2.1+1/\x.2.1<n)/\partEqLoop (ltC cf) a x.1 x.2.1 x.2.2=res)/\Sep w F [gD f A n c x.2.2] w') (λx _=>x.2.1+1-x.1) (a+1,b-1,swp d₀ a p) tR ⟨⟨⟨by dsimp only;rw[swp_size];exact za,dO,dO,dO⟩,ak.symm⟩,Hb⟩ (λx τ wc hI=>?_);clear hR;obtain⟨i,j,d⟩:=x;obtain⟨⟨⟨hn,hai,hij,hjn⟩,hi⟩,Hc⟩:=hI;dsimp only at hn hai hij hjn hi Hc;have hR:=rdI hn Hc At0;obtain⟨i2,JR⟩: ∃i2,i2=scanUp (λx=> !ltC cf d[a]! x) d j i:=⟨_,rfl⟩;have ae2:=scanUp_ge (λx=> !ltC cf d[a]! x) d j i;rw[<-JR]at ae2;obtain⟨j2,hj2⟩: ∃j2,j2=scanDown (λx=>ltC cf d[a]! x) d i2 j:=⟨_,rfl⟩;have ae3:=scanDown_le (λx=>ltC cf d[a]! x) d i2 j;rw[<-hj2]at ae3;have PD:=JR;have PE:=hj2;refine Lp ?_;refine uz (dD (λk:Nat=>[(0,.slice A n c),(1,I a),(4,fv),(11,I k),(12,I j)]) (λk w'=>k=i2/\Sep w F [gD f A n c d] w') ?_ ?_)
  . refine Zb0 ?_
    refine aI (λk:Nat=>[(0,.slice A n c),(1,I a),(4,fv),(11,I k),(12,I j)]) (λk w'=>(a<k/\k<=j+1/\scanUp (λx=> !ltC cf d[a]! x) d j k=i2)/\Sep w F [gD f A n c d] w') (λk _=>j+1-k) i tR ⟨⟨hai,hij,JR.symm⟩,Hc⟩ (λk τ wd hI=>?_);obtain⟨⟨hak,hkj,nP⟩,Hd⟩:=hI;refine Lp ?_;refine Dz (λSa we He=>?_);refine Zb4 ?_;refine fM (t:=34) rfl (λSb=>?_) (λSb=>?_)
    . have aif:k<=j:=oM
      refine Zb9 ?_;refine FcI (λwf Hf=>?_);refine Za3 ?_;refine fK Sa kR ?_;refine Cz (λIe=>?_) (λIe=>?_)
      . rw[scanUp_go _ _ _ _ aif (by simp[ltC];have:=Ie;omega)]at nP
        refine Zb1 ?_;refine Vc ((k+1:Nat):Int) ?_;refine Zb1 ?_;exact aj (k+1) tR ⟨⟨oM,oM,nP⟩,Hf⟩ oM
      rw[scanUp_end _ _ _ _ (.inr (by simp[ltC];have:=Ie;omega))]at nP;refine Zb0 ?_;exact au k tR ⟨nP,Hf⟩
    rw[scanUp_end _ _ _ _ (.inl oM)]at nP;refine Zb1 ?_;exact au k tR ⟨nP,He⟩
  rintro k τ wg ⟨hk,Hg⟩;subst hk;refine Lp ?_;refine dD (λm:Nat=>[(0,.slice A n c),(1,I a),(4,fv),(11,I k),(12,I m)]) (λm w'=>m=j2/\Sep w F [gD f A n c d] w') ?_ ?_
  . refine Zb0 ?_
    refine aI (λm:Nat=>[(0,.slice A n c),(1,I a),(4,fv),(11,I k),(12,I m)]) (λm w'=>(m<=j/\scanDown (λx=>ltC cf d[a]! x) d k m=j2)/\Sep w F [gD f A n c d] w') (λm _=>m) j tR ⟨⟨zbj _,hj2.symm⟩,Hg⟩ (λm τ wh hI=>?_);obtain⟨⟨hmj,Lu⟩,Hh⟩:=hI;refine Lp ?_;refine Dz (λSc wi Hi=>?_);refine Zb4 ?_;refine fM (t:=53) rfl (λSd=>?_) (λSd=>?_)
    . have hkm:k<=m:=oM
      refine Zb9 ?_;refine FcI (λwj Hj=>?_);refine Za2 ?_;refine fK Sc kR ?_;refine Cz (λIf=>?_) (λIf=>?_)
      . rw[scanDown_go _ _ _ _ hkm oM (by simp[ltC];have:=If;omega)]at Lu
        refine Zb1 ?_;refine Vc ((m-1:Nat):Int) ?_;refine Zb1 ?_;exact aj (m-1) tR ⟨⟨oM,Lu⟩,Hj⟩ oM
      rw[scanDown_end _ _ _ _ (.inr (by simp[ltC];have:=If;omega))]at Lu;refine Zb0 ?_;exact au m tR ⟨Lu,Hj⟩
    rw[scanDown_end _ _ _ _ (.inl oM)]at Lu;refine Zb1 ?_;exact au m tR ⟨Lu,Hi⟩
  rintro m τ wk ⟨hm,Hk⟩;subst hm;refine Lp ?_;refine Cz (λIg=>?_) (λIg=>?_)
  . rw[partEq_break (ltC cf) a i j d PD PE oM]at hi
    refine Zb2 ?_;exact⟨by rw[<-hi];rfl,by rw[<-hi];exact hn,by rw[<-hi];exact Hk.turn⟩
  have rG:k<=m:=oM;have aS:=scans_lt (ltC cf) a i j d oM PD PE oM;rw[partEq_go (ltC cf) a i j d PD PE oM]at hi;refine Dz (λSe wl Hl=>?_);refine Un ?_;refine FsI (λwm Hm=>?_);refine Zb1 ?_;refine FsI (λwn Hn=>?_);refine Zb1 ?_;refine Vc ((k+1:Nat):Int) ?_;refine Zb2 ?_;refine Vc ((m-1:Nat):Int) ?_;refine Zb1 ?_;exact aj (k+1,m-1,swp d k m) tR ⟨⟨⟨by rw[swp_size];exact hn,dO,dO,dO⟩,hi⟩,Hn⟩ dO
set_option maxHeartbeats 1000000 in
theorem abA {a b p:Nat} (hp:(gD f A n c d₀).ok F w) (za:n=d₀.size) (Pz:a<=p) (hpb:p<b) (hb:b<=n) (pF:n<=1000000) (ou:pq prog fv f cf F w):
    aR prog 347 [.slice A n c,I a,I b,I p,fv] w λr w'=>r=.tuple #[I (partition (ltC cf) d₀ a b p).1,.bool (partition (ltC cf) d₀ a b p).2.1]/\n=(partition (ltC cf) d₀ a b p).2.2.size/\Turn F (gD f A n c (partition (ltC cf) d₀ a b p).2.2) w w':=by
  have H:=Sep.bR hp;have hR:=rdI za H At0;obtain⟨res,ak⟩: ∃res,res=partition (ltC cf) d₀ a b p:=⟨_,rfl⟩;rw[<-ak];unfold partition at ak;dsimp only at ak;refine PO func347 ?_;refine Dz (λarp w5 H5=>?_);refine Un ?_;refine FsI (λwa Ha=>?_);refine Zb1 ?_;have hn:n=(swp d₀ a p).size:=by rw[swp_size];exact za
  refine WO arp 15 _ (i:=p) (a:=d₀[a]!) (by rw[zeh];exact za) Ha At0 (by rw[zeh];omega) (h:=λwb Hb=>⟨sT,?_⟩);clear hR;obtain⟨d,hd⟩: ∃d,d=swp d₀ a p:=⟨_,rfl⟩;have Hb:Sep w F [gD f A n c d] wb:=by rw[hd];exact Hb
  rw[<-hd]at ak hn;have hR:=rdI hn Hb At0;obtain⟨i,hi⟩: ∃i,i=a+1:=⟨_,rfl⟩;obtain⟨j,hj⟩: ∃j,j=b-1:=⟨_,rfl⟩;rw[<-hi,<-hj]at ak;have hai:a<i:=oM;have hij:i<=j+1:=oM;have hjn:j<n:=oM;obtain⟨i2,JR⟩: ∃i2,i2=scanUp (λx=>ltC cf x d[a]!) d j i:=⟨_,rfl⟩;have ae2:=scanUp_ge (λx=>ltC cf x d[a]!) d j i;rw[<-JR]at ae2;obtain⟨j2,hj2⟩: ∃j2,j2=scanDown (λx=> !ltC cf x d[a]!) d i2 j:=⟨_,rfl⟩;have ae3:=scanDown_le (λx=> !ltC cf x d[a]!) d i2 j;rw[<-hj2]at ae3;have PD:=JR;have PE:=hj2;rw[<-JR,<-hj2]at ak;refine Zb1 ?_;refine Vc (i:Int) ?_;refine Mv ?_;refine Vc (j:Int) ?_;refine Za2 ?_;refine Qn (dD (λk:Nat=>[(0,.slice A n c),(1,I a),(4,fv),(12,I k),(13,I j)]) (λk w'=>k=i2/\Sep w F [gD f A n c d] w') ?_ ?_)
  . refine Zb0 ?_
    refine aI (λk:Nat=>[(0,.slice A n c),(1,I a),(4,fv),(12,I k),(13,I j)]) (λk w'=>(a<k/\k<=j+1/\scanUp (λx=>ltC cf x d[a]!) d j k=i2)/\Sep w F [gD f A n c d] w') (λk _=>j+1-k) i tR ⟨⟨hai,hij,JR.symm⟩,Hb⟩ (λk τ wc hI=>?_);obtain⟨⟨hak,hkj,nP⟩,Hc⟩:=hI;refine Lp ?_;refine Dz (λSa wd Hd=>?_);refine Zb4 ?_;refine fM (t:=35) rfl (λSb=>?_) (λSb=>?_)
    . have aif:k<=j:=oM
      refine Zb9 ?_;refine FcI (λwe He=>?_);refine Za2 ?_;refine fK Sa kR ?_;refine Cz (λIe=>?_) (λIe=>?_)
      . rw[scanUp_go _ _ _ _ aif (by simp[ltC];have:=Ie;omega)]at nP
        refine Zb1 ?_;refine Vc ((k+1:Nat):Int) ?_;refine Zb1 ?_;exact aj (k+1) tR ⟨⟨oM,oM,nP⟩,He⟩ oM
      rw[scanUp_end _ _ _ _ (.inr (by simp[ltC];have:=Ie;omega))]at nP;refine Zb0 ?_;exact au k tR ⟨nP,He⟩
    rw[scanUp_end _ _ _ _ (.inl oM)]at nP;refine Zb1 ?_;exact au k tR ⟨nP,Hd⟩
  rintro k τ wf ⟨hk,Hf⟩;subst hk;refine Lp ?_;refine dD (λm:Nat=>[(0,.slice A n c),(1,I a),(4,fv),(12,I k),(13,I m)]) (λm w'=>m=j2/\Sep w F [gD f A n c d] w') ?_ ?_
  . refine Zb0 ?_
    refine aI (λm:Nat=>[(0,.slice A n c),(1,I a),(4,fv),(12,I k),(13,I m)]) (λm w'=>(m<=j/\scanDown (λx=> !ltC cf x d[a]!) d k m=j2)/\Sep w F [gD f A n c d] w') (λm _=>m) j tR ⟨⟨zbj _,hj2.symm⟩,Hf⟩ (λm τ wg hI=>?_);obtain⟨⟨hmj,Lu⟩,Hg⟩:=hI;refine Lp ?_;refine Dz (λSc wh Hh=>?_);refine Zb4 ?_;refine fM (t:=53) rfl (λSd=>?_) (λSd=>?_)
    . have hkm:k<=m:=oM
      refine Zb9 ?_;refine FcI (λwi Hi=>?_);refine Za3 ?_;refine fK Sc kR ?_;refine Cz (λIf=>?_) (λIf=>?_)
      . rw[scanDown_go _ _ _ _ hkm oM (by simp[ltC];have:=If;omega)]at Lu
        refine Zb1 ?_;refine Vc ((m-1:Nat):Int) ?_;refine Zb1 ?_;exact aj (m-1) tR ⟨⟨oM,Lu⟩,Hi⟩ oM
      rw[scanDown_end _ _ _ _ (.inr (by simp[ltC];have:=If;omega))]at Lu;refine Zb0 ?_;exact au m tR ⟨Lu,Hi⟩
    rw[scanDown_end _ _ _ _ (.inl oM)]at Lu;refine Zb1 ?_;exact au m tR ⟨Lu,Hh⟩
  rintro m τ wj ⟨hm,Hj⟩;subst hm;refine Lp ?_;refine Cz (λIg=>?_) (λIg=>?_)
  . rw[zac (show k>m from oM)]at ak
    refine Dz (λSe wk Hk=>?_);refine Un ?_;refine FsI (λwl Hl=>?_);refine Zb1 ?_;refine FsI (λwm Hm=>?_);refine Zb3 ?_;exact⟨by rw[ak];rfl,by rw[ak];rw[swp_size];exact hn,by rw[ak];exact Hm.turn⟩
  rw[zab (show ¬k>m from oM)]at ak;have arq:=part_scans_lt (ltC cf) a i j d oM PD PE oM;refine Dz (λSf wn Hn=>?_);refine Un ?_;refine FsI (λwo Ho=>?_);refine Zb1 ?_;refine FsI (λwp Hp=>?_);refine Zb1 ?_;refine Vc ((k+1:Nat):Int) ?_;refine Zb2 ?_;refine Vc ((m-1:Nat):Int) ?_;refine Zb1 ?_;obtain⟨r0,hr0⟩: ∃r0,r0=partLoop (ltC cf) a (k+1) (m-1) (swp d k m):=⟨_,rfl⟩;rw[<-hr0]at ak;refine aI (λx:Nat×Nat×Array α=>[(0,.slice A n c),(1,I a),(4,fv),(12,I x.1),(13,I x.2.1)]) (λx w'=>((n=x.2.2.size/\a<x.1/\x.1<=x.2.1+1/\x.2.1<n)/\partLoop (ltC cf) a x.1 x.2.1 x.2.2=r0)/\Sep w F [gD f A n c x.2.2] w') (λx _=>x.2.1+1-x.1) (k+1,m-1,swp d k m) tR ⟨⟨⟨by dsimp only;rw[swp_size];exact hn,dO,dO,dO⟩,hr0.symm⟩,Hp⟩ (λx τ wq hI=>?_);clear hR hn PD PE ae2 ae3 hd hi hj hai hij hjn hr0 arq;obtain⟨i,j,d⟩:=x;obtain⟨⟨⟨hn,hai,hij,hjn⟩,hi⟩,Hq⟩:=hI;dsimp only at hn hai hij hjn hi Hq;have hR:=rdI hn Hq At0;obtain⟨i2,JR⟩: ∃i2,i2=scanUp (λx=>ltC cf x d[a]!) d j i:=⟨_,rfl⟩;have ae2:=scanUp_ge (λx=>ltC cf x d[a]!) d j i;rw[<-JR]at ae2;obtain⟨j2,hj2⟩: ∃j2,j2=scanDown (λx=> !ltC cf x d[a]!) d i2 j:=⟨_,rfl⟩;have ae3:=scanDown_le (λx=> !ltC cf x d[a]!) d i2 j;rw[<-hj2]at ae3;have PD:=JR;have PE:=hj2;refine Lp ?_;refine uz (dD (λk:Nat=>[(0,.slice A n c),(1,I a),(4,fv),(12,I k),(13,I j)]) (λk w'=>k=i2/\Sep w F [gD f A n c d] w') ?_ ?_)
  . refine Zb0 ?_
    refine aI (λk:Nat=>[(0,.slice A n c),(1,I a),(4,fv),(12,I k),(13,I j)]) (λk w'=>(a<k/\k<=j+1/\scanUp (λx=>ltC cf x d[a]!) d j k=i2)/\Sep w F [gD f A n c d] w') (λk _=>j+1-k) i tR ⟨⟨hai,hij,JR.symm⟩,Hq⟩ (λk τ wr hI=>?_);obtain⟨⟨hak,hkj,nP⟩,Hr⟩:=hI;refine Lp ?_;refine Dz (λSg ws Hs=>?_);refine Zb4 ?_;refine fM (t:=108) rfl (λSh=>?_) (λSh=>?_)
    . have aif:k<=j:=oM
      refine Zb9 ?_;refine FcI (λwt Ht=>?_);refine Za2 ?_;refine fK Sg kR ?_;refine Cz (λIh=>?_) (λIh=>?_)
      . rw[scanUp_go _ _ _ _ aif (by simp[ltC];have:=Ih;omega)]at nP
        refine Zb1 ?_;refine Vc ((k+1:Nat):Int) ?_;refine Zb1 ?_;exact aj (k+1) tR ⟨⟨oM,oM,nP⟩,Ht⟩ oM
      rw[scanUp_end _ _ _ _ (.inr (by simp[ltC];have:=Ih;omega))]at nP;refine Zb0 ?_;exact au k tR ⟨nP,Ht⟩
    rw[scanUp_end _ _ _ _ (.inl oM)]at nP;refine Zb1 ?_;exact au k tR ⟨nP,Hs⟩
  rintro k τ wu ⟨hk,Hu⟩;subst hk;refine Lp ?_;refine dD (λm:Nat=>[(0,.slice A n c),(1,I a),(4,fv),(12,I k),(13,I m)]) (λm w'=>m=j2/\Sep w F [gD f A n c d] w') ?_ ?_
  . refine Zb0 ?_
    refine aI (λm:Nat=>[(0,.slice A n c),(1,I a),(4,fv),(12,I k),(13,I m)]) (λm w'=>(m<=j/\scanDown (λx=> !ltC cf x d[a]!) d k m=j2)/\Sep w F [gD f A n c d] w') (λm _=>m) j tR ⟨⟨zbj _,hj2.symm⟩,Hu⟩ (λm τ wv hI=>?_);obtain⟨⟨hmj,Lu⟩,Hv⟩:=hI;refine Lp ?_;refine Dz (λSi ww Hw=>?_);refine Zb4 ?_;refine fM (t:=126) rfl (λSj=>?_) (λSj=>?_)
    . have hkm:k<=m:=oM
      refine Zb9 ?_;refine FcI (λwx Hx=>?_);refine Za3 ?_;refine fK Si kR ?_;refine Cz (λIi=>?_) (λIi=>?_)
      . rw[scanDown_go _ _ _ _ hkm oM (by simp[ltC];have:=Ii;omega)]at Lu
        refine Zb1 ?_;refine Vc ((m-1:Nat):Int) ?_;refine Zb1 ?_;exact aj (m-1) tR ⟨⟨oM,Lu⟩,Hx⟩ oM
      rw[scanDown_end _ _ _ _ (.inr (by simp[ltC];have:=Ii;omega))]at Lu;refine Zb0 ?_;exact au m tR ⟨Lu,Hx⟩
    rw[scanDown_end _ _ _ _ (.inl oM)]at Lu;refine Zb1 ?_;exact au m tR ⟨Lu,Hw⟩
  rintro m τ wy ⟨hm,Hy⟩;subst hm;refine Lp ?_;refine Cz (λIj=>?_) (λIj=>?_)
  . rw[part_break (ltC cf) a i j d PD PE oM]at hi
    refine Dz (λSl wz Hz=>?_);refine Un ?_;refine FsI (λwD HA=>?_);refine Zb1 ?_;refine FsI (λwE HB=>?_);refine Zb3 ?_;exact⟨by rw[ak,<-hi];rfl,by rw[ak,<-hi];rw[swp_size];exact hn,by rw[ak,<-hi];exact HB.turn⟩
  have rG:k<=m:=oM;have aS:=part_scans_lt (ltC cf) a i j d oM PD PE oM;rw[part_go (ltC cf) a i j d PD PE oM]at hi;refine Dz (λSm wF HC=>?_);refine Un ?_;refine FsI (λwG HD=>?_);refine Zb1 ?_;refine FsI (λwH HE=>?_);refine Zb1 ?_;refine Vc ((k+1:Nat):Int) ?_;refine Zb2 ?_;refine Vc ((m-1:Nat):Int) ?_;refine Zb1 ?_;exact aj (k+1,m-1,swp d k m) tR ⟨⟨⟨by rw[swp_size];exact hn,dO,dO,dO⟩,hi⟩,HE⟩ dO
theorem aji (hO:SWO (ltC cf)): ∀(q:Nat) {a b lim n c:Nat} {A:OA} {d₀:Array α} {w:Wd} {F:NP},b-a<=q->(gD f A n c d₀).ok F w->n=d₀.size->a<=b->b<=n->n<1000000->lim<=1000->Below (ltC cf) a b d₀->pq prog fv f cf F w->
    aR prog 336 [.slice A n c,I a,I b,I lim,fv] w λr w'=>∃d':Array α,r=.tuple #[]/\(PermIn a b d₀ d'/\SortedIn (ltC cf) a b d')/\Turn F (gD f A n c d') w w':=by
  intro q
  induction q using Nat.strongRecOn with
  | _ q ih=>
  intro a b lim n c A d₀ w F hq hp za Oy hb pF hlim hB0 ou;have H:=Sep.bR hp;refine PO func336 ?_;refine Zb2 ?_;refine aI (λx:Nat×Nat×Nat×Bool×Bool×Array α=>[(0,.slice A n c),(1,I x.1),(2,I x.2.1),(3,I x.2.2.1),(4,fv),(10,.bool x.2.2.2.1),(11,.bool x.2.2.2.2.1)]) (λx w'=>((n=x.2.2.2.2.2.size/\a<=x.1/\x.1<=x.2.1/\x.2.1<=b/\x.2.2.1<=1000)/\Below (ltC cf) x.1 x.2.1 x.2.2.2.2.2/\∀R,PermIn x.1 x.2.1 x.2.2.2.2.2 R->SortedIn (ltC cf) x.1 x.2.1 R->PermIn a b d₀ R/\SortedIn (ltC cf) a b R)/\Sep w F [gD f A n c x.2.2.2.2.2] w') (λx _=>x.2.1-x.1) (a,b,lim,true,true,d₀) tR ⟨⟨⟨za,zbj _,Oy,zbj _,hlim⟩,hB0,λR h1 h2=>⟨h1,h2⟩⟩,H⟩ (λx τ _ hI=>?_);obtain⟨s,t,lm,wb,wp,d⟩:=x;obtain⟨⟨⟨hn,has,dJ,UY,hlm⟩,hB,UQ⟩,k⟩:=hI;dsimp only at hn has dJ UY hlm hB UQ k;refine Lp ?_;refine Zb2 ?_;refine Vc ((t-s:Nat):Int) ?_;refine Cz (λS=>?_) (λS=>?_)
  . have h12:=S
    refine Zb4 ?_;obtain⟨F0,eD,gV,aK⟩:=k.focus At0;refine aL (ZG (a:=s) (b:=t) eD hn dJ oM oM (ou.into k.kept gV)) rfl rfl (λv' _ hv=>?_);obtain⟨rfl,ars,F1,hq,hs⟩:=hv;have e:=aK _ F1 _ ars hq hs;refine Zb0 ?_;exact⟨_,rfl,UQ _ (insertionSort_holds hO d s t dJ oM).1 (insertionSort_holds hO d s t dJ oM).2,e.turn⟩
  have h12:=S;refine Cz (λe=>?_) (λe=>?_)
  . have Gx:=e
    refine Zb4 ?_;obtain⟨F0,eD,gV,aK⟩:=k.focus At0;refine aL (WR (a:=s) (b:=t) eD hn oM oM oM (ou.into k.kept gV)) rfl rfl (λv' _ hv=>?_);obtain⟨rfl,_,aru,F1,hq,hs⟩:=hv;have S:=aK _ F1 _ aru hq hs;refine Zb0 ?_;exact⟨_,rfl,UQ _ (heapSort_holds hO d s t dJ oM).1 (heapSort_holds hO d s t dJ oM).2,S.turn⟩
  have Gx:=e;refine Sk (dD (λz:Nat×Array α=>[(0,.slice A n c),(1,I s),(2,I t),(3,I z.1),(4,fv),(10,.bool wb),(11,.bool wp),(12,I (t-s:Nat))]) (λz w'=>(z.1<=1000/\PermIn s t d z.2)/\Sep w F [gD f A n c z.2] w') ?_ ?_)
  . refine Za2 ?_
    refine Qn (Cd rfl (λS=>?_) (λS=>?_))
    . refine Zb4 ?_
      obtain⟨F0,eD,gV,aK⟩:=k.focus At0;refine aL (agA (a:=s) (b:=t) eD hn oM oM pF) rfl rfl (λv' _ hv=>?_);obtain⟨d1,rfl,hp1,arv,F1,hq,hs⟩:=hv;have S:=aK _ F1 _ arv hq hs;refine Zb1 ?_;refine Vc ((lm-1:Nat):Int) ?_;refine Zb1 ?_;exact au (lm-1,d1) tR ⟨⟨dO,hp1⟩,S⟩
    refine Zb0 ?_;exact au (lm,d) tR ⟨⟨hlm,permIn_refl _ _ _⟩,k⟩
  rintro⟨lm1,d1⟩ τ S ⟨⟨zf,hp1⟩,S⟩;dsimp only at zf hp1 S;have Ag:n=d1.size:=by rw[hp1.1];exact hn
  refine Lp ?_;refine Zb4 ?_;obtain⟨F0,eD,gV,aK⟩:=S.focus At0;refine aL (agy (a:=s) (b:=t) eD Ag oM oM oM (ou.into S.kept gV)) rfl rfl (λv' _ hv=>?_);obtain⟨rfl,arw,F1,hq,hs⟩:=hv;have S:=aK _ F1 _ arw hq hs;obtain⟨aoI,aoJ⟩:=choosePivot_holds (ltC cf) d1 s t oM;obtain⟨pv,hpv⟩: ∃pv,pv=choosePivot (ltC cf) d1 s t:=⟨_,rfl⟩;rw[<-hpv]at aoI aoJ ⊢;refine Za5 ?_;refine Qn (dD (λz:Nat×Int×Array α=>[(0,.slice A n c),(1,I s),(2,I t),(3,I lm1),(4,fv),(10,.bool wb),(11,.bool wp),(12,I (t-s:Nat)),(13,I z.1),(14,I z.2.1)]) (λz w'=>((s<=z.1/\z.1<t)/\PermIn s t d z.2.2)/\Sep w F [gD f A n c z.2.2] w') ?_ ?_)
  . refine Cz (λk=>?_) (λk=>?_)
    . have h56:=k
      refine Zb4 ?_;obtain⟨F0,eD,gV,aK⟩:=S.focus At0;refine aL (ZH (a:=s) (b:=t) eD Ag oM oM oM) rfl rfl (λv' _ hv=>?_);obtain⟨rfl,arz,F1,hq,hs⟩:=hv;have e:=aK _ F1 _ arz hq hs;refine Zb1 ?_;refine Vc ((t-1:Nat):Int) ?_;refine Zb2 ?_;refine Vc ((pv.1-s:Nat):Int) ?_;refine Vc ((t-1-(pv.1-s):Nat):Int) ?_;refine Zb2 ?_;exact au (t-1-(pv.1-s),1,reverseRange d1 s t) tR ⟨⟨⟨dO,dO⟩,permIn_trans _ _ _ _ _ hp1 (reverseRange_holds d1 s t dJ oM)⟩,e⟩
    have h56:=k;refine Zb0 ?_;exact au (pv.1,akH pv.2,d1) tR ⟨⟨⟨aoI,aoJ⟩,hp1⟩,S⟩
  rintro⟨p2,h2,d2⟩ τ e ⟨⟨⟨aaT,aaU⟩,hp2⟩,e⟩;dsimp only at aaT aaU hp2 e;have Lm:n=d2.size:=by rw[hp2.1];exact hn
  have hB2:=hB.perm oM hp2;refine Lp ?_;refine dD (λz:Array α=>[(0,.slice A n c),(1,I s),(2,I t),(3,I lm1),(4,fv),(10,.bool wb),(11,.bool wp),(12,I (t-s:Nat)),(13,I p2)]) (λz w'=>PermIn s t d z/\Sep w F [gD f A n c z] w') ?_ ?_
  . refine Zb2 ?_
    refine dH (t:=69) rfl (λk=>?_) (λk=>?_)
    . refine Zb3 ?_
      refine dH (t:=72) rfl (λk=>?_) (λk=>?_)
      . refine Cz (λk=>?_) (λk=>?_)
        . refine Zb4 ?_
          obtain⟨F0,eD,gV,aK⟩:=e.focus At0;refine aL (ZI (a:=s) (b:=t) eD Lm oM oM oM (ou.into e.kept gV)) rfl rfl (λv' _ hv=>?_);obtain⟨rfl,aoK,F1,hq,hs⟩:=hv;have k:=aK _ F1 _ aoK hq hs;obtain⟨aoL,arA⟩:=partialInsertionSort_holds hO d2 s t oM oM hB2;refine Qn (Cd rfl (λS=>?_) (λS=>?_))
          . have h80:=S
            refine Zb0 ?_;exact⟨_,rfl,UQ _ (permIn_trans _ _ _ _ _ hp2 aoL) (arA h80),k.turn⟩
          refine Zb0 ?_;exact au (partialInsertionSort (ltC cf) d2 s t).1 tR ⟨permIn_trans _ _ _ _ _ hp2 aoL,k⟩
        refine Zb0 ?_;exact au d2 tR ⟨hp2,e⟩
      refine Zb1 ?_;exact au d2 tR ⟨hp2,e⟩
    refine Zb3 ?_;exact au d2 tR ⟨hp2,e⟩
  rintro d3 τ S ⟨Pv,S⟩;have hn3:n=d3.size:=by rw[Pv.1];exact hn
  have hB3:=hB.perm oM Pv;have hR:=rdI hn3 S At0;refine Lp ?_;refine Dz (λS _ k=>?_);refine Zb3 ?_;refine fM (t:=83) rfl (λe=>?_) (λe=>?_)
  . have g:0<s:=by have:=e;omega
    refine Zb3 ?_;refine Gc S 6 ((s-1:Nat):Int) ?_;refine Zb6 ?_;refine FcI (λ_ h=>?_);refine Za3 ?_;refine fK S kR ?_;refine Cz (λS=>?_) (λS=>?_)
    . have Lj:ltC cf d3[s-1]! d3[p2]! =false:=by simp[ltC];have:=S;omega
      obtain⟨g1,g2,g3,g4,g5⟩:=round_eq hO (partitionEqual_holds _) g aaT aaU oM hB3 Lj (d4:=(partitionEqual (ltC cf) d3 s t p2).2) (mid:=(partitionEqual (ltC cf) d3 s t p2).1) rfl;refine Zb5 ?_;obtain⟨F0,eD,gV,aK⟩:=h.focus At0;refine aL (TJ (a:=s) (b:=t) (p:=p2) eD hn3 aaT aaU oM oM (ou.into h.kept gV)) rfl rfl (λv' _ hv=>?_);obtain⟨rfl,UR,aoM,F1,hq,hs⟩:=hv;have S:=aK _ F1 _ aoM hq hs;refine Zb3 ?_
      first
      | exact aj ((partitionEqual (ltC cf) d3 s t p2).1,t,lm1,wb,wp,(partitionEqual (ltC cf) d3 s t p2).2) tR ⟨⟨⟨UR,dO,g2,UY,zf⟩,g4,λR h1 h2=>UQ R (permIn_trans _ _ _ _ _ Pv (g5 R h1 h2).1) (g5 R h1 h2).2⟩,S⟩ dO
      | exact aj (mid+1,t,lm1,decide ((((t-s)/8:Nat):Int)<=((mid-s:Nat):Int)),ap,d5) tR ⟨⟨⟨hn5,dO,dO,UY,zf⟩,i,λR h1 h2=>UQ R (permIn_trans _ _ _ _ _ Pv (j R h1 h2).1) (j R h1 h2).2⟩,S⟩ dO
      | exact aj (s,mid,lm1,decide ((((t-s)/8:Nat):Int)<=((t-mid:Nat):Int)),ap,d5) tR ⟨⟨⟨hn5,has,g1,dO,zf⟩,i,λR h1 h2=>UQ R (permIn_trans _ _ _ _ _ Pv (j R h1 h2).1) (j R h1 h2).2⟩,S⟩ dO
    refine Zb5 ?_;obtain⟨F0,eD,gV,aK⟩:=h.focus At0;refine aL (abA (a:=s) (b:=t) (p:=p2) eD hn3 aaT aaU oM oM (ou.into h.kept gV)) rfl rfl (λv' _ hv=>?_);obtain⟨rfl,UR,aoN,F1,hq,hs⟩:=hv;have S:=aK _ F1 _ aoN hq hs;obtain⟨g1,g2,g3,g4,g5,g6,g7⟩:=round_part hO (partition_holds _) aaT aaU oM hB3 (d4:=(partition (ltC cf) d3 s t p2).2.2) (mid:=(partition (ltC cf) d3 s t p2).1) (ap:=(partition (ltC cf) d3 s t p2).2.1) rfl;obtain⟨pr,hpr⟩: ∃pr,pr=partition (ltC cf) d3 s t p2:=⟨_,rfl⟩;rw[<-hpr]at g1 g2 g3 g4 g5 g6 g7 UR S ⊢;obtain⟨mid,ap,d4⟩:=pr;dsimp only at g1 g2 g3 g4 g5 g6 g7 UR S ⊢;refine Zb9 ?_;refine Vc ((mid-s:Nat):Int) ?_;refine Zb2 ?_;refine Vc ((t-mid:Nat):Int) ?_;refine Zb3 ?_;refine Vv (Gives.Gg (a:=t-s) (b:=8) rfl rfl dC oM) (Cz (λh=>?_) (λh=>?_))
    . have Lv:=h
      refine Zb9 ?_;obtain⟨F0,eD,gV,aK⟩:=S.focus At0;refine aL (ih (mid-s) oM (a:=s) (b:=mid) (lim:=lm1) (zbj _) eD UR g1 oM pF zf g4 (ou.into S.kept gV)) rfl rfl (λv' _ hv=>?_);obtain⟨d5,rfl,⟨hp5,l⟩,aoO,F1,hq,hs⟩:=hv;have m:=aK _ F1 _ aoO hq hs;obtain⟨i,j⟩:=g6 d5 hp5 l;have hn5:n=d5.size:=by rw[hp5.1];exact UR
      refine Zb1 ?_;refine Vc ((mid+1:Nat):Int) ?_;refine Zb1 ?_
      first
      | exact aj ((partitionEqual (ltC cf) d3 s t p2).1,t,lm1,wb,wp,(partitionEqual (ltC cf) d3 s t p2).2) tR ⟨⟨⟨UR,dO,g2,UY,zf⟩,g4,λR h1 h2=>UQ R (permIn_trans _ _ _ _ _ Pv (g5 R h1 h2).1) (g5 R h1 h2).2⟩,m⟩ dO
      | exact aj (mid+1,t,lm1,decide ((((t-s)/8:Nat):Int)<=((mid-s:Nat):Int)),ap,d5) tR ⟨⟨⟨hn5,dO,dO,UY,zf⟩,i,λR h1 h2=>UQ R (permIn_trans _ _ _ _ _ Pv (j R h1 h2).1) (j R h1 h2).2⟩,m⟩ dO
      | exact aj (s,mid,lm1,decide ((((t-s)/8:Nat):Int)<=((t-mid:Nat):Int)),ap,d5) tR ⟨⟨⟨hn5,has,g1,dO,zf⟩,i,λR h1 h2=>UQ R (permIn_trans _ _ _ _ _ Pv (j R h1 h2).1) (j R h1 h2).2⟩,m⟩ dO
    have Lv:=h;refine Zb6 ?_;refine Vc ((mid+1:Nat):Int) ?_;refine Zb3 ?_;obtain⟨F0,eD,gV,aK⟩:=S.focus At0;refine aL (ih (t-(mid+1)) oM (a:=mid+1) (b:=t) (lim:=lm1) (zbj _) eD UR oM oM pF zf g5 (ou.into S.kept gV)) rfl rfl (λv' _ hv=>?_);obtain⟨d5,rfl,⟨hp5,l⟩,aoP,F1,hq,hs⟩:=hv;have m:=aK _ F1 _ aoP hq hs;obtain⟨i,j⟩:=g7 d5 hp5 l;have hn5:n=d5.size:=by rw[hp5.1];exact UR
    refine Zb2 ?_
    first
    | exact aj ((partitionEqual (ltC cf) d3 s t p2).1,t,lm1,wb,wp,(partitionEqual (ltC cf) d3 s t p2).2) tR ⟨⟨⟨UR,dO,g2,UY,zf⟩,g4,λR h1 h2=>UQ R (permIn_trans _ _ _ _ _ Pv (g5 R h1 h2).1) (g5 R h1 h2).2⟩,m⟩ dO
    | exact aj (mid+1,t,lm1,decide ((((t-s)/8:Nat):Int)<=((mid-s:Nat):Int)),ap,d5) tR ⟨⟨⟨hn5,dO,dO,UY,zf⟩,i,λR h1 h2=>UQ R (permIn_trans _ _ _ _ _ Pv (j R h1 h2).1) (j R h1 h2).2⟩,m⟩ dO
    | exact aj (s,mid,lm1,decide ((((t-s)/8:Nat):Int)<=((t-mid:Nat):Int)),ap,d5) tR ⟨⟨⟨hn5,has,g1,dO,zf⟩,i,λR h1 h2=>UQ R (permIn_trans _ _ _ _ _ Pv (j R h1 h2).1) (j R h1 h2).2⟩,m⟩ dO
  have g:=e;refine Zb6 ?_;obtain⟨F0,eD,gV,aK⟩:=k.focus At0;refine aL (abA (a:=s) (b:=t) (p:=p2) eD hn3 aaT aaU oM oM (ou.into k.kept gV)) rfl rfl (λv' _ hv=>?_);obtain⟨rfl,UR,aoQ,F1,hq,hs⟩:=hv;have m:=aK _ F1 _ aoQ hq hs;obtain⟨g1,g2,g3,g4,g5,g6,g7⟩:=round_part hO (partition_holds _) aaT aaU oM hB3 (d4:=(partition (ltC cf) d3 s t p2).2.2) (mid:=(partition (ltC cf) d3 s t p2).1) (ap:=(partition (ltC cf) d3 s t p2).2.1) rfl;obtain⟨pr,hpr⟩: ∃pr,pr=partition (ltC cf) d3 s t p2:=⟨_,rfl⟩;rw[<-hpr]at g1 g2 g3 g4 g5 g6 g7 UR m ⊢;obtain⟨mid,ap,d4⟩:=pr;dsimp only at g1 g2 g3 g4 g5 g6 g7 UR m ⊢;refine Zb9 ?_;refine Vc ((mid-s:Nat):Int) ?_;refine Zb2 ?_;refine Vc ((t-mid:Nat):Int) ?_;refine Zb3 ?_;refine Vv (Gives.Gg (a:=t-s) (b:=8) rfl rfl dC oM) (Cz (λg=>?_) (λg=>?_))
  . have Lv:=g
    refine Zb9 ?_;obtain⟨F0,eD,gV,aK⟩:=m.focus At0;refine aL (ih (mid-s) oM (a:=s) (b:=mid) (lim:=lm1) (zbj _) eD UR g1 oM pF zf g4 (ou.into m.kept gV)) rfl rfl (λv' _ hv=>?_);obtain⟨d5,rfl,⟨hp5,l⟩,aoR,F1,hq,hs⟩:=hv;have e:=aK _ F1 _ aoR hq hs;obtain⟨i,j⟩:=g6 d5 hp5 l;have hn5:n=d5.size:=by rw[hp5.1];exact UR
    refine Zb1 ?_;refine Vc ((mid+1:Nat):Int) ?_;refine Zb1 ?_
    first
    | exact aj ((partitionEqual (ltC cf) d3 s t p2).1,t,lm1,wb,wp,(partitionEqual (ltC cf) d3 s t p2).2) tR ⟨⟨⟨UR,dO,g2,UY,zf⟩,g4,λR h1 h2=>UQ R (permIn_trans _ _ _ _ _ Pv (g5 R h1 h2).1) (g5 R h1 h2).2⟩,e⟩ dO
    | exact aj (mid+1,t,lm1,decide ((((t-s)/8:Nat):Int)<=((mid-s:Nat):Int)),ap,d5) tR ⟨⟨⟨hn5,dO,dO,UY,zf⟩,i,λR h1 h2=>UQ R (permIn_trans _ _ _ _ _ Pv (j R h1 h2).1) (j R h1 h2).2⟩,e⟩ dO
    | exact aj (s,mid,lm1,decide ((((t-s)/8:Nat):Int)<=((t-mid:Nat):Int)),ap,d5) tR ⟨⟨⟨hn5,has,g1,dO,zf⟩,i,λR h1 h2=>UQ R (permIn_trans _ _ _ _ _ Pv (j R h1 h2).1) (j R h1 h2).2⟩,e⟩ dO
  have Lv:=g;refine Zb6 ?_;refine Vc ((mid+1:Nat):Int) ?_;refine Zb3 ?_;obtain⟨F0,eD,gV,aK⟩:=m.focus At0;refine aL (ih (t-(mid+1)) oM (a:=mid+1) (b:=t) (lim:=lm1) (zbj _) eD UR oM oM pF zf g5 (ou.into m.kept gV)) rfl rfl (λv' _ hv=>?_);obtain⟨d5,rfl,⟨hp5,l⟩,aoS,F1,hq,hs⟩:=hv;have e:=aK _ F1 _ aoS hq hs;obtain⟨i,j⟩:=g7 d5 hp5 l;have hn5:n=d5.size:=by rw[hp5.1];exact UR
  refine Zb2 ?_
  first
  | exact aj ((partitionEqual (ltC cf) d3 s t p2).1,t,lm1,wb,wp,(partitionEqual (ltC cf) d3 s t p2).2) tR ⟨⟨⟨UR,dO,g2,UY,zf⟩,g4,λR h1 h2=>UQ R (permIn_trans _ _ _ _ _ Pv (g5 R h1 h2).1) (g5 R h1 h2).2⟩,e⟩ dO
  | exact aj (mid+1,t,lm1,decide ((((t-s)/8:Nat):Int)<=((mid-s:Nat):Int)),ap,d5) tR ⟨⟨⟨hn5,dO,dO,UY,zf⟩,i,λR h1 h2=>UQ R (permIn_trans _ _ _ _ _ Pv (j R h1 h2).1) (j R h1 h2).2⟩,e⟩ dO
  | exact aj (s,mid,lm1,decide ((((t-s)/8:Nat):Int)<=((t-mid:Nat):Int)),ap,d5) tR ⟨⟨⟨hn5,has,g1,dO,zf⟩,i,λR h1 h2=>UQ R (permIn_trans _ _ _ _ _ Pv (j R h1 h2).1) (j R h1 h2).2⟩,e⟩ dO
def WS (hO:SWO (ltC cf)) (hp:(gD f A n c d₀).ok F w) (za:n=d₀.size) (pF:n<1000000) (ou:pq prog fv f cf F w):
    aR prog 330 [.slice A n c,fv] w λr w'=>∃d':Array α,r=.tuple #[]/\(PermIn 0 n d₀ d'/\SortedIn (ltC cf) 0 n d')/\Turn F (gD f A n c d') w w':=by
  have H:=Sep.bR hp
  have hbl:Lib.bitLen n<=62:=by
    rcases zec n with e | e
    . rw[e];decide
    exact(Jj e pF).2.2
  refine bQ func330 ?_;refine Zb6 ?_;refine Vv (Gives.yU (c:=(n:Int)) rfl (by rw[IntKind.wrap_u64];omega)) ?_;refine eB (Ep n oM) (h:=?_);refine Mv ?_;obtain⟨F0,eD,gV,aK⟩:=H.focus At0;refine aL (aji hO n (a:=0) (b:=n) (lim:=Lib.bitLen n) oM eD za (zak _) (zbj _) pF oM (.inl rfl) (ou.into H.kept gV)) rfl rfl (λv' _ hv=>?_);obtain⟨d5,rfl,hps,amQ,F1,hq,hs⟩:=hv;have k:=aK _ F1 _ amQ hq hs;refine Zb0 ?_;exact⟨d5,rfl,hps,k.turn⟩
end
open Go.RowKit
def Sep.alQ {w0 w:Wd} {X:Wd->Prop} {rs:List HP} {p:HP} {put:HP->List HP} (H:Sep w0 noB (fQ X::rs) w) (hat:At rs p put):
    ∃F,p.ok F w/\(∀b,F b->w0.heap.size<=b)/\(∀w1,Kept F w w1->X w1/\Kept noB w0 w1)/\∀w' F' p',Kept F w w'->p'.ok F' w'->(∀b,F' b->F b\/w.heap.size<=b)->Sep w0 noB (fQ X::put p') w':=by
  obtain⟨F,Fq,hp,hq,hd,hS,j5⟩:=H.ahj hat;have hS': ∀b,F b->w0.heap.size<=b:=λb hb=>(hS b hb).resolve_left id;exact⟨F,hp,hS',λw1 hk=>⟨hq.1 w1 hk.size λb hb=>hk.block b (hq.2 b hb) (hd b hb),H.kept.trans hk λb hb=>.inr (hS' b hb)⟩,j5⟩
def FN (n:Nat):LV:=[I n]
instance:je FN 1:=⟨λ_=>rfl⟩
variable {v:Value}
def WT {α β:Type} {e k:Nat} {enc:β->LV} {g:α->β} {l:List α}:aY e k enc v (l.map g)=aY e k (λx=>enc (g x)) v l:=by
 unfold aY;rw[zaf,List.flatMap_map]
def TK {α:Type} [Inhabited α] {enc:α->LV} {k:Nat} [hk:je enc k] {w:Wd} {A:OA} {l:List α} {c j:Nat} (h:Mw.Rd w A enc k l) (hj:j<=l.length) (hc:l.length<=c):Mw.Rd w (if c=j then A else A.map (·.add (j*k))) enc k (l.drop j):=by
 have:=gY.cut h (k:=j) (cap:=c) hj hc;unfold Mw.Rd;rw[zbo]
 have e0:((l.take j).flatMap enc).length=j*k:=by
  rw[jq hk.len (l.take j),zah,zdc hj]
 have e:(l.flatMap enc).drop (j*k)=(l.drop j).flatMap enc:=by
  conv=>lhs;rw[<-zbs j l,zbt]
  exact List.drop_left' e0
 rw[<-e];exact this
def xw (n i:Nat):List Nat:=List.range i++List.replicate (n-i) 0
variable {i n:Nat}
def QM (h:i<=n):(xw n i).length=n:=by
 unfold xw;rw[zad,zea,zcv];omega
def adJ (h:i<n):(xw n i).set i i=xw n (i+1):=by
 unfold xw;rw[zeu _ _ (by rw[zea];exact zbj _),zea,zen,show n-i=(n-(i+1))+1 from oM,zer,zdr,List.range_succ,zbm];rfl
def agB (h:i<n):(xw n i)[i]? =some 0:=by
 unfold xw;rw[zby (by rw[zea];exact zbj _),zea,zen,show n-i=(n-(i+1))+1 from oM,zer];rfl
def adK (n:Nat):xw n n=List.range n:=by unfold xw;rw[zen];simp
variable {w:Wd}
def Na {l:List aH} {r:List (Value×Int)} (hr:aJ w v aA 2 r) (eF:gL w r l) {a b:Nat} {x y:aH} (hx:l[a]? =some x) (hy:l[b]? =some y):
    Rk Tryz.prog 323 [v,I a,I b] w (I (jC x.row y.row)):=by
  obtain⟨A,m,rfl,⟨hm,om⟩,hA⟩:=hr;obtain⟨vx,hvx,Ci⟩:=eF.get hx;obtain⟨vy,hvy,hsy⟩:=eF.get hy;have hla:=fO hvx;have hlb:=fO hvy;have H:=Sep.aF w;refine AP Tryz.func323 ?_;refine Dz (λk _ S=>?_);refine aew ?_;refine dB k 10 _ S (adD (Ci.keep S.kept) (hsy.keep S.kept)) (h:=λ_ S _=>⟨sT,?_⟩);refine Zb1 ?_;exact⟨rfl,S.kept⟩
variable {c:Nat} {fv:Value}
def WU {A:OA}:Rk Tryz.prog 340 [.slice A n c,I 0,I 0,fv] w (.tuple #[]):=by
 have H:=Sep.aF w;refine yg Tryz.func340 ?_;refine Zb3 ?_;refine aI (λ_:Unit=>[(2,I 0),(8,I 1)]) (λ_ w'=>Sep w noB [] w') (λ_ _=>0) () tR H (λ_ τ _ k=>?_);refine Lp ?_;refine Cz (λS=>?_) (λS=>?_)
 .exact zar S dC
 refine Zb0 ?_;exact⟨rfl,k.kept⟩
def ajj {A:OA} {lim:Value}:Rk Tryz.prog 336 [.slice A n c,I 0,I 0,lim,fv] w (.tuple #[]):=by
 have H:=Sep.aF w;refine PO Tryz.func336 ?_;refine Zb2 ?_;refine aI (λ_:Unit=>[(0,.slice A n c),(1,I 0),(2,I 0),(3,lim),(4,fv),(10,.bool true),(11,.bool true)]) (λ_ w'=>Sep w noB [] w') (λ_ _=>0) () tR H (λ_ τ _ _=>?_);refine Lp ?_;refine Cz (λk=>?_) (λk=>?_)
 .refine Kz WU (λ_ S _=>?_)
  refine Zb0 ?_;exact⟨rfl,S.kept⟩
 exact zar k dC
def TL {A:OA}:Rk Tryz.prog 330 [.slice A 0 c,fv] w (.tuple #[]):=by
 have H:=Sep.aF w;refine bQ Tryz.func330 ?_;refine Zb6 ?_;refine Vv (Gives.yU (c:=0) rfl (by rw[IntKind.wrap_u64];rfl)) ?_;refine eB (Ep 0 dC) (h:=?_);refine Mv ?_;refine Kz ajj (λ_ k _=>?_);refine Zb0 ?_;exact⟨rfl,k.kept⟩
def Pb {a b c:List aC} (h: ¬jC a b<0) (h2: ¬jC b c<0): ¬jC a c<0:=by
 have h3:jC b a<=0:=by rw[fP.anti];omega
 have h4:jC c b<=0:=by rw[fP.anti];omega
 intro h5;have:=GL h4 (GN (GL h3 h5) (Int.le_of_eq (fP.self c)));have h6:=GL h3 h5;have h7:=GN h6 h4;rw[fP.self]at h7;omega
def ZJ {α:Type} [Inhabited α] {d d':Array α} (hn:n=d.size) (h:PermIn 0 n d d'):d'.toList.Perm d.toList:=by
 obtain⟨h1,_,h2⟩:=h
 have e: ∀x:Array α,x.size=n->(x.extract 0 n).toList=x.toList:=λx hx=>by
  rw[Array.toList_extract,zfw,zdd,Nat.sub_zero,zaj (by rw[Array.length_toList];omega)]
 rw[e d' oM,e d hn.symm]at h2;exact h2
def ajk {α:Type} [Inhabited α] (g:α->List aC):SWO (ltC λx y=>jC (g x) (g y)) where
 irrefl x:=zal (by show ¬jC (g x) (g x)<0;rw[fP.self];omega)
 trans x y z h1 h2:=zap (fP.trans _ _ _ (zbd h1) (zbd h2))
 ntrans x y z h1 h2:=zal (Pb (of_decide_eq_false h1) (of_decide_eq_false h2))
def TM {w0:Wd} {F:NP} {l:List aH} {r:List (Value×Int)} {v:Value} {B:OA} (hr:aJ w0 v aA 2 r) (eF:gL w0 r l) (hk: ∀w1,Kept F w w1->Kept noB w0 w1)
    (hp:(aY 3 1 FN (.slice B l.length c) (List.range l.length)).ok F w) (hn:l.length<=1000):
    aR Tryz.prog 330 [.slice B l.length c,.func (.func 323) #[v] #[]] w λu w'=>∃ps:List Nat,u=.tuple #[]/\(ps.Perm (List.range l.length)/\ps.Pairwise λi j=>∀a b,l[i]? =some a->l[j]? =some b->jC a.row b.row<=0)/\Turn F (aY 3 1 FN (.slice B l.length c) ps) w w':=by
  obtain⟨m,hm⟩: ∃m,m=l.length:=⟨_,rfl⟩;rw[<-hm]at hp hn ⊢;cases m with
  | zero=>
    refine aR.mono TL λu w' hu=>?_;obtain⟨rfl,y8⟩:=hu;exact⟨[],rfl,⟨List.Perm.refl _,List.Pairwise.nil⟩,y8.mono λ_ h=>h.elim,F,HP.stay hp y8,λ_ h=>.inl h⟩
  | succ m=>
    have aS: ∀x:Fin (m+1),x.val<l.length:=λx=>by have:=x.isLt;omega
    obtain⟨d₀,hd₀⟩: ∃d₀:Array (Fin (m+1)),d₀=(List.finRange (m+1)).toArray:=⟨_,rfl⟩;have Yv:m+1=d₀.size:=by rw[hd₀];simp
    have hdl:d₀.toList.map (·.val)=List.range (m+1):=by
      rw[hd₀];refine List.ext_getElem sM λi h1 h2=>?_;simp
    have hp':(gD (λx:Fin (m+1)=>(x.val:Int)) B (m+1) c d₀).ok F w:=by
      unfold gD;have:=hp;rw[<-hdl,WT]at this;exact this
    have ou:pq Tryz.prog (.func (.func 323) #[v] #[]) (λx:Fin (m+1)=>(x.val:Int)) (λx y=>jC (l[x.val]'(aS x)).row (l[y.val]'(aS y)).row) F w:=
      ⟨_,[v],[],rfl,eT,λw1 h1 x y=>Na (hr.keep (hk w1 h1)) (eF.keep (hk w1 h1)) (zaa (aS x)) (zaa (aS y))⟩
    refine aR.mono (WS (ajk λx:Fin (m+1)=>(l[x.val]'(aS x)).row) hp' Yv oM ou) λu w' hu=>?_;obtain⟨d',rfl,⟨h1,h2⟩,ht⟩:=hu;refine⟨d'.toList.map (·.val),rfl,⟨?_,?_⟩,?_⟩
    . rw[<-hdl]
      exact(ZJ Yv h1).map _
    . rw[List.pairwise_map,List.pairwise_iff_getElem]
      intro i j hi hj hij a b ha hb;rw[Array.length_toList]at hi hj;have h3:=h2 i j (zak _) hij (by have:=h1.1;omega);have h4:=of_decide_eq_false h3;rw[getElem!_pos d' j hj,getElem!_pos d' i hi]at h4;dsimp only at h4;rw[Array.getElem_toList]at ha hb;rw[zaa (aS _)]at ha hb;injection ha with ha
      injection hb with hb
      subst ha;subst hb;rw[fP.anti];omega
    rw[WT];exact ht
def adL {l:List aH} (hl:dI w v l) (hn:l.length<=1000):
    aR Tryz.prog 321 [v] w λu w'=>∃x:Value×List Nat,u=x.1/\(x.2.Perm (List.range l.length)/\x.2.Pairwise λi j=>∀a b,l[i]? =some a->l[j]? =some b->jC a.row b.row<=0)/\Turn noB (aY 3 1 FN x.1 x.2) w w':=by
  obtain⟨r,hr,eF⟩:=hl;have zi:=eF.len;have hr0:=hr;obtain⟨A,m,rfl,⟨hm,om⟩,hA⟩:=hr;have H:=Sep.aF w;refine cK Tryz.func321 ?_;refine Zb3 ?_;refine ahm H (k:=r.length) (by unfold maxLen;omega) oM (h:=λb3 S c _=>?_)
  have c:Sep w noB (aY 3 1 FN (.slice (some ⟨b3,0,none⟩) r.length r.length) (xw r.length 0)::[]) S:=by
    have h0:=Sep.nM (n:=r.length) (s:=1) c At0 sM (by unfold maxLen;omega);unfold aY;rw[QM (zak _)]
    have e:(xw r.length 0).flatMap FN=List.replicate r.length (Value.int .i64 0):=by
      unfold xw;rw[List.range_zero,zbu,Nat.sub_zero];clear h0 zi hr0 hm om hA
      induction r.length with
      | zero=>rfl
      | succ k ih=>rw[zer,zbh,ih,zer];rfl
    rw[e];exact h0
  refine Zb4 ?_;refine aI (λi:Nat=>[(0,.slice A r.length m),(3,.slice (some ⟨b3,0,none⟩) r.length r.length),(9,I r.length),(10,I i)]) (λi w'=>i<=r.length/\Sep w noB [aY 3 1 FN (.slice (some ⟨b3,0,none⟩) r.length r.length) (xw r.length i)] w') (λi _=>r.length-i) 0 tR ⟨zak _,c⟩ (λi τ _ hI=>?_);obtain⟨hi,c⟩:=hI;refine Lp ?_;refine Cz (λS=>?_) (λS=>?_)
  . have aS:i<r.length:=oM
    refine Zb5 ?_;refine Vv (Gives.idx rfl rfl aS) (ac6 (enc:=FN) (l:=xw r.length i) (f:=0) i (QM hi).symm c At0 (agB aS) dC rfl rfl rfl rfl (h:=λ_ S=>?_));rw[adJ aS]at S;refine Zb0 ?_;refine Vc ((i+1:Nat):Int) ?_;refine Zb1 ?_;exact aj (i+1) tR ⟨oM,S⟩ oM
  have jF:i=r.length:=oM;rw[jF,adK]at c;refine Zb3 ?_;rw[zi]at c ⊢;obtain⟨F0,eD,gV,aK⟩:=c.focus At0;refine aL (TM (v:=.slice A l.length m) (by rw[<-zi];exact hr0) eF (λ_ h1=>c.kept.trans h1 λb hb=>.inr ((gV b hb).resolve_left id)) eD hn) rfl rfl (λv' _ hv=>?_);obtain⟨ps,rfl,hps,arE,F1,hq,hs⟩:=hv;have c:=aK _ F1 _ arE hq hs;refine Zb2 ?_;exact⟨(_,ps),rfl,hps,c.turn⟩
end Go.Proofs.Mw
