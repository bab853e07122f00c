/-
 Sorting by a function:rows turned round,patterns broken,a few insertions,walked.
-/
import Derived.Test.YtkfpleidaoaonaaGreatDoorNu1
import Derived.Test.YtkfpleidaoaonaaGreatDoorNu3
import Derived.Test.YtkfpleidaoaonaaGreatDoorNu14
import Derived.Sort.LotA
import Derived.Sort.LotB
import Derived.Sort.LotD5
import Derived.Lib.ItoaNum
set_option linter.unusedVariables false
set_option linter.unusedSimpArgs false
namespace Go.Proofs.YtkfpleidaoaonaaGreatDoor
open Go Go.Mw Go.Lib Go.Sort Tryz
set_option maxRecDepth 4000
attribute [local irreducible] FW FL FG FGn gu gy dh gH Qfn Gives
section
variable {α:Type} [Inhabited α] {f:α->Int} {cf:α->α->Int} {w:Wd} {F:NP} {A:OA} {n c:Nat} {d₀:Array α} {fv:Value}
theorem aam {a b:Nat} (hp:(gM f A n c d₀).ok F w) (CQ:n=d₀.size) (Ql:a<b) (hb:b<=n) (rU:n<=1000000):
    aN prog 216 [.slice A n c,I a,I b,fv] w λr w'=>r=.tuple #[]/\Turn F (gM f A n c (reverseRange d₀ a b)) w w':=by
  have H:=Sep.dZ hp;obtain⟨res,ay⟩: ∃res,res=reverseRange d₀ a b:=⟨_,rfl⟩;rw[<-ay];unfold reverseRange at ay;refine CV func216 rfl rfl rfl rfl ?_;refine Zb3 ?_;refine Vc ((b-1:Nat):Int) ?_;refine Zb1 ?_;refine aP (λx:Nat×Nat×Array α=>[(0,.slice A n c),(8,I x.1),(9,I x.2.1)]) (λx w'=>((n=x.2.2.size/\x.2.1<n)/\reverseLoop x.1 x.2.1 x.2.2=res)/\Sep w F [gM f A n c x.2.2] w') (λx _=>x.2.1-x.1) (a,b-1,d₀) tR ⟨⟨⟨CQ,dO⟩,ay.symm⟩,H⟩ (λx τ w7 hI=>?_);obtain⟨i,j,d⟩:=x;obtain⟨⟨⟨hn,MQ⟩,hi⟩,H7⟩:=hI;dsimp only at hn MQ hi H7;have hR:=rdI hn H7 At0
  try simp only[dA,like,bB,bY]
  refine Za3 ?_;refine Qn (Cp rfl (λIa=>?_) (λIa=>?_))
  . have bX:i<j:=oM
    rw[reverseLoop,zac bX]at hi;refine Zb0 ?_;refine Ds (λSa wa Ha=>?_);refine mV ?_;refine FsI (λwb Hb=>?_);refine Zb1 ?_;refine FsI (λwc Hc=>?_);refine Zb1 ?_;refine Vc ((i+1:Nat):Int) ?_;refine Zb2 ?_;refine Vc ((j-1:Nat):Int) ?_;refine Zb1 ?_;exact ak (i+1,j-1,swp d i j) tR ⟨⟨⟨by rw[swp_size];exact hn,dO⟩,hi⟩,Hc⟩ dO
  rw[reverseLoop,zab oM]at hi;refine Zb0 ?_;exact⟨rfl,by rw[<-hi];exact H7.turn⟩
theorem agp {b x:Nat} {E:Td} (hp:(blk b [U x] E).ok F w) (hx:x<18446744073709551616):aN prog 222 [aA b] w λr w'=>∃y:Nat,r=U y/\y<18446744073709551616/\Turn F (blk b [U y] E) w w':=by
 have H:=Sep.dZ hp;refine eP func222 rfl rfl rfl rfl ?_;obtain⟨a1,ha1⟩: ∃a:Nat,a=x^^^(x*8192%18446744073709551616):=⟨_,rfl⟩;obtain⟨a2,ha2⟩: ∃a:Nat,a=a1^^^(a1/128):=⟨_,rfl⟩;obtain⟨a3,ha3⟩: ∃a:Nat,a=a2^^^(a2*131072%18446744073709551616):=⟨_,rfl⟩;have l1:a1<18446744073709551616:=by rw[ha1];exact Nat.xor_lt_two_pow (n:=64) oM oM
 have l2:a2<18446744073709551616:=by rw[ha2];exact Nat.xor_lt_two_pow (n:=64) oM oM
 have l3:a3<18446744073709551616:=by rw[ha3];exact Nat.xor_lt_two_pow (n:=64) oM oM
 refine Zb1 ?_;refine Ds (λEh w4 H4=>?_);refine Zb6 ?_;refine GS (Gn rfl (λ_=>Gives.al2 (c:=((x*8192%18446744073709551616:Nat):Int)) rfl rfl dC (by show IntKind.u64.wrap ((x:Int)*2^13)=_;rw[IntKind.wrap_u64];omega)) ?_);refine GS (Gn rfl (λ_=>Gives.al3 (c:=(a1:Int)) rfl rfl (by rw[bits_xor_u64_nat _ _ hx oM,ha1])) ?_);refine Zb1 ?_;refine qd Eh 9 _ H4 (h:=λwa Ha=>⟨sT,?_⟩);refine Zb0 ?_;refine Ds (λSa wb Hb=>?_);refine Zb6 ?_;refine GS (Gn rfl (λ_=>Gives.aqj (c:=((a1/128:Nat):Int)) rfl rfl dC (by show(a1:Int).fdiv (2^7)=_;rw[zfr _ dC];omega)) ?_);refine GS (Gn rfl (λ_=>Gives.al3 (c:=(a2:Int)) rfl rfl (by rw[bits_xor_u64_nat _ _ l1 oM,ha2])) ?_);refine Zb1 ?_;refine qd Sa 9 _ Hb (h:=λwc Hc=>⟨sT,?_⟩);refine Zb0 ?_;refine Ds (λSb wd Hd=>?_);refine Zb6 ?_;refine GS (Gn rfl (λ_=>Gives.al2 (c:=((a2*131072%18446744073709551616:Nat):Int)) rfl rfl dC (by show IntKind.u64.wrap ((a2:Int)*2^17)=_;rw[IntKind.wrap_u64];omega)) ?_);refine GS (Gn rfl (λ_=>Gives.al3 (c:=(a3:Int)) rfl rfl (by rw[bits_xor_u64_nat _ _ l2 oM,ha3])) ?_);refine Zb1 ?_;refine qd Sb 9 _ Hd (h:=λwe He=>⟨sT,?_⟩);refine Zb4 ?_;exact⟨a3,rfl,l3,He.turn⟩
theorem KJ {m:Nat} (h0:0<m) (hm:m<1000000):2^Lib.bitLen m<=2*m/\m<2^Lib.bitLen m/\Lib.bitLen m<=62:=by
 obtain⟨h1,h2,h3⟩:=bitLenAux_bounds 64 m oM oM;have h1':1<=Lib.bitLen m:=h1;have h2':2^(Lib.bitLen m-1)<=m:=h2
 have e:2^Lib.bitLen m=2*2^(Lib.bitLen m-1):=by
  conv=>lhs;rw[show Lib.bitLen m=(Lib.bitLen m-1)+1 from oM,Nat.pow_succ]
  omega
 refine⟨oM,h3,?_⟩;refine Classical.byContradiction λh=>?_;have:=Nat.pow_le_pow_right (n:=2) dC (show 20<=Lib.bitLen m-1 from oM);omega
theorem Gy (m:Nat) (hm:m<4611686018427387904):aN prog 110 [U m] w λr w'=>r=I (Lib.bitLen m)/\w=w':=by
 have:=Tryz.bits_Len (m:Int) w oM oM;rw[zdv]at this;refine nD (Calls.mono this λe w' he=>?_);obtain⟨rfl,rfl⟩:=he;exact⟨rfl,rfl⟩
theorem al4 (m:Nat) (h0:0<m) (hm:m<1000000):aN prog 221 [I m] w λr w'=>r=U ((2^Lib.bitLen m:Nat):Int)/\w=w':=by
 obtain⟨Q8,hb2,hb3⟩:=KJ h0 hm;obtain⟨q,hq⟩: ∃q,q=Lib.bitLen m:=⟨_,rfl⟩;obtain⟨M,hM⟩: ∃M,M=2^q:=⟨_,rfl⟩;have hb:=Gy (w:=w) m oM;rw[<-hq]at Q8 hb2 hb3 hb ⊢;rw[<-hM]at Q8 hb2 |-
 have e:(1:Int)*2^(Min.min (Int.toNat (q:Int)) 64)=(M:Int):=by
  rw[zdv,zck oM,Int.one_mul,hM,Int.natCast_pow];rfl
 refine eP func221 rfl rfl rfl rfl ?_;refine Zb2 ?_;refine Vv (Gives.Dj (c:=(m:Int)) rfl (by rw[IntKind.wrap_u64];omega)) ?_;refine gX hb (h:=?_);refine dU (Gives.al2 (c:=(M:Int)) rfl rfl oM (by
 show IntKind.u64.wrap ((1:Int)*2^(Min.min (Int.toNat (q:Int)) 64))=_
 rw[e,IntKind.wrap_u64];omega)) rfl ?_
 refine Zb1 ?_;exact⟨rfl,rfl⟩
theorem agq {a b:Nat} (hp:(gM f A n c d₀).ok F w) (CQ:n=d₀.size) (Ql:a+12<b) (hb:b<=n) (rU:n<1000000):
    aN prog 214 [.slice A n c,I a,I b,fv] w λr w'=>∃d':Array α,r=.tuple #[]/\PermIn a b d₀ d'/\Turn F (gM f A n c d') w w':=by
  have H:=Sep.dZ hp;obtain⟨l,hl⟩: ∃l,l=b-a:=⟨_,rfl⟩;obtain⟨i0,hi0⟩: ∃i0,i0=a+l/4*2-1:=⟨_,rfl⟩;obtain⟨hpw,Zz,_⟩:=KJ (m:=l) oM oM;obtain⟨M,hM⟩: ∃M,M=2^Lib.bitLen l:=⟨_,rfl⟩;rw[<-hM]at hpw Zz;refine CV func214 rfl rfl rfl rfl ?_;refine Zb2 ?_;refine Vc (l:Int) ?_;refine Za3 ?_;refine Qn (Cp rfl (λqx=>?_) (λqx=>?_))
  . have h8:=qx
    refine Zb1 ?_;refine Vv (Gives.Dj (c:=(l:Int)) rfl (by rw[IntKind.wrap_u64];omega)) ?_;refine aW H (h:=λb9 wa Ha ka=>?_);refine bM Ha (h:=λwb Hb=>?_);refine Zb1 ?_;refine gX (al4 l oM oM) (h:=?_);rw[<-hM];refine Zb3 ?_;refine Vv (Gives.Yy (a:=l) (b:=4) rfl rfl dC oM) (Vc ((l/4*2:Nat):Int) ?_);refine Vc ((a+l/4*2:Nat):Int) ?_;refine Vc (i0:Int) ?_;refine Zb1 ?_;refine aP (λx:Nat×Nat×Array α=>[(0,.slice A n c),(1,I a),(8,I l),(9,aA b9),(10,U M),(11,I ((i0+x.1:Nat):Int))]) (λx w'=>(x.1<=3/\x.2.1<18446744073709551616/\PermIn a b d₀ x.2.2)/\Sep w F [blk b9 [U x.2.1] 299,gM f A n c x.2.2] w') (λx _=>3-x.1) (0,l,d₀) tR ⟨⟨zak _,dO,permIn_refl _ _ _⟩,Hb⟩ (λx τ wc hI=>?_);obtain⟨k,x,d⟩:=x;obtain⟨⟨hk3,hx,Fb⟩,Hc⟩:=hI;dsimp only at hk3 hx Fb Hc;have hn:n=d.size:=by rw[Fb.1];exact CQ
    try simp only[dA,like,bB,bY]
    refine Zb3 ?_;refine Vv (Gives.Yy (a:=l) (b:=4) rfl rfl dC oM) (Vc ((l/4*2:Nat):Int) ?_);refine Vc ((a+l/4*2:Nat):Int) ?_;refine Vc ((a+l/4*2+1:Nat):Int) ?_;refine Za1 ?_;refine Qn (Cp rfl (λIa=>?_) (λIa=>?_))
    . have hk2:k<3:=oM
      refine Zb0 ?_;obtain⟨F0,fZ,iK,aQ⟩:=Hc.focus At0;refine aS (agp fZ hx) rfl rfl (λv' wd hv=>?_);obtain⟨y,rfl,hy,arl,F1,hq,hs⟩:=hv;have Hd:=aQ _ F1 _ arl hq hs;refine Mv ?_;refine Vv (Gives.an0 (c:=((M-1:Nat):Int)) rfl rfl (by rw[IntKind.wrap_u64];omega)) ?_;have arn:y&&& (M-1)<=M-1:=Nat.and_le_right;refine Vv (Gives.al1 (c:=((y&&& (M-1):Nat):Int)) rfl rfl (bits_and_u64_nat y (M-1) hy oM)) ?_;obtain⟨z,hz⟩: ∃z,z=y&&& (M-1):=⟨_,rfl⟩;rw[<-hz]at arn ⊢;refine Vv (Gives.Dj (c:=(z:Int)) rfl (by rw[IntKind.wrap_i64];omega)) ?_;refine Am ?_;refine Qn (iP (λz:Nat=>[(0,.slice A n c),(1,I a),(8,I l),(9,aA b9),(10,U M),(11,I ((i0+k:Nat):Int)),(12,I z)]) (λz w'=>z<l/\Sep w F [blk b9 [U y] 299,gM f A n c d] w') ?_ ?_)
      . refine Za3 ?_
        refine Qn (Cp rfl (λIb=>?_) (λIb=>?_))
        . have hzl:=Ib
          refine Zb2 ?_;refine Vc ((z-l:Nat):Int) ?_;refine Zb1 ?_;exact aG (z-l) tR ⟨oM,Hd⟩
        have hzl:=Ib;refine Zb0 ?_;exact aG z tR ⟨oM,Hd⟩
      intro o τ we ⟨ho,He⟩;have He:=He.aJ;have hR:=rdI hn He At0;simp only[dA,like,bB];refine Ds (λSa wf Hf=>?_);refine Zb5 ?_;refine Gc Sa 5 ((a+o:Nat):Int) ?_;refine Zb3 ?_;refine Gc Sa 9 ((a+o:Nat):Int) ?_;refine Zb7 ?_;refine FsI (λwg Hg=>?_);refine Zb1 ?_;refine FsI (λwh Hh=>?_);refine Zb1 ?_;refine Vc ((i0+(k+1):Nat):Int) ?_;refine Zb1 ?_;exact ak (k+1,y,swp d (i0+k) (a+o)) tR ⟨⟨dO,hy,permIn_trans _ _ _ _ _ Fb (swp_permIn d a b (i0+k) (a+o) oM oM oM oM oM)⟩,Hh.aJ⟩ dO
    have nu:k=3:=oM;refine Zb0 ?_;exact⟨d,rfl,Fb,Hc.eF.turn⟩
  exact zat qx oM
end
section
variable {α:Type} [Inhabited α] {f:α->Int} {cf:α->α->Int} {w:Wd} {F:NP} {A:OA} {n c:Nat} {d₀:Array α} {fv:Value}
theorem QG (lt:α->α->Bool) (d:Array α) (b:Nat): ∀(k i:Nat),b-i=k->i<=scanSorted lt d b i/\(i<=b->scanSorted lt d b i<=b):=by
 intro k
 induction k with
 | zero=>intro i h;rw[scanSorted,zab (by simp;intro _;omega)];exact⟨zbf _,id⟩
 | succ k ih=>
  intro i h;rw[scanSorted]
  split
  .obtain⟨h1,h2⟩:=ih (i+1) oM
   exact⟨oM,λ_=>h2 oM⟩
  exact⟨zbf _,id⟩
set_option maxHeartbeats 1000000 in
theorem aan {a b:Nat} (hp:(gM f A n c d₀).ok F w) (CQ:n=d₀.size) (Ql:a+12<b) (hb:b<=n) (rU:n<=1000000) (qP:rJ Tryz.prog fv f cf F w):
    aN Tryz.prog 217 [.slice A n c,I a,I b,fv] w λr w'=>r=.bool (partialInsertionSort (ltC cf) d₀ a b).2/\Turn F (gM f A n c (partialInsertionSort (ltC cf) d₀ a b).1) w w':=by
  have H:=Sep.dZ hp;obtain⟨res,ay⟩: ∃res,res=partialInsertionSort (ltC cf) d₀ a b:=⟨_,rfl⟩;rw[<-ay];unfold partialInsertionSort at ay;refine CV Tryz.func217 rfl rfl rfl rfl ?_;refine Zb2 ?_;refine Vc ((a+1:Nat):Int) ?_;refine Zb2 ?_;refine aP (λx:Nat×Nat×Array α=>[(0,.slice A n c),(1,I a),(2,I b),(3,fv),(9,I x.2.1),(10,I x.1)]) (λx w'=>((n=x.2.2.size/\x.1<=5/\a<x.2.1/\x.2.1<=b)/\partialIns (ltC cf) a b (5-x.1) x.2.1 x.2.2=res)/\Sep w F [gM f A n c x.2.2] w') (λx _=>5-x.1) (0,a+1,d₀) tR ⟨⟨⟨CQ,zak _,dO,dO⟩,ay.symm⟩,H⟩ (λx τ w7 hI=>?_);obtain⟨s,i,d⟩:=x;obtain⟨⟨⟨hn,Nh,MP,hib⟩,hi⟩,H7⟩:=hI;dsimp only at hn Nh MP hib hi H7;have hR:=rdI hn H7 At0
  try simp only[dA,like,bB,bY]
  refine Za2 ?_;refine Qn (Cp rfl (λIa=>?_) (λIa=>?_))
  . obtain⟨q,hq⟩: ∃q,5-s=q+1:=⟨4-s,oM⟩
    obtain⟨e,he⟩: ∃e,e=scanSorted (ltC cf) d b i:=⟨_,rfl⟩;obtain⟨hg1,hg2⟩:=QG (ltC cf) d b _ i rfl;rw[hq,partialIns]at hi;dsimp only at hi;rw[<-he]at hi hg1 hg2;have heb:=hg2 hib;refine Sk (iP (λx:Array α=>[(0,.slice A n c),(1,I a),(2,I b),(3,fv),(9,I e),(10,I s)]) (λx w'=>(n=x.size/\partialIns (ltC cf) a b q e x=res)/\Sep w F [gM f A n c x] w') ?_ ?_)
    . refine Zb0 ?_
      refine aP (λk:Nat=>[(0,.slice A n c),(1,I a),(2,I b),(3,fv),(9,I k),(10,I s)]) (λk w'=>(a<k/\k<=b/\scanSorted (ltC cf) d b k=e)/\Sep w F [gM f A n c d] w') (λk _=>b-k) i tR ⟨⟨MP,hib,he.symm⟩,H7⟩ (λk τ wa hI=>?_);obtain⟨⟨hak,hkb,nu⟩,Ha⟩:=hI
      try simp only[dA,like,bB]
      refine Zb0 ?_;refine Ds (λSa wb Hb=>?_);refine Zb4 ?_;refine fP (t:=22) rfl (λSb=>?_) (λSb=>?_)
      . have aro:k<b:=oM
        refine Zb7 ?_;refine Gc Sa 11 ((k-1:Nat):Int) ?_;refine Zb2 ?_;refine FcI (λwc Hc=>?_);refine Za3 ?_;refine dP Sa kR ?_;refine aU (Cp rfl (λIb=>?_) (λIb=>?_))
        . rw[scanSorted,zac (by simp[ltC];exact⟨aro,by have:=Ib;omega⟩)]at nu
          refine Zb1 ?_;refine Vc ((k+1:Nat):Int) ?_;refine Zb1 ?_;exact ak (k+1) tR ⟨⟨oM,oM,nu⟩,Hc⟩ oM
        rw[scanSorted,zab (by simp[ltC];intro _;have:=Ib;omega)]at nu;subst nu;refine Za3 ?_;refine Qn (Cp rfl (λIc=>?_) (λIc=>?_))
        . rw[zac (show k=b from oM)]at hi
          refine Za1 ?_;refine Qn (Rs (dF (mG (mW (dF (fG (nG (hR:=?_))))))));exact⟨by rw[<-hi];rfl,by rw[<-hi];exact Hc.turn⟩
        have arp:k<b:=oM;rw[zab (show ¬k=b from oM)]at hi;refine Zb2 ?_;refine Vc ((b-a:Nat):Int) ?_;refine Vl ?_;refine Qn (Cp rfl (λId=>?_) (λId=>?_))
        . rw[zac (show b-a<50 from oM)]at hi
          refine Za1 ?_;refine Qn (Rs (dF (mG (mW (dF (fG (nG (hR:=?_))))))));exact⟨by rw[<-hi];rfl,by rw[<-hi];exact Hc.turn⟩
        rw[zab (show ¬b-a<50 from oM)]at hi;refine Zb0 ?_;refine Ds (λSc wd Hd=>?_);refine Zb4 ?_;refine Gc Sc 4 ((k-1:Nat):Int) ?_;refine Zb2 ?_;refine Gc Sc 7 ((k-1:Nat):Int) ?_;refine Zb7 ?_;refine FsI (λwe He=>?_);refine Zb1 ?_;refine FsI (λwf Hf=>?_);refine dP Sc kR ?_;refine aU (iP (λx:Array α=>[(0,.slice A n c),(1,I a),(2,I b),(3,fv),(9,I k),(10,I s)]) (λx w'=>(n=x.size/\partialIns (ltC cf) a b q k (if b-k≥2 then shiftUp (ltC cf) b (k+1) x else x)=res)/\Sep w F [gM f A n c x] w') ?_ ?_)
        . refine Zb2 ?_
          refine Vc ((k-a:Nat):Int) ?_;refine Za1 ?_;refine Qn (Cp rfl (λIe=>?_) (λIe=>?_))
          . rw[zac (show k-a≥2 from oM)]at hi
            refine Zb1 ?_;have Kl:n=(swp d k (k-1)).size:=by rw[swp_size];exact hn
            refine Vc ((k-1:Nat):Int) ?_;refine Zb1 ?_;refine aP (λx:Nat×Array α=>[(0,.slice A n c),(1,I a),(2,I b),(3,fv),(9,I k),(10,I s),(11,I x.1)]) (λx w'=>((n=x.2.size/\x.1<n)/\partialIns (ltC cf) a b q k (if b-k≥2 then shiftUp (ltC cf) b (k+1) (shiftDown (ltC cf) x.1 x.2)else shiftDown (ltC cf) x.1 x.2)=res)/\Sep w F [gM f A n c x.2] w') (λx _=>x.1) (k-1,swp d k (k-1)) tR ⟨⟨⟨Kl,dO⟩,hi⟩,Hf⟩ (λx τ wg hI=>?_);clear hi hn hR Kl;obtain⟨j,d⟩:=x;obtain⟨⟨⟨hn,MQ⟩,hi⟩,Hg⟩:=hI;dsimp only at hn MQ hi Hg;have hR:=rdI hn Hg At0
            try simp only[dA,like,bB]
            refine Za2 ?_;refine Qn (Cp rfl (λIf=>?_) (λIf=>?_))
            . obtain⟨m,rfl⟩: ∃m,j=m+1:=⟨j-1,oM⟩
              rw[shiftDown]at hi;refine Zb0 ?_;refine Ds (λSd wh Hh=>?_);refine Zb7 ?_;refine Gc Sd 7 ((m:Nat):Int) ?_;refine Zb2 ?_;refine FcI (λwi Hi=>?_);refine Za2 ?_;refine dP Sd kR ?_;refine aU (Cp rfl (λIg=>?_) (λIg=>?_))
              . rw[zac (show(!ltC cf d[m+1]! d[m]!)=true by simp[ltC];have:=Ig;omega)]at hi
                refine Zb0 ?_;exact aG d tR ⟨⟨hn,hi⟩,Hi⟩
              rw[zab (show ¬(!ltC cf d[m+1]! d[m]!)=true by simp[ltC];have:=Ig;omega)]at hi;refine Sk (Ds (λSe wj Hj=>?_));refine Zb4 ?_;refine Gc Se 4 ((m:Nat):Int) ?_;refine Zb2 ?_;refine Gc Se 7 ((m:Nat):Int) ?_;refine Zb7 ?_;refine FsI (λwk Hk=>?_);refine Zb1 ?_;refine FsI (λwl Hl=>?_);refine Zb1 ?_;refine Vc (m:Int) ?_;refine Zb1 ?_;exact ak (m,swp d (m+1) m) tR ⟨⟨⟨by rw[swp_size];exact hn,dO⟩,hi⟩,Hl⟩ dO
            have hj0:j=0:=oM;subst hj0;rw[shiftDown]at hi;refine Zb0 ?_;exact aG d tR ⟨⟨hn,hi⟩,Hg⟩
          rw[zab (show ¬k-a≥2 from oM)]at hi;refine Zb0 ?_;exact aG (swp d k (k-1)) tR ⟨⟨by rw[swp_size];exact hn,hi⟩,Hf⟩
        intro d2 τ wm ⟨⟨hn2,Bf⟩,Hm⟩;simp only[dA,like,bB];refine Zb2 ?_;refine Vc ((b-k:Nat):Int) ?_;refine Za1 ?_;refine Qn (Cp rfl (λIh=>?_) (λIh=>?_))
        . rw[zac (show b-k≥2 from oM)]at Bf
          refine Zb1 ?_;refine Vc ((k+1:Nat):Int) ?_;refine Zb1 ?_;refine aP (λx:Nat×Array α=>[(0,.slice A n c),(1,I a),(2,I b),(3,fv),(9,I k),(10,I s),(12,I x.1)]) (λx w'=>((n=x.2.size/\1<=x.1)/\partialIns (ltC cf) a b q k (shiftUp (ltC cf) b x.1 x.2)=res)/\Sep w F [gM f A n c x.2] w') (λx _=>b-x.1) (k+1,d2) tR ⟨⟨⟨hn2,dO⟩,Bf⟩,Hm⟩ (λx τ wn hI=>?_);clear Bf hn2;obtain⟨j,d⟩:=x;obtain⟨⟨⟨hn,hj1⟩,hi⟩,Hn⟩:=hI;dsimp only at hn hj1 hi Hn;have hR:=rdI hn Hn At0
          try simp only[dA,like,bB]
          refine Za3 ?_;refine Qn (Cp rfl (λIi=>?_) (λIi=>?_))
          . have hjb:j<b:=oM
            rw[shiftUp,zac hjb]at hi;refine Zb0 ?_;refine Ds (λSf wo Ho=>?_);refine Zb7 ?_;refine Gc Sf 7 ((j-1:Nat):Int) ?_;refine Zb2 ?_;refine FcI (λwp Hp=>?_);refine Za2 ?_;refine dP Sf kR ?_;refine aU (Cp rfl (λIj=>?_) (λIj=>?_))
            . rw[zac (show(!ltC cf d[j]! d[j-1]!)=true by simp[ltC];have:=Ij;omega)]at hi
              refine Zb0 ?_;exact aG d tR ⟨⟨hn,hi⟩,Hp⟩
            rw[zab (show ¬(!ltC cf d[j]! d[j-1]!)=true by simp[ltC];have:=Ij;omega)]at hi;refine Sk (Ds (λSg wq Hq=>?_));refine Zb4 ?_;refine Gc Sg 4 ((j-1:Nat):Int) ?_;refine Zb2 ?_;refine Gc Sg 7 ((j-1:Nat):Int) ?_;refine Zb7 ?_;refine FsI (λwr Hr=>?_);refine Zb1 ?_;refine FsI (λws Hs=>?_);refine Zb1 ?_;refine Vc ((j+1:Nat):Int) ?_;refine Zb1 ?_;exact ak (j+1,swp d j (j-1)) tR ⟨⟨⟨by rw[swp_size];exact hn,dO⟩,hi⟩,Hs⟩ dO
          rw[shiftUp,zab oM]at hi;refine Zb0 ?_;exact aG d tR ⟨⟨hn,hi⟩,Hn⟩
        rw[zab (show ¬b-k≥2 from oM)]at Bf;refine Zb0 ?_;exact aG d2 tR ⟨⟨hn2,Bf⟩,Hm⟩
      rw[scanSorted,zab (by simp;intro _;omega)]at nu;subst nu;refine Za4 ?_;refine Qn (Cp rfl (λIk=>?_) (λIk=>?_))
      . rw[zac (show k=b from oM)]at hi
        refine Za1 ?_;refine Qn (Rs (dF (mG (mW (dF (fG (nG (hR:=?_))))))));exact⟨by rw[<-hi];rfl,by rw[<-hi];exact Hb.turn⟩
      have arp:k<b:=oM;rw[zab (show ¬k=b from oM)]at hi;refine Zb2 ?_;refine Vc ((b-a:Nat):Int) ?_;refine Vl ?_;refine Qn (Cp rfl (λIl=>?_) (λIl=>?_))
      . rw[zac (show b-a<50 from oM)]at hi
        refine Za1 ?_;refine Qn (Rs (dF (mG (mW (dF (fG (nG (hR:=?_))))))));exact⟨by rw[<-hi];rfl,by rw[<-hi];exact Hb.turn⟩
      rw[zab (show ¬b-a<50 from oM)]at hi;refine Zb0 ?_;refine Ds (λSh wt Ht=>?_);refine Zb4 ?_;refine Gc Sh 4 ((k-1:Nat):Int) ?_;refine Zb2 ?_;refine Gc Sh 7 ((k-1:Nat):Int) ?_;refine Zb7 ?_;refine FsI (λwu Hu=>?_);refine Zb1 ?_;refine FsI (λwv Hv=>?_);refine dP Sh kR ?_;refine aU (iP (λx:Array α=>[(0,.slice A n c),(1,I a),(2,I b),(3,fv),(9,I k),(10,I s)]) (λx w'=>(n=x.size/\partialIns (ltC cf) a b q k (if b-k≥2 then shiftUp (ltC cf) b (k+1) x else x)=res)/\Sep w F [gM f A n c x] w') ?_ ?_)
      . refine Zb2 ?_
        refine Vc ((k-a:Nat):Int) ?_;refine Za1 ?_;refine Qn (Cp rfl (λIm=>?_) (λIm=>?_))
        . rw[zac (show k-a≥2 from oM)]at hi
          refine Zb1 ?_;have Kl:n=(swp d k (k-1)).size:=by rw[swp_size];exact hn
          refine Vc ((k-1:Nat):Int) ?_;refine Zb1 ?_;refine aP (λx:Nat×Array α=>[(0,.slice A n c),(1,I a),(2,I b),(3,fv),(9,I k),(10,I s),(11,I x.1)]) (λx w'=>((n=x.2.size/\x.1<n)/\partialIns (ltC cf) a b q k (if b-k≥2 then shiftUp (ltC cf) b (k+1) (shiftDown (ltC cf) x.1 x.2)else shiftDown (ltC cf) x.1 x.2)=res)/\Sep w F [gM f A n c x.2] w') (λx _=>x.1) (k-1,swp d k (k-1)) tR ⟨⟨⟨Kl,dO⟩,hi⟩,Hv⟩ (λx τ ww hI=>?_);clear hi hn hR Kl;obtain⟨j,d⟩:=x;obtain⟨⟨⟨hn,MQ⟩,hi⟩,Hw⟩:=hI;dsimp only at hn MQ hi Hw;have hR:=rdI hn Hw At0
          try simp only[dA,like,bB]
          refine Za2 ?_;refine Qn (Cp rfl (λIn=>?_) (λIn=>?_))
          . obtain⟨m,rfl⟩: ∃m,j=m+1:=⟨j-1,oM⟩
            rw[shiftDown]at hi;refine Zb0 ?_;refine Ds (λSi wx Hx=>?_);refine Zb7 ?_;refine Gc Si 7 ((m:Nat):Int) ?_;refine Zb2 ?_;refine FcI (λwy Hy=>?_);refine Za2 ?_;refine dP Si kR ?_;refine aU (Cp rfl (λIo=>?_) (λIo=>?_))
            . rw[zac (show(!ltC cf d[m+1]! d[m]!)=true by simp[ltC];have:=Io;omega)]at hi
              refine Zb0 ?_;exact aG d tR ⟨⟨hn,hi⟩,Hy⟩
            rw[zab (show ¬(!ltC cf d[m+1]! d[m]!)=true by simp[ltC];have:=Io;omega)]at hi;refine Sk (Ds (λSj wz Hz=>?_));refine Zb4 ?_;refine Gc Sj 4 ((m:Nat):Int) ?_;refine Zb2 ?_;refine Gc Sj 7 ((m:Nat):Int) ?_;refine Zb7 ?_;refine FsI (λwD HA=>?_);refine Zb1 ?_;refine FsI (λwE HB=>?_);refine Zb1 ?_;refine Vc (m:Int) ?_;refine Zb1 ?_;exact ak (m,swp d (m+1) m) tR ⟨⟨⟨by rw[swp_size];exact hn,dO⟩,hi⟩,HB⟩ dO
          have hj0:j=0:=oM;subst hj0;rw[shiftDown]at hi;refine Zb0 ?_;exact aG d tR ⟨⟨hn,hi⟩,Hw⟩
        rw[zab (show ¬k-a≥2 from oM)]at hi;refine Zb0 ?_;exact aG (swp d k (k-1)) tR ⟨⟨by rw[swp_size];exact hn,hi⟩,Hv⟩
      intro d2 τ wF ⟨⟨hn2,Bf⟩,HC⟩;simp only[dA,like,bB];refine Zb2 ?_;refine Vc ((b-k:Nat):Int) ?_;refine Za1 ?_;refine Qn (Cp rfl (λIp=>?_) (λIp=>?_))
      . rw[zac (show b-k≥2 from oM)]at Bf
        refine Zb1 ?_;refine Vc ((k+1:Nat):Int) ?_;refine Zb1 ?_;refine aP (λx:Nat×Array α=>[(0,.slice A n c),(1,I a),(2,I b),(3,fv),(9,I k),(10,I s),(12,I x.1)]) (λx w'=>((n=x.2.size/\1<=x.1)/\partialIns (ltC cf) a b q k (shiftUp (ltC cf) b x.1 x.2)=res)/\Sep w F [gM f A n c x.2] w') (λx _=>b-x.1) (k+1,d2) tR ⟨⟨⟨hn2,dO⟩,Bf⟩,HC⟩ (λx τ wG hI=>?_);clear Bf hn2;obtain⟨j,d⟩:=x;obtain⟨⟨⟨hn,hj1⟩,hi⟩,HD⟩:=hI;dsimp only at hn hj1 hi HD;have hR:=rdI hn HD At0
        try simp only[dA,like,bB]
        refine Za3 ?_;refine Qn (Cp rfl (λIq=>?_) (λIq=>?_))
        . have hjb:j<b:=oM
          rw[shiftUp,zac hjb]at hi;refine Zb0 ?_;refine Ds (λSl wH HE=>?_);refine Zb7 ?_;refine Gc Sl 7 ((j-1:Nat):Int) ?_;refine Zb2 ?_;refine FcI (λwI HF=>?_);refine Za2 ?_;refine dP Sl kR ?_;refine aU (Cp rfl (λIr=>?_) (λIr=>?_))
          . rw[zac (show(!ltC cf d[j]! d[j-1]!)=true by simp[ltC];have:=Ir;omega)]at hi
            refine Zb0 ?_;exact aG d tR ⟨⟨hn,hi⟩,HF⟩
          rw[zab (show ¬(!ltC cf d[j]! d[j-1]!)=true by simp[ltC];have:=Ir;omega)]at hi;refine Sk (Ds (λSm wJ HG=>?_));refine Zb4 ?_;refine Gc Sm 4 ((j-1:Nat):Int) ?_;refine Zb2 ?_;refine Gc Sm 7 ((j-1:Nat):Int) ?_;refine Zb7 ?_;refine FsI (λwK HH=>?_);refine Zb1 ?_;refine FsI (λwL HI=>?_);refine Zb1 ?_;refine Vc ((j+1:Nat):Int) ?_;refine Zb1 ?_;exact ak (j+1,swp d j (j-1)) tR ⟨⟨⟨by rw[swp_size];exact hn,dO⟩,hi⟩,HI⟩ dO
        rw[shiftUp,zab oM]at hi;refine Zb0 ?_;exact aG d tR ⟨⟨hn,hi⟩,HD⟩
      rw[zab (show ¬b-k≥2 from oM)]at Bf;refine Zb0 ?_;exact aG d2 tR ⟨⟨hn2,Bf⟩,HC⟩
    intro d2 τ wM ⟨⟨hn2,Bf⟩,HJ⟩;simp only[dA,like,bB];refine Zb1 ?_;refine Vc ((s+1:Nat):Int) ?_;refine Zb1 ?_;exact ak (s+1,e,d2) tR ⟨⟨⟨hn2,dO,dO,heb⟩,by dsimp only;rw[show 5-(s+1)=q from oM];exact Bf⟩,HJ⟩ dO
  rw[show 5-s=0 from oM,partialIns]at hi;refine Zb1 ?_;exact⟨by rw[<-hi];rfl,by rw[<-hi];exact H7.turn⟩
end
end Go.Proofs.YtkfpleidaoaonaaGreatDoor
