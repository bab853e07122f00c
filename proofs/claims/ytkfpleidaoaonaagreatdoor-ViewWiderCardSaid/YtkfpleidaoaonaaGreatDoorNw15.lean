/-
 Sorting by a function:rows turned round,patterns broken,a few insertions,walked.
-/
import Derived.Test.YtkfpleidaoaonaaGreatDoorNw1
import Derived.Test.YtkfpleidaoaonaaGreatDoorNw3
import Derived.Test.YtkfpleidaoaonaaGreatDoorNw14
import Derived.Sort.LotA
import Derived.Sort.LotB
import Derived.Sort.LotD5
import Derived.Lib.ItoaNum
import Derived.Sort.WalkC4
import Derived.Sort.AssemblyPlain
import Derived.Sort.LotD3
set_option linter.unusedVariables false
set_option linter.unusedSimpArgs false
namespace Go.Proofs.YtkfpleidaoaonaaGreatDoor
open Go Go.Mw Go.Lib Go.Sort Go.Proofs.Tryz
set_option maxRecDepth 4000
attribute [local irreducible] FW FL FG FGn fZ gG cO gW Qfn Gives
section
variable {α:Type} [Inhabited α] {f:α->Int} {cf:α->α->Int} {w:Wd} {F:NP} {A:OA} {n c:Nat} {d₀:Array α} {fv:Value}
theorem WG {a b:Nat} (hp:(fJ f A n c d₀).ok F w) (yX:n=d₀.size) (Yw:a<b) (hb:b<=n) (oq:n<=1000000):
    aY prog 216 [.slice A n c,I a,I b,fv] w λr w'=>r=.tuple #[]/\Turn F (fJ f A n c (reverseRange d₀ a b)) w w':=by
  have H:=Sep.bW hp;obtain⟨res,au⟩: ∃res,res=reverseRange d₀ a b:=⟨_,rfl⟩;rw[<-au];unfold reverseRange at au;refine y8 func216 rfl rfl rfl rfl ?_;refine Zb3 ?_;refine Vc ((b-1:Nat):Int) ?_;refine Zb1 ?_;refine aR (λx:Nat×Nat×Array α=>[(0,.slice A n c),(8,I x.1),(9,I x.2.1)]) (λx w'=>((n=x.2.2.size/\x.2.1<n)/\reverseLoop x.1 x.2.1 x.2.2=res)/\Sep w F [fJ f A n c x.2.2] w') (λx _=>x.2.1-x.1) (a,b-1,d₀) tR ⟨⟨⟨yX,dO⟩,au.symm⟩,H⟩ (λx τ _ hI=>?_);obtain⟨i,j,d⟩:=x;obtain⟨⟨⟨hn,Yx⟩,hi⟩,k⟩:=hI;dsimp only at hn Yx hi k;have hR:=rdI hn k At0
  try simp only[cK,like,aS,bK]
  refine Za3 ?_;refine Qn (Cp rfl (λS=>?_) (λS=>?_))
  . have bH:i<j:=oM
    rw[reverseLoop,zac bH]at hi;refine Zb0 ?_;refine Ds (λ_ _ _=>?_);refine Q7 ?_;refine FsI (λ_ _=>?_);refine Zb1 ?_;refine FsI (λ_ S=>?_);refine Zb1 ?_;refine Vc ((i+1:Nat):Int) ?_;refine Zb2 ?_;refine Vc ((j-1:Nat):Int) ?_;refine Zb1 ?_;exact aj (i+1,j-1,swp d i j) tR ⟨⟨⟨by rw[swp_size];exact hn,dO⟩,hi⟩,S⟩ dO
  rw[reverseLoop,zab oM]at hi;refine Zb0 ?_;exact⟨rfl,by rw[<-hi];exact k.turn⟩
theorem adv {b x:Nat} {E:Td} (hp:(blk b [U x] E).ok F w) (hx:x<18446744073709551616):aY prog 222 [av b] w λr w'=>∃y:Nat,r=U y/\y<18446744073709551616/\Turn F (blk b [U y] E) w w':=by
 have H:=Sep.bW hp;refine dI func222 rfl rfl rfl rfl ?_;obtain⟨a1,ZE⟩: ∃a:Nat,a=x^^^(x*8192%18446744073709551616):=⟨_,rfl⟩;obtain⟨a2,ha2⟩: ∃a:Nat,a=a1^^^(a1/128):=⟨_,rfl⟩;obtain⟨a3,ha3⟩: ∃a:Nat,a=a2^^^(a2*131072%18446744073709551616):=⟨_,rfl⟩;have l1:a1<18446744073709551616:=by rw[ZE];exact Nat.xor_lt_two_pow (n:=64) oM oM
 have l2:a2<18446744073709551616:=by rw[ha2];exact Nat.xor_lt_two_pow (n:=64) oM oM
 have l3:a3<18446744073709551616:=by rw[ha3];exact Nat.xor_lt_two_pow (n:=64) oM oM
 refine Zb1 ?_;refine Ds (λk _ S=>?_);refine Zb6 ?_;refine GS (Gn rfl (λ_=>Gives.ai9 (c:=((x*8192%18446744073709551616:Nat):Int)) rfl rfl dC (by show IntKind.u64.wrap ((x:Int)*2^13)=_;rw[IntKind.wrap_u64];omega)) ?_);refine GS (Gn rfl (λ_=>Gives.aja (c:=(a1:Int)) rfl rfl (by rw[bits_xor_u64_nat _ _ hx oM,ZE])) ?_);refine Zb1 ?_;refine mM k 9 _ S (h:=λ_ _=>⟨sT,?_⟩);refine Zb0 ?_;refine Ds (λS _ k=>?_);refine Zb6 ?_;refine GS (Gn rfl (λ_=>Gives.am0 (c:=((a1/128:Nat):Int)) rfl rfl dC (by show(a1:Int).fdiv (2^7)=_;rw[zfn _ dC];omega)) ?_);refine GS (Gn rfl (λ_=>Gives.aja (c:=(a2:Int)) rfl rfl (by rw[bits_xor_u64_nat _ _ l1 oM,ha2])) ?_);refine Zb1 ?_;refine mM S 9 _ k (h:=λ_ _=>⟨sT,?_⟩);refine Zb0 ?_;refine Ds (λk _ S=>?_);refine Zb6 ?_;refine GS (Gn rfl (λ_=>Gives.ai9 (c:=((a2*131072%18446744073709551616:Nat):Int)) rfl rfl dC (by show IntKind.u64.wrap ((a2:Int)*2^17)=_;rw[IntKind.wrap_u64];omega)) ?_);refine GS (Gn rfl (λ_=>Gives.aja (c:=(a3:Int)) rfl rfl (by rw[bits_xor_u64_nat _ _ l2 oM,ha3])) ?_);refine Zb1 ?_;refine mM k 9 _ S (h:=λ_ S=>⟨sT,?_⟩);refine Zb4 ?_;exact⟨a3,rfl,l3,S.turn⟩
theorem EY {m:Nat} (h0:0<m) (hm:m<1000000):2^Lib.bitLen m<=2*m/\m<2^Lib.bitLen m/\Lib.bitLen m<=62:=by
 obtain⟨h1,h2,h3⟩:=bitLenAux_bounds 64 m oM oM;have h1':1<=Lib.bitLen m:=h1;have h2':2^(Lib.bitLen m-1)<=m:=h2
 have e:2^Lib.bitLen m=2*2^(Lib.bitLen m-1):=by
  conv=>lhs;rw[show Lib.bitLen m=(Lib.bitLen m-1)+1 from oM,Nat.pow_succ]
  omega
 refine⟨oM,h3,?_⟩;refine Classical.byContradiction λh=>?_;have:=Nat.pow_le_pow_right (n:=2) dC (show 20<=Lib.bitLen m-1 from oM);omega
theorem CV (m:Nat) (hm:m<4611686018427387904):aY prog 110 [U m] w λr w'=>r=I (Lib.bitLen m)/\w=w':=by
 have:=Tryz.bits_Len (m:Int) w oM oM;rw[zdo]at this;refine jQ (Calls.mono this λe w' he=>?_);obtain⟨rfl,rfl⟩:=he;exact⟨rfl,rfl⟩
theorem ajb (m:Nat) (h0:0<m) (hm:m<1000000):aY prog 221 [I m] w λr w'=>r=U ((2^Lib.bitLen m:Nat):Int)/\w=w':=by
 obtain⟨Na,hb2,hb3⟩:=EY h0 hm;obtain⟨q,hq⟩: ∃q,q=Lib.bitLen m:=⟨_,rfl⟩;obtain⟨M,hM⟩: ∃M,M=2^q:=⟨_,rfl⟩;have hb:=CV (w:=w) m oM;rw[<-hq]at Na hb2 hb3 hb ⊢;rw[<-hM]at Na hb2 |-
 have e:(1:Int)*2^(Min.min (Int.toNat (q:Int)) 64)=(M:Int):=by
  rw[zdo,zcv oM,Int.one_mul,hM,Int.natCast_pow];rfl
 refine dI func221 rfl rfl rfl rfl ?_;refine Zb2 ?_;refine Vv (Gives.zx (c:=(m:Int)) rfl (by rw[IntKind.wrap_u64];omega)) ?_;refine eY hb (h:=?_);refine dG (Gives.ai9 (c:=(M:Int)) rfl rfl oM (by
 show IntKind.u64.wrap ((1:Int)*2^(Min.min (Int.toNat (q:Int)) 64))=_
 rw[e,IntKind.wrap_u64];omega)) rfl ?_
 refine Zb1 ?_;exact⟨rfl,rfl⟩
theorem adw {a b:Nat} (hp:(fJ f A n c d₀).ok F w) (yX:n=d₀.size) (Yw:a+12<b) (hb:b<=n) (oq:n<1000000):
    aY prog 214 [.slice A n c,I a,I b,fv] w λr w'=>∃d':Array α,r=.tuple #[]/\PermIn a b d₀ d'/\Turn F (fJ f A n c d') w w':=by
  have H:=Sep.bW hp;obtain⟨l,hl⟩: ∃l,l=b-a:=⟨_,rfl⟩;obtain⟨i0,hi0⟩: ∃i0,i0=a+l/4*2-1:=⟨_,rfl⟩;obtain⟨hpw,Yu,_⟩:=EY (m:=l) oM oM;obtain⟨M,hM⟩: ∃M,M=2^Lib.bitLen l:=⟨_,rfl⟩;rw[<-hM]at hpw Yu;refine y8 func214 rfl rfl rfl rfl ?_;refine Zb2 ?_;refine Vc (l:Int) ?_;refine Za3 ?_;refine Qn (Cp rfl (λS=>?_) (λS=>?_))
  . have h8:=S
    refine Zb1 ?_;refine Vv (Gives.zx (c:=(l:Int)) rfl (by rw[IntKind.wrap_u64];omega)) ?_;refine aO H (h:=λb9 _ e _=>?_);refine bB e (h:=λ_ e=>?_);refine Zb1 ?_;refine eY (ajb l oM oM) (h:=?_);rw[<-hM];refine Zb3 ?_;refine Vv (Gives.U5 (a:=l) (b:=4) rfl rfl dC oM) (Vc ((l/4*2:Nat):Int) ?_);refine Vc ((a+l/4*2:Nat):Int) ?_;refine Vc (i0:Int) ?_;refine Zb1 ?_;refine aR (λx:Nat×Nat×Array α=>[(0,.slice A n c),(1,I a),(8,I l),(9,av b9),(10,U M),(11,I ((i0+x.1:Nat):Int))]) (λx w'=>(x.1<=3/\x.2.1<18446744073709551616/\PermIn a b d₀ x.2.2)/\Sep w F [blk b9 [U x.2.1] 299,fJ f A n c x.2.2] w') (λx _=>3-x.1) (0,l,d₀) tR ⟨⟨zaq _,dO,permIn_refl _ _ _⟩,e⟩ (λx τ _ hI=>?_);obtain⟨k,x,d⟩:=x;obtain⟨⟨hk3,hx,BA⟩,e⟩:=hI;dsimp only at hk3 hx BA e;have hn:n=d.size:=by rw[BA.1];exact yX
    try simp only[cK,like,aS,bK]
    refine Zb3 ?_;refine Vv (Gives.U5 (a:=l) (b:=4) rfl rfl dC oM) (Vc ((l/4*2:Nat):Int) ?_);refine Vc ((a+l/4*2:Nat):Int) ?_;refine Vc ((a+l/4*2+1:Nat):Int) ?_;refine Za1 ?_;refine Qn (Cp rfl (λg=>?_) (λg=>?_))
    . have hk2:k<3:=oM
      refine Zb0 ?_;obtain⟨F0,dS,gH,aI⟩:=e.focus At0;refine aK (adv dS hx) rfl rfl (λv' _ hv=>?_);obtain⟨y,rfl,hy,an4,F1,hq,hs⟩:=hv;have g:=aI _ F1 _ an4 hq hs;refine Mv ?_;refine Vv (Gives.ak2 (c:=((M-1:Nat):Int)) rfl rfl (by rw[IntKind.wrap_u64];omega)) ?_;have an5:y&&& (M-1)<=M-1:=Nat.and_le_right;refine Vv (Gives.ai8 (c:=((y&&& (M-1):Nat):Int)) rfl rfl (bits_and_u64_nat y (M-1) hy oM)) ?_;obtain⟨z,hz⟩: ∃z,z=y&&& (M-1):=⟨_,rfl⟩;rw[<-hz]at an5 ⊢;refine Vv (Gives.zx (c:=(z:Int)) rfl (by rw[IntKind.wrap_i64];omega)) ?_;refine Am ?_;refine Qn (fB (λz:Nat=>[(0,.slice A n c),(1,I a),(8,I l),(9,av b9),(10,U M),(11,I ((i0+k:Nat):Int)),(12,I z)]) (λz w'=>z<l/\Sep w F [blk b9 [U y] 299,fJ f A n c d] w') ?_ ?_)
      . refine Za3 ?_
        refine Qn (Cp rfl (λi=>?_) (λi=>?_))
        . have hzl:=i
          refine Zb2 ?_;refine Vc ((z-l:Nat):Int) ?_;refine Zb1 ?_;exact aA (z-l) tR ⟨oM,g⟩
        have hzl:=i;refine Zb0 ?_;exact aA z tR ⟨oM,g⟩
      intro o τ i ⟨ho,i⟩;have i:=i.aL;have hR:=rdI hn i At0;simp only[cK,like,aS];refine Ds (λi _ _=>?_);refine Zb5 ?_;refine Gc i 5 ((a+o:Nat):Int) ?_;refine Zb3 ?_;refine Gc i 9 ((a+o:Nat):Int) ?_;refine Zb7 ?_;refine FsI (λ_ _=>?_);refine Zb1 ?_;refine FsI (λ_ i=>?_);refine Zb1 ?_;refine Vc ((i0+(k+1):Nat):Int) ?_;refine Zb1 ?_;exact aj (k+1,y,swp d (i0+k) (a+o)) tR ⟨⟨dO,hy,permIn_trans _ _ _ _ _ BA (swp_permIn d a b (i0+k) (a+o) oM oM oM oM oM)⟩,i.aL⟩ dO
    have mQ:k=3:=oM;refine Zb0 ?_;exact⟨d,rfl,BA,e.dA.turn⟩
  exact zap S oM
end
section
variable {α:Type} [Inhabited α] {f:α->Int} {cf:α->α->Int} {w:Wd} {F:NP} {A:OA} {n c:Nat} {d₀:Array α} {fv:Value}
theorem ML (lt:α->α->Bool) (d:Array α) (b:Nat): ∀(k i:Nat),b-i=k->i<=scanSorted lt d b i/\(i<=b->scanSorted lt d b i<=b):=by
 intro k
 induction k with
 | zero=>intro i h;rw[scanSorted,zab (by simp;intro _;omega)];exact⟨zbk _,id⟩
 | succ k ih=>
  intro i h;rw[scanSorted]
  split
  .obtain⟨h1,h2⟩:=ih (i+1) oM
   exact⟨oM,λ_=>h2 oM⟩
  exact⟨zbk _,id⟩
set_option maxHeartbeats 1000000 in
theorem WH {a b:Nat} (hp:(fJ f A n c d₀).ok F w) (yX:n=d₀.size) (Yw:a+12<b) (hb:b<=n) (oq:n<=1000000) (nH:nX Tryz.prog fv f cf F w):
    aY Tryz.prog 217 [.slice A n c,I a,I b,fv] w λr w'=>r=.bool (partialInsertionSort (ltC cf) d₀ a b).2/\Turn F (fJ f A n c (partialInsertionSort (ltC cf) d₀ a b).1) w w':=by
  have H:=Sep.bW hp;obtain⟨res,au⟩: ∃res,res=partialInsertionSort (ltC cf) d₀ a b:=⟨_,rfl⟩;rw[<-au];unfold partialInsertionSort at au;refine y8 Tryz.func217 rfl rfl rfl rfl ?_;refine Zb2 ?_;refine Vc ((a+1:Nat):Int) ?_;refine Zb2 ?_;refine aR (λx:Nat×Nat×Array α=>[(0,.slice A n c),(1,I a),(2,I b),(3,fv),(9,I x.2.1),(10,I x.1)]) (λx w'=>((n=x.2.2.size/\x.1<=5/\a<x.2.1/\x.2.1<=b)/\partialIns (ltC cf) a b (5-x.1) x.2.1 x.2.2=res)/\Sep w F [fJ f A n c x.2.2] w') (λx _=>5-x.1) (0,a+1,d₀) tR ⟨⟨⟨yX,zaq _,dO,dO⟩,au.symm⟩,H⟩ (λx τ _ hI=>?_);obtain⟨s,i,d⟩:=x;obtain⟨⟨⟨hn,S,ZC,hib⟩,hi⟩,g⟩:=hI;dsimp only at hn S ZC hib hi g;have hR:=rdI hn g At0
  try simp only[cK,like,aS,bK]
  refine Za2 ?_;refine Qn (Cp rfl (λS=>?_) (λS=>?_))
  . obtain⟨q,hq⟩: ∃q,5-s=q+1:=⟨4-s,oM⟩
    obtain⟨e,he⟩: ∃e,e=scanSorted (ltC cf) d b i:=⟨_,rfl⟩;obtain⟨hg1,hg2⟩:=ML (ltC cf) d b _ i rfl;rw[hq,partialIns]at hi;dsimp only at hi;rw[<-he]at hi hg1 hg2;have heb:=hg2 hib;refine Sk (fB (λx:Array α=>[(0,.slice A n c),(1,I a),(2,I b),(3,fv),(9,I e),(10,I s)]) (λx w'=>(n=x.size/\partialIns (ltC cf) a b q e x=res)/\Sep w F [fJ f A n c x] w') ?_ ?_)
    . refine vE (fB (λk:Nat=>[(0,.slice A n c),(1,I a),(2,I b),(3,fv),(9,I k),(10,I s)]) (λk w'=>k=e/\Sep w F [fJ f A n c d] w') ?_ ?_)
      . refine Zb0 ?_
        refine aR (λk:Nat=>[(0,.slice A n c),(1,I a),(2,I b),(3,fv),(9,I k),(10,I s)]) (λk w'=>(a<k/\k<=b/\scanSorted (ltC cf) d b k=e)/\Sep w F [fJ f A n c d] w') (λk _=>b-k) i tR ⟨⟨ZC,hib,he.symm⟩,g⟩ (λk τ _ hI=>?_);obtain⟨⟨hak,hkb,mQ⟩,S⟩:=hI
        try simp only[cK,like,aS]
        refine Zb0 ?_;refine Ds (λS _ h=>?_);refine Zb4 ?_;refine iM (t:=22) rfl (λl=>?_) (λl=>?_)
        . have an7:k<b:=oM
          refine Zb7 ?_;refine Gc S 11 ((k-1:Nat):Int) ?_;refine Zb2 ?_;refine FcI (λ_ l=>?_);refine Za3 ?_;refine fF S kR ?_;refine bC (Cp rfl (λS=>?_) (λS=>?_))
          . rw[scanSorted,zac (by simp[ltC];exact⟨an7,by have:=S;omega⟩)]at mQ
            refine Zb1 ?_;refine Vc ((k+1:Nat):Int) ?_;refine Zb1 ?_;exact aj (k+1) tR ⟨⟨oM,oM,mQ⟩,l⟩ oM
          rw[scanSorted,zab (by simp[ltC];intro _;have:=S;omega)]at mQ;refine Zb0 ?_;exact aA k tR ⟨mQ,l⟩
        rw[scanSorted,zab (by simp;intro _;omega)]at mQ;refine Zb1 ?_;exact aA k tR ⟨mQ,h⟩
      rintro k τ S ⟨hk,S⟩;subst hk;simp only[cK,like,aS];refine Za3 ?_;refine Qn (Cp rfl (λl=>?_) (λl=>?_))
      . rw[zac (show k=b from oM)]at hi
        refine Za1 ?_;refine Qn (Rs (bM (jR (lQ (bM (dM (lT (hR:=?_))))))));exact⟨by rw[<-hi];rfl,by rw[<-hi];exact S.turn⟩
      have aq9:k<b:=oM;rw[zab (show ¬k=b from oM)]at hi;refine Zb2 ?_;refine Vc ((b-a:Nat):Int) ?_;refine Vl ?_;refine Qn (Cp rfl (λl=>?_) (λl=>?_))
      . rw[zac (show b-a<50 from oM)]at hi
        refine Za1 ?_;refine Qn (Rs (bM (jR (lQ (bM (dM (lT (hR:=?_))))))));exact⟨by rw[<-hi];rfl,by rw[<-hi];exact S.turn⟩
      rw[zab (show ¬b-a<50 from oM)]at hi;refine Zb0 ?_;refine Ds (λl _ _=>?_);refine Zb4 ?_;refine Gc l 4 ((k-1:Nat):Int) ?_;refine Zb2 ?_;refine Gc l 7 ((k-1:Nat):Int) ?_;refine Zb7 ?_;refine FsI (λ_ _=>?_);refine Zb1 ?_;refine FsI (λ_ S=>?_);refine fF l kR ?_;refine bC (fB (λx:Array α=>[(0,.slice A n c),(1,I a),(2,I b),(3,fv),(9,I k),(10,I s)]) (λx w'=>(n=x.size/\partialIns (ltC cf) a b q k (if b-k≥2 then shiftUp (ltC cf) b (k+1) x else x)=res)/\Sep w F [fJ f A n c x] w') ?_ ?_)
      . refine Zb2 ?_
        refine Vc ((k-a:Nat):Int) ?_;refine Za1 ?_;refine Qn (Cp rfl (λl=>?_) (λl=>?_))
        . rw[zac (show k-a≥2 from oM)]at hi
          refine Zb1 ?_;have Jz:n=(swp d k (k-1)).size:=by rw[swp_size];exact hn
          refine Vc ((k-1:Nat):Int) ?_;refine Zb1 ?_;refine aR (λx:Nat×Array α=>[(0,.slice A n c),(1,I a),(2,I b),(3,fv),(9,I k),(10,I s),(11,I x.1)]) (λx w'=>((n=x.2.size/\x.1<n)/\partialIns (ltC cf) a b q k (if b-k≥2 then shiftUp (ltC cf) b (k+1) (shiftDown (ltC cf) x.1 x.2)else shiftDown (ltC cf) x.1 x.2)=res)/\Sep w F [fJ f A n c x.2] w') (λx _=>x.1) (k-1,swp d k (k-1)) tR ⟨⟨⟨Jz,dO⟩,hi⟩,S⟩ (λx τ _ hI=>?_);clear hi hn hR Jz;obtain⟨j,d⟩:=x;obtain⟨⟨⟨hn,Yx⟩,hi⟩,l⟩:=hI;dsimp only at hn Yx hi l;have hR:=rdI hn l At0
          try simp only[cK,like,aS]
          refine Za2 ?_;refine Qn (Cp rfl (λh=>?_) (λh=>?_))
          . obtain⟨m,rfl⟩: ∃m,j=m+1:=⟨j-1,oM⟩
            rw[shiftDown]at hi;refine Zb0 ?_;refine Ds (λh _ _=>?_);refine Zb7 ?_;refine Gc h 7 ((m:Nat):Int) ?_;refine Zb2 ?_;refine FcI (λ_ o=>?_);refine Za2 ?_;refine fF h kR ?_;refine bC (Cp rfl (λh=>?_) (λh=>?_))
            . rw[zac (show(!ltC cf d[m+1]! d[m]!)=true by simp[ltC];have:=h;omega)]at hi
              refine Zb0 ?_;exact aA d tR ⟨⟨hn,hi⟩,o⟩
            rw[zab (show ¬(!ltC cf d[m+1]! d[m]!)=true by simp[ltC];have:=h;omega)]at hi;refine Sk (Ds (λh _ _=>?_));refine Zb4 ?_;refine Gc h 4 ((m:Nat):Int) ?_;refine Zb2 ?_;refine Gc h 7 ((m:Nat):Int) ?_;refine Zb7 ?_;refine FsI (λ_ _=>?_);refine Zb1 ?_;refine FsI (λ_ h=>?_);refine Zb1 ?_;refine Vc (m:Int) ?_;refine Zb1 ?_;exact aj (m,swp d (m+1) m) tR ⟨⟨⟨by rw[swp_size];exact hn,dO⟩,hi⟩,h⟩ dO
          have hj0:j=0:=oM;subst hj0;rw[shiftDown]at hi;refine Zb0 ?_;exact aA d tR ⟨⟨hn,hi⟩,l⟩
        rw[zab (show ¬k-a≥2 from oM)]at hi;refine Zb0 ?_;exact aA (swp d k (k-1)) tR ⟨⟨by rw[swp_size];exact hn,hi⟩,S⟩
      intro d2 τ h ⟨⟨hn2,Mq⟩,h⟩;simp only[cK,like,aS];refine Zb2 ?_;refine Vc ((b-k:Nat):Int) ?_;refine Za1 ?_;refine Qn (Cp rfl (λl=>?_) (λl=>?_))
      . rw[zac (show b-k≥2 from oM)]at Mq
        refine Zb1 ?_;refine Vc ((k+1:Nat):Int) ?_;refine Zb1 ?_;refine aR (λx:Nat×Array α=>[(0,.slice A n c),(1,I a),(2,I b),(3,fv),(9,I k),(10,I s),(12,I x.1)]) (λx w'=>((n=x.2.size/\1<=x.1)/\partialIns (ltC cf) a b q k (shiftUp (ltC cf) b x.1 x.2)=res)/\Sep w F [fJ f A n c x.2] w') (λx _=>b-x.1) (k+1,d2) tR ⟨⟨⟨hn2,dO⟩,Mq⟩,h⟩ (λx τ _ hI=>?_);clear Mq hn2;obtain⟨j,d⟩:=x;obtain⟨⟨⟨hn,hj1⟩,hi⟩,l⟩:=hI;dsimp only at hn hj1 hi l;have hR:=rdI hn l At0
        try simp only[cK,like,aS]
        refine Za3 ?_;refine Qn (Cp rfl (λS=>?_) (λS=>?_))
        . have hjb:j<b:=oM
          rw[shiftUp,zac hjb]at hi;refine Zb0 ?_;refine Ds (λS _ _=>?_);refine Zb7 ?_;refine Gc S 7 ((j-1:Nat):Int) ?_;refine Zb2 ?_;refine FcI (λ_ o=>?_);refine Za2 ?_;refine fF S kR ?_;refine bC (Cp rfl (λS=>?_) (λS=>?_))
          . rw[zac (show(!ltC cf d[j]! d[j-1]!)=true by simp[ltC];have:=S;omega)]at hi
            refine Zb0 ?_;exact aA d tR ⟨⟨hn,hi⟩,o⟩
          rw[zab (show ¬(!ltC cf d[j]! d[j-1]!)=true by simp[ltC];have:=S;omega)]at hi;refine Sk (Ds (λS _ _=>?_));refine Zb4 ?_;refine Gc S 4 ((j-1:Nat):Int) ?_;refine Zb2 ?_;refine Gc S 7 ((j-1:Nat):Int) ?_;refine Zb7 ?_;refine FsI (λ_ _=>?_);refine Zb1 ?_;refine FsI (λ_ S=>?_);refine Zb1 ?_;refine Vc ((j+1:Nat):Int) ?_;refine Zb1 ?_;exact aj (j+1,swp d j (j-1)) tR ⟨⟨⟨by rw[swp_size];exact hn,dO⟩,hi⟩,S⟩ dO
        rw[shiftUp,zab oM]at hi;refine Zb0 ?_;exact aA d tR ⟨⟨hn,hi⟩,l⟩
      rw[zab (show ¬b-k≥2 from oM)]at Mq;refine Zb0 ?_;exact aA d2 tR ⟨⟨hn2,Mq⟩,h⟩
    intro d2 τ S ⟨⟨hn2,Mq⟩,S⟩;simp only[cK,like,aS];refine Zb1 ?_;refine Vc ((s+1:Nat):Int) ?_;refine Zb1 ?_;exact aj (s+1,e,d2) tR ⟨⟨⟨hn2,dO,dO,heb⟩,by dsimp only;rw[show 5-(s+1)=q from oM];exact Mq⟩,S⟩ dO
  rw[show 5-s=0 from oM,partialIns]at hi;refine Zb1 ?_;exact⟨by rw[<-hi];rfl,by rw[<-hi];exact g.turn⟩
end
section
variable {α:Type} [Inhabited α] {f:α->Int} {cf:α->α->Int} {w:Wd} {F:NP} {A:OA} {n c:Nat} {d₀:Array α} {fv:Value}
set_option maxHeartbeats 1000000 in
theorem Qm {a b p:Nat} (hp:(fJ f A n c d₀).ok F w) (yX:n=d₀.size) (hap:a<=p) (hpb:p<b) (hb:b<=n) (oq:n<=1000000) (nH:nX prog fv f cf F w):
    aY prog 218 [.slice A n c,I a,I b,I p,fv] w λr w'=>r=I (partitionEqual (ltC cf) d₀ a b p).1/\n=(partitionEqual (ltC cf) d₀ a b p).2.size/\Turn F (fJ f A n c (partitionEqual (ltC cf) d₀ a b p).2) w w':=by
  have H:=Sep.bW hp;have hR:=rdI yX H At0;obtain⟨res,au⟩: ∃res,res=partitionEqual (ltC cf) d₀ a b p:=⟨_,rfl⟩;rw[<-au];unfold partitionEqual at au;refine Ni func218 rfl rfl rfl rfl ?_;refine Zb1 ?_;refine Ds (λ_ _ _=>?_);refine Q7 ?_;refine FsI (λ_ _=>?_);refine Zb1 ?_;refine FsI (λ_ S=>?_);refine Zb1 ?_;refine Vc ((a+1:Nat):Int) ?_;refine Mv ?_;refine Vc ((b-1:Nat):Int) ?_;refine Zb2 ?_;refine aR (λx:Nat×Nat×Array α=>[(0,.slice A n c),(1,I a),(4,fv),(11,I x.1),(12,I x.2.1)]) (λx w'=>((n=x.2.2.size/\a<x.1/\x.1<=x.2.1+1/\x.2.1<n)/\partEqLoop (ltC cf) a x.1 x.2.1 x.2.2=res)/\Sep w F [fJ f A n c x.2.2] w') (λx _=>x.2.1+1-x.1) (a+1,b-1,swp d₀ a p) tR ⟨⟨⟨by dsimp only;rw[swp_size];exact yX,dO,dO,dO⟩,au.symm⟩,S⟩ (λx τ _ hI=>?_);clear hR;obtain⟨i,j,d⟩:=x;obtain⟨⟨⟨hn,ZC,Yy,Yx⟩,hi⟩,S⟩:=hI;dsimp only at hn ZC Yy Yx hi S;have hR:=rdI hn S At0;obtain⟨i2,Mq⟩: ∃i2,i2=scanUp (λx=> !ltC cf d[a]! x) d j i:=⟨_,rfl⟩;have acy:=scanUp_ge (λx=> !ltC cf d[a]! x) d j i;rw[<-Mq]at acy;obtain⟨j2,VX⟩: ∃j2,j2=scanDown (λx=>ltC cf d[a]! x) d i2 j:=⟨_,rfl⟩;have acz:=scanDown_le (λx=>ltC cf d[a]! x) d i2 j;rw[<-VX]at acz;have Nc:=Mq;have Nf:=VX
  try simp only[cK,like,aS,bK]
  refine vE (fB (λk:Nat=>[(0,.slice A n c),(1,I a),(4,fv),(11,I k),(12,I j)]) (λk w'=>k=i2/\Sep w F [fJ f A n c d] w') ?_ ?_)
  . refine Zb0 ?_
    refine aR (λk:Nat=>[(0,.slice A n c),(1,I a),(4,fv),(11,I k),(12,I j)]) (λk w'=>(a<k/\k<=j+1/\scanUp (λx=> !ltC cf d[a]! x) d j k=i2)/\Sep w F [fJ f A n c d] w') (λk _=>j+1-k) i tR ⟨⟨ZC,Yy,Mq.symm⟩,S⟩ (λk τ _ hI=>?_);obtain⟨⟨hak,hkj,mQ⟩,S⟩:=hI
    try simp only[cK,like,aS]
    refine Zb0 ?_;refine Ds (λS _ e=>?_);refine Zb4 ?_;refine iM (t:=34) rfl (λg=>?_) (λg=>?_)
    . have afP:k<=j:=oM
      refine Zb9 ?_;refine FcI (λ_ g=>?_);refine Za3 ?_;refine fF S kR ?_;refine bC (Cp rfl (λS=>?_) (λS=>?_))
      . rw[scanUp_go _ _ _ _ afP (by simp[ltC];have:=S;omega)]at mQ
        refine Zb1 ?_;refine Vc ((k+1:Nat):Int) ?_;refine Zb1 ?_;exact aj (k+1) tR ⟨⟨oM,oM,mQ⟩,g⟩ oM
      rw[scanUp_end _ _ _ _ (.inr (by simp[ltC];have:=S;omega))]at mQ;refine Zb0 ?_;exact aA k tR ⟨mQ,g⟩
    rw[scanUp_end _ _ _ _ (.inl oM)]at mQ;refine Zb1 ?_;exact aA k tR ⟨mQ,e⟩
  rintro k τ S ⟨hk,S⟩;subst hk;simp only[cK,like,aS];refine fB (λm:Nat=>[(0,.slice A n c),(1,I a),(4,fv),(11,I k),(12,I m)]) (λm w'=>m=j2/\Sep w F [fJ f A n c d] w') ?_ ?_
  . refine Zb0 ?_
    refine aR (λm:Nat=>[(0,.slice A n c),(1,I a),(4,fv),(11,I k),(12,I m)]) (λm w'=>(m<=j/\scanDown (λx=>ltC cf d[a]! x) d k m=j2)/\Sep w F [fJ f A n c d] w') (λm _=>m) j tR ⟨⟨zbk _,VX.symm⟩,S⟩ (λm τ _ hI=>?_);obtain⟨⟨hmj,JV⟩,S⟩:=hI
    try simp only[cK,like,aS]
    refine Zb0 ?_;refine Ds (λS _ g=>?_);refine Zb4 ?_;refine iM (t:=53) rfl (λe=>?_) (λe=>?_)
    . have hkm:k<=m:=oM
      refine Zb9 ?_;refine FcI (λ_ e=>?_);refine Za2 ?_;refine fF S kR ?_;refine bC (Cp rfl (λS=>?_) (λS=>?_))
      . rw[scanDown_go _ _ _ _ hkm oM (by simp[ltC];have:=S;omega)]at JV
        refine Zb1 ?_;refine Vc ((m-1:Nat):Int) ?_;refine Zb1 ?_;exact aj (m-1) tR ⟨⟨oM,JV⟩,e⟩ oM
      rw[scanDown_end _ _ _ _ (.inr (by simp[ltC];have:=S;omega))]at JV;refine Zb0 ?_;exact aA m tR ⟨JV,e⟩
    rw[scanDown_end _ _ _ _ (.inl oM)]at JV;refine Zb1 ?_;exact aA m tR ⟨JV,g⟩
  rintro m τ S ⟨hm,S⟩;subst hm;simp only[cK,like,aS];refine Za3 ?_;refine Qn (Cp rfl (λe=>?_) (λe=>?_))
  . rw[partEq_break (ltC cf) a i j d Nc Nf oM]at hi
    refine Zb2 ?_;exact⟨by rw[<-hi];rfl,by rw[<-hi];exact hn,by rw[<-hi];exact S.turn⟩
  have q9:k<=m:=oM;have bH:=scans_lt (ltC cf) a i j d oM Nc Nf oM;rw[partEq_go (ltC cf) a i j d Nc Nf oM]at hi;refine Zb0 ?_;refine Ds (λ_ _ _=>?_);refine Q7 ?_;refine FsI (λ_ _=>?_);refine Zb1 ?_;refine FsI (λ_ e=>?_);refine Zb1 ?_;refine Vc ((k+1:Nat):Int) ?_;refine Zb2 ?_;refine Vc ((m-1:Nat):Int) ?_;refine Zb1 ?_;exact aj (k+1,m-1,swp d k m) tR ⟨⟨⟨by rw[swp_size];exact hn,dO,dO,dO⟩,hi⟩,e⟩ dO
set_option maxHeartbeats 1000000 in
theorem YV {a b p:Nat} (hp:(fJ f A n c d₀).ok F w) (yX:n=d₀.size) (hap:a<=p) (hpb:p<b) (hb:b<=n) (oq:n<=1000000) (nH:nX prog fv f cf F w):
    aY prog 219 [.slice A n c,I a,I b,I p,fv] w λr w'=>r=.tuple #[I (partition (ltC cf) d₀ a b p).1,.bool (partition (ltC cf) d₀ a b p).2.1]/\n=(partition (ltC cf) d₀ a b p).2.2.size/\Turn F (fJ f A n c (partition (ltC cf) d₀ a b p).2.2) w w':=by
  have H:=Sep.bW hp;have hR:=rdI yX H At0;obtain⟨res,au⟩: ∃res,res=partition (ltC cf) d₀ a b p:=⟨_,rfl⟩;rw[<-au];unfold partition at au;dsimp only at au;refine Ni func219 rfl rfl rfl rfl ?_;refine Zb2 ?_;refine Ds (λS _ _=>?_);refine Q7 ?_;refine FsI (λ_ e=>?_);refine Zb1 ?_;have hn:n=(swp d₀ a p).size:=by rw[swp_size];exact yX
  refine Tn S 15 _ (i:=p) (a:=d₀[a]!) (by rw[zec];exact yX) e At0 (by rw[zec];omega) (h:=λe S=>⟨sT,?_⟩);clear hR;obtain⟨d,hd⟩: ∃d,d=swp d₀ a p:=⟨_,rfl⟩;have S:Sep w F [fJ f A n c d] e:=by rw[hd];exact S
  rw[<-hd]at au hn;have hR:=rdI hn S At0;obtain⟨i,hi⟩: ∃i,i=a+1:=⟨_,rfl⟩;obtain⟨j,hj⟩: ∃j,j=b-1:=⟨_,rfl⟩;rw[<-hi,<-hj]at au;have ZC:a<i:=oM;have Yy:i<=j+1:=oM;have Yx:j<n:=oM;obtain⟨i2,Mq⟩: ∃i2,i2=scanUp (λx=>ltC cf x d[a]!) d j i:=⟨_,rfl⟩;have acy:=scanUp_ge (λx=>ltC cf x d[a]!) d j i;rw[<-Mq]at acy;obtain⟨j2,VX⟩: ∃j2,j2=scanDown (λx=> !ltC cf x d[a]!) d i2 j:=⟨_,rfl⟩;have acz:=scanDown_le (λx=> !ltC cf x d[a]!) d i2 j;rw[<-VX]at acz;have Nc:=Mq;have Nf:=VX;rw[<-Mq,<-VX]at au;refine Zb1 ?_;refine Vc (i:Int) ?_;refine Mv ?_;refine Vc (j:Int) ?_;refine Za2 ?_;refine Qn (fB (λk:Nat=>[(0,.slice A n c),(1,I a),(4,fv),(12,I k),(13,I j)]) (λk w'=>k=i2/\Sep w F [fJ f A n c d] w') ?_ ?_)
  . refine Zb0 ?_
    refine aR (λk:Nat=>[(0,.slice A n c),(1,I a),(4,fv),(12,I k),(13,I j)]) (λk w'=>(a<k/\k<=j+1/\scanUp (λx=>ltC cf x d[a]!) d j k=i2)/\Sep w F [fJ f A n c d] w') (λk _=>j+1-k) i tR ⟨⟨ZC,Yy,Mq.symm⟩,S⟩ (λk τ _ hI=>?_);obtain⟨⟨hak,hkj,mQ⟩,S⟩:=hI
    try simp only[cK,like,aS,bK]
    refine Zb0 ?_;refine Ds (λS _ e=>?_);refine Zb4 ?_;refine iM (t:=35) rfl (λg=>?_) (λg=>?_)
    . have afP:k<=j:=oM
      refine Zb9 ?_;refine FcI (λ_ g=>?_);refine Za2 ?_;refine fF S kR ?_;refine bC (Cp rfl (λS=>?_) (λS=>?_))
      . rw[scanUp_go _ _ _ _ afP (by simp[ltC];have:=S;omega)]at mQ
        refine Zb1 ?_;refine Vc ((k+1:Nat):Int) ?_;refine Zb1 ?_;exact aj (k+1) tR ⟨⟨oM,oM,mQ⟩,g⟩ oM
      rw[scanUp_end _ _ _ _ (.inr (by simp[ltC];have:=S;omega))]at mQ;refine Zb0 ?_;exact aA k tR ⟨mQ,g⟩
    rw[scanUp_end _ _ _ _ (.inl oM)]at mQ;refine Zb1 ?_;exact aA k tR ⟨mQ,e⟩
  rintro k τ S ⟨hk,S⟩;subst hk;simp only[cK,like,aS,bK];refine fB (λm:Nat=>[(0,.slice A n c),(1,I a),(4,fv),(12,I k),(13,I m)]) (λm w'=>m=j2/\Sep w F [fJ f A n c d] w') ?_ ?_
  . refine Zb0 ?_
    refine aR (λm:Nat=>[(0,.slice A n c),(1,I a),(4,fv),(12,I k),(13,I m)]) (λm w'=>(m<=j/\scanDown (λx=> !ltC cf x d[a]!) d k m=j2)/\Sep w F [fJ f A n c d] w') (λm _=>m) j tR ⟨⟨zbk _,VX.symm⟩,S⟩ (λm τ _ hI=>?_);obtain⟨⟨hmj,JV⟩,S⟩:=hI
    try simp only[cK,like,aS]
    refine Zb0 ?_;refine Ds (λS _ g=>?_);refine Zb4 ?_;refine iM (t:=53) rfl (λe=>?_) (λe=>?_)
    . have hkm:k<=m:=oM
      refine Zb9 ?_;refine FcI (λ_ e=>?_);refine Za3 ?_;refine fF S kR ?_;refine bC (Cp rfl (λS=>?_) (λS=>?_))
      . rw[scanDown_go _ _ _ _ hkm oM (by simp[ltC];have:=S;omega)]at JV
        refine Zb1 ?_;refine Vc ((m-1:Nat):Int) ?_;refine Zb1 ?_;exact aj (m-1) tR ⟨⟨oM,JV⟩,e⟩ oM
      rw[scanDown_end _ _ _ _ (.inr (by simp[ltC];have:=S;omega))]at JV;refine Zb0 ?_;exact aA m tR ⟨JV,e⟩
    rw[scanDown_end _ _ _ _ (.inl oM)]at JV;refine Zb1 ?_;exact aA m tR ⟨JV,g⟩
  rintro m τ S ⟨hm,S⟩;subst hm;simp only[cK,like,aS];refine Za3 ?_;refine Qn (Cp rfl (λS=>?_) (λS=>?_))
  . rw[zac (show k>m from oM)]at au
    refine Zb0 ?_;refine Ds (λ_ _ _=>?_);refine Q7 ?_;refine FsI (λ_ _=>?_);refine Zb1 ?_;refine FsI (λ_ S=>?_);refine Zb3 ?_;exact⟨by rw[au];rfl,by rw[au];rw[swp_size];exact hn,by rw[au];exact S.turn⟩
  rw[zab (show ¬k>m from oM)]at au;have an9:=part_scans_lt (ltC cf) a i j d oM Nc Nf oM;refine Zb0 ?_;refine Ds (λ_ _ _=>?_);refine Q7 ?_;refine FsI (λ_ _=>?_);refine Zb1 ?_;refine FsI (λ_ S=>?_);refine Zb1 ?_;refine Vc ((k+1:Nat):Int) ?_;refine Zb2 ?_;refine Vc ((m-1:Nat):Int) ?_;refine Zb1 ?_;obtain⟨r0,Yz⟩: ∃r0,r0=partLoop (ltC cf) a (k+1) (m-1) (swp d k m):=⟨_,rfl⟩;rw[<-Yz]at au;refine aR (λx:Nat×Nat×Array α=>[(0,.slice A n c),(1,I a),(4,fv),(12,I x.1),(13,I x.2.1)]) (λx w'=>((n=x.2.2.size/\a<x.1/\x.1<=x.2.1+1/\x.2.1<n)/\partLoop (ltC cf) a x.1 x.2.1 x.2.2=r0)/\Sep w F [fJ f A n c x.2.2] w') (λx _=>x.2.1+1-x.1) (k+1,m-1,swp d k m) tR ⟨⟨⟨by dsimp only;rw[swp_size];exact hn,dO,dO,dO⟩,Yz.symm⟩,S⟩ (λx τ _ hI=>?_);clear hR hn Nc Nf acy acz hd hi hj ZC Yy Yx Yz an9;obtain⟨i,j,d⟩:=x;obtain⟨⟨⟨hn,ZC,Yy,Yx⟩,hi⟩,S⟩:=hI;dsimp only at hn ZC Yy Yx hi S;have hR:=rdI hn S At0;obtain⟨i2,Mq⟩: ∃i2,i2=scanUp (λx=>ltC cf x d[a]!) d j i:=⟨_,rfl⟩;have acy:=scanUp_ge (λx=>ltC cf x d[a]!) d j i;rw[<-Mq]at acy;obtain⟨j2,VX⟩: ∃j2,j2=scanDown (λx=> !ltC cf x d[a]!) d i2 j:=⟨_,rfl⟩;have acz:=scanDown_le (λx=> !ltC cf x d[a]!) d i2 j;rw[<-VX]at acz;have Nc:=Mq;have Nf:=VX
  try simp only[cK,like,aS]
  refine vE (fB (λk:Nat=>[(0,.slice A n c),(1,I a),(4,fv),(12,I k),(13,I j)]) (λk w'=>k=i2/\Sep w F [fJ f A n c d] w') ?_ ?_)
  . refine Zb0 ?_
    refine aR (λk:Nat=>[(0,.slice A n c),(1,I a),(4,fv),(12,I k),(13,I j)]) (λk w'=>(a<k/\k<=j+1/\scanUp (λx=>ltC cf x d[a]!) d j k=i2)/\Sep w F [fJ f A n c d] w') (λk _=>j+1-k) i tR ⟨⟨ZC,Yy,Mq.symm⟩,S⟩ (λk τ _ hI=>?_);obtain⟨⟨hak,hkj,mQ⟩,S⟩:=hI
    try simp only[cK,like,aS]
    refine Zb0 ?_;refine Ds (λS _ e=>?_);refine Zb4 ?_;refine iM (t:=108) rfl (λg=>?_) (λg=>?_)
    . have afP:k<=j:=oM
      refine Zb9 ?_;refine FcI (λ_ g=>?_);refine Za2 ?_;refine fF S kR ?_;refine bC (Cp rfl (λS=>?_) (λS=>?_))
      . rw[scanUp_go _ _ _ _ afP (by simp[ltC];have:=S;omega)]at mQ
        refine Zb1 ?_;refine Vc ((k+1:Nat):Int) ?_;refine Zb1 ?_;exact aj (k+1) tR ⟨⟨oM,oM,mQ⟩,g⟩ oM
      rw[scanUp_end _ _ _ _ (.inr (by simp[ltC];have:=S;omega))]at mQ;refine Zb0 ?_;exact aA k tR ⟨mQ,g⟩
    rw[scanUp_end _ _ _ _ (.inl oM)]at mQ;refine Zb1 ?_;exact aA k tR ⟨mQ,e⟩
  rintro k τ S ⟨hk,S⟩;subst hk;simp only[cK,like,aS];refine fB (λm:Nat=>[(0,.slice A n c),(1,I a),(4,fv),(12,I k),(13,I m)]) (λm w'=>m=j2/\Sep w F [fJ f A n c d] w') ?_ ?_
  . refine Zb0 ?_
    refine aR (λm:Nat=>[(0,.slice A n c),(1,I a),(4,fv),(12,I k),(13,I m)]) (λm w'=>(m<=j/\scanDown (λx=> !ltC cf x d[a]!) d k m=j2)/\Sep w F [fJ f A n c d] w') (λm _=>m) j tR ⟨⟨zbk _,VX.symm⟩,S⟩ (λm τ _ hI=>?_);obtain⟨⟨hmj,JV⟩,S⟩:=hI
    try simp only[cK,like,aS]
    refine Zb0 ?_;refine Ds (λS _ g=>?_);refine Zb4 ?_;refine iM (t:=126) rfl (λe=>?_) (λe=>?_)
    . have hkm:k<=m:=oM
      refine Zb9 ?_;refine FcI (λ_ e=>?_);refine Za3 ?_;refine fF S kR ?_;refine bC (Cp rfl (λS=>?_) (λS=>?_))
      . rw[scanDown_go _ _ _ _ hkm oM (by simp[ltC];have:=S;omega)]at JV
        refine Zb1 ?_;refine Vc ((m-1:Nat):Int) ?_;refine Zb1 ?_;exact aj (m-1) tR ⟨⟨oM,JV⟩,e⟩ oM
      rw[scanDown_end _ _ _ _ (.inr (by simp[ltC];have:=S;omega))]at JV;refine Zb0 ?_;exact aA m tR ⟨JV,e⟩
    rw[scanDown_end _ _ _ _ (.inl oM)]at JV;refine Zb1 ?_;exact aA m tR ⟨JV,g⟩
  rintro m τ S ⟨hm,S⟩;subst hm;simp only[cK,like,aS];refine Za3 ?_;refine Qn (Cp rfl (λS=>?_) (λS=>?_))
  . rw[part_break (ltC cf) a i j d Nc Nf oM]at hi
    refine Zb0 ?_;refine Ds (λ_ _ _=>?_);refine Q7 ?_;refine FsI (λ_ _=>?_);refine Zb1 ?_;refine FsI (λ_ S=>?_);refine Zb3 ?_;exact⟨by rw[au,<-hi];rfl,by rw[au,<-hi];rw[swp_size];exact hn,by rw[au,<-hi];exact S.turn⟩
  have q9:k<=m:=oM;have bH:=part_scans_lt (ltC cf) a i j d oM Nc Nf oM;rw[part_go (ltC cf) a i j d Nc Nf oM]at hi;refine Zb0 ?_;refine Ds (λ_ _ _=>?_);refine Q7 ?_;refine FsI (λ_ _=>?_);refine Zb1 ?_;refine FsI (λ_ S=>?_);refine Zb1 ?_;refine Vc ((k+1:Nat):Int) ?_;refine Zb2 ?_;refine Vc ((m-1:Nat):Int) ?_;refine Zb1 ?_;exact aj (k+1,m-1,swp d k m) tR ⟨⟨⟨by rw[swp_size];exact hn,dO,dO,dO⟩,hi⟩,S⟩ dO
end
section
variable {α:Type} [Inhabited α] {f:α->Int} {cf:α->α->Int} {w:Wd} {F:NP} {A:OA} {n c:Nat} {d₀:Array α} {fv:Value}
theorem agD (hO:SWO (ltC cf)): ∀(q:Nat) {a b lim n c:Nat} {A:OA} {d₀:Array α} {w:Wd} {F:NP},b-a<=q->(fJ f A n c d₀).ok F w->n=d₀.size->a<=b->b<=n->n<1000000->lim<=1000->Below (ltC cf) a b d₀->nX prog fv f cf F w->
    aY prog 156 [.slice A n c,I a,I b,I lim,fv] w λr w'=>∃d':Array α,r=.tuple #[]/\(PermIn a b d₀ d'/\SortedIn (ltC cf) a b d')/\Turn F (fJ f A n c d') w w':=by
  intro q
  induction q using Nat.strongRecOn with
  | _ q ih=>
  intro a b lim n c A d₀ w F hq hp yX Yw hb oq hlim hB0 nH;have H:=Sep.bW hp;refine Ni func156 rfl rfl rfl rfl ?_;refine Zb2 ?_;refine aR (λx:Nat×Nat×Nat×Bool×Bool×Array α=>[(0,.slice A n c),(1,I x.1),(2,I x.2.1),(3,I x.2.2.1),(4,fv),(10,.bool x.2.2.2.1),(11,.bool x.2.2.2.2.1)]) (λx w'=>((n=x.2.2.2.2.2.size/\a<=x.1/\x.1<=x.2.1/\x.2.1<=b/\x.2.2.1<=1000)/\Below (ltC cf) x.1 x.2.1 x.2.2.2.2.2/\∀R,PermIn x.1 x.2.1 x.2.2.2.2.2 R->SortedIn (ltC cf) x.1 x.2.1 R->PermIn a b d₀ R/\SortedIn (ltC cf) a b R)/\Sep w F [fJ f A n c x.2.2.2.2.2] w') (λx _=>x.2.1-x.1) (a,b,lim,true,true,d₀) tR ⟨⟨⟨yX,zbk _,Yw,zbk _,hlim⟩,hB0,λR h1 h2=>⟨h1,h2⟩⟩,H⟩ (λx τ _ hI=>?_);obtain⟨s,t,lm,wb,wp,d⟩:=x;obtain⟨⟨⟨hn,has,fU,VY,hlm⟩,hB,Rw⟩,k⟩:=hI;dsimp only at hn has fU VY hlm hB Rw k
  try simp only[cK,like,aS,bK]
  refine Zb2 ?_;refine Vc ((t-s:Nat):Int) ?_;refine Za3 ?_;refine Qn (Cp rfl (λS=>?_) (λS=>?_))
  . have h12:=S
    refine Zb4 ?_;obtain⟨F0,dS,gH,aI⟩:=k.focus At0;refine aK (WE (a:=s) (b:=t) dS hn fU oM oM (nH.into k.kept gH)) rfl rfl (λv' _ hv=>?_);obtain⟨rfl,aoa,F1,hq,hs⟩:=hv;have e:=aI _ F1 _ aoa hq hs;refine Zb0 ?_;exact⟨_,rfl,Rw _ (insertionSort_holds hO d s t fU oM).1 (insertionSort_holds hO d s t fU oM).2,e.turn⟩
  have h12:=S;refine Za2 ?_;refine Qn (Cp rfl (λe=>?_) (λe=>?_))
  . have Ru:=e
    refine Zb4 ?_;obtain⟨F0,dS,gH,aI⟩:=k.focus At0;refine aK (Tp (a:=s) (b:=t) dS hn oM oM oM (nH.into k.kept gH)) rfl rfl (λv' _ hv=>?_);obtain⟨rfl,_,aob,F1,hq,hs⟩:=hv;have S:=aI _ F1 _ aob hq hs;refine Zb0 ?_;exact⟨_,rfl,Rw _ (heapSort_holds hO d s t fU oM).1 (heapSort_holds hO d s t fU oM).2,S.turn⟩
  have Ru:=e;refine Sk (fB (λz:Nat×Array α=>[(0,.slice A n c),(1,I s),(2,I t),(3,I z.1),(4,fv),(10,.bool wb),(11,.bool wp),(12,I (t-s:Nat))]) (λz w'=>(z.1<=1000/\PermIn s t d z.2)/\Sep w F [fJ f A n c z.2] w') ?_ ?_)
  . refine Za2 ?_
    refine Qn (Cd rfl (λS=>?_) (λS=>?_))
    . refine Zb4 ?_
      obtain⟨F0,dS,gH,aI⟩:=k.focus At0;refine aK (adw (a:=s) (b:=t) dS hn oM oM oq) rfl rfl (λv' _ hv=>?_);obtain⟨d1,rfl,hp1,aoc,F1,hq,hs⟩:=hv;have S:=aI _ F1 _ aoc hq hs;refine Zb1 ?_;refine Vc ((lm-1:Nat):Int) ?_;refine Zb1 ?_;exact aA (lm-1,d1) tR ⟨⟨dO,hp1⟩,S⟩
    refine Zb0 ?_;exact aA (lm,d) tR ⟨⟨hlm,permIn_refl _ _ _⟩,k⟩
  rintro⟨lm1,d1⟩ τ S ⟨⟨xG,hp1⟩,S⟩;dsimp only at xG hp1 S;have Jz:n=d1.size:=by rw[hp1.1];exact hn
  simp only[cK,like,aS];refine Zb4 ?_;obtain⟨F0,dS,gH,aI⟩:=S.focus At0;refine aK (adu (a:=s) (b:=t) dS Jz oM oM oM (nH.into S.kept gH)) rfl rfl (λv' _ hv=>?_);obtain⟨rfl,aod,F1,hq,hs⟩:=hv;have S:=aI _ F1 _ aod hq hs;obtain⟨alP,alQ⟩:=choosePivot_holds (ltC cf) d1 s t oM;obtain⟨pv,hpv⟩: ∃pv,pv=choosePivot (ltC cf) d1 s t:=⟨_,rfl⟩;rw[<-hpv]at alP alQ ⊢;refine Za5 ?_;refine Qn (fB (λz:Nat×Int×Array α=>[(0,.slice A n c),(1,I s),(2,I t),(3,I lm1),(4,fv),(10,.bool wb),(11,.bool wp),(12,I (t-s:Nat)),(13,I z.1),(14,I z.2.1)]) (λz w'=>((s<=z.1/\z.1<t)/\PermIn s t d z.2.2)/\Sep w F [fJ f A n c z.2.2] w') ?_ ?_)
  . refine Za2 ?_
    refine Qn (Cp rfl (λk=>?_) (λk=>?_))
    . have h56:=k
      refine Zb4 ?_;obtain⟨F0,dS,gH,aI⟩:=S.focus At0;refine aK (WG (a:=s) (b:=t) dS Jz oM oM oM) rfl rfl (λv' _ hv=>?_);obtain⟨rfl,aoe,F1,hq,hs⟩:=hv;have e:=aI _ F1 _ aoe hq hs;refine Zb1 ?_;refine Vc ((t-1:Nat):Int) ?_;refine Zb2 ?_;refine Vc ((pv.1-s:Nat):Int) ?_;refine Vc ((t-1-(pv.1-s):Nat):Int) ?_;refine Zb2 ?_;exact aA (t-1-(pv.1-s),1,reverseRange d1 s t) tR ⟨⟨⟨dO,dO⟩,permIn_trans _ _ _ _ _ hp1 (reverseRange_holds d1 s t fU oM)⟩,e⟩
    have h56:=k;refine Zb0 ?_;exact aA (pv.1,aib pv.2,d1) tR ⟨⟨⟨alP,alQ⟩,hp1⟩,S⟩
  rintro⟨p2,h2,d2⟩ τ e ⟨⟨⟨YA,YB⟩,hp2⟩,e⟩;dsimp only at YA YB hp2 e;have hn2:n=d2.size:=by rw[hp2.1];exact hn
  have hB2:=hB.perm oM hp2;simp only[cK,like,aS];refine fB (λz:Array α=>[(0,.slice A n c),(1,I s),(2,I t),(3,I lm1),(4,fv),(10,.bool wb),(11,.bool wp),(12,I (t-s:Nat)),(13,I p2)]) (λz w'=>PermIn s t d z/\Sep w F [fJ f A n c z] w') ?_ ?_
  . refine Zb2 ?_
    refine gu (t:=69) rfl (λk=>?_) (λk=>?_)
    . refine Zb3 ?_
      refine gu (t:=72) rfl (λk=>?_) (λk=>?_)
      . refine Za3 ?_
        refine Qn (Cp rfl (λk=>?_) (λk=>?_))
        . refine Zb4 ?_
          obtain⟨F0,dS,gH,aI⟩:=e.focus At0;refine aK (WH (a:=s) (b:=t) dS hn2 oM oM oM (nH.into e.kept gH)) rfl rfl (λv' _ hv=>?_);obtain⟨rfl,alR,F1,hq,hs⟩:=hv;have k:=aI _ F1 _ alR hq hs;obtain⟨alS,aof⟩:=partialInsertionSort_holds hO d2 s t oM oM hB2;refine Qn (Cd rfl (λS=>?_) (λS=>?_))
          . have h80:=S
            refine dX (jR (bM (lQ (bM (lT (hR:=?_))))));exact⟨_,rfl,Rw _ (permIn_trans _ _ _ _ _ hp2 alS) (aof h80),k.turn⟩
          refine Zb0 ?_;exact aA (partialInsertionSort (ltC cf) d2 s t).1 tR ⟨permIn_trans _ _ _ _ _ hp2 alS,k⟩
        refine Zb0 ?_;exact aA d2 tR ⟨hp2,e⟩
      refine Zb1 ?_;exact aA d2 tR ⟨hp2,e⟩
    refine Zb3 ?_;exact aA d2 tR ⟨hp2,e⟩
  rintro d3 τ S ⟨Nb,S⟩;have hn3:n=d3.size:=by rw[Nb.1];exact hn
  have hB3:=hB.perm oM Nb;have hR:=rdI hn3 S At0;simp only[cK,like,aS];refine Zb0 ?_;refine Ds (λS _ k=>?_);refine Zb3 ?_;refine iM (t:=83) rfl (λe=>?_) (λe=>?_)
  . have g:0<s:=by have:=e;omega
    refine Zb3 ?_;refine Gc S 6 ((s-1:Nat):Int) ?_;refine Zb6 ?_;refine FcI (λ_ h=>?_);refine Za3 ?_;refine fF S kR ?_;refine bC (Cp rfl (λS=>?_) (λS=>?_))
    . have hnl:ltC cf d3[s-1]! d3[p2]! =false:=by simp[ltC];have:=S;omega
      obtain⟨g1,g2,g3,g4,g5⟩:=round_eq hO (partitionEqual_holds _) g YA YB oM hB3 hnl (d4:=(partitionEqual (ltC cf) d3 s t p2).2) (mid:=(partitionEqual (ltC cf) d3 s t p2).1) rfl;refine Zb5 ?_;obtain⟨F0,dS,gH,aI⟩:=h.focus At0;refine aK (Qm (a:=s) (b:=t) (p:=p2) dS hn3 YA YB oM oM (nH.into h.kept gH)) rfl rfl (λv' _ hv=>?_);obtain⟨rfl,Rx,alT,F1,hq,hs⟩:=hv;have S:=aI _ F1 _ alT hq hs;refine Zb3 ?_
      first
      | exact aj ((partitionEqual (ltC cf) d3 s t p2).1,t,lm1,wb,wp,(partitionEqual (ltC cf) d3 s t p2).2) tR ⟨⟨⟨Rx,dO,g2,VY,xG⟩,g4,λR h1 h2=>Rw R (permIn_trans _ _ _ _ _ Nb (g5 R h1 h2).1) (g5 R h1 h2).2⟩,S⟩ dO
      | exact aj (mid+1,t,lm1,decide ((((t-s)/8:Nat):Int)<=((mid-s:Nat):Int)),ap,d5) tR ⟨⟨⟨hn5,dO,dO,VY,xG⟩,i,λR h1 h2=>Rw R (permIn_trans _ _ _ _ _ Nb (j R h1 h2).1) (j R h1 h2).2⟩,S⟩ dO
      | exact aj (s,mid,lm1,decide ((((t-s)/8:Nat):Int)<=((t-mid:Nat):Int)),ap,d5) tR ⟨⟨⟨hn5,has,g1,dO,xG⟩,i,λR h1 h2=>Rw R (permIn_trans _ _ _ _ _ Nb (j R h1 h2).1) (j R h1 h2).2⟩,S⟩ dO
    refine Zb5 ?_;obtain⟨F0,dS,gH,aI⟩:=h.focus At0;refine aK (YV (a:=s) (b:=t) (p:=p2) dS hn3 YA YB oM oM (nH.into h.kept gH)) rfl rfl (λv' _ hv=>?_);obtain⟨rfl,Rx,alU,F1,hq,hs⟩:=hv;have S:=aI _ F1 _ alU hq hs;obtain⟨g1,g2,g3,g4,g5,g6,g7⟩:=round_part hO (partition_holds _) YA YB oM hB3 (d4:=(partition (ltC cf) d3 s t p2).2.2) (mid:=(partition (ltC cf) d3 s t p2).1) (ap:=(partition (ltC cf) d3 s t p2).2.1) rfl;obtain⟨pr,hpr⟩: ∃pr,pr=partition (ltC cf) d3 s t p2:=⟨_,rfl⟩;rw[<-hpr]at g1 g2 g3 g4 g5 g6 g7 Rx S ⊢;obtain⟨mid,ap,d4⟩:=pr;dsimp only at g1 g2 g3 g4 g5 g6 g7 Rx S ⊢;refine Zb9 ?_;refine Vc ((mid-s:Nat):Int) ?_;refine Zb2 ?_;refine Vc ((t-mid:Nat):Int) ?_;refine Zb3 ?_;refine Vv (Gives.U5 (a:=t-s) (b:=8) rfl rfl dC oM) (Za4 ?_);refine Qn (Cp rfl (λh=>?_) (λh=>?_))
    . have ZF:=h
      refine Zb9 ?_;obtain⟨F0,dS,gH,aI⟩:=S.focus At0;refine aK (ih (mid-s) oM (a:=s) (b:=mid) (lim:=lm1) (zbk _) dS Rx g1 oM oq xG g4 (nH.into S.kept gH)) rfl rfl (λv' _ hv=>?_);obtain⟨d5,rfl,⟨hp5,l⟩,alV,F1,hq,hs⟩:=hv;have m:=aI _ F1 _ alV hq hs;obtain⟨i,j⟩:=g6 d5 hp5 l;have hn5:n=d5.size:=by rw[hp5.1];exact Rx
      refine Zb1 ?_;refine Vc ((mid+1:Nat):Int) ?_;refine Zb1 ?_
      first
      | exact aj ((partitionEqual (ltC cf) d3 s t p2).1,t,lm1,wb,wp,(partitionEqual (ltC cf) d3 s t p2).2) tR ⟨⟨⟨Rx,dO,g2,VY,xG⟩,g4,λR h1 h2=>Rw R (permIn_trans _ _ _ _ _ Nb (g5 R h1 h2).1) (g5 R h1 h2).2⟩,m⟩ dO
      | exact aj (mid+1,t,lm1,decide ((((t-s)/8:Nat):Int)<=((mid-s:Nat):Int)),ap,d5) tR ⟨⟨⟨hn5,dO,dO,VY,xG⟩,i,λR h1 h2=>Rw R (permIn_trans _ _ _ _ _ Nb (j R h1 h2).1) (j R h1 h2).2⟩,m⟩ dO
      | exact aj (s,mid,lm1,decide ((((t-s)/8:Nat):Int)<=((t-mid:Nat):Int)),ap,d5) tR ⟨⟨⟨hn5,has,g1,dO,xG⟩,i,λR h1 h2=>Rw R (permIn_trans _ _ _ _ _ Nb (j R h1 h2).1) (j R h1 h2).2⟩,m⟩ dO
    have ZF:=h;refine Zb6 ?_;refine Vc ((mid+1:Nat):Int) ?_;refine Zb3 ?_;obtain⟨F0,dS,gH,aI⟩:=S.focus At0;refine aK (ih (t-(mid+1)) oM (a:=mid+1) (b:=t) (lim:=lm1) (zbk _) dS Rx oM oM oq xG g5 (nH.into S.kept gH)) rfl rfl (λv' _ hv=>?_);obtain⟨d5,rfl,⟨hp5,l⟩,alW,F1,hq,hs⟩:=hv;have m:=aI _ F1 _ alW hq hs;obtain⟨i,j⟩:=g7 d5 hp5 l;have hn5:n=d5.size:=by rw[hp5.1];exact Rx
    refine Zb2 ?_
    first
    | exact aj ((partitionEqual (ltC cf) d3 s t p2).1,t,lm1,wb,wp,(partitionEqual (ltC cf) d3 s t p2).2) tR ⟨⟨⟨Rx,dO,g2,VY,xG⟩,g4,λR h1 h2=>Rw R (permIn_trans _ _ _ _ _ Nb (g5 R h1 h2).1) (g5 R h1 h2).2⟩,m⟩ dO
    | exact aj (mid+1,t,lm1,decide ((((t-s)/8:Nat):Int)<=((mid-s:Nat):Int)),ap,d5) tR ⟨⟨⟨hn5,dO,dO,VY,xG⟩,i,λR h1 h2=>Rw R (permIn_trans _ _ _ _ _ Nb (j R h1 h2).1) (j R h1 h2).2⟩,m⟩ dO
    | exact aj (s,mid,lm1,decide ((((t-s)/8:Nat):Int)<=((t-mid:Nat):Int)),ap,d5) tR ⟨⟨⟨hn5,has,g1,dO,xG⟩,i,λR h1 h2=>Rw R (permIn_trans _ _ _ _ _ Nb (j R h1 h2).1) (j R h1 h2).2⟩,m⟩ dO
  have g:=e;refine Zb6 ?_;obtain⟨F0,dS,gH,aI⟩:=k.focus At0;refine aK (YV (a:=s) (b:=t) (p:=p2) dS hn3 YA YB oM oM (nH.into k.kept gH)) rfl rfl (λv' _ hv=>?_);obtain⟨rfl,Rx,alX,F1,hq,hs⟩:=hv;have m:=aI _ F1 _ alX hq hs;obtain⟨g1,g2,g3,g4,g5,g6,g7⟩:=round_part hO (partition_holds _) YA YB oM hB3 (d4:=(partition (ltC cf) d3 s t p2).2.2) (mid:=(partition (ltC cf) d3 s t p2).1) (ap:=(partition (ltC cf) d3 s t p2).2.1) rfl;obtain⟨pr,hpr⟩: ∃pr,pr=partition (ltC cf) d3 s t p2:=⟨_,rfl⟩;rw[<-hpr]at g1 g2 g3 g4 g5 g6 g7 Rx m ⊢;obtain⟨mid,ap,d4⟩:=pr;dsimp only at g1 g2 g3 g4 g5 g6 g7 Rx m ⊢;refine Zb9 ?_;refine Vc ((mid-s:Nat):Int) ?_;refine Zb2 ?_;refine Vc ((t-mid:Nat):Int) ?_;refine Zb3 ?_;refine Vv (Gives.U5 (a:=t-s) (b:=8) rfl rfl dC oM) (Za4 ?_);refine Qn (Cp rfl (λg=>?_) (λg=>?_))
  . have ZF:=g
    refine Zb9 ?_;obtain⟨F0,dS,gH,aI⟩:=m.focus At0;refine aK (ih (mid-s) oM (a:=s) (b:=mid) (lim:=lm1) (zbk _) dS Rx g1 oM oq xG g4 (nH.into m.kept gH)) rfl rfl (λv' _ hv=>?_);obtain⟨d5,rfl,⟨hp5,l⟩,alY,F1,hq,hs⟩:=hv;have e:=aI _ F1 _ alY hq hs;obtain⟨i,j⟩:=g6 d5 hp5 l;have hn5:n=d5.size:=by rw[hp5.1];exact Rx
    refine Zb1 ?_;refine Vc ((mid+1:Nat):Int) ?_;refine Zb1 ?_
    first
    | exact aj ((partitionEqual (ltC cf) d3 s t p2).1,t,lm1,wb,wp,(partitionEqual (ltC cf) d3 s t p2).2) tR ⟨⟨⟨Rx,dO,g2,VY,xG⟩,g4,λR h1 h2=>Rw R (permIn_trans _ _ _ _ _ Nb (g5 R h1 h2).1) (g5 R h1 h2).2⟩,e⟩ dO
    | exact aj (mid+1,t,lm1,decide ((((t-s)/8:Nat):Int)<=((mid-s:Nat):Int)),ap,d5) tR ⟨⟨⟨hn5,dO,dO,VY,xG⟩,i,λR h1 h2=>Rw R (permIn_trans _ _ _ _ _ Nb (j R h1 h2).1) (j R h1 h2).2⟩,e⟩ dO
    | exact aj (s,mid,lm1,decide ((((t-s)/8:Nat):Int)<=((t-mid:Nat):Int)),ap,d5) tR ⟨⟨⟨hn5,has,g1,dO,xG⟩,i,λR h1 h2=>Rw R (permIn_trans _ _ _ _ _ Nb (j R h1 h2).1) (j R h1 h2).2⟩,e⟩ dO
  have ZF:=g;refine Zb6 ?_;refine Vc ((mid+1:Nat):Int) ?_;refine Zb3 ?_;obtain⟨F0,dS,gH,aI⟩:=m.focus At0;refine aK (ih (t-(mid+1)) oM (a:=mid+1) (b:=t) (lim:=lm1) (zbk _) dS Rx oM oM oq xG g5 (nH.into m.kept gH)) rfl rfl (λv' _ hv=>?_);obtain⟨d5,rfl,⟨hp5,l⟩,alZ,F1,hq,hs⟩:=hv;have e:=aI _ F1 _ alZ hq hs;obtain⟨i,j⟩:=g7 d5 hp5 l;have hn5:n=d5.size:=by rw[hp5.1];exact Rx
  refine Zb2 ?_
  first
  | exact aj ((partitionEqual (ltC cf) d3 s t p2).1,t,lm1,wb,wp,(partitionEqual (ltC cf) d3 s t p2).2) tR ⟨⟨⟨Rx,dO,g2,VY,xG⟩,g4,λR h1 h2=>Rw R (permIn_trans _ _ _ _ _ Nb (g5 R h1 h2).1) (g5 R h1 h2).2⟩,e⟩ dO
  | exact aj (mid+1,t,lm1,decide ((((t-s)/8:Nat):Int)<=((mid-s:Nat):Int)),ap,d5) tR ⟨⟨⟨hn5,dO,dO,VY,xG⟩,i,λR h1 h2=>Rw R (permIn_trans _ _ _ _ _ Nb (j R h1 h2).1) (j R h1 h2).2⟩,e⟩ dO
  | exact aj (s,mid,lm1,decide ((((t-s)/8:Nat):Int)<=((t-mid:Nat):Int)),ap,d5) tR ⟨⟨⟨hn5,has,g1,dO,xG⟩,i,λR h1 h2=>Rw R (permIn_trans _ _ _ _ _ Nb (j R h1 h2).1) (j R h1 h2).2⟩,e⟩ dO
theorem Tq (hO:SWO (ltC cf)) (hp:(fJ f A n c d₀).ok F w) (yX:n=d₀.size) (oq:n<1000000) (nH:nX prog fv f cf F w):
    aY prog 105 [.slice A n c,fv] w λr w'=>∃d':Array α,r=.tuple #[]/\(PermIn 0 n d₀ d'/\SortedIn (ltC cf) 0 n d')/\Turn F (fJ f A n c d') w w':=by
  have H:=Sep.bW hp
  have hbl:Lib.bitLen n<=62:=by
    rcases zeb n with e | e
    . rw[e];decide
    exact(EY e oq).2.2
  refine dF func105 rfl rfl rfl rfl ?_;refine Zb6 ?_;refine Vv (Gives.zx (c:=(n:Int)) rfl (by rw[IntKind.wrap_u64];omega)) ?_;refine eY (CV n oM) (h:=?_);refine Mv ?_;obtain⟨F0,dS,gH,aI⟩:=H.focus At0;refine aK (agD hO n (a:=0) (b:=n) (lim:=Lib.bitLen n) oM dS yX (zaq _) (zbk _) oq oM (.inl rfl) (nH.into H.kept gH)) rfl rfl (λv' _ hv=>?_);obtain⟨d5,rfl,hps,aj0,F1,hq,hs⟩:=hv;have k:=aI _ F1 _ aj0 hq hs;refine Zb0 ?_;exact⟨d5,rfl,hps,k.turn⟩
end
theorem ND {a b:List ay} {i:Nat} (h:a.take i=b.take i):qc rE a b=qc rE (a.drop i) (b.drop i):=by
 induction i generalizing a b with
 | zero=>rfl
 | succ i ih=>
  cases a with
  | nil=>cases b with
   | nil=>rfl
   | cons y s=>simp at h
  | cons x r=>cases b with
   | nil=>simp at h
   | cons y s=>
    simp only[zcx,List.cons.injEq]at h;obtain⟨rfl,h⟩:=h;rw[zek,zek,<-ih h,qc,zab (by rw[Kq.self];decide)]
theorem agE {a b:List ay} {i:Nat} {x y:ay} (h:a.take i=b.take i) (hx:a[i]? =some x) (hy:b[i]? =some y) (iC:rE x y≠0):jU a b=rE x y:=by
 unfold jU;rw[ND h]
 have ex:a.drop i=x::a.drop (i+1):=by
  obtain⟨hi,e⟩:=zaz.1 hx;rw[<-e];exact zbn hi
 have ey:b.drop i=y::b.drop (i+1):=by
  obtain⟨hi,e⟩:=zaz.1 hy;rw[<-e];exact zbn hi
 rw[ex,ey,qc,zac iC]
theorem adx {a b:List ay} {i:Nat} (h:a.take i=b.take i) (hi:i=min a.length b.length):jU a b=BL (a.length:Int) (b.length:Int):=by
 unfold jU;rw[ND h]
 rcases Nat.lt_trichotomy a.length b.length with hl | hl | hl
 .have e1:a.drop i=[]:=zbu oM
  obtain⟨y,s,e2⟩: ∃y s,b.drop i=y::s:=zeu (by rw[zbq];omega);rw[e1,e2,qc];unfold BL;rw[zac oM]
 .have e1:a.drop i=[]:=zbu oM
  have e2:b.drop i=[]:=zbu oM;rw[e1,e2,qc];unfold BL;rw[zab oM,zab oM]
 have e1:b.drop i=[]:=zbu oM;obtain⟨y,s,e2⟩: ∃y s,a.drop i=y::s:=zeu (by rw[zbq];omega);rw[e1,e2,qc];unfold BL;rw[zab oM,zac oM]
section
variable {w:Wd}
theorem NG (n:Int):aY prog 211 [I n] w λv w'=>v=.bool false/\w=w':=by
 have H:=Sep.aJ w;refine dI func211 rfl rfl rfl rfl ?_;refine Zb5 ?_;exact⟨zbb Value.bool sM,rfl⟩
theorem aak (a b:Int):aY prog 155 [I a,I b] w λv w'=>v=I (BL a b)/\w=w':=by
 have H:=Sep.aJ w;refine dF func155 rfl rfl rfl rfl ?_;refine Zb2 ?_;refine eY (NG a) (h:=?_);refine Zb2 ?_;refine eY (NG b) (h:=?_);refine Za2 ?_;refine Qn (Cd rfl (λk=>?_) (λk=>?_))
 .cases k
 refine Za1 ?_;refine Qn (Cd rfl (λk=>?_) (λk=>?_))
 .cases k
 refine Za3 ?_;refine Qn (Cp rfl (λk=>?_) (λk=>?_))
 .have h1:=k
  refine Zb1 ?_;exact⟨by unfold BL;rw[zac h1];rfl,rfl⟩
 have h1:=k;refine Za3 ?_;refine Qn (Cp rfl (λk=>?_) (λk=>?_))
 .have h2:=k
  refine Zb1 ?_;exact⟨by unfold BL;rw[zab h1,zac oM];rfl,rfl⟩
 have h2:=k;refine Zb1 ?_;exact⟨by unfold BL;rw[zab h1,zab oM];rfl,rfl⟩
theorem aal {a b:List ay} {va vb:Value} (ha:aQ w va ah 3 a) (hb:aQ w vb ah 3 b):Rk prog 104 [va,vb] w (I (jU a b)):=by
 obtain⟨A,m,rfl,⟨hm,qX⟩,hA⟩:=ha;obtain⟨B,n,rfl,⟨hn,hn'⟩,hB⟩:=hb;have H:=Sep.aJ w;refine dF func104 rfl rfl rfl rfl ?_;refine Zb5 ?_;refine Vv (Gives.ac9 (m:=((min a.length b.length:Nat):Int)) rfl rfl oM) (Zb1 ?_);refine aR (λi:Nat=>[(0,.slice A a.length m),(1,.slice B b.length n),(11,I (min a.length b.length:Nat)),(12,I i)]) (λi w'=>(i<=min a.length b.length/\a.take i=b.take i)/\Sep w noB [] w') (λi _=>min a.length b.length-i) 0 tR ⟨⟨zaq _,sM⟩,H⟩ (λi τ _ hI=>?_);obtain⟨⟨hi,fU⟩,k⟩:=hI
 try simp only[cK,like,aS,bK]
 refine Za1 ?_;refine Qn (dW (Cp rfl (λS=>?_) (λS=>?_)))
 .have bH:i<a.length:=oM
  have Dp:i<b.length:=oM;obtain⟨x,hx⟩:=get_some bH;obtain⟨y,hy⟩:=get_some Dp;refine Zb2 ?_;refine Ds (λS _ c=>?_);refine Zb8 ?_;refine gI S 8 _ c (qW x y) (h:=λ_ c _=>⟨sT,?_⟩);refine Za3 ?_;refine Qn (Cp rfl (λS=>?_) (λS=>?_))
  .have hxy:=S
   refine Zb2 ?_;exact⟨by rw[agE fU hx hy hxy];rfl,c.kept⟩
  have hxy:x=y:=(Kq.eq0 x y).1 (by have:=S;omega);have YC:a.take (i+1)=b.take (i+1):=by rw[zbd,zbd,fU,hx,hy,hxy]
  refine Zb0 ?_;refine Vc ((i+1:Nat):Int) ?_;refine Zb1 ?_;exact aj (i+1) tR ⟨⟨oM,YC⟩,c⟩ oM
 have oQ:i=min a.length b.length:=oM;refine Zb4 ?_;refine eY (aak _ _) (h:=?_);refine Zb1 ?_;exact⟨by rw[adx fU oQ];rfl,k.kept⟩
theorem WI {a b:List ay} {va vb:Value} (ha:aQ w va ah 3 a) (hb:aQ w vb ah 3 b):Rk prog 102 [va,vb] w (.bool (decide (a=b))):=by
 obtain⟨A,m,rfl,⟨hm,qX⟩,hA⟩:=ha;obtain⟨B,n,rfl,⟨hn,hn'⟩,hB⟩:=hb;have H:=Sep.aJ w;refine dF func102 rfl rfl rfl rfl ?_;refine Za6 ?_;refine Qn (Cp rfl (λk=>?_) (λk=>?_))
 .have iC:=k
  refine Zb1 ?_;exact⟨zbb Value.bool (Eq.symm (zas λe=>iC (by rw[e]))),H.kept⟩
 have hlen:a.length=b.length:=oM;refine Zb3 ?_;refine aR (λi:Nat=>[(0,.slice A a.length m),(1,.slice B b.length n),(12,I a.length),(13,I i)]) (λi w'=>(i<=a.length/\a.take i=b.take i)/\Sep w noB [] w') (λi _=>a.length-i) 0 tR ⟨⟨zaq _,sM⟩,H⟩ (λi τ _ hI=>?_);obtain⟨⟨hi,fU⟩,k⟩:=hI
 try simp only[cK,like,aS,bK]
 refine Za1 ?_;refine Qn (dW (Cp rfl (λS=>?_) (λS=>?_)))
 .have bH:i<a.length:=oM
  obtain⟨x,hx⟩:=get_some bH;obtain⟨y,hy⟩:=get_some (l:=b) (i:=i) oM;refine Zb2 ?_;refine Ds (λS _ c=>?_);refine Zb8 ?_;refine Gp S 8 rfl rfl (λ_=>(Gives.ahl (enc:=ah) _ _ rfl rfl)) (fF S kR ?_);refine bC (Cp rfl (λS=>?_) (λS=>?_))
  .have hxy:=S
   refine Zb1 ?_;exact⟨zbb Value.bool (Eq.symm (zas λe=>hxy (by rw[e,hy]at hx;injection hx with hx;exact hx.symm))),c.kept⟩
  have hxy:x=y:=zca.1 S;have YC:a.take (i+1)=b.take (i+1):=by rw[zbd,zbd,fU,hx,hy,hxy]
  refine Zb2 ?_;exact aj (i+1) tR ⟨⟨oM,YC⟩,c⟩ oM
 have oQ:i=a.length:=oM;have Yw:a=b:=by rw[oQ,zbo,hlen,zbo]at fU;exact fU
 refine Zb1 ?_;exact⟨zbb Value.bool (Eq.symm (zbj Yw)),k.kept⟩
theorem WJ {a b:List ay} {va vb:Value} (ha:aQ w va ah 3 a) (hb:aQ w vb ah 3 b):Rk prog 62 [va,vb] w (.bool (decide (a=b))):=by
 have H:=Sep.aJ w;refine dF func62 rfl rfl rfl rfl ?_;refine Zb3 ?_;refine aD H (WI ha hb) (h:=λ_ k _=>?_);refine Zb1 ?_;exact⟨rfl,k.kept⟩
theorem MN {l:List ay} {v:Value} (hl:aQ w v ah 3 l) (uS:l.length<=1000):aY prog 108 [v] w λv' w'=>∃x,v'=x/\True/\Turn noB (bJ 52 3 ah x l) w w':=by
 obtain⟨A,m,rfl,⟨hm,qX⟩,hA⟩:=hl;have H:=Sep.aJ w;refine dI func108 rfl rfl rfl rfl ?_;refine Za3 ?_;refine Qn (Cd rfl (λk=>?_) (λk=>?_))
 .have hA0:A=none:=by have h:=k;cases A<;>first | rfl | cases h
  have Ru:l=[]:=by
   cases l with
   | nil=>rfl
   | cons x l=>obtain⟨ad,he⟩:=hA.addr (Nat.succ_pos _);rw[hA0]at he;cases he
  have k:=Sep.nE H 52 3 ah;refine Zb1 ?_;exact⟨_,rfl,trivial,by rw[Ru];exact k.turn⟩
 refine Zb0 ?_;refine Bs H [] (λbs _ k _=>?_);have k:Sep w noB (bJ 52 3 ah (.slice (some ⟨bs,0,none⟩) 0 0) ([]:List ay)::[]) _:=Sep.o7 (n:=0) k At0 rfl dC;refine Mv ?_;refine oO k At0 (hA.keep k.kept) (by unfold maxLen;simp;omega) (by simp;omega) (cells_one (λ_=>rfl) _) (h:=?_);intro v2 k k;refine Zb1 ?_;exact⟨_,rfl,trivial,by rw[zcb]at k;exact k.turn⟩
theorem DN {l:List bF} {v:Value} (hl:aQ w v aX 7 l) (uS:l.length<=1000):aY prog 46 [v] w λv' w'=>∃x,v'=x/\True/\Turn noB (bJ 54 7 aX x l) w w':=by
 obtain⟨A,m,rfl,⟨hm,qX⟩,hA⟩:=hl;have H:=Sep.aJ w;refine dI func46 rfl rfl rfl rfl ?_;refine Za3 ?_;refine Qn (Cd rfl (λk=>?_) (λk=>?_))
 .have hA0:A=none:=by have h:=k;cases A<;>first | rfl | cases h
  have Ru:l=[]:=by
   cases l with
   | nil=>rfl
   | cons x l=>obtain⟨ad,he⟩:=hA.addr (Nat.succ_pos _);rw[hA0]at he;cases he
  have k:=Sep.nE H 54 7 aX;refine Zb1 ?_;exact⟨_,rfl,trivial,by rw[Ru];exact k.turn⟩
 refine Zb0 ?_;refine Bs H [] (λbs _ k _=>?_);have k:Sep w noB (bJ 54 7 aX (.slice (some ⟨bs,0,none⟩) 0 0) ([]:List bF)::[]) _:=Sep.o7 (n:=0) k At0 rfl dC;refine Mv ?_;refine oO k At0 (hA.keep k.kept) (by unfold maxLen;simp;omega) (by simp;omega) (cells_one (λ_=>rfl) _) (h:=?_);intro v2 k k;refine Zb1 ?_;exact⟨_,rfl,trivial,by rw[zcb]at k;exact k.turn⟩
theorem uZ {l:List aZ} {v:Value} (hl:aQ w v aP 3 l) (uS:l.length<=1000):aY prog 82 [v] w λv' w'=>∃x,v'=x/\True/\Turn noB (bJ 92 3 aP x l) w w':=by
 obtain⟨A,m,rfl,⟨hm,qX⟩,hA⟩:=hl;have H:=Sep.aJ w;refine dI func82 rfl rfl rfl rfl ?_;refine Za3 ?_;refine Qn (Cd rfl (λk=>?_) (λk=>?_))
 .have hA0:A=none:=by have h:=k;cases A<;>first | rfl | cases h
  have Ru:l=[]:=by
   cases l with
   | nil=>rfl
   | cons x l=>obtain⟨ad,he⟩:=hA.addr (Nat.succ_pos _);rw[hA0]at he;cases he
  have k:=Sep.nE H 92 3 aP;refine Zb1 ?_;exact⟨_,rfl,trivial,by rw[Ru];exact k.turn⟩
 refine Zb0 ?_;refine Bs H [] (λbs _ k _=>?_);have k:Sep w noB (bJ 92 3 aP (.slice (some ⟨bs,0,none⟩) 0 0) ([]:List aZ)::[]) _:=Sep.o7 (n:=0) k At0 rfl dC;refine Mv ?_;refine oO k At0 (hA.keep k.kept) (by unfold maxLen;simp;omega) (by simp;omega) (cells_one (λ_=>rfl) _) (h:=?_);intro v2 k k;refine Zb1 ?_;exact⟨_,rfl,trivial,by rw[zcb]at k;exact k.turn⟩
theorem oZ {l:List ay} {v:Value} (hl:aQ w v ah 3 l) (uS:l.length<=1000):aY prog 70 [v] w λv' w'=>∃x,v'=x/\True/\Turn noB (bJ 52 3 ah x l) w w':=by
 have H:=Sep.aJ w;refine dI func70 rfl rfl rfl rfl ?_;refine Zb2 ?_;refine dn H (MN hl uS) (h:=λvx _ _ k _=>?_);refine Zb1 ?_;exact⟨_,rfl,trivial,k.turn⟩
end
end Go.Proofs.YtkfpleidaoaonaaGreatDoor
