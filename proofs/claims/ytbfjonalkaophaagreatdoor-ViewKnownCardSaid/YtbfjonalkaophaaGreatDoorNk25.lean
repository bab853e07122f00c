/-
 The document's sums;walked.
-/
import Derived.Test.YtbfjonalkaophaaGreatDoorNk24
set_option linter.all false
set_option maxRecDepth 4000
namespace Go.Proofs.Mw
variable {Z:List xA} {i:Nat} {L:List fH} {v:Value}
open Go.Lib Go.Proofs.Tryz
section
attribute [local irreducible] FW FL FG FGn jX lg gD l7 Qfn ah
def prE (k:List aF) (n:Nat) (x:bT):List (Int×Int):=
 if x.key=k then(if n=0 then [(x.w,1)]else if(x.vals.getD (n-1) cell0).null=true then []else [(x.w,(x.vals.getD (n-1) cell0).n)])else []
def ahV (k:List aF) (n:Nat) (x:bT):rP (prE k n x)=if x.key=k then EY x n else 0:=by
 unfold prE EY
 by_cases h:x.key=k
 .rw[zac h,zac h]
  by_cases a:n=0
  .rw[zac a,zac a];show x.w*1+0=x.w;omega
  rw[zab a,zab a]
  split
  .rfl
  exact zgl _
 rw[zab h,zab h];rfl
def aaW (k:List aF) (n:Nat): ∀l:List bT,rP (l.flatMap (prE k n))=jV l k n
 | []=>rfl
 | x::l=>by rw[zbi,Kt,ahV,aaW k n l,jV]
def p9 (base:Int) (k:List aF) (n:Nat) (l:List bT):List (Int×Int):=(base,1)::l.flatMap (prE k n)
def Qu (base:Int) (k:List aF) (n:Nat) (l:List bT):rP (p9 base k n l)=base+jV l k n:=by
 unfold p9;rw[rP,aaW];show base*1+_=_;omega
def M8 {base:Int} {k:List aF} {n:Nat} {j:Nat} {z:xA} (h:Z[j]? =some z):p9 base k n ((Z.take (j+1)).map (·.2.2))=p9 base k n ((Z.take j).map (·.2.2))++prE k n z.2.2:=by
 unfold p9;rw[zaq,h,zan,zbu];simp
def ahW (k:List aF) (n:Nat) (x:bT):(prE k n x).length<=1:=by
 unfold prE
 (repeat' split)<;>simp
def vM (base:Int) (k:List aF) (n:Nat): ∀l:List bT,(p9 base k n l).length<=l.length+1
 | []=>zbk _
 | x::l=>by
  have h:=vM base k n l;have a:=ahW k n x;unfold p9 at h ⊢;rw[zbi];simp only[zat,zad]at h ⊢;omega
section
variable {w:Wd}
theorem ahX {ve vk:Value} {k:List aF} {base:Int} (q:Nat) (hZ:aP w ve qE 3 Z) (hR:zh w Z) (hk:aP w vk aj 3 k) (hn:Z.length<=1000) (hb:cB base) (hf: ∀z∈Z,cB z.2.2.w/\∀c∈z.2.2.vals,cB c.n) (hq: ∀z∈Z,(-1:Int)<z.2.2.vals.length):
    Rk prog 183 [I base,ve,vk,I (-1:Int)] w (.tuple #[I (if bM (base+jV (Z.map (·.2.2)) k 0)=true then base+jV (Z.map (·.2.2)) k 0 else 0),I (if bM (base+jV (Z.map (·.2.2)) k 0)=true then 0 else 50)]):=by
  obtain⟨A,m,rfl,⟨hm,Gj⟩,E⟩:=hZ
  have K: ∀l:List bT,(∀x∈l,cB x.w/\∀c∈x.vals,cB c.n)->∀p∈p9 base k 0 l,cB p.1/\cB p.2:=by
    intro l hl p hp;have F:cB (1:Int):=by show -9223372036854775808<=(1:Int)/\(1:Int)<=9223372036854775807;decide
    have h0:cB (0:Int):=by show -9223372036854775808<=(0:Int)/\(0:Int)<=9223372036854775807;decide
    rcases zax.1 hp with e | e
    . rw[e];exact⟨hb,F⟩
    obtain⟨x,Y,e⟩:=zcc.1 e;obtain⟨L,h3⟩:=hl x Y;unfold prE at e
    split at e
    . split at e
      . rw[zaw]at e;rw[e];exact⟨L,F⟩
      split at e
      . exact zas e zal
      rw[zaw]at e;rw[e];refine⟨L,?_⟩;dsimp only;rw[zao];cases hc:x.vals[0-1]? with
      | none=>exact h0
      | some c=>exact h3 c (zag hc)
    exact zas e zal
  have H:=Sep.aI w;refine yM func183 ?_;refine V3 ?_;refine Vv (ah.zf (zs:=[I 0,I 0]) (out:=mI (base,1)) rfl (bQ.one rfl rfl rfl sM rfl (bQ.one rfl rfl rfl sM rfl bQ.nil))) (Bs H ([(base,(1:Int))].flatMap mI) (λu w6 G k5=>?_));have G:=Sep.nC (n:=1) (s:=2) G At0 rfl dC;refine V2 ?_;refine aM (λx:(OA×Nat)×Nat=>[(1,.slice A Z.length m),(2,vk),(3,I (-1:Int)),(10,.slice x.1.1 (p9 base k 0 ((Z.take x.2).map (·.2.2))).length x.1.2),(11,I x.2)]) (λx w'=>x.2<=Z.length/\Mw.Sep w noB [aY 262 2 mI (.slice x.1.1 (p9 base k 0 ((Z.take x.2).map (·.2.2))).length x.1.2) (p9 base k 0 ((Z.take x.2).map (·.2.2)))] w') (λx _=>Z.length-x.2) ((some ⟨u,0,none⟩,1),0) tR ⟨zai _,G⟩ (λx τ wa hI=>?_);obtain⟨⟨R,v⟩,j⟩:=x;obtain⟨hj,g⟩:=hI;dsimp only at hj g;refine Lp ?_;refine Cz (λIe=>?_) (λIe=>?_)
  . have b:j<Z.length:=oM
    obtain⟨z,d⟩:=aN b;have t:=zag d;obtain⟨kv,vv,e⟩:=z;obtain⟨o,y⟩:=hR _ t;have X:=hq _ t;dsimp only at o y X;obtain⟨V,cv,rfl,_,hV⟩:=y;have a:=M8 (base:=base) (k:=k) (n:=0) d;dsimp only at a;unfold prE at a;have T:=vM base k 0 ((Z.take j).map (·.2.2));rw[zae,zah]at T;refine V2 ?_;refine Vv (ah.fT rfl rfl E b) (V1 ?_);refine Vv (ah.dY (f:=0) rfl g E d rfl) (Mv ?_);refine Kz (uK (o.aK g.au) (hk.aK g.au)) (λwb C ka=>?_);refine Vv (ah.notP rfl) (Cz (λJ=>?_) (λJ=>?_))
    . rw[zab J,zbt]at a
      refine V1 ?_;refine Vc ((j+1:Nat):Int) ?_;refine V1 ?_
      first
      | exact ak ((r,i),j+1) tR ⟨dO,C⟩ dO
      | exact ak ((R,v),j+1) ⟨rfl,rfl,rfl,by dsimp only;rw[a];rfl,rfl,trivial⟩ ⟨dO,by dsimp only;rw[a];exact C⟩ dO
    rw[zac (Decidable.of_not_not J)]at a;refine Cz (λS=>?_) (λS=>?_)
    . rw[zac rfl]at a
      refine V3 ?_;refine Vv (ah.fT rfl rfl E b) (V1 ?_);refine Vv (ah.dY (f:=2) rfl C E d rfl) (Vv (ah.zf (zs:=[I 0,I 0]) (out:=mI (e.w,1)) rfl (bQ.one rfl rfl rfl sM rfl (bQ.one rfl rfl rfl sM rfl bQ.nil))) ?_);refine Bs C ([(e.w,(1:Int))].flatMap mI) (λu wc M kb=>?_);refine eH M (news:=[(e.w,(1:Int))]) At0 kJ kM (dW (λ_=>rfl) _) (h:=?_);intro v6 wd D;rw[<-a]at D;obtain⟨r,i,rfl,_,_⟩:=Sep.bX D At0;refine V2 ?_;refine Vc ((j+1:Nat):Int) ?_;refine V1 ?_
      first
      | exact ak ((r,i),j+1) tR ⟨dO,D⟩ dO
      | exact ak ((R,v),j+1) ⟨rfl,rfl,rfl,by dsimp only;rw[a];rfl,rfl,trivial⟩ ⟨dO,by dsimp only;rw[a];exact D⟩ dO
    exact zas (show(-1:Int)<0 from dC) S
  have O:Z.take j=Z:=zaj oM;refine V1 ?_;have N:=gP g At0;have W:=vM base k 0 ((Z.take j).map (·.2.2));rw[zae,zah]at W
  have P:=K ((Z.take j).map (·.2.2)) λx Y=>by
    obtain⟨z,d,rfl⟩:=zav.1 Y;exact hf z (zcj d)
  refine Kz (Jj N P oM) (λwe Q kc=>?_);rw[Qu,O];refine V4 ?_;exact⟨rfl,Q.au⟩
theorem ahY {ve vk:Value} {k:List aF} {base:Int} (q:Nat) (hZ:aP w ve qE 3 Z) (hR:zh w Z) (hk:aP w vk aj 3 k) (hn:Z.length<=1000) (hb:cB base) (hf: ∀z∈Z,cB z.2.2.w/\∀c∈z.2.2.vals,cB c.n) (hq: ∀z∈Z,((q:Nat):Int)<z.2.2.vals.length):
    Rk prog 183 [I base,ve,vk,I ((q:Nat):Int)] w (.tuple #[I (if bM (base+jV (Z.map (·.2.2)) k (q+1))=true then base+jV (Z.map (·.2.2)) k (q+1)else 0),I (if bM (base+jV (Z.map (·.2.2)) k (q+1))=true then 0 else 50)]):=by
  obtain⟨A,m,rfl,⟨hm,Gj⟩,g⟩:=hZ
  have r: ∀l:List bT,(∀x∈l,cB x.w/\∀c∈x.vals,cB c.n)->∀p∈p9 base k (q+1) l,cB p.1/\cB p.2:=by
    intro l hl p hp;have h1:cB (1:Int):=by show -9223372036854775808<=(1:Int)/\(1:Int)<=9223372036854775807;decide
    have h0:cB (0:Int):=by show -9223372036854775808<=(0:Int)/\(0:Int)<=9223372036854775807;decide
    rcases zax.1 hp with e | e
    . rw[e];exact⟨hb,h1⟩
    obtain⟨x,hx,e⟩:=zcc.1 e;obtain⟨h2,h3⟩:=hl x hx;unfold prE at e
    split at e
    . split at e
      . rw[zaw]at e;rw[e];exact⟨h2,h1⟩
      split at e
      . exact zas e zal
      rw[zaw]at e;rw[e];refine⟨h2,?_⟩;dsimp only;rw[zao];cases hc:x.vals[(q+1)-1]? with
      | none=>exact h0
      | some c=>exact h3 c (zag hc)
    exact zas e zal
  have H:=Sep.aI w;refine yM func183 ?_;refine V3 ?_;refine Vv (ah.zf (zs:=[I 0,I 0]) (out:=mI (base,1)) rfl (bQ.one rfl rfl rfl sM rfl (bQ.one rfl rfl rfl sM rfl bQ.nil))) (Bs H ([(base,(1:Int))].flatMap mI) (λbs w6 P k5=>?_));have P:=Sep.nC (n:=1) (s:=2) P At0 rfl dC;refine V2 ?_;refine aM (λx:(OA×Nat)×Nat=>[(1,.slice A Z.length m),(2,vk),(3,I ((q:Nat):Int)),(10,.slice x.1.1 (p9 base k (q+1) ((Z.take x.2).map (·.2.2))).length x.1.2),(11,I x.2)]) (λx w'=>x.2<=Z.length/\Mw.Sep w noB [aY 262 2 mI (.slice x.1.1 (p9 base k (q+1) ((Z.take x.2).map (·.2.2))).length x.1.2) (p9 base k (q+1) ((Z.take x.2).map (·.2.2)))] w') (λx _=>Z.length-x.2) ((some ⟨bs,0,none⟩,1),0) tR ⟨zai _,P⟩ (λx τ wa hI=>?_);obtain⟨⟨R,Y⟩,j⟩:=x;obtain⟨hj,C⟩:=hI;dsimp only at hj C;refine Lp ?_;refine Cz (λIe=>?_) (λIe=>?_)
  . have d:j<Z.length:=oM
    obtain⟨z,i⟩:=aN d;have G:=zag i;obtain⟨kv,vv,e⟩:=z;obtain⟨E,J⟩:=hR _ G;have Q:=hq _ G;dsimp only at E J Q;obtain⟨V,cv,rfl,_,O⟩:=J;have a:=M8 (base:=base) (k:=k) (n:=(q+1)) i;dsimp only at a;unfold prE at a;have L:=vM base k (q+1) ((Z.take j).map (·.2.2));rw[zae,zah]at L;refine V2 ?_;refine Vv (ah.fT rfl rfl g d) (V1 ?_);refine Vv (ah.dY (f:=0) rfl C g i rfl) (Mv ?_);refine Kz (uK (E.aK C.au) (hk.aK C.au)) (λwb y ka=>?_);refine Vv (ah.notP rfl) (Cz (λT=>?_) (λT=>?_))
    . rw[zab T,zbt]at a
      refine V1 ?_;refine Vc ((j+1:Nat):Int) ?_;refine V1 ?_
      first
      | exact ak ((X,o),j+1) tR ⟨dO,y⟩ dO
      | exact ak ((R,Y),j+1) ⟨rfl,rfl,rfl,by dsimp only;rw[a];rfl,rfl,trivial⟩ ⟨dO,by dsimp only;rw[a];exact y⟩ dO
    rw[zac (Decidable.of_not_not T)]at a;refine Cz (λIg=>?_) (λIg=>?_)
    . omega
    obtain⟨D,b⟩:=aN (l:=e.vals) (show q<e.vals.length from oM);rw[zab oM,zgi,zao,b]at a;dsimp only[Option.getD_some]at a;refine V2 ?_;refine Vv (ah.fT rfl rfl g d) (V1 ?_);refine Vv (ah.dY (f:=1) rfl y g i rfl) (Mv ?_);refine Vv (ah.fT (l:=e.vals) rfl rfl O (fP b)) (V1 ?_);refine Vv (ah.dY (f:=0) rfl y O b rfl) (Vv (ah.not rfl) ?_);refine Qn (Cd rfl (λW=>?_) (λW=>?_))
    . have t:D.null=false:=by simpa using W
      rw[zab (by rw[t];decide)]at a;refine Dz (λS wc K=>?_);refine V3 ?_;refine GS (Gn rfl (λ_=>ah.fT rfl rfl g d) ?_);refine V1 ?_;refine GS (Gt rfl (ah.dY (f:=2) rfl K g i rfl) ?_);refine V2 ?_;refine GS (Gn rfl (λ_=>ah.fT rfl rfl g d) ?_);refine V1 ?_;refine GS (Gt rfl (ah.dY (f:=1) rfl K g i rfl) ?_);refine V1 ?_;refine GS (Gn rfl (λ_=>ah.fT (l:=e.vals) rfl rfl O (fP b)) ?_);refine V1 ?_;refine GS (Gt rfl (ah.dY (f:=1) rfl K O b rfl) ?_);refine GS (Gn rfl (λ_=>ah.zf (zs:=[I 0,I 0]) (out:=mI (e.w,D.n)) rfl (bQ.one rfl rfl rfl sM rfl (bQ.one rfl rfl rfl sM rfl bQ.nil))) ?_);refine Gz S 16 _ K ([(e.w,D.n)].flatMap mI) (h:=λbs wd Hd=>⟨sT,?_⟩);refine gZ S 17 _ Hd (news:=[(e.w,D.n)]) At0 kJ kM (dW (λ_=>rfl) _) (h:=λv6 we N=>?_);rw[<-a]at N;obtain⟨X,o,rfl,_,_⟩:=Sep.bX N At0;refine⟨sT,?_⟩;refine rA S 18 _ (h:=⟨sT,?_⟩);refine V1 ?_;refine Vc ((j+1:Nat):Int) ?_;refine V1 ?_
      first
      | exact ak ((X,o),j+1) tR ⟨dO,N⟩ dO
      | exact ak ((R,Y),j+1) ⟨rfl,rfl,rfl,by dsimp only;rw[a];rfl,rfl,trivial⟩ ⟨dO,by dsimp only;rw[a];exact N⟩ dO
    have t:D.null=true:=by simpa using W
    rw[zac t,zbt]at a;refine V1 ?_;refine Vc ((j+1:Nat):Int) ?_;refine V1 ?_
    first
    | exact ak ((X,o),j+1) tR ⟨dO,y⟩ dO
    | exact ak ((R,Y),j+1) ⟨rfl,rfl,rfl,by dsimp only;rw[a];rfl,rfl,trivial⟩ ⟨dO,by dsimp only;rw[a];exact y⟩ dO
  have v:Z.take j=Z:=zaj oM;refine V1 ?_;have u:=gP C At0;have M:=vM base k (q+1) ((Z.take j).map (·.2.2));rw[zae,zah]at M
  have F:=r ((Z.take j).map (·.2.2)) λx hx=>by
    obtain⟨z,i,rfl⟩:=zav.1 hx;exact hf z (zcj i)
  refine Kz (Jj u F oM) (λwf Hf kb=>?_);rw[Qu,v];refine V4 ?_;exact⟨rfl,Hf.au⟩
end
def Zf {G:List o7} {g:o7} {wt:Int} (h:G[i]? =some g):yZ ((G.take (i+1)).map (·.2.2)) wt=yZ ((G.take i).map (·.2.2)) wt++iP g.2.2.2 g.2.2.1 wt:=by
 unfold yZ;rw[zaq,h,zan,zbu];simp
def rQ (n:List Int) (k:List aF) (w:Int):(iP n k w).length<=1:=by
 unfold iP
 split<;>simp
def Da (w:Int): ∀L:List (List aF×List Int),(yZ L w).length<=L.length
 | []=>zbk _
 | x::L=>by
  have h:=Da w L;have k:=rQ x.2 x.1 w;unfold yZ at h ⊢;rw[zbi,zad,zat];omega
def head_tail {n:List Int} (h: ¬n.headD 0=0):n=n.headD 0::n.drop 1:=by
 cases n with
 | nil=>exact zas rfl h
 | cons a t=>rfl
section
variable {w:Wd}
theorem M9 {G:List o7} {vl:Value} (wt:Int) (hG:aP w vl grC 3 G) (hR:lF w G) (hn:G.length<=1000) (hl: ∀g∈G,g.2.2.1.length<=400/\g.2.2.2.length<=400):
    aX Tryz.prog 184 [vl,I wt] w λu C=>∃x:Value×List fH,u=x.1/\x.2.map (·.2)=yZ (G.map (·.2.2)) wt/\cO noB (dB x.1 x.2) w C:=by
  obtain⟨A,m,rfl,⟨hm,Gj⟩,d⟩:=hG;have H:=Sep.aI w;refine dn Tryz.func184 ?_;refine V3 ?_;refine aM (λx:(OA×Nat)×List fH×Nat=>[(0,.slice A G.length m),(1,I wt),(5,.slice x.1.1 (aW x.2.1).length x.1.2),(6,I x.2.2)]) (λx C=>(x.2.2<=G.length/\x.2.1.map (·.2)=yZ ((G.take x.2.2).map (·.2.2)) wt)/\Mw.Sep w noB [aY 25 2 aD (.slice x.1.1 (aW x.2.1).length x.1.2) (aW x.2.1),lW x.2.1] C) (λx _=>G.length-x.2.2) ((none,0),[],0) tR ⟨⟨zai _,rfl⟩,Sep.gQ (bU H) 25 2⟩ (λx τ w5 hI=>?_);obtain⟨⟨R,J⟩,L,i⟩:=x;obtain⟨⟨hi,K⟩,H5⟩:=hI;dsimp only at hi K H5;refine Lp ?_;refine Cz (λIe=>?_) (λIe=>?_)
  . have c:i<G.length:=oM
    obtain⟨g,q⟩:=aN c;have v:=zag q;obtain⟨X,r⟩:=hl g v;obtain⟨W,F⟩:=hR g v;have b:=Zf (wt:=wt) q;have hLr:(aW L).length=L.length:=zae _
    have hLn:L.length<=i:=by
      have h1:=zay List.length K;have h2:=Da wt ((G.take i).map (·.2.2));rw[zae]at h1;rw[zae,zah]at h2;omega
    obtain⟨kv,sv,k,a⟩:=g;dsimp only at X r W F b;have s:=W;obtain⟨N,cn,rfl,_,hN⟩:=F;unfold iP at b;refine V2 ?_;refine Vv (ah.fT rfl rfl d c) (V1 ?_);refine Vv (ah.dY (f:=1) rfl H5 d q rfl) (Ve ?_);refine Cz (λIf=>?_) (λIf=>?_)
    . rw[zac If,zbt]at b
      refine V1 ?_;refine Vc ((i+1:Nat):Int) ?_;refine V1 ?_
      first
      | exact ak ((R2,T),L2,i+1) tR ⟨⟨dO,z⟩,p⟩ dO
      | exact ak ((R,J),L,i+1) tR ⟨⟨dO,by dsimp only;rw[b];exact K⟩,H5⟩ dO
    have M: ¬a.headD 0=0:=If;rw[zab M]at b;have hns:=head_tail M;have hdl:(a.drop 1).length=a.length-1:=zbm;refine Dz (λS wa O=>?_);refine F7 (List.replicate 13 true++[false,false]) [] (λx:Nat×OA×Nat=>[(0,.slice A G.length m),(1,I wt),(5,.slice R (aW L).length J),(6,I i),(26,.slice x.2.1 k.length x.2.2),(33,.slice (some ⟨x.1,0,none⟩) 1 1)]) (λx C=>Mw.Sep w noB [blk x.1 ([gW (a.headD 0)].flatMap aj) 48,aY 48 3 aj (.slice x.2.1 k.length x.2.2) k,aY 25 2 aD (.slice R (aW L).length J) (aW L),lW L] C) ?_ ?_
    . rintro⟨E,Y,cy⟩ τ wb Hb
      dsimp only at Hb ⊢;refine gZ S 13 _ Hb (news:=[gW (a.headD 0)]) At0 kJ kM (dW (λ_=>rfl) _) (h:=λv7 wc Hc=>?_);obtain⟨Y1,cy1,rfl,_,_⟩:=Sep.bX Hc At0;refine⟨sT,?_⟩;refine V2 ?_;have e0:k++[gW (a.headD 0)]++((a.drop 1).take 0).map gW=k++[gW (a.headD 0)]:=sM;refine aM (λx:(OA×Nat)×Nat=>[(0,.slice A G.length m),(1,I wt),(5,.slice R (aW L).length J),(6,I i),(7,.slice x.1.1 (k++[gW (a.headD 0)]++((a.drop 1).take x.2).map gW).length x.1.2),(8,I x.2)]) (λx C=>x.2<=(a.drop 1).length/\Mw.Sep w noB [aY 48 3 aj (.slice x.1.1 (k++[gW (a.headD 0)]++((a.drop 1).take x.2).map gW).length x.1.2) (k++[gW (a.headD 0)]++((a.drop 1).take x.2).map gW),aY 25 2 aD (.slice R (aW L).length J) (aW L),lW L] C) (λx _=>(a.drop 1).length-x.2) ((Y1,cy1),0) ⟨rfl,rfl,rfl,rfl,by dsimp only;rw[e0];rfl,rfl,trivial⟩ ⟨zai _,by dsimp only;rw[e0];exact Hc⟩ (λx τ wd hI=>?_);clear e0;obtain⟨⟨Z,e⟩,j⟩:=x;obtain⟨hj,D⟩:=hI;dsimp only at hj D;refine Lp ?_;refine V3 ?_;refine Vv (ah.fT rfl rfl d c) (V1 ?_);refine Vv (ah.dY (f:=2) rfl D d q rfl) (Cz (λIg=>?_) (λIg=>?_))
      . have t:j<(a.drop 1).length:=oM
        obtain⟨n,Q⟩:=aN t;have hsu:k++[gW (a.headD 0)]++((a.drop 1).take j).map gW++[gW n]=k++[gW (a.headD 0)]++((a.drop 1).take (j+1)).map gW:=by rw[zaq,Q,zan,zbp];rfl
        have hlen:(k++[gW (a.headD 0)]++((a.drop 1).take j).map gW).length<=900:=by
          rw[zad,zad,zae,zah,zaf];omega
        refine V3 ?_;refine Vv (ah.fT rfl rfl d c) (V1 ?_);refine Vv (ah.dY (f:=2) rfl D d q rfl) (Mv ?_);refine Vv (ah.fT (l:=a.drop 1) rfl rfl hN t) (Vv (ah.dY (f:=0) rfl D hN Q rfl) ?_);refine Vb (aj (gW n)) ?_;refine Bs D ([gW n].flatMap aj) (λE we He ka=>?_);refine eH He (news:=[gW n]) At0 kJ kM (dW (λ_=>rfl) _) (h:=?_);intro v5 wf Hf;rw[hsu]at Hf;obtain⟨Z2,cZ2,rfl,_,_⟩:=Sep.bX Hf At0;refine V4 ?_;exact ak ((Z2,cZ2),j+1) tR ⟨dO,Hf⟩ dO
      have hjl:(a.drop 1).take j=a.drop 1:=zaj oM
      have aof:k++[gW (a.headD 0)]++((a.drop 1).take j).map gW=k++a.map gW:=by
        rw[hjl,zbp]
        conv=>rhs;rw[hns]
        rw[zbc,List.singleton_append]
      refine V3 ?_;refine Vb (aD (.slice Z (k++[gW (a.headD 0)]++((a.drop 1).take j).map gW).length e,wt)) ?_;refine Bs D ([(Value.slice Z (k++[gW (a.headD 0)]++((a.drop 1).take j).map gW).length e,wt)].flatMap aD) (λE wg Hg kb=>?_);refine eH Hg (news:=[(Value.slice Z (k++[gW (a.headD 0)]++((a.drop 1).take j).map gW).length e,wt)]) At1 kJ kM (λu hu=>zaz.1 (show([(Value.slice Z (k++[gW (a.headD 0)]++((a.drop 1).take j).map gW).length e,wt)].flatMap aD).all Value.oneCell'=true from rfl) u hu) (h:=?_);intro v9 wh Hh;obtain⟨R2,T,rfl,_,_⟩:=Sep.bX Hh At1;have p:=(iO (x:=Value.slice Z (k++[gW (a.headD 0)]++((a.drop 1).take j).map gW).length e) (o:=⟨k++[gW (a.headD 0)]++((a.drop 1).take j).map gW,wt⟩) (Hh.aR.aJ)).aJ
      have V:aW L++[(Value.slice Z (k++[gW (a.headD 0)]++((a.drop 1).take j).map gW).length e,wt)]=aW (L++[(Value.slice Z (k++[gW (a.headD 0)]++((a.drop 1).take j).map gW).length e,(⟨k++[gW (a.headD 0)]++((a.drop 1).take j).map gW,wt⟩:aH))]):=by
        unfold aW;rw[zan];rfl
      have z:(L++[(Value.slice Z (k++[gW (a.headD 0)]++((a.drop 1).take j).map gW).length e,(⟨k++[gW (a.headD 0)]++((a.drop 1).take j).map gW,wt⟩:aH))]).map (·.2)=yZ ((G.take (i+1)).map (·.2.2)) wt:=by
        rw[zan,K,b,<-aof];rfl
      rw[V]at p ⊢;clear V
      generalize L++[(Value.slice Z (k++[gW (a.headD 0)]++((a.drop 1).take j).map gW).length e,(⟨k++[gW (a.headD 0)]++((a.drop 1).take j).map gW,wt⟩:aH))]=L2 at p z |-
      refine V2 ?_;refine Vc ((i+1:Nat):Int) ?_;refine V1 ?_
      first
      | exact ak ((R2,T),L2,i+1) tR ⟨⟨dO,z⟩,p⟩ dO
      | exact ak ((R,J),L,i+1) tR ⟨⟨dO,by dsimp only;rw[b];exact K⟩,Hh⟩ dO
    intro P;refine Gm S 0 ?_;refine V1 ?_;refine GS (Gn rfl (λ_=>ah.fT rfl rfl d c) ?_);refine V1 ?_;refine GS (Gt rfl (ah.dY (f:=0) rfl O d q rfl) ?_);refine Gm S 6 ?_;refine V1 ?_;refine GS (Gn rfl (λ_=>ah.fT rfl rfl d c) ?_);refine V1 ?_;refine GS (Gt rfl (ah.dY (f:=1) rfl O d q rfl) ?_);refine Gb S 11 (aj (gW (a.headD 0))) ?_;refine jw S (e1:=5) (e2:=12) kR ?_ ?_
    . refine jS S 5 [(11,true),(10,false),(9,true),(8,true),(7,true),(6,true)] O (lV (s.aK O.au) oM) (h:=λy wi _ Hi kc=>?_)
      obtain⟨Y,cy,rfl,_,_⟩:=Sep.bX Hi At0;refine⟨av ((bE rfl kR (ah.dY (f:=1) rfl Hi d q rfl) rfl (av (av (av (av (dw))))))),?_⟩;refine Gz S 12 _ Hi ([gW (a.headD 0)].flatMap aj) (h:=λE wj Hj=>⟨sT,?_⟩);exact P (E,_,_) _ _ tR Hj rfl
    refine dX S 12 [(4,false),(3,true),(2,true),(1,true),(0,true)] O (xs:=[.tmp 32]) (out:=[gW (a.headD 0)].flatMap aj) (dI.many rfl rfl dI.nil) rfl rfl rfl (h:=λE wk Hk=>⟨(bE rfl kR (ah.dY (f:=0) rfl Hk d q rfl) rfl (av (av (av (av (dw)))))),?_⟩);refine dF S 5 _ Hk (lV (s.aK Hk.au) oM) (h:=λy wl _ Hl kd=>?_);obtain⟨Y,cy,rfl,_,_⟩:=Sep.bX Hl At0;refine⟨sT,?_⟩;exact P (E,_,_) _ _ tR Hl.aJ rfl
  have Gq:G.take i=G:=zaj oM;refine V2 ?_;exact⟨(_,L),rfl,by dsimp only;rw[K,Gq],H5.aZ.bf⟩
end
def Js {L:List (List aF×List Int)} {a:Int} {o:aH} (h:o∈yZ L a): ∃g∈L,o.row=g.1++g.2.map gW/\o.w=a:=by
 unfold yZ at h;obtain⟨g,k,h⟩:=zcc.1 h;unfold iP at h
 split at h
 .exact zas h zal
 rw[zaw]at h;exact⟨g,k,by rw[h],by rw[h]⟩
section
variable {w:Wd}
def WW {P keys O:Nat} {E:Td} {G:List o7} {v:Value} (p:iB w P (zi keys O v) E) (m:aP w v grC 3 G) (hR:lF w G) (q:G.length<=1000) (i: ∀g∈G,g.2.2.1.length<=400/\g.2.2.2.length<=400):
    aX Tryz.prog 112 [aC P] w λu y=>∃x:Value×List fH,u=x.1/\x.2.map (·.2)=(dJ (yZ (G.map (·.2.2)) 1)).1/\cO noB (dB x.1 x.2) w y:=by
  have a:=Da 1 (G.map (·.2.2));rw[zae]at a;have H:=Sep.aI w;refine dL Tryz.func112 ?_;refine V4 ?_;refine eP (p.aK H.au) (h:=?_);refine Nz (M9 1 (m.aK H.au) (hR.aK H.au) q i) (λx K s f D=>?_);have k:=cZ f At0;rw[s]at k
  refine F5 f (BI k oM (λo d=>by
    obtain⟨g,_,_,e⟩:=Js d;rw[e];show -9223372036854775808<=(1:Int)/\(1:Int)<=9223372036854775807
    decide) (λo d=>by
    obtain⟨g,b,e,_⟩:=Js d;obtain⟨l,c,rfl⟩:=zav.1 b;obtain⟨A,C⟩:=i l c;rw[e,zad,zae];omega)) (h:=λz N t j J=>?_)
  refine V7 ?_;exact⟨z,rfl,t,j.first.bf⟩
end
def qM:aF:=⟨false, -9,[115,112,111,105,108,116]⟩
def vN (b:fH):fH:=(b.1,⟨b.2.row.map λ_=>qM, -9⟩)
def oH (L:List fH) (i:Nat):List (Value×Int):=aW ((L.take i).map vN)++aW (L.drop i)
def Zg (h:i<=L.length):(oH L i).length=L.length:=by
 unfold oH aW;rw[zad,zae,zae,zae,zah,zbm];omega
def sQ {k:Type} {L:List k} {b:k} (h:L[i]? =some b):L.drop i=b::L.drop (i+1):=by
 have hi:i<L.length:=(zba.1 h).1;rw[zbn hi]
 congr 1
 exact(zba.1 h).2
def acY {b:fH} (h:L[i]? =some b):(oH L i)[i]? =some (b.1,b.2.w):=by
 have hi:=fP h;unfold oH aW;rw[zbx (by rw[zae,zae,zah];omega),zae,zae,zah,zcf oM,zdw,sQ h];rfl
def Zh {b:fH} (h:L[i]? =some b):(oH L i).set i (b.1, -9)=oH L (i+1):=by
 have hi:=fP h;unfold oH aW;rw[zdq _ _ (by rw[zae,zae,zah];omega),zae,zae,zah,zcf oM,zdw,sQ h,zbc,zcz,zaq,h];simp[vN]
section
variable {w:Wd} {F:NP}
def afK (hp:(dB v L).ok F w) (hn:L.length<=100000) (j: ∀b∈L,b.2.row.length<=100000):aX Tryz.prog 26 [v] w λu t=>u=.tuple #[]/\cO F (dB v (L.map vN)) w t:=by
 have H:=(Sep.dA hp).bW;obtain⟨A,c,rfl,hc,_⟩:=Sep.bX H At0;have G:(aW L).length=L.length:=zae _;refine dL Tryz.func26 ?_;refine V1 ?_;refine aM (λi:Nat=>[(0,.slice A (aW L).length c),(2,I i)]) (λi t=>i<=L.length/\Mw.Sep w F [aY 25 2 aD (.slice A (aW L).length c) (oH L i),lW ((L.take i).map vN),lW (L.drop i)] t) (λi _=>L.length-i) 0 tR ⟨zai _,(bU H).aJ⟩ (λi τ w3 r=>?_);obtain⟨hi,z⟩:=r;have d:(aW L).length=(oH L i).length:=by rw[Zg hi,G]
 refine Lp ?_;refine Cz (λK=>?_) (λK=>?_)
 .have R:i<L.length:=oM
  obtain⟨b,p⟩:=aN R;have e:=acY p;have J:=j b (zag p);have g:=Zh p;rw[sQ p]at z;obtain⟨y,o⟩:=b;dsimp only at e J g;have T:Mw.Sep w F (aY 48 3 aj y o.row::lW (L.drop (i+1))::aY 25 2 aD (.slice A (aW L).length c) (oH L i)::lW ((L.take i).map vN)::[]) _:=z.aR.bW;obtain⟨Y,C,rfl,_,_⟩:=Sep.bX T At0;refine V1 ?_;have X:(o.row.take 0).map (λ_=>qM)++o.row.drop 0=o.row:=sM;refine aM (λk:Nat=>[(0,.slice A (aW L).length c),(2,I i),(3,I k)]) (λk t=>k<=o.row.length/\Mw.Sep w F [aY 48 3 aj (.slice Y o.row.length C) ((o.row.take k).map (λ_=>qM)++o.row.drop k),lW (L.drop (i+1)),aY 25 2 aD (.slice A (aW L).length c) (oH L i),lW ((L.take i).map vN)] t) (λk _=>o.row.length-k) 0 tR ⟨zai _,by rw[X];exact T⟩ (λk τ wa M=>?_);clear X;obtain⟨Q,a⟩:=M;have m:o.row.length=((o.row.take k).map (λ_=>qM)++o.row.drop k).length:=by rw[zad,zae,zah,zbm];omega
  refine Lp ?_;refine V3 ?_;refine Vv (ah.yA (l:=oH L i) (enc:=aD) d rfl rfl (dZ d a At2) oM) (Vv (ah.oO rfl (dZ d a At2) oM) ?_);refine Vv (ah.yh (i:=i) (f:=0) rfl (dZ d a At2) e rfl) (Cz (λS=>?_) (λS=>?_))
  .have P:k<o.row.length:=oM
   have O:((o.row.take k).map (λ_=>qM)++o.row.drop k).set k qM=(o.row.take (k+1)).map (λ_=>qM)++o.row.drop (k+1):=by
    obtain⟨q,Z⟩:=aN P;rw[zdq _ _ IL,zae,zah,zcf Q,zdw,sQ Z,zcz,zaq,Z];simp
   refine V2 ?_;refine Vv (ah.yA (l:=oH L i) (enc:=aD) d rfl rfl (dZ d a At2) oM) (Vv (ah.oO rfl (dZ d a At2) oM) ?_);refine Vv (ah.yh (i:=i) (f:=0) rfl (dZ d a At2) e rfl) (Mv ?_);refine Vb (aj qM) ?_;refine Vv (ah.yA (enc:=aj) m rfl rfl (dZ m a At0) oM) (rM (i:=k) qM m a At0 oM rfl (h:=λwb V=>?_));rw[O]at V;refine V3 ?_;exact ak (k+1) tR ⟨oM,V⟩ oM
  have N:(o.row.take k).map (λ_=>qM)++o.row.drop k=o.row.map (λ_=>qM):=by
   rw[zaj oM,zbv oM,zbt]
  rw[N]at a;refine V2 ?_;refine Vv (ah.yA (l:=oH L i) (enc:=aD) d rfl rfl (dZ d a At2) oM) (Vv (ah.oO rfl (dZ d a At2) oM) ?_);refine GZ (enc:=aD) (l:=oH L i) (f:=1) (.slice Y o.row.length C, -9) d a At2 e dC rfl rfl rfl rfl (h:=λwc W=>?_);rw[g]at W;have hlm:(o.row.map λ_=>qM).length=o.row.length:=zae _;have E:=(iO (x:=.slice Y o.row.length C) (o:=⟨o.row.map λ_=>qM, -9⟩) W.bB.aJ).aR;refine V3 ?_;exact ak (i+1) tR ⟨oM,by
  have D:(L.take (i+1)).map vN=(L.take i).map vN++[(Value.slice Y o.row.length C,(⟨o.row.map λ_=>qM, -9⟩:aH))]:=by rw[zaq,p,zan];rfl
  rw[D];exact E⟩ oM
 have s:i=L.length:=oM;refine V0 ?_
 have D:oH L i=aW (L.map vN):=by
  unfold oH;rw[s,zbo,zds];unfold aW;rw[zcn,zbt]
 have n:(L.take i).map vN=L.map vN:=by rw[s,zbo]
 rw[D,n]at z;exact⟨rfl,z.aZ.first.bf⟩
end
def mU (cv wv pv:Value) (g:Int) (ov kv:Value) (o1 o2 o3:Int) (fv:Value):LV:=[cv,wv,pv,I g,ov,kv,.int .u32 o1,.int .i32 o2,.int .u32 o3,fv]
section
variable {w:Wd}
def Na {b:Nat} {E:Td} {e q p m d f:Value} {g o j l:Int} {r:Bool} (a:iB w b (mU e q p g m d o j l f) E) (c:IsNil d r):Rk prog 60 [aC b] w (.bool r):=by
 haveI:IsIface prog 111:=⟨by kernel_rfl⟩
 have H:=Sep.aI w;refine dL func60 ?_;refine V4 ?_;refine eO (t:=5) rfl (λk=>?_) (λk=>?_)
 .refine V2 ?_
  (exfalso;simp at *)
 refine V3 ?_;refine eP (a.aK H.au) (h:=?_);refine On (Vv (ah.Ub c rfl rfl) (V2 ?_));exact⟨rfl,H.au⟩
def afL {b:Nat} {E:Td} {y J G t s z:Value} {g A C D:Int} {q:List bF} (c:iB w b (mU y J G g t s A C D z) E) (e:IsNil s false) (i:aP w t aL 7 q) (f:q.length<=1000):aX prog 21 [aC b] w λu j=>∃x,u=x/\True/\cO noB (aY 50 7 aL x q) w j:=by
 have H:=Sep.aI w;refine dL func21 ?_;refine Kz (Na (c.aK H.au) e) (λo a l=>?_);refine Qn (Cd rfl (λk=>?_) (λk=>?_))
 .exact Bool.noConfusion k
 refine V3 ?_;refine eP (c.aK a.au) (h:=?_);refine Nz (Aj (i.aK a.au) f) (λx p _ d m=>?_);refine V1 ?_;exact⟨_,rfl,trivial,d.bf⟩
def Db {t:Type} {A:OA} {c k m:Nat} {s:t->LV} [jl s k] {l:List t} (h:aP w (.slice A l.length c) s k l) (q:m<=l.length):aP w (.slice A m c) s k (l.take m):=by
 obtain⟨i,j,e,⟨p,f⟩,g⟩:=h;injection e with b o d
 subst b d;have a:(l.take m).length=m:=by rw[zah];omega
 exact⟨A,c,by rw[a],⟨by rw[a];omega,f⟩,g.cut m⟩
def qy {l:List bF} (d:aP w v aL 7 l):aX Tryz.prog 16 [v] w λu f=>∃x,u=x/\True/\cO noB (aY 50 7 aL x (l.take 12)) w f:=by
 have a:=d;obtain⟨A,m,rfl,⟨i,e⟩,g⟩:=d;obtain⟨n,j⟩: ∃n:Nat,n=min l.length 12:=⟨_,rfl⟩;have k:min (l.length:Int) 12=(n:Int):=oM
 have b:l.take n=l.take 12:=by
  rcases Nat.le_total l.length 12 with h | h
  .rw[zaj oM,zaj h]
  rw[show n=12 from oM]
 have H:=Sep.aI w;refine dL Tryz.func16 ?_;refine V4 ?_;refine Vv (ah.abY rfl rfl k) (Vv (ah.sliceTo (h:=n) rfl rfl oM) ?_);refine Nz (qL (Db (m:=n) (a.aK H.au) oM) Io) (λx p _ c o=>?_);rw[b]at c;refine V1 ?_;exact⟨_,rfl,trivial,c.bf⟩
end
def mZ (c:aF):aF:=⟨c.null,c.n,c.s.take 200⟩
def OI (x:aH):aH:=⟨(x.row.take 12).map mZ,x.w⟩
def lX (l:List aH):List aH:=(l.take 10).map OI
def afM (s:L8) (k:Nat):s.take (s.take k).length=s.take k:=by
 rw[zah]
 rcases Nat.le_total k s.length with h | h
 .rw[zcf h]
 rw[Nat.min_eq_right h,zaj (zbk _),zaj h]
section
variable {w:Wd}
theorem vO {l:List aH} (hl:dM w v l):aX Tryz.prog 23 [v] w λu K=>∃x:Value×List fH,u=x.1/\x.2.map (·.2)=lX l/\cO noB (dB x.1 x.2) w K:=by
 obtain⟨r,hr,z⟩:=hl;obtain⟨A,m,rfl,⟨hm,Gj⟩,y⟩:=hr;have EO:=z.len;have H:=Sep.aI w;refine dL Tryz.func23 ?_;refine V3 ?_;refine aM (λx:(OA×Nat)×List fH×Nat=>[(0,.slice A r.length m),(3,.slice x.1.1 (aW x.2.1).length x.1.2),(4,I x.2.2)]) (λx K=>(x.2.2<=r.length/\x.2.2<=10/\x.2.1.map (·.2)=(l.take x.2.2).map OI)/\Mw.Sep w noB [aY 25 2 aD (.slice x.1.1 (aW x.2.1).length x.1.2) (aW x.2.1),lW x.2.1] K) (λx _=>r.length-x.2.2) ((none,0),[],0) tR ⟨⟨zai _,zai _,rfl⟩,Sep.gQ (bU H) 25 2⟩ (λx τ w5 hI=>?_);obtain⟨⟨R,cR⟩,L,i⟩:=x;obtain⟨⟨hi,E,D⟩,N⟩:=hI;dsimp only at hi E D N;have hLr:(aW L).length=L.length:=zae _
 have hLi:L.length=i:=by
  have h1:=zay List.length D;rw[zae,zae,zah]at h1;omega
 refine Lp ?_;refine Sz (λSa=>?_) (λSa=>?_)
 .refine Cz (λIe=>?_) (λIe=>?_)
  .have p:i<r.length:=oM
   obtain⟨o,X⟩:=aN (l:=l) (show i<l.length from oM);obtain⟨vo,q,Z⟩:=z.get X;obtain⟨V,cv,rfl,_,hV⟩:=Z;refine V2 ?_;refine aM (λx:(OA×Nat)×Nat=>[(0,.slice A r.length m),(3,.slice R (aW L).length cR),(4,I i),(5,.slice x.1.1 ((o.row.take x.2).map mZ).length x.1.2),(6,I x.2)]) (λx K=>(x.2<=o.row.length/\x.2<=12)/\Mw.Sep w noB [aY 48 3 aj (.slice x.1.1 ((o.row.take x.2).map mZ).length x.1.2) ((o.row.take x.2).map mZ),aY 25 2 aD (.slice R (aW L).length cR) (aW L),lW L] K) (λx _=>o.row.length-x.2) ((none,0),0) tR ⟨⟨zai _,zai _⟩,Sep.iX N 48 3 aj⟩ (λx τ wa hK=>?_);obtain⟨⟨Y,a⟩,k⟩:=x;obtain⟨⟨hk,G⟩,t⟩:=hK;dsimp only at hk G t;have hkl:((o.row.take k).map mZ).length=k:=by rw[zae,zah];omega
   refine Lp ?_;refine V3 ?_;refine Vv (ah.fT rfl rfl y p) (V1 ?_);refine Vv (ah.dY (f:=0) rfl t y q rfl) (Sz (λSb=>?_) (λSb=>?_))
   .refine Cz (λIf=>?_) (λIf=>?_)
    .have J:k<o.row.length:=oM
     obtain⟨c,hc⟩:=aN J;have W:(o.row.take k).map mZ++[mZ c]=(o.row.take (k+1)).map mZ:=by rw[zaq,hc,zan];rfl
     refine V2 ?_;refine Vv (ah.fT rfl rfl y p) (V1 ?_);refine Vv (ah.dY (f:=0) rfl t y q rfl) (Mv ?_);refine Vv (ah.fT rfl rfl hV J) (Vv (ah.iT rfl t hV hc) ?_);refine Az (λb7 wb Hb ka=>?_);refine Tz (λwc Hc=>?_);refine V5 ?_;refine Vv (ah.abY rfl rfl (Me c.s 200)) (Vv (ah.qP (l:=c.s) (i:=(c.s.take 200).length) rfl rfl Io) ?_);rw[afM];refine Vf ?_;refine Uz (λwd n=>?_);refine V1 ?_;refine gF n (cs:=aj (mZ c)) (h:=?_);refine Bs n ([mZ c].flatMap aj) (λQ we He kb=>?_);refine eH He (news:=[mZ c]) At1 kJ kM (dW (λ_=>rfl) _) (h:=?_);intro v5 wf O;rw[W]at O;obtain⟨Y2,T,rfl,_,_⟩:=Sep.bX O At1;refine V4 ?_;exact ak ((Y2,T),k+1) tR ⟨⟨dO,dO⟩,O.bN⟩ dO
    refine V4 ?_;refine Vv (ah.fT rfl rfl y p) (V1 ?_)
    have j:(o.row.take k).map mZ=(OI o).row:=by
     unfold OI;dsimp only
     first
     | rw[zaj (l:=o.row) (i:=k) oM,zaj (l:=o.row) (i:=12) oM]
     | rw[show k=12 from oM]
    refine Vv (ah.dY (f:=1) rfl t y q rfl) (Vb (aD (.slice Y ((o.row.take k).map mZ).length a,o.w)) ?_);refine Bs t ([(Value.slice Y ((o.row.take k).map mZ).length a,o.w)].flatMap aD) (λQ wg Hg kc=>?_);refine eH Hg (news:=[(Value.slice Y ((o.row.take k).map mZ).length a,o.w)]) At1 kJ kM (λu S=>zaz.1 (show([(Value.slice Y ((o.row.take k).map mZ).length a,o.w)].flatMap aD).all Value.oneCell'=true from rfl) u S) (h:=?_);intro v9 wh F;obtain⟨P,C,rfl,_,_⟩:=Sep.bX F At1;have b:=(iO (x:=.slice Y ((o.row.take k).map mZ).length a) (o:=⟨(o.row.take k).map mZ,o.w⟩) (F.aR.aJ)).aJ
    have d:aW L++[(Value.slice Y ((o.row.take k).map mZ).length a,o.w)]=aW (L++[(Value.slice Y ((o.row.take k).map mZ).length a,(⟨(o.row.take k).map mZ,o.w⟩:aH))]):=by
     unfold aW;rw[zan];rfl
    have g:(L++[(Value.slice Y ((o.row.take k).map mZ).length a,(⟨(o.row.take k).map mZ,o.w⟩:aH))]).map (·.2)=(l.take (i+1)).map OI:=by
     rw[zan,D,zaq,X,zan,j];rfl
    rw[d]at b ⊢;clear d
    generalize L++[(Value.slice Y ((o.row.take k).map mZ).length a,(⟨(o.row.take k).map mZ,o.w⟩:aH))]=L2 at b g |-
    refine V4 ?_;exact ak ((P,C),L2,i+1) tR ⟨⟨dO,dO,g⟩,b⟩ dO
   refine V5 ?_;refine Vv (ah.fT rfl rfl y p) (V1 ?_)
   have j:(o.row.take k).map mZ=(OI o).row:=by
    unfold OI;dsimp only
    first
    | rw[zaj (l:=o.row) (i:=k) oM,zaj (l:=o.row) (i:=12) oM]
    | rw[show k=12 from oM]
   refine Vv (ah.dY (f:=1) rfl t y q rfl) (Vb (aD (.slice Y ((o.row.take k).map mZ).length a,o.w)) ?_);refine Bs t ([(Value.slice Y ((o.row.take k).map mZ).length a,o.w)].flatMap aD) (λQ wi Hi kd=>?_);refine eH Hi (news:=[(Value.slice Y ((o.row.take k).map mZ).length a,o.w)]) At1 kJ kM (λu S=>zaz.1 (show([(Value.slice Y ((o.row.take k).map mZ).length a,o.w)].flatMap aD).all Value.oneCell'=true from rfl) u S) (h:=?_);intro v9 wj M;obtain⟨P,C,rfl,_,_⟩:=Sep.bX M At1;have b:=(iO (x:=.slice Y ((o.row.take k).map mZ).length a) (o:=⟨(o.row.take k).map mZ,o.w⟩) (M.aR.aJ)).aJ
   have d:aW L++[(Value.slice Y ((o.row.take k).map mZ).length a,o.w)]=aW (L++[(Value.slice Y ((o.row.take k).map mZ).length a,(⟨(o.row.take k).map mZ,o.w⟩:aH))]):=by
    unfold aW;rw[zan];rfl
   have g:(L++[(Value.slice Y ((o.row.take k).map mZ).length a,(⟨(o.row.take k).map mZ,o.w⟩:aH))]).map (·.2)=(l.take (i+1)).map OI:=by
    rw[zan,D,zaq,X,zan,j];rfl
   rw[d]at b ⊢;clear d
   generalize L++[(Value.slice Y ((o.row.take k).map mZ).length a,(⟨(o.row.take k).map mZ,o.w⟩:aH))]=L2 at b g |-
   refine V4 ?_;exact ak ((P,C),L2,i+1) tR ⟨⟨dO,dO,g⟩,b⟩ dO
  refine V2 ?_
  have e:(l.take i).map OI=lX l:=by
   unfold lX
   first
   | rw[zaj (l:=l) (i:=i) oM,zaj (l:=l) (i:=10) oM]
   | rw[show i=10 from oM]
  exact⟨(_,L),rfl,by dsimp only;rw[D,e],N.aZ.bf⟩
 refine V3 ?_
 have e:(l.take i).map OI=lX l:=by
  unfold lX
  first
  | rw[zaj (l:=l) (i:=i) oM,zaj (l:=l) (i:=10) oM]
  | rw[show i=10 from oM]
 exact⟨(_,L),rfl,by dsimp only;rw[D,e],N.aZ.bf⟩
end
def jr (l:List bH):List bH:=(l.take 70).map qH
section
variable {w:Wd}
def Eu {l:List bH} (y:aP w v aQ 3 l):aX Tryz.prog 53 [v] w λD f=>∃x,D=x/\True/\cO noB (aY 41 3 aQ x (jr l)) w f:=by
 obtain⟨A,m,rfl,⟨P,z⟩,O⟩:=y;have H:=Sep.aI w;refine dL Tryz.func53 ?_;refine V3 ?_;have a:=Sep.iX H 41 3 aQ;refine aM (λx:Nat×Value=>[(0,.slice A l.length m),(3,x.2),(4,I x.1)]) (λx f=>(x.1<=l.length/\x.1<=70)/\Mw.Sep w noB [aY 41 3 aQ x.2 ((l.take x.1).map qH)] f) (λx _=>l.length-x.1) (0,.slice none 0 0) tR ⟨⟨zai _,zai _⟩,a⟩ (λx u W t=>?_);obtain⟨i,V⟩:=x;obtain⟨⟨hi,b⟩,a⟩:=t;dsimp only at hi b a;have c:((l.take i).map qH).length=i:=by rw[zae,zah];omega
 refine Lp ?_;refine Sz (λS=>?_) (λS=>?_)
 .have p:=S
  refine Cz (λo=>?_) (λo=>?_)
  .have d:i<l.length:=oM
   obtain⟨x,C⟩:=aN d;have e:(l.take (i+1)).map qH=(l.take i).map qH++[qH x]:=by rw[zaq,C,zan];rfl
   refine Az (λK X G R=>?_);refine Tz (λY J=>?_);refine V5 ?_;refine Vv (ah.abY rfl rfl (Me x.s 1100)) (Vv (ah.qP (l:=x.s) (i:=(x.s.take 1100).length) rfl rfl Io) ?_);rw[Mf];refine Vf ?_;refine Uz (λZ g=>?_);refine V1 ?_;refine gF g (cs:=aQ (qH x)) (h:=?_);refine Bs g ([qH x].flatMap aQ) (λN n q T=>?_);refine eH q (news:=[qH x]) At1 (by rw[c];unfold maxLen;simp;omega) (by rw[c];show(i+1)*32<=_;omega) (dW (λ_=>rfl) _) (h:=?_);intro E r j;rw[<-e]at j;refine V4 ?_;exact ak (i+1,E) tR ⟨⟨dO,dO⟩,(j.aJ).firsts (l:=[_])⟩ dO
  have k:(l.take i).map qH=jr l:=by unfold jr;rw[show i=70 by have h:=o;omega]
  refine V2 ?_;exact⟨_,rfl,trivial,by rw[k]at a;exact a.bf⟩
 have k:(l.take i).map qH=jr l:=by unfold jr;rw[zaj (l:=l) (i:=i) (by have h:=S;omega),zaj (l:=l) (i:=70) (by have h:=S;omega)]
 refine V3 ?_;exact⟨_,rfl,trivial,by rw[k]at a;exact a.bf⟩
end
def pQ:List bF:=[⟨1,[],⟨2,false⟩,cell0⟩,⟨2,[],⟨4,true⟩,cell0⟩]
section
variable {w:Wd}
def Ap:aX Tryz.prog 7 [] w λu k=>∃x,u=x/\True/\cO noB (aY 50 7 aL x pQ) w k:=by
 have H:=Sep.aI w;refine Ut Tryz.func7 ?_;refine V1 ?_;refine Vb (aG ⟨2,false⟩) ?_;refine Vv (ah.build (out:=aL ⟨1,[],⟨2,false⟩,cell0⟩) (bQ.one rfl rfl rfl sM rfl (bQ.many rfl rfl (zbd rfl) rfl bQ.nil))) (Vb (aG ⟨4,true⟩) ?_);refine Vv (ah.build (out:=aL ⟨2,[],⟨4,true⟩,cell0⟩) (bQ.one rfl rfl rfl sM rfl (bQ.many rfl rfl (zbd rfl) rfl bQ.nil))) (Bs H (pQ.flatMap aL) (λb c h a=>?_));refine V1 ?_;exact⟨_,rfl,trivial,(Sep.nC (n:=2) (s:=7) h At0 rfl dC).bf⟩
end
def WX (s:L8):aF:=if s=[]then⟨true,0,[]⟩else⟨false,0,s⟩
def aaX (id:Int) (s:L8):List aF:=[⟨false,id,[]⟩,WX s]
section
variable {w:Wd}
def jg (id k:Int) (s:L8):aX Tryz.prog 4 [I id,str s,I k] w λu j=>∃x:Value,u=agg (aD (x,k))/\True/\cO noB (aY 48 3 aj x (aaX id s)) w j:=by
 have H:=Sep.aI w;refine AB Tryz.func4 ?_;refine Az (λq D l y=>?_);refine V1 ?_;refine Vb (aj ⟨false,0,s⟩) ?_;refine Az (λt E m z=>?_);refine Tz (λG a=>?_);refine Cz (λc=>?_) (λc=>?_)
 .have e:s=[]:=c
  have f:WX s=⟨true,0,[]⟩:=zac e;refine V0 ?_;refine Vb (aj ⟨true,0,[]⟩) ?_;refine Tz (λJ b=>?_);refine V1 ?_;rw[<-f]at b;refine Vb (aj ⟨false,id,[]⟩) ?_;refine gF b (cs:=aj (WX s)) (h:=?_);refine Bs b ((aaX id s).flatMap aj) (λd K o A=>?_);refine Mv ?_;refine Vb (aD (.slice (some ⟨d,0,none⟩) 2 2,k)) ?_;refine Tz (λN g=>?_);refine V0 ?_;exact⟨_,gT g,_,rfl,trivial,(Sep.nC (n:=2) (s:=3) g At0 rfl dC).first.bf⟩
 have e: ¬s=[]:=c;have f:WX s=⟨false,0,s⟩:=zab e;refine V1 ?_;rw[<-f]at a;refine Vb (aj ⟨false,id,[]⟩) ?_;refine gF a (cs:=aj (WX s)) (h:=?_);refine Bs a ((aaX id s).flatMap aj) (λd O p C=>?_);refine Mv ?_;refine Vb (aD (.slice (some ⟨d,0,none⟩) 2 2,k)) ?_;refine Tz (λP i=>?_);refine V0 ?_;exact⟨_,gT i,_,rfl,trivial,(Sep.nC (n:=2) (s:=3) i At0 rfl dC).first.bf⟩
end
def AY (o:mF):mF:=⟨o.name.take 40,jr o.steps⟩
def sS (p:aU):aU:=⟨jr p.wh,(p.cols.take 18).map AY,p.group⟩
abbrev zk:=Value×mF
def ng (L:List zk):List (L8×Value):=L.map λb=>(b.2.name,b.1)
abbrev Nb (L:List zk):HP:=xg 41 3 aQ (·.1) (λb=>b.2.steps) L
def Nc (vw vc:Value) (s:List bH) (L:List zk):HP:=dx (aY 41 3 aQ vw s) (dx (aY 43 2 dV vc (ng L)) (Nb L))
def Qv: ∀{L:List zk} {F:NP} {w:Wd},(Nb L).ok F w->∀b∈L,aP w b.1 aQ 3 b.2.steps
 | [],_,_,_=>λ_ h=>zas h zal
 | b::L,F,w,h=>by
  obtain⟨e,f,_,_,a,d⟩:=h;intro c k
  rcases zax.1 k with rfl | k
  .exact nH a
  exact Qv d c k
def WY {F:NP} {w:Wd} {q v:Value} {s:List bH} {L:List zk} (g:Int) (h:(Nc q v s L).ok F w):fK w (agg [q,v,I g]) ⟨s,L.map (·.2),g⟩:=by
 obtain⟨j,l,_,_,d,m,p,_,_,e,f⟩:=h;refine⟨q,v,rfl,nH d,ng L,nH e,?_,λi x o k a=>?_⟩
 .unfold ng
  rw[zdn,zdn];rfl
 unfold ng at k;rw[zbw]at k a
 obtain⟨b,c⟩: ∃b,L[i]? =some b:=by
  cases c:L[i]? with
  | none=>rw[c]at k;cases k
  | some b=>exact⟨b,rfl⟩
 rw[c]at k a;injection k with k
 injection a with a
 subst k;subst a;exact Qv f b (zag c)
section
variable {w:Wd}
theorem xQ {p:aU} (hp:fK w v p):aX Tryz.prog 17 [v] w λv' K=>∃x:Value×Value×List zk,v'=agg [x.1,x.2.1,I p.group]/\x.2.2.map (·.2)=(sS p).cols/\cO noB (Nc x.1 x.2.1 (sS p).wh x.2.2) w K:=by
 obtain⟨vw,vc,rfl,n,r,hr,j⟩:=hp;obtain⟨A,m,rfl,⟨hm,Gj⟩,hA⟩:=hr;obtain⟨W,L,rfl,_,_⟩:=id n;have EO:=j.len;have H:=Sep.aI w;refine pI Tryz.func17 ?_;refine Sr (bK H (cs:=[.slice W p.wh.length L,.slice A r.length m,I p.group]) rfl (h:=λO w2 H2 k1=>?_));refine Az (λP w4 H4 k3=>?_);refine Qn (dU (λz:Nat×OA×Nat=>[(1,aC O),(2,aC P),(3,aC z.1)]) (λz K=>Mw.Sep w noB [aY 41 3 aQ (.slice z.2.1 (jr p.wh).length z.2.2) (jr p.wh),blk z.1 [.slice z.2.1 (jr p.wh).length z.2.2,.slice none 0 0,I p.group] 32,blk P [.slice none 0 0,.slice none 0 0,I 0] 32,blk O [.slice W p.wh.length L,.slice A r.length m,I p.group] 32] K) ?_ ?_)
 .refine Dz (λk w8 T=>?_)
  refine V2 ?_;refine Gp k 3 rfl rfl (λ_=>(ah.yt rfl)) (V1 ?_);refine jw k (e1:=2) (e2:=6) kR ?_ ?_
  .refine jS k 2 [(4,false),(3,true)] T (Eu (n.aK T.au)) (h:=λvx wa _ M ka=>?_)
   obtain⟨X,d,rfl,_,_⟩:=Sep.bX M At0;refine⟨sL,?_⟩;refine Gb k 5 [.slice X (jr p.wh).length d,.slice none 0 0,I p.group] ?_;refine rX k 6 [(5,true),(4,false),(3,true)] M (h:=λt wb Hb=>⟨sL,?_⟩);refine cu k 7 _ Hb (h:=λwc Q=>⟨sT,?_⟩);refine V0 ?_;exact aA (t,X,d) tR (by first | exact Q | exact Q.aJ)
  refine jR k 6 [(4,false),(3,true),(1,false),(0,true)] T (h:=λt wd Hd=>⟨sL,?_⟩);refine dF k 2 [(4,false),(3,true)] Hd (Eu (n.aK Hd.au)) (h:=λvx we _ He kb=>?_);obtain⟨X,d,rfl,_,_⟩:=Sep.bX He At0;refine⟨sL,?_⟩;refine Gb k 5 [.slice X (jr p.wh).length d,.slice none 0 0,I p.group] ?_;refine cu k 7 _ He (h:=λwf Hf=>⟨sT,?_⟩);refine V0 ?_;exact aA (t,X,d) tR (by first | exact Hf | exact Hf.aJ)
 rintro⟨t,X,d⟩ τ wg Hg;dsimp only at Hg;refine Lp ?_;refine V2 ?_;have y:=Sep.abh (Sep.iX Hg 43 2 dV) 41 3 aQ (λb:zk=>b.1) (λb=>b.2.steps);refine aM (λx:Nat×(OA×Nat)×List zk=>[(1,aC O),(2,aC P),(3,aC t),(4,.slice x.2.1.1 (ng x.2.2).length x.2.1.2),(5,I x.1)]) (λx K=>(x.1<=r.length/\x.1<=18/\(ng x.2.2).length=x.1/\x.2.2.map (·.2)=(p.cols.take x.1).map AY)/\Mw.Sep w noB [Nb x.2.2,aY 43 2 dV (.slice x.2.1.1 (ng x.2.2).length x.2.1.2) (ng x.2.2),aY 41 3 aQ (.slice X (jr p.wh).length d) (jr p.wh),blk t [.slice X (jr p.wh).length d,.slice none 0 0,I p.group] 32,blk P [.slice none 0 0,.slice none 0 0,I 0] 32,blk O [.slice W p.wh.length L,.slice A r.length m,I p.group] 32] K) (λx _=>r.length-x.1) (0,(none,0),[]) tR ⟨⟨zai _,zai _,rfl,rfl⟩,y⟩ (λx τ wi hI=>?_);obtain⟨i,⟨C,R⟩,q⟩:=x;obtain⟨⟨hi,D,e,a⟩,y⟩:=hI;dsimp only at hi D e a y;refine Lp ?_;refine Sz (λN=>?_) (λN=>?_)
 .have amf:=N
  refine Cz (λIe=>?_) (λIe=>?_)
  .have E:i<p.cols.length:=oM
   obtain⟨vx,F,J⟩:=j.at E;have G:p.cols[i]? =some p.cols[i]:=zaa E;obtain⟨o,ho⟩: ∃o,o=p.cols[i]:=⟨_,rfl⟩;rw[<-ho]at F J G;have Z:(p.cols.take (i+1)).map AY=(p.cols.take i).map AY++[AY o]:=by rw[zaq,G,zct,zan];rfl
   refine Dz (λS wj Hi=>?_);refine V14 ?_;refine Gp S 14 rfl rfl (λ_=>(ah.abY rfl rfl (Me o.name 40))) (Gp S 15 rfl rfl (λ_=>(ah.qP (l:=o.name) (i:=(o.name.take 40).length) rfl rfl Io)) ?_);refine V6 ?_;refine dF S 22 [(15,true),(14,true),(13,true),(12,false),(11,true),(10,true),(9,true),(8,false),(7,true),(6,false),(5,true),(4,true),(3,true),(2,false),(1,true),(0,true)] Hi (Eu (J.aK Hi.au)) (h:=λvy wk _ s kc=>?_);obtain⟨Y,g,rfl,_,_⟩:=Sep.bX s At0;refine⟨av (av (av ((bE rfl kR (ah.dY (f:=0) rfl s hA F rfl) rfl (av (av (av (jG s (h:=av ((bE rfl kR (ah.dY (f:=0) rfl s hA F rfl) rfl (av (av (av (jG s (h:=av (av (dw)))))))))))))))))),?_⟩;refine Gb S 23 (dV (o.name.take (o.name.take 40).length,.slice Y (jr o.steps).length g)) ?_;refine Gz S 24 _ s ([(o.name.take (o.name.take 40).length,Value.slice Y (jr o.steps).length g)].flatMap dV) (h:=λbs wl Hk=>⟨sT,?_⟩);rw[Mf]at Hk;refine gZ S 25 _ Hk (news:=[(o.name.take 40,Value.slice Y (jr o.steps).length g)]) At2 kP kN (λu hu=>zaz.1 (show([(o.name.take 40,Value.slice Y (jr o.steps).length g)].flatMap dV).all Value.oneCell'=true from rfl) u hu) (h:=λv2 wm V=>?_);rw[show ng q++[(o.name.take 40,Value.slice Y (jr o.steps).length g)]=ng (q++[(Value.slice Y (jr o.steps).length g,AY o)]) by unfold ng;rw[zan];rfl]at V;obtain⟨C2,c2,rfl,_,_⟩:=Sep.bX V At2;refine⟨sT,?_⟩
   refine rA S 26 _ (h:=⟨sT,?_⟩);refine V3 ?_;exact ak (i+1,(C2,c2),q++[(Value.slice Y (jr o.steps).length g,AY o)]) ⟨rfl,rfl,rfl,rfl,by dsimp only;unfold ng;rw[zan];rfl,trivial⟩ ⟨⟨dO,dO,by dsimp only;unfold ng at e ⊢;rw[zae]at e ⊢;rw[zad,e];rfl,by dsimp only;rw[zan,a,Z];rfl⟩,Sep.XG (x:=(Value.slice Y (jr o.steps).length g,AY o)) V⟩ dO
  have c:(p.cols.take i).map AY=(sS p).cols:=by rw[show i=18 by have h:=Ie;omega];rfl
  refine V2 ?_;refine sO (v:=.slice C (ng q).length R) y (hy:=rfl) (h:=λwn Hm=>?_);refine Tz (λwo Hn=>?_);refine V0 ?_;rw[c]at a;exact⟨_,gT Hn,(.slice X (jr p.wh).length d,.slice C (ng q).length R,q),rfl,a,Hn.aJ.aZ.aJ.aZ.first.bf⟩
 have c:(p.cols.take i).map AY=(sS p).cols:=by
  show _=(p.cols.take 18).map AY
  rw[zaj (l:=p.cols) (i:=i) (by have h:=N;omega),zaj (l:=p.cols) (i:=18) (by have h:=N;omega)]
 refine V3 ?_;refine sO (v:=.slice C (ng q).length R) y (hy:=rfl) (h:=λwp Ho=>?_);refine Tz (λwq Hp=>?_);refine V0 ?_;rw[c]at a;exact⟨_,gT Hp,(.slice X (jr p.wh).length d,.slice C (ng q).length R,q),rfl,a,Hp.aJ.aZ.aJ.aZ.first.bf⟩
def vP {p:aU} (d:fK w v p):aX Tryz.prog 17 [v] w λg a=>∃x,g=x/\True/\cO noB (y7 x (sS p)) w a:=
 aX.mono (xQ d) λu a h=>by
  obtain⟨⟨j,i,L⟩,rfl,k,c,b,e,f⟩:=h;refine⟨_,rfl,trivial,c,b,HP.look e λF w h=>?_,f⟩;have:=WY p.group h
  rwa [show(⟨(sS p).wh,L.map (·.2),p.group⟩:aU)=sS p by dsimp only at k;rw[k];rfl]at this
end
end
variable {w0 w:Wd} {S:NP} {rs:List HP} {L M:List fH} {u v:Value}
def WZ (H:Mw.Sep w0 S (lW L::lW M::rs) w):Mw.Sep w0 S (lW (L++M)::rs) w:=by
 refine Sep.imp H.aZ At0 λF h=>?_;show(jA ((L++M).map _)).ok F w
 rw[zan];exact zH.1 h
def DY {ρ:Od->Value} {ty:Td} {x y:Od} (H:Mw.Sep w0 S (dB u M::dB v L::rs) w) (p:ρ x=v) (q:ρ y=u) (A:L.length+M.length<=1000000):
    ∃k a,ah prog ρ (.call {callee:=.builtin .append,args:= #[x,y],argTypes:= #[27,27]}) ty w k a/\Mw.Sep w0 S (dB k (L++M)::rs) a:=by
  have b:=H.bW;have h: ∀z∈(aW M).flatMap aD,z.oneCell'=true:=uE (oG b At1);obtain⟨U,s,rfl,_,l⟩:=Sep.bX b At0;have f:=b.aR.bW;have c:(aW L).length=L.length:=zae _;have d:(aW M).length=M.length:=zae _;obtain⟨k,a,m,o⟩:=Ai (P:=prog) (ρ:=ρ) (ty:=ty) (x:=x) (y:=y) (t:=27) (e:=25) f p q At0 l h dC rfl (by rw[c,d];unfold maxLen;omega) (by rw[c,d];omega);refine⟨k,a,m,?_⟩;have i:=WZ (o.aR.bN.aJ.aR.aJ);have j:=i.aJ;unfold dB aY;have g:aW (L++M)=aW L++aW M:=zan;rw[g,zad,zbu];exact j.aZ
variable {r:Option Nat} {n:Nat} {ops:AO} {Q:Post} {rest:LO} {σ:St} {ty:Td} {pos:String} {after:Array Edge} {guard:Option (Nat×Bool)} {lv:List Bool} {pd:LNB}
def Zi {d:Nat} {x y:Od} (H:Mw.Sep w0 S (dB u M::dB v L::rs) w) (e:L.length+M.length<=1000000) (g:evF σ x=v:=by exact rfl) (i:evF σ y=u:=by exact rfl) (b:Nat.blt d n=true:=by exact rfl)
    (h: ∀k a,Mw.Sep w0 S (dB k (L++M)::rs) a->FL prog r n ops Q rest (upd σ d k) a):
    FL prog r n ops Q (⟨some d,.call {callee:=.builtin .append,args:= #[x,y],argTypes:= #[27,27]},ty,pos,after,none⟩::rest) σ w:=by
  obtain⟨k,a,c,f⟩:=DY (ty:=ty) H g i e;exact eu c b (h k a f)
def Dc (b:eY n ops=true) (i:Nat) (k:LNB) {d:Nat} {x y:Od} (H:Mw.Sep w0 S (dB u M::dB v L::rs) w) (g:L.length+M.length<=1000000)
    (j:ops[i]? =some ⟨some d,.call {callee:=.builtin .append,args:= #[x,y],argTypes:= #[27,27]},ty,pos,after,guard⟩:=by exact rfl)
    (l:Region.wanted ⟨some d,.call {callee:=.builtin .append,args:= #[x,y],argTypes:= #[27,27]},ty,pos,after,guard⟩ (dG ops σ)=true:=by kernel_rfl)
    (m:evF σ x=v:=by exact rfl) (o:evF σ y=u:=by exact rfl)
    (a:gy ops lv (pd.map (·.1)) i=true:=by kernel_rfl) (c:pd.filter (λp=> !((above ops i).contains p.1))=k:=by exact pD)
    (h: ∀e f,Mw.Sep w0 S (dB e (L++M)::rs) f->jK prog ops (upd σ d e) f k/\FG prog r n ops Q (lv.set i true) k (upd σ d e) f):FG prog r n ops Q lv pd σ w:=
  vJ b i k j l (DY (ty:=ty) H m o g) a c h
end Go.Proofs.Mw
