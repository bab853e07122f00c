/-
 The document's products and sums of products,walked.
-/
import Derived.Test.YtjcgliljofbopaaGreatDoorNv19
set_option linter.all false
set_option maxRecDepth 4000
namespace Go.Proofs.Mw
open Go.Lib Go.Proofs.Tryz
section
attribute [local irreducible] FW FL FG FGn jK jO fI lU Qfn Gives
def pw:Nat->Int
 | 0=>1
 | 1=>4294967296
 | _=>18446744073709551616
def pt (n:Int) (i:Nat):Int:=n%pw i
def abw {n:Int} (h0:0<=n) (h1:n<18446744073709551616) {i:Nat} (hi:i<2):pt n (i+1)=pt n i+dgt n i*pw i:=by
 have e0:dgt n 0=n%4294967296:=rfl;have e1:dgt n 1=n/4294967296%4294967296:=rfl
 rcases (by omega :i=0\/i=1)with rfl | rfl
 .show n%4294967296=n%1+dgt n 0*1;omega
 show n%18446744073709551616=n%4294967296+dgt n 1*4294967296;omega
def agw {n:Int} (h0:0<=n) (h1:n<18446744073709551616):pt n 2=n:=by show n%18446744073709551616=n;omega
def abx (n:Int):pt n 0=0:=by show n%1=0;omega
def ajg {p:Int} (h0:0<=p) (h1:p<18446744073709551616) {i k:Nat} (hi:i<2) (hk:k<2):
    ((usC [0,0,0,0,0,0]).set (i+k) (U (p%4294967296))).set (i+k+1) (U (p/4294967296))=iG (p*(pw i*pw k)):=by
  have e: ∀n:Int,iG n=[U (n%4294967296),U (n/4294967296%4294967296),U (n/4294967296/4294967296%4294967296),U (n/4294967296/4294967296/4294967296%4294967296),U (n/4294967296/4294967296/4294967296/4294967296%4294967296),U (n/4294967296/4294967296/4294967296/4294967296/4294967296%4294967296)]:=λn=>rfl;rw[e]
  rcases (by omega :i=0\/i=1)with rfl | rfl<;>rcases (by omega :k=0\/k=1)with rfl | rfl
  . show [U (p%4294967296),U (p/4294967296),U 0,U 0,U 0,U 0]=_
    simp only[pw]
    congr 6<;>first | rfl | (congr 1;omega)
  . show [U 0,U (p%4294967296),U (p/4294967296),U 0,U 0,U 0]=_
    simp only[pw]
    congr 6<;>first | rfl | (congr 1;omega)
  . show [U 0,U (p%4294967296),U (p/4294967296),U 0,U 0,U 0]=_
    simp only[pw]
    congr 6<;>first | rfl | (congr 1;omega)
  show [U 0,U 0,U (p%4294967296),U (p/4294967296),U 0,U 0]=_
  simp only[pw]
  congr 6<;>first | rfl | (congr 1;omega)
section
variable {w:Wd}
theorem QH (a b:Int) (ha:fits a) (hb:fits b):Rk prog 152 [I a,I b] w (agg (iG (a*b))):=by
  have H:=Sep.aF w;obtain⟨A,hA⟩: ∃A,A=if a<0 then -a else a:=⟨_,rfl⟩
  obtain⟨B,hB⟩: ∃B,B=if b<0 then -b else b:=⟨_,rfl⟩
  have hA1:0<=A/\A<18446744073709551616:=by have h1:=ha.1;have h2:=ha.2;rw[hA];split<;>omega
  have hB1:0<=B/\B<18446744073709551616:=by have h1:=hb.1;have h2:=hb.2;rw[hB];split<;>omega
  refine sQ func152 ?_;refine Az (λb4 w2 H2 k1=>?_);refine Kz (FJ a ha) (λw5 H5 k4=>?_);refine Mv ?_;refine Kz (FJ b hb) (λw8 H8 k7=>?_);refine Az (λb5 wa Ha k9=>?_);refine Az (λb6 wb Hb ka=>?_);refine iy Hb (us:=iG a) (h:=λwc Hc=>?_);refine iy Hc (us:=iG b) (h:=λwd Hd=>?_);refine Qn (dD (λ_:Unit=>[(0,I a),(1,I b),(4,ay b4),(5,ay b5),(6,ay b6)]) (λ_ w'=>Sep w noB [blk b6 (iG b) 238,blk b5 (iG A) 238,blk b4 (usC [0,0,0,0,0,0]) 238] w') ?_ ?_)
  . refine Cz (λIe=>?_) (λIe=>?_)
    . have Ym:=Ie
      refine Kz (Je a) (λwe He kb=>?_);rw[show iG (-a)=iG A from by rw[hA,zac Ym]];refine iy He (us:=iG A) (h:=λwf Hf=>?_);refine Zb0 ?_;exact au () tR Hf
    rw[show iG a=iG A from by rw[hA,zab Ie]]at Hd;refine Zb0 ?_;exact au () tR Hd
  rintro⟨⟩ τ wg Hg;refine Lp ?_;refine dD (λ_:Unit=>[(0,I a),(1,I b),(4,ay b4),(5,ay b5),(6,ay b6)]) (λ_ w'=>Sep w noB [blk b6 (iG B) 238,blk b5 (iG A) 238,blk b4 (usC [0,0,0,0,0,0]) 238] w') ?_ ?_
  . refine Cz (λIf=>?_) (λIf=>?_)
    . have Ym:=If
      refine Kz (Je b) (λwh Hh kc=>?_);rw[show iG (-b)=iG B from by rw[hB,zac Ym]];refine iy Hh (us:=iG B) (h:=λwi Hi=>?_);refine Zb0 ?_;exact au () tR Hi
    rw[show iG b=iG B from by rw[hB,zab If]]at Hg;refine Zb0 ?_;exact au () tR Hg
  rintro⟨⟩ τ wj Hj;refine Lp ?_;refine Az (λb7 wk Hk kd=>?_);refine Zb1 ?_;refine aI (λi:Nat=>[(0,I a),(1,I b),(4,ay b4),(5,ay b5),(6,ay b6),(7,ay b7),(8,I i)]) (λi w'=>i<=2/\Sep w noB [blk b7 (iG (pt A i*B)) 238,blk b6 (iG B) 238,blk b5 (iG A) 238,blk b4 (usC [0,0,0,0,0,0]) 238] w') (λi _=>2-i) 0 tR ⟨zak _,by rw[abx,Int.zero_mul];exact Hk⟩ (λi τ wl hI=>?_);obtain⟨hi,Hl⟩:=hI;refine Lp ?_;refine Cz (λIg=>?_) (λIg=>?_)
  . have JR:i<2:=oM
    have hps:=abw hA1.1 hA1.2 JR;have hda:=ny A i;refine Zb1 ?_;refine aI (λk:Nat=>[(0,I a),(1,I b),(4,ay b4),(5,ay b5),(6,ay b6),(7,ay b7),(8,I i),(9,I k)]) (λk w'=>k<=2/\Sep w noB [blk b7 (iG (pt A i*B+dgt A i*pw i*pt B k)) 238,blk b6 (iG B) 238,blk b5 (iG A) 238,blk b4 (usC [0,0,0,0,0,0]) 238] w') (λk _=>2-k) 0 tR ⟨zak _,by rw[abx,Int.mul_zero,zgf];exact Hl⟩ (λk τ wm hI=>?_);obtain⟨hk,Hm⟩:=hI;refine Lp ?_;refine Cz (λIh=>?_) (λIh=>?_)
    . have hk2:k<2:=oM
      have hpb:=abw hB1.1 hB1.2 hk2;have hdb:=ny B k
      have hp:0<=dgt A i*dgt B k/\dgt A i*dgt B k<18446744073709551616:=by
        have h1:=Int.mul_nonneg hda.1 hdb.1;have h2:dgt A i*dgt B k<=4294967295*4294967295:=Int.mul_le_mul oM oM hdb.1 dC;omega
      refine Dz (λSa wn Hn=>?_);refine Zb1 ?_;refine Gp Sa 1 rfl rfl (λ_=>(Gives.jV rfl rfl oM)) (vB Sa 2 Hn (hv:=oG A oM) (h:=?_));refine Zb1 ?_;refine Gp Sa 4 rfl rfl (λ_=>(Gives.jV rfl rfl oM)) (vB Sa 5 Hn (hv:=oG B oM) (h:=?_));refine GS (Gn rfl (λ_=>Gives.an1 (c:=dgt A i*dgt B k) rfl rfl (by rw[IntKind.wrap_u64];omega)) ?_);refine Az (λb11 wo Ho ke=>?_);refine Zb2 ?_;refine Vc ((i+k:Nat):Int) ?_;refine Mv ?_;refine Vv (Gives.ajR (c:=dgt A i*dgt B k%4294967296) rfl rfl dC (by rw[zes hp.1])) ?_;refine Vv (Gives.jV rfl rfl oM) (rY Ho (cs':=(usC [0,0,0,0,0,0]).set (i+k) (U (dgt A i*dgt B k%4294967296))) (ho:=Ul (by show 0+(i+k)*1<6;omega)) (hs:=by rw[zcz,zfd];rfl) (h:=λwp Hp=>?_));refine Zb2 ?_;refine Vc ((i+k:Nat):Int) ?_;refine Vc ((i+k+1:Nat):Int) ?_;refine Mv ?_;refine Vv (Gives.ajQ (c:=dgt A i*dgt B k/4294967296) rfl rfl dC (by rw[IntKind.wrap_u64,zet hp.1];omega)) ?_;refine Vv (Gives.jV rfl rfl oM) (rY Hp (cs':=iG (dgt A i*dgt B k*(pw i*pw k))) (ho:=Ul (by rw[zdx];show 0+(i+k+1)*1<6;omega)) (hs:=by rw[zcz,zfd];exact ajg hp.1 hp.2 JR hk2) (h:=λwq Hq=>?_));refine Kz (Jd _ _) (λwr Hr kf=>?_);refine iy Hr (us:=iG (pt A i*B+dgt A i*pw i*pt B k+dgt A i*dgt B k*(pw i*pw k))) (h:=λws Hs=>?_);refine Zb1 ?_;refine Vc ((k+1:Nat):Int) ?_;refine Zb1 ?_
      have e:pt A i*B+dgt A i*pw i*pt B k+dgt A i*dgt B k*(pw i*pw k)=pt A i*B+dgt A i*pw i*pt B (k+1):=by
        rw[hpb,Int.mul_add,Int.add_assoc]
        congr 2
        rw[Int.mul_assoc,Int.mul_assoc,Int.mul_left_comm (dgt B k)]
      rw[e]at Hs;exact aj (k+1) tR ⟨oM,Hs.bH⟩ oM
    have h2:k=2:=oM;subst h2;rw[agw hB1.1 hB1.2,<-Int.add_mul,<-hps]at Hm;refine Zb1 ?_;refine Vc ((i+1:Nat):Int) ?_;refine Zb1 ?_;exact aj (i+1) tR ⟨oM,Hm⟩ oM
  have h2:i=2:=oM;subst h2;rw[agw hA1.1 hA1.2]at Hl;refine Za5 ?_;refine Qn (Cd rfl (λIi=>?_) (λIi=>?_))
  . have hs: -(A*B)=a*b:=by
      have hc:=Ii;rw[hA,hB]
      by_cases h1:a<0<;>by_cases h2:b<0<;>simp only[h1,h2,if_true,if_false,decide_true,decide_false,Int.neg_mul,Int.mul_neg,Int.neg_neg]at hc |- <;>simp at hc
    refine Kz (Je (A*B)) (λwt Ht kg=>?_);rw[hs];refine iy Ht (us:=iG (a*b)) (h:=λwu Hu=>?_);refine Zb0 ?_;exact⟨_,fB Hu,rfl,Hu.kept⟩
  have hs:A*B=a*b:=by
    have hc:=Ii;rw[hA,hB]
    by_cases h1:a<0<;>by_cases h2:b<0<;>simp only[h1,h2,if_true,if_false,decide_true,decide_false,Int.neg_mul,Int.mul_neg,Int.neg_neg]at hc |- <;>simp at hc
  rw[hs]at Hl;refine Zb1 ?_;refine iy Hl (us:=iG (a*b)) (h:=λwv Hv=>?_);refine Zb0 ?_;exact⟨_,fB Hv,rfl,Hv.kept⟩
def O8 (x y:Int):Int:=if x<y then -1 else if y<x then 1 else 0
def QI (x y:Int) (hx1: -3138550867693340381917894711603833208051177722232017256448<=x) (hx2:x<3138550867693340381917894711603833208051177722232017256448) (hy1: -3138550867693340381917894711603833208051177722232017256448<=y) (hy2:y<3138550867693340381917894711603833208051177722232017256448):
    Rk prog 224 [agg (iG x),agg (iG y)] w (I (O8 x y)):=by
  have H:=Sep.aF w;obtain⟨h6x,h5x⟩:=aa6 hx1 hx2;obtain⟨h6y,h5y⟩:=aa6 hy1 hy2;have auH:=ny x 5;have auI:=ny y 5;refine bQ func224 ?_;refine Sr (bB H (cs:=iG x) rfl (h:=λb2 w2 H2 k1=>?_));refine bB H2 (cs:=iG y) rfl (h:=λb3 w4 H4 k3=>?_);refine Dz (λakn w8 H8=>?_);refine Gp akn 0 rfl rfl (λ_=>(Gives.jV (i:=5) rfl rfl oM)) (vB akn 1 H8 (hv:=oG x dC) (h:=?_));refine Zb1 ?_;refine Gp akn 3 rfl rfl (λ_=>(Gives.jV (i:=5) rfl rfl oM)) (vB akn 4 H8 (hv:=oG y dC) (h:=?_));refine Za6 ?_;refine Qn (Cd rfl (λIe=>?_) (λIe=>?_))
  . have hd: ¬(x<0↔y<0):=by
      have hc:=Ie;intro he;rw[<-h5x,<-h5y]at he
      by_cases c1:2147483648<=dgt x 5<;>by_cases c2:2147483648<=dgt y 5<;>simp[c1,c2]at hc he
    refine Cz (λIf=>?_) (λIf=>?_)
    . have h0:x<0:=h5x.1 (by have:=If;omega)
      refine Zb1 ?_;exact⟨by unfold O8;rw[zac oM];rfl,H8.kept⟩
    have h0: ¬x<0:=λh=>If (by have:=h5x.2 h;omega);refine Zb1 ?_;exact⟨by unfold O8;rw[zab oM,zac oM];rfl,H8.kept⟩
  have h6:shl x 6=shl y 6:=by
    have hc:=Ie;simp only[Bool.not_eq_false',beq_iff_eq,zbf]at hc;rw[h5x,h5y]at hc;rw[h6x,h6y]
    by_cases h:x<0
    . rw[zac h,zac (hc.1 h)]
    rw[zab h,zab λh2=>h (hc.2 h2)]
  refine Zb1 ?_;refine aI (λn:Nat=>[(2,ay b2),(3,ay b3),(7,I ((n:Int)-1))]) (λn w'=>(n<=6/\shl x n=shl y n)/\Sep w noB [blk b3 (iG y) 238,blk b2 (iG x) 238] w') (λn _=>n) 6 tR ⟨⟨zbj _,h6⟩,H8⟩ (λn τ wa hI=>?_);obtain⟨⟨hn,hs⟩,Ha⟩:=hI;refine Lp ?_;refine Cz (λIg=>?_) (λIg=>?_)
  . obtain⟨m,rfl⟩: ∃m,n=m+1:=⟨n-1,oM⟩
    have hm6:m<6:=oM;have e:((m+1:Nat):Int)-1=(m:Int):=oM;rw[e];refine Dz (λSa wb Hb=>?_);refine Zb1 ?_;refine Gp Sa 1 rfl rfl (λ_=>(Gives.jV rfl rfl oM)) (vB Sa 2 Hb (hv:=oG x hm6) (h:=?_));refine Zb1 ?_;refine Gp Sa 4 rfl rfl (λ_=>(Gives.jV rfl rfl oM)) (vB Sa 5 Hb (hv:=oG y hm6) (h:=?_));refine Za1 ?_;refine fK Sa kR ?_;refine Cz (λIh=>?_) (λIh=>?_)
    . have aS:x<y:=afo hs Ih
      refine Zb1 ?_;exact⟨by unfold O8;rw[zac aS];rfl,Hb.kept⟩
    have hge:=Ih;refine Dz (λSb wc Hc=>?_);refine Zb1 ?_;refine Gp Sb 1 rfl rfl (λ_=>(Gives.jV rfl rfl oM)) (vB Sb 2 Hc (hv:=oG x hm6) (h:=?_));refine Zb1 ?_;refine Gp Sb 4 rfl rfl (λ_=>(Gives.jV rfl rfl oM)) (vB Sb 5 Hc (hv:=oG y hm6) (h:=?_));refine Za1 ?_;refine fK Sb kR ?_;refine Cz (λIi=>?_) (λIi=>?_)
    . have hgt:y<x:=afo hs.symm Ii
      refine Zb1 ?_;exact⟨by unfold O8;rw[zab oM,zac hgt];rfl,Hc.kept⟩
    have rG:=Ii;refine Zb1 ?_;refine Vc ((m:Int)-1) ?_;refine Zb1 ?_;exact aj m tR ⟨⟨oM,alu hs oM⟩,Hc⟩ oM
  have za:n=0:=oM;subst za;have hxy:x=y:=hs;refine Zb1 ?_;exact⟨by unfold O8;rw[zab oM,zab oM];rfl,Ha.kept⟩
def QJ (v:Int) (h1: -3138550867693340381917894711603833208051177722232017256448<=v) (h2:v<3138550867693340381917894711603833208051177722232017256448):
    Rk prog 153 [agg (iG v)] w (.tuple #[I (if aW v=true then v else 0),I (if aW v=true then 0 else 50)]):=by
  have H:=Sep.aF w;have D6:=ny v 0;have EL:=ny v 1;have e0:dgt v 0=v%4294967296:=rfl;have e1:dgt v 1=v/4294967296%4294967296:=rfl;refine cK func153 ?_;refine Sr (bB H (cs:=iG v) rfl (h:=λb1 _ _ _=>?_));refine Dz (λk _ S=>?_);refine jM k 0 S (cs:=iG v) (h:=?_);refine dB k 1 [(0,false)] S (FJ (-9223372036854775808) ⟨dC,dC⟩) (h:=λ_ S _=>⟨sU,?_⟩);refine dB k 2 _ S (QI v (-9223372036854775808) h1 h2 dC dC) (h:=λ_ S _=>⟨sT,?_⟩);refine Zb2 ?_;refine fM (t:=8) rfl (λa=>?_) (λa=>?_)
  . have hf: ¬aW v=true:=by
      have hc:=a;unfold O8 at hc;unfold aW;rw[decide_eq_true_eq]
      split at hc
      . omega
      split at hc<;>omega
    refine Zb3 ?_;exact⟨by rw[zab hf,zab hf];rfl,S.kept⟩
  have hlo: -9223372036854775808<=v:=by
    have hc:=a;unfold O8 at hc
    split at hc
    . omega
    split at hc<;>omega
  refine jM k 5 S (cs:=iG v) (h:=?_);refine dB k 6 [(5,false)] S (FJ 9223372036854775807 ⟨dC,dC⟩) (h:=λ_ a _=>⟨sU,?_⟩);refine dB k 7 _ a (QI v 9223372036854775807 h1 h2 dC dC) (h:=λ_ a _=>⟨sT,?_⟩);refine Za2 ?_;refine fK k kR ?_;refine Cz (λk=>?_) (λk=>?_)
  . have hf: ¬aW v=true:=by
      have hc:=k;unfold O8 at hc;unfold aW;rw[decide_eq_true_eq]
      split at hc
      . omega
      split at hc<;>omega
    refine Zb2 ?_;exact⟨by rw[zab hf,zab hf];rfl,a.kept⟩
  have hf:aW v=true:=by
    have hc:=k;unfold O8 at hc;unfold aW;rw[decide_eq_true_eq]
    split at hc
    . omega
    split at hc<;>omega
  refine Zb0 ?_;refine Vv (Gives.jV (i:=0) rfl rfl oM) (K8 a (hv:=oG v dC) (h:=?_));refine Vv (Gives.jV (i:=1) rfl rfl oM) (K8 a (hv:=oG v dC) (h:=?_));refine Vv (Gives.an1 (c:=4294967296*dgt v 1) rfl rfl (by rw[IntKind.wrap_u64];omega)) ?_;refine Vv (Gives.ajP (c:=wA v) rfl rfl (by rw[IntKind.wrap_u64];unfold wA;omega)) ?_;refine Vv (Gives.yU (c:=xM v) rfl (WI v)) (Zb2 ?_);exact⟨by rw[zac hf,zac hf];exact zaw (λz=>Value.tuple #[I z,I 0]) (abq hf),a.kept⟩
def lW (x:Int×Int):LV:=[I x.1,I x.2]
instance:je lW 2:=⟨λ_=>rfl⟩
def rE:List (Int×Int)->Int
 | []=>0
 | x::l=>x.1*x.2+rE l
def Kj (a b:List (Int×Int)):rE (a++b)=rE a+rE b:=by
 induction a with
 | nil=>simp[rE]
 | cons x a ih=>rw[zcd,rE,rE,ih];omega
def QK: ∀{l:List (Int×Int)},(∀x∈l,fits x.1/\fits x.2)-> -(85070591730234615865843651857942052864*(l.length:Int))<=rE l/\rE l<=85070591730234615865843651857942052864*(l.length:Int)
 | [],_=>by simp[rE]
 | x::l,h=>by
  have ih:=QK λy hy=>h y (zat _ hy);obtain⟨h1,h2⟩:=h x zao;have:=Co h1 h2;rw[rE,zas];omega
def Jh {L:List (Int×Int)} {vl:Value} (hl:aJ w vl lW 2 L) (hf: ∀x∈L,fits x.1/\fits x.2) (hn:L.length<=1000000):
    Rk prog 112 [vl] w (.tuple #[I (if aW (rE L)=true then rE L else 0),I (if aW (rE L)=true then 0 else 50)]):=by
  obtain⟨A,m,rfl,⟨hm,om⟩,hA⟩:=hl;have hbd:=QK hf;have H:=Sep.aF w;refine cK func112 ?_;refine Az (λb4 w4 H4 k3=>?_);refine Zb1 ?_;refine aI (λi:Nat=>[(0,.slice A L.length m),(4,ay b4),(5,I i)]) (λi w'=>i<=L.length/\Sep w noB [blk b4 (iG (rE (L.take i))) 238] w') (λi _=>L.length-i) 0 tR ⟨zak _,H4⟩ (λi τ w7 hI=>?_);obtain⟨hi,H7⟩:=hI;refine Lp ?_;refine Cz (λIe=>?_) (λIe=>?_)
  . have aS:i<L.length:=oM
    obtain⟨x,hx⟩:=get_some aS;have hxf:=hf x (zag hx);have xY:rE (L.take (i+1))=rE (L.take i)+x.1*x.2:=by rw[zay,hx,Kj];show _+(_+0)=_;omega
    obtain⟨ad,rfl⟩:=hA.addr oM;refine Dz (λSa wa Ha=>?_);obtain⟨ad',had,hc0⟩:=(hA.keep Ha.kept).cell (f:=0) (v:=I x.1) hx rfl;obtain⟨ad'',amO,OP⟩:=(hA.keep Ha.kept).cell (f:=1) (v:=I x.2) hx rfl;injection had with had
    injection amO with amO
    subst had;subst amO;have hd0:wa.cell? ((ad.add (i*2)).add (0*1))=some (I x.1):=by rw[add_add];exact hc0
    have hd1:wa.cell? ((ad.add (i*2)).add (1*1))=some (I x.2):=by rw[add_add];exact OP
    refine jM Sa 0 Ha (cs:=iG (rE (L.take i))) (h:=?_);refine Zb2 ?_;refine GS (Gn rfl (λ_=>Gives.idx rfl rfl aS) ?_);refine Gp Sa 4 rfl rfl (λ_=>(Gives.Br (i:=0) rfl rfl oM)) (GS (Gt rfl (Gives.abO rfl hd0) ?_));refine Zb2 ?_;refine GS (Gn rfl (λ_=>Gives.idx rfl rfl aS) ?_);refine Gp Sa 9 rfl rfl (λ_=>(Gives.Br (i:=1) rfl rfl oM)) (GS (Gt rfl (Gives.abO rfl hd1) ?_));refine dB Sa 11 [(0,false)] Ha (QH x.1 x.2 hxf.1 hxf.2) (h:=λwb Hb ka=>⟨sU,?_⟩);refine dB Sa 12 _ Hb (Jd _ _) (h:=λwc Hc kb=>⟨sT,?_⟩);refine bN Sa 13 _ Hc (us:=iG (rE (L.take i)+x.1*x.2)) (h:=λwd Hd=>⟨sT,?_⟩);refine Zb1 ?_;refine Vc ((i+1:Nat):Int) ?_;refine Zb1 ?_;exact aj (i+1) tR ⟨oM,by rw[xY];exact Hd⟩ oM
  have qU:L.take i=L:=zaj oM;rw[qU]at H7;refine Zb0 ?_;refine fE H7 (cs:=iG (rE L)) (h:=?_);refine Kz (QJ (rE L) oM oM) (λwe He kc=>?_);refine Zb4 ?_;exact⟨rfl,He.kept⟩
def WL (a b:Int) (ha:fits a) (hb:fits b):Rk prog 113 [I a,I b] w (.tuple #[I (if aW (a*b)=true then a*b else 0),I (if aW (a*b)=true then 0 else 50)]):=by
 have hbd:=Co ha hb;have H:=Sep.aF w;refine bQ func113 ?_;refine Kz (QH a b ha hb) (λ_ _ _=>?_);refine Kz (QJ (a*b) oM oM) (λ_ k _=>?_);refine Zb4 ?_;exact⟨rfl,k.kept⟩
end
open Go.Sort
def Eo {α:Type} (f:α->Int) (x:α):LV:=[I (f x)]
instance {α:Type} (f:α->Int):je (Eo f) 1:=⟨λ_=>rfl⟩
def gD {α:Type} (f:α->Int) (A:OA) (n c:Nat) (d:Array α):HP:=aY 3 1 (Eo f) (.slice A n c) d.toList
def ltC {α:Type} (cf:α->α->Int) (x y:α):Bool:=decide (cf x y<0)
section
variable {α:Type} {f:α->Int} {cf:α->α->Int} {w w' w0:Wd} {S F:NP} {rs:List HP} {put:HP->List HP} {A:OA} {n c i:Nat} {d:Array α} {fv:Value}
def anU [Inhabited α] (h:i<d.size):d.toList[i]? =some d[i]! :=by
 rw[Array.getElem?_toList,getElem!_pos d i h,zew h]
def swp_size [Inhabited α] (d:Array α) (i j:Nat):(swp d i j).size=d.size:=by unfold swp;rw[zeh,zeh]
def rdI (hn:n=d.size) (H:Mw.Sep w0 S rs w) (hat:At rs (gD f A n c d) put):Rd w A (Eo f) 1 d.toList:=by
 subst hn;exact eX H hat
def pq {α:Type} (P:Program) (fv:Value) (f:α->Int) (cf:α->α->Int) (F:NP) (w:Wd):Prop:=
 ∃(g:FuncId) (fs cs:LV),fv=.func (.func g) fs.toArray cs.toArray/\qm P g/\∀w1,Kept F w w1->∀x y:α,Rk P g (fs++[I (f x),I (f y)]++cs) w1 (I (cf x y))
def pq.keep {P:Program} (h:pq P fv f cf F w) (hk:Kept F w w'):pq P fv f cf F w':=by
 obtain⟨g,fs,cs,e,he,hc⟩:=h;exact⟨g,fs,cs,e,he,λH h1 x y=>hc H (hk.trans h1 λ_=>.inl) x y⟩
def pq.into {P:Program} (h:pq P fv f cf F w) (hk:Kept F w w') (hS: ∀b,S b->F b\/w.heap.size<=b):pq P fv f cf S w':=by
 obtain⟨g,fs,cs,e,he,hc⟩:=h;exact⟨g,fs,cs,e,he,λH h1 x y=>hc H (hk.trans h1 hS) x y⟩
end
end
variable {w1:Wd}
open Go.RowKit
section
variable {P:Program} {r:Option Nat} {n:Nat} {ops:AO} {Q:Post} {rest:LO} {σ:St} {w w0:Wd} {S F:NP} {rs:List HP} {put:HP->List HP} {ty:Td} {pos:String} {after:Array Edge} {guard:Option (Nat×Bool)} {lv:List Bool} {pd:LNB}
 {ρ:Od->Value} {x y:Od} {α:Type} {f:α->Int} {cf:α->α->Int} {A:OA} {m c i:Nat} {a:α} {d:Array α} {T t:Td} {fv:Value}
def Gives.zq {e bytes:Nat} [ht:cO P t e] [hc:Cells P e 1 bytes] (hm:m=d.size) (hx:ρ x=.slice A m c) (hy:ρ y=.int .i64 i) (hr:Rd w1 A (Eo f) 1 d.toList) (aS:i<d.size):Gives P ρ (.indexAddr t x y) ty w (adr A (i*1)) w:=
 Gives.ai3 (l:=d.toList) (by rw[hm];rfl) hx hy hr aS
def Gives.anV [Inhabited α] [OneCell P T] (hx:ρ x=adr A (i*1)) (hr:Rd w A (Eo f) 1 d.toList) (aS:i<d.size):Gives P ρ (.load T x) ty w (I (f d[i]!)) w:=
 Gives.Om (enc:=Eo f) (l:=d.toList) (f:=0) hx hr (anU aS) rfl
def WM [Inhabited α] [h1:OneCell P T] (hm:m=d.size) (H:Sep w0 S rs w) (hat:At rs (gD f A m c d) put) (aS:i<d.size) (hx:evF σ x=adr A (i*1)) (hy:evF σ y=I (f a)):
    ∃w',OV P (evF σ) (.store T x y) ty w w'/\Sep w0 S (put (gD f A m c (d.setIfInBounds i a))) w':=by
  obtain⟨w',h,hs⟩:=J7 (P:=P) (ty:=ty) (T:=T) (enc:=Eo f) (f:=0) a (m:=m) (by rw[hm];rfl) H hat (anU aS) dC rfl hx hy rfl;refine⟨w',h,?_⟩;unfold gD;rw[Array.toList_setIfInBounds];exact hs
def WO [Inhabited α] (eZ:dS n ops=true) (e:Nat) (pd':LNB) (hm:m=d.size) [h1:OneCell P T] (H:Sep w0 S rs w) (hat:At rs (gD f A m c d) put) (aS:i<d.size)
    (ho:ops[e]? =some ⟨none,.store T x y,ty,pos,after,guard⟩:=by exact rfl)
    (hw:Region.wanted ⟨none,.store T x y,ty,pos,after,guard⟩ (bU ops σ)=true:=by kernel_rfl)
    (hx:evF σ x=adr A (i*1):=by exact rfl) (hy:evF σ y=I (f a):=by exact rfl)
    (dX:fu ops lv (pd.map (·.1)) e=true:=by kernel_rfl) (oo:pd.filter (λp=> !((above ops e).contains p.1))=pd':=by exact pD)
    (h: ∀w',Sep w0 S (put (gD f A m c (d.setIfInBounds i a))) w'->jm P ops σ w' pd'/\FG P r n ops Q (lv.set e true) pd' σ w'):FG P r n ops Q lv pd σ w:=
  WK eZ e pd' ho hw (WM hm H hat aS hx hy) dX oo h
def anW (eZ:dS n ops=true) (e:Nat) (pd':LNB) (hC:pq P fv f cf F w1) (H:Sep w1 F rs w) (a b:α) {dd:Nat} {xs:List Od} {ats:Array Td}
    (ho:ops[e]? =some ⟨some dd,.call {callee:=.value y,args:=xs.toArray,argTypes:=ats},ty,pos,after,guard⟩:=by exact rfl)
    (hw:Region.wanted ⟨some dd,.call {callee:=.value y,args:=xs.toArray,argTypes:=ats},ty,pos,after,guard⟩ (bU ops σ)=true:=by kernel_rfl)
    (hy:evF σ y=fv:=by exact rfl) (hv:xs.map (evF σ)=[I (f a),I (f b)]:=by exact rfl)
    (dX:fu ops lv (pd.map (·.1)) e=true:=by kernel_rfl) (oo:pd.filter (λp=> !((above ops e).contains p.1))=pd':=by exact pD)
    (h: ∀w',Sep w1 F rs w'->jm P ops (upd σ dd (I (cf a b))) w' pd'/\FG P r n ops Q (lv.set e true) pd' (upd σ dd (I (cf a b))) w'):FG P r n ops Q lv pd σ w:=by
  obtain⟨g,fs,cs,rfl,he,hc⟩:=hC;refine jU (he:=he) eZ e pd' hy (hc w H.kept a b) ho hw hv dX oo λv w' hr=>?_;obtain⟨rfl,hk⟩:=hr;exact h w' (H.keep hk)
/-! The same,with all that can be found by itself left to be found. -/
def Gives.apY {e bytes:Nat} [ht:cO P t e] [hc:Cells P e 1 bytes] (hx:ρ x=.slice A m c) (hy:ρ y=.int .i64 i) (H:Sep w0 S rs w1) (hat:At rs (gD f A m c d) put) (hm:m=d.size) (aS:i<m):Gives P ρ (.indexAddr t x y) ty w (adr A (i*1)) w:=
 Gives.zq hm hx hy (rdI hm H hat) (hm▸aS)
def Gives.anX [Inhabited α] [OneCell P T] (hx:ρ x=adr A (i*1)) (H:Sep w0 S rs w) (hat:At rs (gD f A m c d) put) (hm:m=d.size) (aS:i<m):Gives P ρ (.load T x) ty w (I (f d[i]!)) w:=
 Gives.anV hx (rdI hm H hat) (hm▸aS)
def sz {p:Prop} (h:p:=by first | assumption | (simp only[zeh];assumption) | (simp only[swp_size];assumption)):p:=h
def FsI [Inhabited α] {j:Nat} [h1:OneCell P T] (h: ∀w',Sep w0 S (put (gD f A m c (d.setIfInBounds i a))) w'->FG P r n ops Q ((lv.set j true).set (j+1) true) (pd.filter (λp=> !((above ops (j+1)).contains p.1))) σ w') (H:Sep w0 S rs w:=by assumption) (hat:At rs (gD f A m c d) put:=by first | exact At0 | exact At1)
    (eZ:dS n ops=true:=by assumption) (ho:ops[j+1]? =some ⟨none,.store T x y,ty,pos,after,guard⟩:=by exact rfl)
    (hw:Region.wanted ⟨none,.store T x y,ty,pos,after,guard⟩ (bU ops σ)=true:=by kernel_rfl)
    (hx:evF σ x=adr A (i*1):=by exact rfl) (hy:evF σ y=I (f a):=by exact rfl) (hm:m=d.size:=by exact sz) (aS:i<m:=by omega)
    (dX:fu ops (lv.set j true) (pd.map (·.1)) (j+1)=true:=by kernel_rfl) (dJ:(pd.filter (λp=> !((above ops (j+1)).contains p.1))).all (λp=>p.2)=true:=by kernel_rfl):FG P r n ops Q (lv.set j true) pd σ w:=
  WO eZ (j+1) _ hm H hat (hm▸aS) ho hw hx hy dX rfl λw' hs=>⟨sT dJ,h w' hs⟩
def FcI {j:Nat} {a b:α} {dd:Nat} {xs:List Od} {ats:Array Td} (h: ∀w',Sep w1 F rs w'->FG P r n ops Q ((lv.set j true).set (j+1) true) (pd.filter (λp=> !((above ops (j+1)).contains p.1))) (upd σ dd (I (cf a b))) w')
    (hC:pq P fv f cf F w1:=by assumption) (H:Sep w1 F rs w:=by assumption) (eZ:dS n ops=true:=by assumption)
    (ho:ops[j+1]? =some ⟨some dd,.call {callee:=.value y,args:=xs.toArray,argTypes:=ats},ty,pos,after,guard⟩:=by exact rfl)
    (hw:Region.wanted ⟨some dd,.call {callee:=.value y,args:=xs.toArray,argTypes:=ats},ty,pos,after,guard⟩ (bU ops σ)=true:=by kernel_rfl)
    (hy:evF σ y=fv:=by exact rfl) (hv:xs.map (evF σ)=[I (f a),I (f b)]:=by exact rfl)
    (dX:fu ops (lv.set j true) (pd.map (·.1)) (j+1)=true:=by kernel_rfl) (dJ:(pd.filter (λp=> !((above ops (j+1)).contains p.1))).all (λp=>p.2)=true:=by kernel_rfl):FG P r n ops Q (lv.set j true) pd σ w:=
  anW eZ (j+1) _ hC H a b ho hw hy hv dX rfl λw' hs=>⟨sT dJ,h w' hs⟩
end
open Go.ChangeShapes Go.WideShapes Go.Sort
section
attribute [local irreducible] FW FL FG FGn jK jO fI lU Qfn Gives
section
variable {H:Type} {enc:Td×Value->H} {W:Wd} {r:Reach} {base:Nat} {v:Value} {d:DataW H} {ps:List MemPlace}
end
def aby {W:Wd}: ∀r:List (L8×Value),(∀x∈r,∃l,aJ W x.2 aM 3 l/\aZ l)->∃cols:List nO,o7 W r cols/\∀o∈cols,aZ o.steps
 | [],_=>⟨[],o7.nil,λo h=>zar h zan⟩
 | x::r,h=>by
  obtain⟨l,hl,hf⟩:=h x zao;obtain⟨cols,⟨h1,h2⟩,hc⟩:=aby r λy hy=>h y (zat _ hy);refine⟨⟨x.1,l⟩::cols,⟨by rw[zav,zav,h1],λi y o hy ho=>?_⟩,λo ho=>?_⟩
  .cases i with
   | zero=>
    rw[zce]at hy ho;injection hy with hy
    injection ho with ho
    subst hy ho;exact hl
   | succ i=>exact h2 i y o hy ho
  rcases zba.1 ho with e | e
  .subst e;exact hf
  exact hc o e
section
variable {H:Type} {enc:Td×Value->H} {W:Wd} {r:Reach} {base:Nat} {v:Value} {d:DataW H} {ps:List MemPlace}
def WQ {n0:Nat} {y:DataW H×List MemPlace} (h:DataW.trod enc prog W 0 (λ_=>true) true n0 23 [v]=some y): ∃l:List bI,aJ W v aM 3 l/\aZ l:=by
 obtain⟨A,c,l,rfl,h2,h3,h4,h5⟩:=zY (f:=aM) (good:=λx:bI=>fits x.n) (s:=3) underlying23 kR (λ_=>rfl) (λn cs y hl hc=>acU hl hc) h;exact⟨l,Bf h2 h3 h4,h5⟩
def agx {n:Nat} {cs:LV} {y:DataW H×List MemPlace} (hl:cs.length=2) (hc:DataW.trod enc prog W 0 (λ_=>true) true n 49 cs=some y): ∃x:L8×Value,cs=dL x/\∃l,aJ W x.2 aM 3 l/\aZ l:=by
 have hf:=nG underlying49 kR hc kR hl;obtain⟨v0,_,_,KY,h0⟩:=hf 0 _ rfl;obtain⟨v1,_,_,RH,h1⟩:=hf 1 _ rfl;obtain⟨s,hs,_⟩:=DataW.trod_string underlying9 h0;obtain⟨l,hr,Ll⟩:=WQ h1;injection hs with hs _
 subst hs
 match cs,hl with
 | [c0,c1],_=>
  simp only[zce,zck,Option.some.injEq]at KY RH;subst KY RH;exact⟨(s.data.toList,c1),by rw[Ej s];rfl,l,hr,Ll⟩
def ajh {n0:Nat} {y:DataW H×List MemPlace} (h:DataW.trod enc prog W 0 (λ_=>true) true n0 24 [v]=some y): ∃l:List nO,G5 W v l/\∀o∈l,aZ o.steps:=by
 obtain⟨A,c,q,rfl,h2,h3,h4,h5⟩:=zY (f:=dL) (good:=λx:L8×Value=>∃l,aJ W x.2 aM 3 l/\aZ l) (s:=2) underlying24 kR (λ_=>rfl) (λn cs y hl hc=>agx hl hc) h;obtain⟨cols,hr,hf⟩:=aby q h5;exact⟨cols,⟨q,Bf h2 h3 h4,hr⟩,hf⟩
def adI (hv:Value.okWide prog W r base 26 v) (h:DataW.Trod enc prog W 0 (λ_=>true) true 26 v d ps): ∃p:aU,gX W v p/\Bo p:=by
 obtain⟨cs,rfl,OB⟩:=okWide_struct underlying26 hv;have hc:prog.cellsOf 26=3:=kR;rw[hc]at OB;obtain⟨fuel,hfu⟩:=h;obtain⟨l⟩:=cs
 match l,OB with
 | [a,b,c],_=>
  have hf:=nG underlying26 kR hfu kR rfl;obtain⟨v0,_,_,KY,h0⟩:=hf 0 _ rfl;obtain⟨v1,_,_,RH,h1⟩:=hf 1 _ rfl;obtain⟨v2,_,_,hv2,h2⟩:=hf 2 _ rfl;have e0:some a=some v0:=KY;have e1:some b=some v1:=RH;have e2:some c=some v2:=hv2;injection e0 with e0
  injection e1 with e1
  injection e2 with e2
  subst e0 e1 e2;obtain⟨wh,hw,hwf⟩:=WQ h0;obtain⟨cols,ho,Ls⟩:=ajh h1;obtain⟨g,hg,_,_⟩:=DataW.trod_int underlying3 h2;injection hg with hg _
  subst hg;exact⟨⟨wh,cols,g⟩,⟨a,b,rfl,hw,ho⟩,hwf,Ls⟩
end
section
variable {α:Type} [Inhabited α] {f:α->Int} {cf:α->α->Int} {w:Wd} {F:NP} {A:OA} {n c:Nat} {d₀:Array α} {fv:Value}
def ZG {a b:Nat} (hp:(gD f A n c d₀).ok F w) (za:n=d₀.size) (Oy:a<=b) (hb:b<=n) (pF:n<=1000000) (ou:pq Tryz.prog fv f cf F w):
    aR Tryz.prog 340 [.slice A n c,I a,I b,fv] w λr w'=>r=.tuple #[]/\Turn F (gD f A n c (insertionSort (ltC cf) d₀ a b)) w w':=by
  have H:=Sep.bR hp;obtain⟨res,ak⟩: ∃res,res=insertionSort (ltC cf) d₀ a b:=⟨_,rfl⟩;rw[<-ak];unfold insertionSort at ak;refine yg Tryz.func340 ?_;refine Zb1 ?_;refine Vc ((a+1:Nat):Int) ?_;refine Zb1 ?_;refine aI (λx:Nat×Array α=>[(0,.slice A n c),(1,I a),(2,I b),(3,fv),(8,I x.1)]) (λx w'=>((n=x.2.size/\x.1<=b+1)/\insOuter (ltC cf) a b x.1 x.2=res)/\Sep w F [gD f A n c x.2] w') (λx _=>b+1-x.1) (a+1,d₀) tR ⟨⟨⟨za,oM⟩,ak.symm⟩,H⟩ (λx τ _ hI=>?_);obtain⟨i,d⟩:=x;obtain⟨⟨⟨hn,hib⟩,hi⟩,S⟩:=hI;dsimp only at hn hib hi S;refine Lp ?_;refine Cz (λe=>?_) (λe=>?_)
  . have aS:i<b:=oM
    rw[insOuter,zac aS]at hi;refine Zb2 ?_;refine aI (λx:Nat×Array α=>[(0,.slice A n c),(1,I a),(2,I b),(3,fv),(8,I i),(9,I x.1)]) (λx w'=>((n=x.2.size/\x.1<=i)/\insOuter (ltC cf) a b (i+1) (insInner (ltC cf) a x.1 x.2)=res)/\Sep w F [gD f A n c x.2] w') (λx _=>x.1) (i,d) tR ⟨⟨⟨hn,zbj _⟩,hi⟩,S⟩ (λx τ _ hI=>?_);clear hi hn;obtain⟨j,d⟩:=x;obtain⟨⟨⟨hn,hji⟩,hi⟩,e⟩:=hI;dsimp only at hn hji hi e;have hR:=rdI hn e At0;refine Lp ?_;refine Dz (λe _ g=>?_);refine Zb4 ?_;refine fM (t:=21) rfl (λl=>?_) (λl=>?_)
    . obtain⟨k,rfl⟩: ∃k,j=k+1:=⟨j-1,oM⟩
      have hka:k+1>a:=oM;refine Zb7 ?_;refine Gc e 11 ((k:Nat):Int) ?_;refine Zb2 ?_;refine FcI (λ_ l=>?_);refine Za2 ?_;refine fK e kR ?_;refine Cz (λe=>?_) (λe=>?_)
      . rw[insInner,zac (by simp[ltC];exact⟨oM,e⟩)]at hi
        refine Dz (λm _ _=>?_);refine Zb4 ?_;refine Gc m 4 ((k:Nat):Int) ?_;refine Zb2 ?_;refine Gc m 7 ((k:Nat):Int) ?_;refine Zb7 ?_;refine FsI (λ_ _=>?_);refine Zb1 ?_;refine FsI (λ_ m=>?_);refine Zb1 ?_;refine Vc (k:Int) ?_;refine Zb1 ?_;exact aj (k,swp d (k+1) k) tR ⟨⟨⟨by rw[swp_size];exact hn,dO⟩,hi⟩,m⟩ dO
      rw[insInner,zab (by simp[ltC];intro _;have:=e;omega)]at hi;refine Zb1 ?_;refine Vc ((i+1:Nat):Int) ?_;refine Zb1 ?_;exact aj (i+1,d) tR ⟨⟨⟨hn,dO⟩,hi⟩,l⟩ dO
    have dJ:insInner (ltC cf) a j d=d:=by
      cases j with
      | zero=>rfl
      | succ k=>rw[insInner,zab (by simp;intro h;omega)]
    rw[dJ]at hi;refine Zb2 ?_;refine Vc ((i+1:Nat):Int) ?_;refine Zb1 ?_;exact aj (i+1,d) tR ⟨⟨⟨hn,dO⟩,hi⟩,g⟩ dO
  rw[insOuter,zab oM]at hi;refine Zb0 ?_;exact⟨rfl,by rw[<-hi];exact S.turn⟩
theorem abz {root top first:Nat} (hp:(gD f A n c d₀).ok F w) (za:n=d₀.size) (hb:first+top<=n) (pF:n<=1000000) (hr:root<=n) (ou:pq prog fv f cf F w):
    aR prog 350 [.slice A n c,I root,I top,I first,fv] w λr w'=>r=.tuple #[]/\n=(siftDown (ltC cf) top first root d₀).size/\Turn F (gD f A n c (siftDown (ltC cf) top first root d₀)) w w':=by
  have H:=Sep.bR hp;obtain⟨res,ak⟩: ∃res,res=siftDown (ltC cf) top first root d₀:=⟨_,rfl⟩;rw[<-ak];refine PO func350 ?_;refine Zb2 ?_;refine aI (λx:Nat×Array α=>[(0,.slice A n c),(2,I top),(3,I first),(4,fv),(10,I x.1)]) (λx w'=>((n=x.2.size/\x.1<=n)/\siftDown (ltC cf) top first x.1 x.2=res)/\Sep w F [gD f A n c x.2] w') (λx _=>n+1-x.1) (root,d₀) tR ⟨⟨⟨za,hr⟩,ak.symm⟩,H⟩ (λx τ _ hI=>?_);obtain⟨r,d⟩:=x;obtain⟨⟨⟨hn,hrn⟩,hi⟩,k⟩:=hI;dsimp only at hn hrn hi k;have hR:=rdI hn k At0;refine Lp ?_;refine Zb1 ?_;refine Vc ((2*r:Nat):Int) ?_;refine Vc ((2*r+1:Nat):Int) ?_;refine Cz (λS=>?_) (λS=>?_)
  . have hge:2*r+1≥top:=oM
    rw[siftDown,dif_pos hge]at hi;refine Zb0 ?_;exact⟨rfl,by rw[<-hi];exact hn,by rw[<-hi];exact k.turn⟩
  have hge: ¬2*r+1≥top:=oM;rw[siftDown,dif_neg hge]at hi;refine Dz (λS _ _=>?_);refine Zb1 ?_;refine Gc S 1 ((2*r+1+1:Nat):Int) ?_;refine Zb3 ?_;refine fM (t:=23) rfl (λk=>?_) (λk=>?_)
  . have h2:2*r+1+1<top:=oM
    refine Zb4 ?_;refine Gc S 9 ((first+(2*r+1):Nat):Int) ?_;refine Zb5 ?_;refine Gc S 15 ((first+(2*r+1):Nat):Int) ?_;refine Gc S 16 ((first+(2*r+1)+1:Nat):Int) ?_;refine Zb2 ?_;refine FcI (λ_ _=>?_);refine Za2 ?_;refine fK S kR ?_;refine Cz (λS=>?_) (λS=>?_)
    . have aS:=S
      rw[zac (by simp only[zbq,decide_eq_true_eq,ltC];exact⟨h2,aS⟩),dif_pos (show 2*r+2<top from oM)]at hi;refine Zb1 ?_;refine Vc ((2*r+2:Nat):Int) ?_;obtain⟨ch,hch⟩: ∃ch,ch=2*r+2:=⟨_,rfl⟩;rw[<-hch]at hi ⊢;have hct:ch<top:=oM;refine Dz (λk _ _=>?_);refine Zb4 ?_;refine Gc k 4 ((first+r:Nat):Int) ?_;refine Zb5 ?_;refine Gc k 10 ((first+ch:Nat):Int) ?_;refine Zb2 ?_;refine FcI (λ_ a=>?_);refine Za2 ?_;refine fK k kR ?_;refine Cz (λk=>?_) (λk=>?_)
      . have aS:=k
        rw[zac (by simp only[zdg,decide_eq_false_iff_not,ltC];exact aS)]at hi;refine Zb0 ?_;exact⟨rfl,by rw[<-hi];exact hn,by rw[<-hi];exact a.turn⟩
      have aS:=k;rw[zab (by simp only[zdg,decide_eq_false_iff_not,ltC];exact aS)]at hi;refine Dz (λk _ _=>?_);refine Zb3 ?_;refine Gc k 3 ((first+r:Nat):Int) ?_;refine Zb3 ?_;refine Gc k 7 ((first+ch:Nat):Int) ?_;refine Zb3 ?_;refine Gc k 11 ((first+ch:Nat):Int) ?_;refine Zb5 ?_;refine Gc k 17 ((first+r:Nat):Int) ?_;refine Zb3 ?_;refine FsI (λ_ _=>?_);refine Zb1 ?_;refine FsI (λ_ k=>?_);refine Zb2 ?_;exact aj (ch,swp d (first+r) (first+ch)) tR ⟨⟨⟨by rw[swp_size];exact hn,dO⟩,hi⟩,k⟩ dO
    have aS:=S;rw[zab (by simp only[zbq,decide_eq_true_eq,ltC];exact λh=>aS h.2)]at hi;obtain⟨ch,hch⟩: ∃ch,ch=2*r+1:=⟨_,rfl⟩;rw[<-hch]at hi ⊢;have hct:ch<top:=oM;refine Dz (λk _ _=>?_);refine Zb4 ?_;refine Gc k 4 ((first+r:Nat):Int) ?_;refine Zb5 ?_;refine Gc k 10 ((first+ch:Nat):Int) ?_;refine Zb2 ?_;refine FcI (λ_ S=>?_);refine Za2 ?_;refine fK k kR ?_;refine Cz (λk=>?_) (λk=>?_)
    . have aS:=k
      rw[zac (by simp only[zdg,decide_eq_false_iff_not,ltC];exact aS)]at hi;refine Zb0 ?_;exact⟨rfl,by rw[<-hi];exact hn,by rw[<-hi];exact S.turn⟩
    have aS:=k;rw[zab (by simp only[zdg,decide_eq_false_iff_not,ltC];exact aS)]at hi;refine Dz (λk _ _=>?_);refine Zb3 ?_;refine Gc k 3 ((first+r:Nat):Int) ?_;refine Zb3 ?_;refine Gc k 7 ((first+ch:Nat):Int) ?_;refine Zb3 ?_;refine Gc k 11 ((first+ch:Nat):Int) ?_;refine Zb5 ?_;refine Gc k 17 ((first+r:Nat):Int) ?_;refine Zb3 ?_;refine FsI (λ_ _=>?_);refine Zb1 ?_;refine FsI (λ_ k=>?_);refine Zb2 ?_;exact aj (ch,swp d (first+r) (first+ch)) tR ⟨⟨⟨by rw[swp_size];exact hn,dO⟩,hi⟩,k⟩ dO
  have h2: ¬2*r+1+1<top:=oM;rw[zab (by simp[h2])]at hi;obtain⟨ch,hch⟩: ∃ch,ch=2*r+1:=⟨_,rfl⟩;rw[<-hch]at hi ⊢;have hct:ch<top:=oM;refine Dz (λk _ _=>?_);refine Zb4 ?_;refine Gc k 4 ((first+r:Nat):Int) ?_;refine Zb5 ?_;refine Gc k 10 ((first+ch:Nat):Int) ?_;refine Zb2 ?_;refine FcI (λ_ S=>?_);refine Za2 ?_;refine fK k kR ?_;refine Cz (λk=>?_) (λk=>?_)
  . have aS:=k
    rw[zac (by simp only[zdg,decide_eq_false_iff_not,ltC];exact aS)]at hi;refine Zb0 ?_;exact⟨rfl,by rw[<-hi];exact hn,by rw[<-hi];exact S.turn⟩
  have aS:=k;rw[zab (by simp only[zdg,decide_eq_false_iff_not,ltC];exact aS)]at hi;refine Dz (λk _ _=>?_);refine Zb3 ?_;refine Gc k 3 ((first+r:Nat):Int) ?_;refine Zb3 ?_;refine Gc k 7 ((first+ch:Nat):Int) ?_;refine Zb3 ?_;refine Gc k 11 ((first+ch:Nat):Int) ?_;refine Zb5 ?_;refine Gc k 17 ((first+r:Nat):Int) ?_;refine Zb3 ?_;refine FsI (λ_ _=>?_);refine Zb1 ?_;refine FsI (λ_ k=>?_);refine Zb2 ?_;exact aj (ch,swp d (first+r) (first+ch)) tR ⟨⟨⟨by rw[swp_size];exact hn,dO⟩,hi⟩,k⟩ dO
def WR {a b:Nat} (hp:(gD f A n c d₀).ok F w) (za:n=d₀.size) (Oy:a<b) (hb:b<=n) (pF:n<=1000000) (ou:pq prog fv f cf F w):
    aR prog 341 [.slice A n c,I a,I b,fv] w λr w'=>r=.tuple #[]/\n=(heapSort (ltC cf) d₀ a b).size/\Turn F (gD f A n c (heapSort (ltC cf) d₀ a b)) w w':=by
  have H:=Sep.bR hp;obtain⟨res,ak⟩: ∃res,res=heapSort (ltC cf) d₀ a b:=⟨_,rfl⟩;rw[<-ak];unfold heapSort at ak;refine yg func341 ?_;refine Zb5 ?_;refine Vc ((b-a:Nat):Int) ?_;refine Zb2 ?_;refine Vc ((b-a-1:Nat):Int) ?_;refine Vv (Gives.Gg (a:=b-a-1) (b:=2) rfl rfl dC oM) (Zb1 ?_);refine aI (λx:Nat×Array α=>[(0,.slice A n c),(3,fv),(8,I a),(9,I 0),(10,I (b-a:Nat)),(11,I ((x.1:Int)-1))]) (λx w'=>((n=x.2.size/\x.1<=(b-a-1)/2+1)/\res=heapPop (ltC cf) a (b-a) (heapBuild (ltC cf) (b-a) a x.1 x.2))/\Sep w F [gD f A n c x.2] w') (λx _=>x.1) ((b-a-1)/2+1,d₀) ⟨rfl,rfl,rfl,rfl,rfl,zaw I dO,trivial⟩ ⟨⟨⟨za,zbj _⟩,ak⟩,H⟩ (λx τ wa hI=>?_);obtain⟨k,d⟩:=x;obtain⟨⟨⟨hn,hkb⟩,hi⟩,Ha⟩:=hI;dsimp only at hn hkb hi Ha;clear ak;refine Lp ?_;refine Cz (λIe=>?_) (λIe=>?_)
  . obtain⟨m,rfl⟩: ∃m,k=m+1:=⟨k-1,oM⟩
    rw[show((m+1:Nat):Int)-1=(m:Int)from oM];rw[heapBuild]at hi;refine Zb5 ?_;obtain⟨F0,eD,gV,aK⟩:=Ha.focus At0;refine aL (abz (root:=m) (top:=b-a) (first:=a) eD hn oM pF oM (ou.into Ha.kept gV)) rfl rfl (λv' wb hv=>?_);obtain⟨rfl,OB,aq7,F1,hq,hs⟩:=hv;have Hb:=aK _ F1 _ aq7 hq hs;refine Zb1 ?_;refine Vc ((m:Int)-1) ?_;refine Zb1 ?_;exact aj (m,siftDown (ltC cf) (b-a) a m d) tR ⟨⟨⟨OB,dO⟩,hi⟩,Hb⟩ dO
  have y8:k=0:=oM;subst y8;rw[heapBuild]at hi;refine Zb1 ?_;refine Vc (((b-a:Nat):Int)-1) ?_;refine Zb1 ?_;refine aI (λx:Nat×Array α=>[(0,.slice A n c),(3,fv),(8,I a),(9,I 0),(12,I ((x.1:Int)-1))]) (λx w'=>((n=x.2.size/\x.1<=b-a)/\res=heapPop (ltC cf) a x.1 x.2)/\Sep w F [gD f A n c x.2] w') (λx _=>x.1) (b-a,d) tR ⟨⟨⟨hn,zbj _⟩,hi⟩,Ha⟩ (λx τ wc hI=>?_);clear hi hn hkb;obtain⟨k,d⟩:=x;obtain⟨⟨⟨hn,hkb⟩,hi⟩,Hc⟩:=hI;dsimp only at hn hkb hi Hc;have hR:=rdI hn Hc At0;refine Lp ?_;refine Cz (λIf=>?_) (λIf=>?_)
  . obtain⟨m,rfl⟩: ∃m,k=m+1:=⟨k-1,oM⟩
    rw[show((m+1:Nat):Int)-1=(m:Int)from oM];rw[heapPop]at hi;refine Dz (λSa wd Hd=>?_);refine Zb5 ?_;refine Gc Sa 5 ((a+m:Nat):Int) ?_;refine Zb3 ?_;refine Gc Sa 9 ((a+m:Nat):Int) ?_;refine Zb7 ?_;refine FsI (λwe He=>?_);refine Zb1 ?_;refine FsI (λwf Hf=>?_);refine Zb5 ?_;have Lm:n=(swp d a (a+m)).size:=by rw[swp_size];exact hn
    obtain⟨F0,eD,gV,aK⟩:=Hf.focus At0;refine aL (abz (root:=0) (top:=m) (first:=a) (d₀:=swp d a (a+m)) eD Lm oM pF oM (ou.into Hf.kept gV)) rfl rfl (λv' wg hv=>?_);obtain⟨rfl,OB,aq8,F1,hq,hs⟩:=hv;have Hg:=aK _ F1 _ aq8 hq hs;refine Zb1 ?_;refine Vc ((m:Int)-1) ?_;refine Zb1 ?_;exact aj (m,siftDown (ltC cf) m a 0 (swp d a (a+m))) tR ⟨⟨⟨OB,dO⟩,hi⟩,Hg⟩ dO
  have y8:k=0:=oM;subst y8;rw[heapPop]at hi;refine Zb0 ?_;exact⟨rfl,by rw[hi];exact hn,by rw[hi];exact Hc.turn⟩
def Ji {a b s bs:Nat} {E:Td} (hp:(star (blk bs [I s] E) (gD f A n c d₀)).ok F w) (hn:n=d₀.size) (ha:a<n) (hb:b<n) (pF:n<=1000000) (hs:s<=1000) (ou:pq prog fv f cf F w):
    aR prog 355 [.slice A n c,I a,I b,ay bs,fv] w λr w'=>r=.tuple #[I (order2 (ltC cf) d₀ a b s).1,I (order2 (ltC cf) d₀ a b s).2.1]/\Turn F (star (blk bs [I (order2 (ltC cf) d₀ a b s).2.2] E) (gD f A n c d₀)) w w':=by
  have H:=(Sep.bR hp).bL;have hR:=rdI hn H At1;unfold order2;refine PO func355 ?_;refine Dz (λk _ _=>?_);refine Zb9 ?_;refine FcI (λ_ S=>?_);refine Za1 ?_;refine fK k kR ?_;refine Cz (λk=>?_) (λk=>?_)
  . rw[zac (show ltC cf d₀[b]! d₀[a]! =true from zap k)]
    refine Zb3 ?_;refine Vc ((s+1:Nat):Int) ?_;refine Uz (λ_ d=>?_);refine Zb4 ?_;exact⟨rfl,d.aQ.turn⟩
  rw[zab (show ¬ltC cf d₀[b]! d₀[a]! =true from λh=>k (zbd h))];refine Zb4 ?_;exact⟨rfl,S.aQ.turn⟩
def order2_mem {d:Array α} {a b s:Nat} {p:NP} (ha:p a) (hb:p b):p (order2 (ltC cf) d a b s).1/\p (order2 (ltC cf) d a b s).2.1/\(order2 (ltC cf) d a b s).2.2<=s+1:=by
 unfold order2
 split
 .exact⟨hb,ha,zbj _⟩
 exact⟨ha,hb,Nat.le_succ _⟩
def median_mem {d:Array α} {a b m s:Nat} {p:NP} (ha:p a) (hb:p b) (hm:p m):p (median (ltC cf) d a b m s).1/\(median (ltC cf) d a b m s).2<=s+3:=by
 unfold median;dsimp only;obtain⟨h1,h2,h3⟩:=order2_mem (cf:=cf) (d:=d) (s:=s) ha hb;obtain⟨h4,h5,h6⟩:=order2_mem (cf:=cf) (d:=d) (s:=(order2 (ltC cf) d a b s).2.2) h2 hm;obtain⟨h7,h8,h9⟩:=order2_mem (cf:=cf) (d:=d) (s:=(order2 (ltC cf) d (order2 (ltC cf) d a b s).2.1 m (order2 (ltC cf) d a b s).2.2).2.2) h1 h4;exact⟨h8,oM⟩
def QL {a b m s bs:Nat} {E:Td} (hp:(star (blk bs [I s] E) (gD f A n c d₀)).ok F w) (hn:n=d₀.size) (ha:a<n) (hb:b<n) (hm:m<n) (pF:n<=1000000) (hs:s<=900) (ou:pq prog fv f cf F w):
    aR prog 354 [.slice A n c,I a,I b,I m,ay bs,fv] w λr w'=>r=I (median (ltC cf) d₀ a b m s).1/\Turn F (star (blk bs [I (median (ltC cf) d₀ a b m s).2] E) (gD f A n c d₀)) w w':=by
  have H:=Sep.bR hp;unfold median;dsimp only;obtain⟨h1,h2,h3⟩:=order2_mem (cf:=cf) (d:=d₀) (s:=s) (p:=λx=>x<n) ha hb;obtain⟨r1,Yh⟩: ∃r1,r1=order2 (ltC cf) d₀ a b s:=⟨_,rfl⟩;rw[<-Yh]at h1 h2 h3 ⊢;obtain⟨h4,h5,h6⟩:=order2_mem (cf:=cf) (d:=d₀) (s:=r1.2.2) (p:=λx=>x<n) h2 hm;obtain⟨r2,UL⟩: ∃r2,r2=order2 (ltC cf) d₀ r1.2.1 m r1.2.2:=⟨_,rfl⟩;rw[<-UL]at h4 h5 h6 ⊢;refine anx func354 ?_;refine Zb6 ?_;obtain⟨F0,eD,gV,aK⟩:=H.focus At0;refine aL (Ji (a:=a) (b:=b) (s:=s) eD hn ha hb pF oM (ou.into H.kept gV)) rfl rfl (λv' _ hv=>?_);obtain⟨rfl,hk7,F1,hq,hs⟩:=hv;have k:=aK _ F1 _ hk7 hq hs;rw[<-Yh]at k ⊢;refine aew ?_;obtain⟨F0,eD,gV,aK⟩:=k.focus At0;refine aL (Ji (a:=r1.2.1) (b:=m) (s:=r1.2.2) eD hn h2 hm pF oM (ou.into k.kept gV)) rfl rfl (λv' _ hv=>?_);obtain⟨rfl,aq9,F1,hq,hs⟩:=hv;have k:=aK _ F1 _ aq9 hq hs;rw[<-UL]at k ⊢;refine aew ?_;obtain⟨F0,eD,gV,aK⟩:=k.focus At0;refine aL (Ji (a:=r1.1) (b:=r2.1) (s:=r2.2.2) eD hn h1 h4 pF oM (ou.into k.kept gV)) rfl rfl (λv' _ hv=>?_);obtain⟨rfl,ara,F1,hq,hs⟩:=hv;have k:=aK _ F1 _ ara hq hs;refine Zb7 ?_;exact⟨rfl,k.turn⟩
def Bv {a s bs:Nat} {E:Td} (hp:(star (blk bs [I s] E) (gD f A n c d₀)).ok F w) (hn:n=d₀.size) (ha:1<=a) (UW:a+1<n) (pF:n<=1000000) (hs:s<=900) (ou:pq prog fv f cf F w):
    aR prog 353 [.slice A n c,I a,ay bs,fv] w λr w'=>r=I (medianAdjacent (ltC cf) d₀ a s).1/\Turn F (star (blk bs [I (medianAdjacent (ltC cf) d₀ a s).2] E) (gD f A n c d₀)) w w':=by
  have H:=Sep.bR hp;unfold medianAdjacent;refine yg func353 ?_;refine Zb3 ?_;refine Vc ((a-1:Nat):Int) ?_;refine Zb2 ?_;refine Vc ((a+1:Nat):Int) ?_;refine Zb2 ?_;obtain⟨F0,eD,gV,aK⟩:=H.focus At0;refine aL (QL (a:=a-1) (b:=a) (m:=a+1) (s:=s) eD hn oM oM oM pF hs (ou.into H.kept gV)) rfl rfl (λv' _ hv=>?_);obtain⟨rfl,amQ,F1,hq,hs⟩:=hv;have k:=aK _ F1 _ amQ hq hs;refine Zb1 ?_;exact⟨rfl,k.turn⟩
def akH:Sort.Hint->Int
 | .unknown=>0
 | .increasing=>1
 | .decreasing=>2
theorem agy {a b:Nat} (hp:(gD f A n c d₀).ok F w) (hn:n=d₀.size) (Oy:a+12<b) (hb:b<=n) (pF:n<=1000000) (ou:pq prog fv f cf F w):
    aR prog 343 [.slice A n c,I a,I b,fv] w λr w'=>r=.tuple #[I (choosePivot (ltC cf) d₀ a b).1,I (akH (choosePivot (ltC cf) d₀ a b).2)]/\Turn F (gD f A n c d₀) w w':=by
  have H:=Sep.bR hp;obtain⟨l,hl⟩: ∃l,l=b-a:=⟨_,rfl⟩;obtain⟨i,hi⟩: ∃i,i=a+l/4*1:=⟨_,rfl⟩;obtain⟨j,hj⟩: ∃j,j=a+l/4*2:=⟨_,rfl⟩;obtain⟨k,hk⟩: ∃k,k=a+l/4*3:=⟨_,rfl⟩;obtain⟨res,ak⟩: ∃res,res=choosePivot (ltC cf) d₀ a b:=⟨_,rfl⟩;rw[<-ak];unfold choosePivot at ak;dsimp only at ak;rw[<-hl,<-hi,<-hj,<-hk,zac (show l≥8 from oM)]at ak;refine yg func343 ?_;refine Zb4 ?_;refine Vc (l:Int) ?_;refine Az (λbs _ S _=>?_);have S:=S.aQ;refine Zb2 ?_;refine Vv (Gives.Gg (a:=l) (b:=4) rfl rfl dC oM) (Vc ((l/4*1:Nat):Int) ?_);refine Vc (i:Int) ?_;refine Zb3 ?_;refine Vv (Gives.Gg (a:=l) (b:=4) rfl rfl dC oM) (Vc ((l/4*2:Nat):Int) ?_);refine Vc (j:Int) ?_;refine Zb3 ?_;refine Vv (Gives.Gg (a:=l) (b:=4) rfl rfl dC oM) (Vc ((l/4*3:Nat):Int) ?_);refine Vc (k:Int) ?_;refine Am ?_;refine Qn (dD (λz:Nat×Nat=>[(11,ay bs),(13,I z.1)]) (λz w'=>(res=(z.1,if z.2=0 then Sort.Hint.increasing else if z.2=12 then .decreasing else .unknown))/\Sep w F [star (blk bs [I z.2] 3) (gD f A n c d₀)] w') ?_ ?_)
  . refine Cz (λe=>?_) (λe=>?_)
    . have h8:=e
      refine dD (λz:Nat×Nat×Nat×Nat=>[(0,.slice A n c),(3,fv),(11,ay bs),(12,I z.1),(13,I z.2.1),(14,I z.2.2.1)]) (λz w'=>((z.1<n/\z.2.1<n/\z.2.2.1<n/\z.2.2.2<=9)/\res=((median (ltC cf) d₀ z.1 z.2.1 z.2.2.1 z.2.2.2).1,if(median (ltC cf) d₀ z.1 z.2.1 z.2.2.1 z.2.2.2).2=0 then Sort.Hint.increasing else if(median (ltC cf) d₀ z.1 z.2.1 z.2.2.1 z.2.2.2).2=12 then .decreasing else .unknown))/\Sep w F [star (blk bs [I z.2.2.2] 3) (gD f A n c d₀)] w') ?_ ?_
      . refine Cz (λg=>?_) (λg=>?_)
        . rw[zac (show l≥50 from oM)]at ak
          refine Zb3 ?_;obtain⟨F0,eD,gV,aK⟩:=S.focus At0;refine aL (Bv (a:=i) (s:=0) eD hn oM oM pF dC (ou.into S.kept gV)) rfl rfl (λv' _ hv=>?_);obtain⟨rfl,arb,F1,hq,hs⟩:=hv;have g:=aK _ F1 _ arb hq hs;obtain⟨hm1,Dn⟩:=median_mem (cf:=cf) (d:=d₀) (s:=0) (p:=λx=>x<n) (a:=i-1) (b:=i) (m:=i+1) oM oM oM;obtain⟨ri,hri⟩: ∃ri,ri=medianAdjacent (ltC cf) d₀ i 0:=⟨_,rfl⟩;rw[show median (ltC cf) d₀ (i-1) i (i+1) 0=ri from hri.symm]at hm1 Dn;rw[<-hri]at ak g ⊢;refine Zb4 ?_;obtain⟨F0,eD,gV,aK⟩:=g.focus At0;refine aL (Bv (a:=j) (s:=ri.2) eD hn oM oM pF oM (ou.into g.kept gV)) rfl rfl (λv' _ hv=>?_);obtain⟨rfl,arf,F1,hq,hs⟩:=hv;have g:=aK _ F1 _ arf hq hs;obtain⟨hm3,hm4⟩:=median_mem (cf:=cf) (d:=d₀) (s:=ri.2) (p:=λx=>x<n) (a:=j-1) (b:=j) (m:=j+1) oM oM oM;obtain⟨rj,hrj⟩: ∃rj,rj=medianAdjacent (ltC cf) d₀ j ri.2:=⟨_,rfl⟩;rw[show median (ltC cf) d₀ (j-1) j (j+1) ri.2=rj from hrj.symm]at hm3 hm4;rw[<-hrj]at ak g ⊢;refine Zb4 ?_;obtain⟨F0,eD,gV,aK⟩:=g.focus At0;refine aL (Bv (a:=k) (s:=rj.2) eD hn oM oM pF oM (ou.into g.kept gV)) rfl rfl (λv' _ hv=>?_);obtain⟨rfl,ari,F1,hq,hs⟩:=hv;have g:=aK _ F1 _ ari hq hs;obtain⟨hm5,hm6⟩:=median_mem (cf:=cf) (d:=d₀) (s:=rj.2) (p:=λx=>x<n) (a:=k-1) (b:=k) (m:=k+1) oM oM oM;obtain⟨rk,hrk⟩: ∃rk,rk=medianAdjacent (ltC cf) d₀ k rj.2:=⟨_,rfl⟩;rw[show median (ltC cf) d₀ (k-1) k (k+1) rj.2=rk from hrk.symm]at hm5 hm6
          rw[<-hrk]at ak g ⊢;refine Zb1 ?_;exact au (ri.1,rj.1,rk.1,rk.2) tR ⟨⟨⟨hm1,hm3,hm5,dO⟩,ak⟩,g⟩
        rw[zab (show ¬l≥50 from oM)]at ak;refine Zb0 ?_;exact au (i,j,k,0) tR ⟨⟨⟨dO,dO,dO,zak _⟩,ak⟩,S⟩
      rintro⟨i',j',k',s⟩ τ g ⟨⟨⟨hi',hj',Oz,g⟩,hr⟩,S⟩;dsimp only at hi' hj' Oz g hr S;refine Lp ?_;refine Zb5 ?_;obtain⟨F0,eD,gV,aK⟩:=S.focus At0;refine aL (QL (a:=i') (b:=j') (m:=k') (s:=s) eD hn hi' hj' Oz pF oM (ou.into S.kept gV)) rfl rfl (λv' _ hv=>?_);obtain⟨rfl,arj,F1,hq,hs⟩:=hv;have S:=aK _ F1 _ arj hq hs;refine Zb1 ?_;exact au (median (ltC cf) d₀ i' j' k' s) tR ⟨hr,S⟩
    exact zar e oM
  rintro⟨p,s⟩ τ S ⟨hr,S⟩;dsimp only at hr S;have S:=S.bL;refine Lp ?_;refine Cz (λe=>?_) (λe=>?_)
  . have g:s=0:=by have:=e;omega
    rw[zac g]at hr;refine Zb3 ?_;exact⟨by rw[hr];rfl,(S.bH).turn⟩
  have g:s≠0:=by have:=e;omega
  rw[zab g]at hr;refine Cz (λg=>?_) (λg=>?_)
  . have e:s=12:=by have:=g;omega
    rw[zac e]at hr;refine Zb3 ?_;exact⟨by rw[hr];rfl,(S.bH).turn⟩
  have e:s≠12:=by have:=g;omega
  rw[zab e]at hr;refine Zb3 ?_;exact⟨by rw[hr];rfl,(S.bH).turn⟩
end
end
end Go.Proofs.Mw
