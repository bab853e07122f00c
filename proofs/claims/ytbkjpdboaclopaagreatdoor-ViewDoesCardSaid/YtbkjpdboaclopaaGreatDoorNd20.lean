/-
 The document's products and sums of products,walked.
-/
import Derived.Test.YtbkjpdboaclopaaGreatDoorNd19
set_option linter.all false
set_option maxRecDepth 4000
namespace Go.Proofs.Mw
open Go.Lib Go.Proofs.Tryz
section
attribute [local irreducible] FW FL FG FGn jJ jO fC lJ Qfn Gives
def pw:Nat->Int
 | 0=>1
 | 1=>4294967296
 | _=>18446744073709551616
def pt (n:Int) (i:Nat):Int:=n%pw i
def acr {n:Int} (h0:0<=n) (h1:n<18446744073709551616) {i:Nat} (hi:i<2):pt n (i+1)=pt n i+dgt n i*pw i:=by
 have e0:dgt n 0=n%4294967296:=rfl;have e1:dgt n 1=n/4294967296%4294967296:=rfl
 rcases (by omega :i=0\/i=1)with rfl | rfl
 .show n%4294967296=n%1+dgt n 0*1;omega
 show n%18446744073709551616=n%4294967296+dgt n 1*4294967296;omega
def ahn {n:Int} (h0:0<=n) (h1:n<18446744073709551616):pt n 2=n:=by show n%18446744073709551616=n;omega
def acs (n:Int):pt n 0=0:=by show n%1=0;omega
def akh {p:Int} (h0:0<=p) (h1:p<18446744073709551616) {i k:Nat} (hi:i<2) (hk:k<2):
    ((usC [0,0,0,0,0,0]).set (i+k) (U (p%4294967296))).set (i+k+1) (U (p/4294967296))=iI (p*(pw i*pw k)):=by
  have e: ∀n:Int,iI n=[U (n%4294967296),U (n/4294967296%4294967296),U (n/4294967296/4294967296%4294967296),U (n/4294967296/4294967296/4294967296%4294967296),U (n/4294967296/4294967296/4294967296/4294967296%4294967296),U (n/4294967296/4294967296/4294967296/4294967296/4294967296%4294967296)]:=λn=>rfl;rw[e]
  rcases (by omega :i=0\/i=1)with rfl | rfl<;>rcases (by omega :k=0\/k=1)with rfl | rfl
  . show [U (p%4294967296),U (p/4294967296),U 0,U 0,U 0,U 0]=_
    simp only[pw]
    congr 6<;>first | rfl | (congr 1;omega)
  . show [U 0,U (p%4294967296),U (p/4294967296),U 0,U 0,U 0]=_
    simp only[pw]
    congr 6<;>first | rfl | (congr 1;omega)
  . show [U 0,U (p%4294967296),U (p/4294967296),U 0,U 0,U 0]=_
    simp only[pw]
    congr 6<;>first | rfl | (congr 1;omega)
  show [U 0,U 0,U (p%4294967296),U (p/4294967296),U 0,U 0]=_
  simp only[pw]
  congr 6<;>first | rfl | (congr 1;omega)
section
variable {w:Wd}
theorem Rm (a b:Int) (ha:fits a) (hb:fits b):Rk prog 184 [I a,I b] w (agg (iI (a*b))):=by
  have H:=Sep.aH w;obtain⟨A,hA⟩: ∃A,A=if a<0 then -a else a:=⟨_,rfl⟩
  obtain⟨B,hB⟩: ∃B,B=if b<0 then -b else b:=⟨_,rfl⟩
  have hA1:0<=A/\A<18446744073709551616:=by have h1:=ha.1;have h2:=ha.2;rw[hA];split<;>omega
  have hB1:0<=B/\B<18446744073709551616:=by have h1:=hb.1;have h2:=hb.2;rw[hB];split<;>omega
  refine tN func184 ?_;refine Az (λb4 w2 H2 k1=>?_);refine Kz (Gh a ha) (λw5 H5 k4=>?_);refine Mv ?_;refine Kz (Gh b hb) (λw8 H8 k7=>?_);refine Az (λb5 wa Ha k9=>?_);refine Az (λb6 wb Hb ka=>?_);refine iB Hb (us:=iI a) (h:=λwc Hc=>?_);refine iB Hc (us:=iI b) (h:=λwd Hd=>?_);refine Qn (dB (λ_:Unit=>[(0,I a),(1,I b),(4,av b4),(5,av b5),(6,av b6)]) (λ_ w'=>Sep w noB [blk b6 (iI b) 265,blk b5 (iI A) 265,blk b4 (usC [0,0,0,0,0,0]) 265] w') ?_ ?_)
  . refine Cz (λIe=>?_) (λIe=>?_)
    . have Y7:=Ie
      refine Kz (JG a) (λwe He kb=>?_);rw[show iI (-a)=iI A from by rw[hA,zac Y7]];refine iB He (us:=iI A) (h:=λwf Hf=>?_);refine V0 ?_;exact au () tR Hf
    rw[show iI a=iI A from by rw[hA,zaa Ie]]at Hd;refine V0 ?_;exact au () tR Hd
  rintro⟨⟩ τ wg Hg;refine Lp ?_;refine dB (λ_:Unit=>[(0,I a),(1,I b),(4,av b4),(5,av b5),(6,av b6)]) (λ_ w'=>Sep w noB [blk b6 (iI B) 265,blk b5 (iI A) 265,blk b4 (usC [0,0,0,0,0,0]) 265] w') ?_ ?_
  . refine Cz (λIf=>?_) (λIf=>?_)
    . have Y7:=If
      refine Kz (JG b) (λwh Hh kc=>?_);rw[show iI (-b)=iI B from by rw[hB,zac Y7]];refine iB Hh (us:=iI B) (h:=λwi Hi=>?_);refine V0 ?_;exact au () tR Hi
    rw[show iI b=iI B from by rw[hB,zaa If]]at Hg;refine V0 ?_;exact au () tR Hg
  rintro⟨⟩ τ wj Hj;refine Lp ?_;refine Az (λb7 wk Hk kd=>?_);refine V1 ?_;refine aI (λi:Nat=>[(0,I a),(1,I b),(4,av b4),(5,av b5),(6,av b6),(7,av b7),(8,I i)]) (λi w'=>i<=2/\Sep w noB [blk b7 (iI (pt A i*B)) 265,blk b6 (iI B) 265,blk b5 (iI A) 265,blk b4 (usC [0,0,0,0,0,0]) 265] w') (λi _=>2-i) 0 tR ⟨zai _,by rw[acs,Int.zero_mul];exact Hk⟩ (λi τ wl hI=>?_);obtain⟨hi,Hl⟩:=hI;refine Lp ?_;refine Cz (λIg=>?_) (λIg=>?_)
  . have Ku:i<2:=oM
    have hps:=acr hA1.1 hA1.2 Ku;have hda:=nI A i;refine V1 ?_;refine aI (λk:Nat=>[(0,I a),(1,I b),(4,av b4),(5,av b5),(6,av b6),(7,av b7),(8,I i),(9,I k)]) (λk w'=>k<=2/\Sep w noB [blk b7 (iI (pt A i*B+dgt A i*pw i*pt B k)) 265,blk b6 (iI B) 265,blk b5 (iI A) 265,blk b4 (usC [0,0,0,0,0,0]) 265] w') (λk _=>2-k) 0 tR ⟨zai _,by rw[acs,Int.mul_zero,zgf];exact Hl⟩ (λk τ wm hI=>?_);obtain⟨hk,Hm⟩:=hI;refine Lp ?_;refine Cz (λIh=>?_) (λIh=>?_)
    . have hk2:k<2:=oM
      have hpb:=acr hB1.1 hB1.2 hk2;have hdb:=nI B k
      have hp:0<=dgt A i*dgt B k/\dgt A i*dgt B k<18446744073709551616:=by
        have h1:=Int.mul_nonneg hda.1 hdb.1;have h2:dgt A i*dgt B k<=4294967295*4294967295:=Int.mul_le_mul oM oM hdb.1 dC;omega
      refine Dz (λSa wn Hn=>?_);refine V1 ?_;refine Gp Sa 1 rfl rfl (λ_=>(Gives.j6 rfl rfl oM)) (vR Sa 2 Hn (hv:=oP A oM) (h:=?_));refine V1 ?_;refine Gp Sa 4 rfl rfl (λ_=>(Gives.j6 rfl rfl oM)) (vR Sa 5 Hn (hv:=oP B oM) (h:=?_));refine GS (Gn rfl (λ_=>Gives.ao5 (c:=dgt A i*dgt B k) rfl rfl (by rw[IntKind.wrap_u64];omega)) ?_);refine Az (λb11 wo Ho ke=>?_);refine V2 ?_;refine Vc ((i+k:Nat):Int) ?_;refine Mv ?_;refine Vv (Gives.akW (c:=dgt A i*dgt B k%4294967296) rfl rfl dC (by rw[zet hp.1])) ?_;refine Vv (Gives.j6 rfl rfl oM) (sK Ho (cs':=(usC [0,0,0,0,0,0]).set (i+k) (U (dgt A i*dgt B k%4294967296))) (ho:=UY (by show 0+(i+k)*1<6;omega)) (hs:=by rw[zdc,zfd];rfl) (h:=λwp Hp=>?_));refine V2 ?_;refine Vc ((i+k:Nat):Int) ?_;refine Vc ((i+k+1:Nat):Int) ?_;refine Mv ?_;refine Vv (Gives.akV (c:=dgt A i*dgt B k/4294967296) rfl rfl dC (by rw[IntKind.wrap_u64,zeu hp.1];omega)) ?_;refine Vv (Gives.j6 rfl rfl oM) (sK Hp (cs':=iI (dgt A i*dgt B k*(pw i*pw k))) (ho:=UY (by rw[zcy];show 0+(i+k+1)*1<6;omega)) (hs:=by rw[zdc,zfd];exact akh hp.1 hp.2 Ku hk2) (h:=λwq Hq=>?_));refine Kz (JF _ _) (λwr Hr kf=>?_);refine iB Hr (us:=iI (pt A i*B+dgt A i*pw i*pt B k+dgt A i*dgt B k*(pw i*pw k))) (h:=λws Hs=>?_);refine V1 ?_;refine Vc ((k+1:Nat):Int) ?_;refine V1 ?_
      have e:pt A i*B+dgt A i*pw i*pt B k+dgt A i*dgt B k*(pw i*pw k)=pt A i*B+dgt A i*pw i*pt B (k+1):=by
        rw[hpb,Int.mul_add,Int.add_assoc]
        congr 2
        rw[Int.mul_assoc,Int.mul_assoc,Int.mul_left_comm (dgt B k)]
      rw[e]at Hs;exact aj (k+1) tR ⟨oM,Hs.bI⟩ oM
    have h2:k=2:=oM;subst h2;rw[ahn hB1.1 hB1.2,<-Int.add_mul,<-hps]at Hm;refine V1 ?_;refine Vc ((i+1:Nat):Int) ?_;refine V1 ?_;exact aj (i+1) tR ⟨oM,Hm⟩ oM
  have h2:i=2:=oM;subst h2;rw[ahn hA1.1 hA1.2]at Hl;refine O5 ?_;refine Qn (Cd rfl (λIi=>?_) (λIi=>?_))
  . have hs: -(A*B)=a*b:=by
      have hc:=Ii;rw[hA,hB]
      by_cases h1:a<0<;>by_cases h2:b<0<;>simp only[h1,h2,if_true,if_false,decide_true,decide_false,Int.neg_mul,Int.mul_neg,Int.neg_neg]at hc |- <;>simp at hc
    refine Kz (JG (A*B)) (λwt Ht kg=>?_);rw[hs];refine iB Ht (us:=iI (a*b)) (h:=λwu Hu=>?_);refine V0 ?_;exact⟨_,fG Hu,rfl,Hu.kept⟩
  have hs:A*B=a*b:=by
    have hc:=Ii;rw[hA,hB]
    by_cases h1:a<0<;>by_cases h2:b<0<;>simp only[h1,h2,if_true,if_false,decide_true,decide_false,Int.neg_mul,Int.mul_neg,Int.neg_neg]at hc |- <;>simp at hc
  rw[hs]at Hl;refine V1 ?_;refine iB Hl (us:=iI (a*b)) (h:=λwv Hv=>?_);refine V0 ?_;exact⟨_,fG Hv,rfl,Hv.kept⟩
def PX (x y:Int):Int:=if x<y then -1 else if y<x then 1 else 0
def Rn (x y:Int) (hx1: -3138550867693340381917894711603833208051177722232017256448<=x) (Kv:x<3138550867693340381917894711603833208051177722232017256448) (hy1: -3138550867693340381917894711603833208051177722232017256448<=y) (hy2:y<3138550867693340381917894711603833208051177722232017256448):
    Rk prog 272 [agg (iI x),agg (iI y)] w (I (PX x y)):=by
  have H:=Sep.aH w;obtain⟨h6x,h5x⟩:=abY hx1 Kv;obtain⟨h6y,h5y⟩:=abY hy1 hy2;have avQ:=nI x 5;have avR:=nI y 5;refine bU func272 ?_;refine Sr (bB H (cs:=iI x) rfl (h:=λb2 w2 H2 k1=>?_));refine bB H2 (cs:=iI y) rfl (h:=λb3 w4 H4 k3=>?_);refine Dz (λals w8 H8=>?_);refine Gp als 0 rfl rfl (λ_=>(Gives.j6 (i:=5) rfl rfl oM)) (vR als 1 H8 (hv:=oP x dC) (h:=?_));refine V1 ?_;refine Gp als 3 rfl rfl (λ_=>(Gives.j6 (i:=5) rfl rfl oM)) (vR als 4 H8 (hv:=oP y dC) (h:=?_));refine O6 ?_;refine Qn (Cd rfl (λIe=>?_) (λIe=>?_))
  . have hd: ¬(x<0↔y<0):=by
      have hc:=Ie;intro he;rw[<-h5x,<-h5y]at he
      by_cases c1:2147483648<=dgt x 5<;>by_cases c2:2147483648<=dgt y 5<;>simp[c1,c2]at hc he
    refine Cz (λIf=>?_) (λIf=>?_)
    . have h0:x<0:=h5x.1 (by have:=If;omega)
      refine V1 ?_;exact⟨by unfold PX;rw[zac oM];rfl,H8.kept⟩
    have h0: ¬x<0:=λh=>If (by have:=h5x.2 h;omega);refine V1 ?_;exact⟨by unfold PX;rw[zaa oM,zac oM];rfl,H8.kept⟩
  have h6:shl x 6=shl y 6:=by
    have hc:=Ie;simp only[Bool.not_eq_false',beq_iff_eq,zbf]at hc;rw[h5x,h5y]at hc;rw[h6x,h6y]
    by_cases h:x<0
    . rw[zac h,zac (hc.1 h)]
    rw[zaa h,zaa λh2=>h (hc.2 h2)]
  refine V1 ?_;refine aI (λn:Nat=>[(2,av b2),(3,av b3),(7,I ((n:Int)-1))]) (λn w'=>(n<=6/\shl x n=shl y n)/\Sep w noB [blk b3 (iI y) 265,blk b2 (iI x) 265] w') (λn _=>n) 6 tR ⟨⟨zbi _,h6⟩,H8⟩ (λn τ wa hI=>?_);obtain⟨⟨hn,hs⟩,Ha⟩:=hI;refine Lp ?_;refine Cz (λIg=>?_) (λIg=>?_)
  . obtain⟨m,rfl⟩: ∃m,n=m+1:=⟨n-1,oM⟩
    have hm6:m<6:=oM;have e:((m+1:Nat):Int)-1=(m:Int):=oM;rw[e];refine Dz (λSa wb Hb=>?_);refine V1 ?_;refine Gp Sa 1 rfl rfl (λ_=>(Gives.j6 rfl rfl oM)) (vR Sa 2 Hb (hv:=oP x hm6) (h:=?_));refine V1 ?_;refine Gp Sa 4 rfl rfl (λ_=>(Gives.j6 rfl rfl oM)) (vR Sa 5 Hb (hv:=oP y hm6) (h:=?_));refine O1 ?_;refine fO Sa kR ?_;refine Cz (λIh=>?_) (λIh=>?_)
    . have aX:x<y:=agj hs Ih
      refine V1 ?_;exact⟨by unfold PX;rw[zac aX];rfl,Hb.kept⟩
    have hge:=Ih;refine Dz (λSb wc Hc=>?_);refine V1 ?_;refine Gp Sb 1 rfl rfl (λ_=>(Gives.j6 rfl rfl oM)) (vR Sb 2 Hc (hv:=oP x hm6) (h:=?_));refine V1 ?_;refine Gp Sb 4 rfl rfl (λ_=>(Gives.j6 rfl rfl oM)) (vR Sb 5 Hc (hv:=oP y hm6) (h:=?_));refine O1 ?_;refine fO Sb kR ?_;refine Cz (λIi=>?_) (λIi=>?_)
    . have hgt:y<x:=agj hs.symm Ii
      refine V1 ?_;exact⟨by unfold PX;rw[zaa oM,zac hgt];rfl,Hc.kept⟩
    have rW:=Ii;refine V1 ?_;refine Vc ((m:Int)-1) ?_;refine V1 ?_;exact aj m tR ⟨⟨oM,amx hs oM⟩,Hc⟩ oM
  have zG:n=0:=oM;subst zG;have hxy:x=y:=hs;refine V1 ?_;exact⟨by unfold PX;rw[zaa oM,zaa oM];rfl,Ha.kept⟩
def Ro (v:Int) (h1: -3138550867693340381917894711603833208051177722232017256448<=v) (h2:v<3138550867693340381917894711603833208051177722232017256448):
    Rk prog 185 [agg (iI v)] w (.tuple #[I (if aY v=true then v else 0),I (if aY v=true then 0 else 50)]):=by
  have H:=Sep.aH w;have Et:=nI v 0;have Fv:=nI v 1;have e0:dgt v 0=v%4294967296:=rfl;have e1:dgt v 1=v/4294967296%4294967296:=rfl;refine dh func185 ?_;refine Sr (bB H (cs:=iI v) rfl (h:=λb1 _ _ _=>?_));refine Dz (λk _ S=>?_);refine jU k 0 S (cs:=iI v) (h:=?_);refine dA k 1 [(0,false)] S (Gh (-9223372036854775808) ⟨dC,dC⟩) (h:=λ_ S _=>⟨sU,?_⟩);refine dA k 2 _ S (Rn v (-9223372036854775808) h1 h2 dC dC) (h:=λ_ S _=>⟨sT,?_⟩);refine V2 ?_;refine fK (t:=8) rfl (λa=>?_) (λa=>?_)
  . have hf: ¬aY v=true:=by
      have hc:=a;unfold PX at hc;unfold aY;rw[decide_eq_true_eq]
      split at hc
      . omega
      split at hc<;>omega
    refine V3 ?_;exact⟨by rw[zaa hf,zaa hf];rfl,S.kept⟩
  have hlo: -9223372036854775808<=v:=by
    have hc:=a;unfold PX at hc
    split at hc
    . omega
    split at hc<;>omega
  refine jU k 5 S (cs:=iI v) (h:=?_);refine dA k 6 [(5,false)] S (Gh 9223372036854775807 ⟨dC,dC⟩) (h:=λ_ a _=>⟨sU,?_⟩);refine dA k 7 _ a (Rn v 9223372036854775807 h1 h2 dC dC) (h:=λ_ a _=>⟨sT,?_⟩);refine O2 ?_;refine fO k kR ?_;refine Cz (λk=>?_) (λk=>?_)
  . have hf: ¬aY v=true:=by
      have hc:=k;unfold PX at hc;unfold aY;rw[decide_eq_true_eq]
      split at hc
      . omega
      split at hc<;>omega
    refine V2 ?_;exact⟨by rw[zaa hf,zaa hf];rfl,a.kept⟩
  have hf:aY v=true:=by
    have hc:=k;unfold PX at hc;unfold aY;rw[decide_eq_true_eq]
    split at hc
    . omega
    split at hc<;>omega
  refine V0 ?_;refine Vv (Gives.j6 (i:=0) rfl rfl oM) (Me a (hv:=oP v dC) (h:=?_));refine Vv (Gives.j6 (i:=1) rfl rfl oM) (Me a (hv:=oP v dC) (h:=?_));refine Vv (Gives.ao5 (c:=4294967296*dgt v 1) rfl rfl (by rw[IntKind.wrap_u64];omega)) ?_;refine Vv (Gives.akU (c:=wA v) rfl rfl (by rw[IntKind.wrap_u64];unfold wA;omega)) ?_;refine Vv (Gives.zw (c:=yu v) rfl (XJ v)) (V2 ?_);exact⟨by rw[zac hf,zac hf];exact zay (λz=>Value.tuple #[I z,I 0]) (aci hf),a.kept⟩
def l7 (x:Int×Int):LV:=[I x.1,I x.2]
instance:jd l7 2:=⟨λ_=>rfl⟩
def rR:List (Int×Int)->Int
 | []=>0
 | x::l=>x.1*x.2+rR l
def KU (a b:List (Int×Int)):rR (a++b)=rR a+rR b:=by
 induction a with
 | nil=>simp[rR]
 | cons x a ih=>rw[zcb,rR,rR,ih];omega
def Rp: ∀{l:List (Int×Int)},(∀x∈l,fits x.1/\fits x.2)-> -(85070591730234615865843651857942052864*(l.length:Int))<=rR l/\rR l<=85070591730234615865843651857942052864*(l.length:Int)
 | [],_=>by simp[rR]
 | x::l,h=>by
  have ih:=Rp λy hy=>h y (zau _ hy);obtain⟨h1,h2⟩:=h x zao;have:=CZ h1 h2;rw[rR,zaq];omega
def JJ {L:List (Int×Int)} {vl:Value} (hl:aJ w vl l7 2 L) (hf: ∀x∈L,fits x.1/\fits x.2) (hn:L.length<=1000000):
    Rk prog 133 [vl] w (.tuple #[I (if aY (rR L)=true then rR L else 0),I (if aY (rR L)=true then 0 else 50)]):=by
  obtain⟨A,m,rfl,⟨hm,nX⟩,hA⟩:=hl;have hbd:=Rp hf;have H:=Sep.aH w;refine dh func133 ?_;refine Az (λb4 w4 H4 k3=>?_);refine V1 ?_;refine aI (λi:Nat=>[(0,.slice A L.length m),(4,av b4),(5,I i)]) (λi w'=>i<=L.length/\Sep w noB [blk b4 (iI (rR (L.take i))) 265] w') (λi _=>L.length-i) 0 tR ⟨zai _,H4⟩ (λi τ w7 hI=>?_);obtain⟨hi,H7⟩:=hI;refine Lp ?_;refine Cz (λIe=>?_) (λIe=>?_)
  . have aX:i<L.length:=oM
    obtain⟨x,hx⟩:=get_some aX;have hxf:=hf x (zag hx);have yH:rR (L.take (i+1))=rR (L.take i)+x.1*x.2:=by rw[zat,hx,KU];show _+(_+0)=_;omega
    obtain⟨ad,rfl⟩:=hA.addr oM;refine Dz (λSa wa Ha=>?_);obtain⟨ad',had,hc0⟩:=(hA.keep Ha.kept).cell (f:=0) (v:=I x.1) hx rfl;obtain⟨ad'',anR,Tq⟩:=(hA.keep Ha.kept).cell (f:=1) (v:=I x.2) hx rfl;injection had with had
    injection anR with anR
    subst had;subst anR;have hd0:wa.cell? ((ad.add (i*2)).add (0*1))=some (I x.1):=by rw[add_add];exact hc0
    have hd1:wa.cell? ((ad.add (i*2)).add (1*1))=some (I x.2):=by rw[add_add];exact Tq
    refine jU Sa 0 Ha (cs:=iI (rR (L.take i))) (h:=?_);refine V2 ?_;refine GS (Gn rfl (λ_=>Gives.idx rfl rfl aX) ?_);refine Gp Sa 4 rfl rfl (λ_=>(Gives.BO (i:=0) rfl rfl oM)) (GS (Gt rfl (Gives.acL rfl hd0) ?_));refine V2 ?_;refine GS (Gn rfl (λ_=>Gives.idx rfl rfl aX) ?_);refine Gp Sa 9 rfl rfl (λ_=>(Gives.BO (i:=1) rfl rfl oM)) (GS (Gt rfl (Gives.acL rfl hd1) ?_));refine dA Sa 11 [(0,false)] Ha (Rm x.1 x.2 hxf.1 hxf.2) (h:=λwb Hb ka=>⟨sU,?_⟩);refine dA Sa 12 _ Hb (JF _ _) (h:=λwc Hc kb=>⟨sT,?_⟩);refine bM Sa 13 _ Hc (us:=iI (rR (L.take i)+x.1*x.2)) (h:=λwd Hd=>⟨sT,?_⟩);refine V1 ?_;refine Vc ((i+1:Nat):Int) ?_;refine V1 ?_;exact aj (i+1) tR ⟨oM,by rw[yH];exact Hd⟩ oM
  have q9:L.take i=L:=zaj oM;rw[q9]at H7;refine V0 ?_;refine fQ H7 (cs:=iI (rR L)) (h:=?_);refine Kz (Ro (rR L) oM oM) (λwe He kc=>?_);refine V4 ?_;exact⟨rfl,He.kept⟩
def XM (a b:Int) (ha:fits a) (hb:fits b):Rk prog 134 [I a,I b] w (.tuple #[I (if aY (a*b)=true then a*b else 0),I (if aY (a*b)=true then 0 else 50)]):=by
 have hbd:=CZ ha hb;have H:=Sep.aH w;refine bU func134 ?_;refine Kz (Rm a b ha hb) (λ_ _ _=>?_);refine Kz (Ro (a*b) oM oM) (λ_ k _=>?_);refine V4 ?_;exact⟨rfl,k.kept⟩
end
open Go.Sort
def EJ {α:Type} (f:α->Int) (x:α):LV:=[I (f x)]
instance {α:Type} (f:α->Int):jd (EJ f) 1:=⟨λ_=>rfl⟩
def gG {α:Type} (f:α->Int) (A:OA) (n c:Nat) (d:Array α):HP:=aU 3 1 (EJ f) (.slice A n c) d.toList
def ltC {α:Type} (cf:α->α->Int) (x y:α):Bool:=decide (cf x y<0)
section
variable {α:Type} {f:α->Int} {cf:α->α->Int} {w w' w0:Wd} {S F:NP} {rs:List HP} {put:HP->List HP} {A:OA} {n c i:Nat} {d:Array α} {fv:Value}
def aoW [Inhabited α] (h:i<d.size):d.toList[i]? =some d[i]! :=by
 rw[Array.getElem?_toList,getElem!_pos d i h,zew h]
def swp_size [Inhabited α] (d:Array α) (i j:Nat):(swp d i j).size=d.size:=by unfold swp;rw[zej,zej]
def rdI (hn:n=d.size) (H:Mw.Sep w0 S rs w) (hat:At rs (gG f A n c d) put):Rd w A (EJ f) 1 d.toList:=by
 subst hn;exact dP H hat
def pK {α:Type} (P:Program) (fv:Value) (f:α->Int) (cf:α->α->Int) (F:NP) (w:Wd):Prop:=
 ∃(g:FuncId) (fs cs:LV),fv=.func (.func g) fs.toArray cs.toArray/\qz P g/\∀w1,Kept F w w1->∀x y:α,Rk P g (fs++[I (f x),I (f y)]++cs) w1 (I (cf x y))
def pK.keep {P:Program} (h:pK P fv f cf F w) (hk:Kept F w w'):pK P fv f cf F w':=by
 obtain⟨g,fs,cs,e,he,hc⟩:=h;exact⟨g,fs,cs,e,he,λH h1 x y=>hc H (hk.trans h1 λ_=>.inl) x y⟩
def pK.into {P:Program} (h:pK P fv f cf F w) (hk:Kept F w w') (hS: ∀b,S b->F b\/w.heap.size<=b):pK P fv f cf S w':=by
 obtain⟨g,fs,cs,e,he,hc⟩:=h;exact⟨g,fs,cs,e,he,λH h1 x y=>hc H (hk.trans h1 hS) x y⟩
end
end
variable {w1:Wd}
open Go.RowKit
section
variable {P:Program} {r:Option Nat} {n:Nat} {ops:AO} {Q:Post} {rest:LO} {σ:St} {w w0:Wd} {S F:NP} {rs:List HP} {put:HP->List HP} {ty:Td} {pos:String} {after:Array Edge} {guard:Option (Nat×Bool)} {lv:List Bool} {pd:LNB}
 {ρ:Od->Value} {x y:Od} {α:Type} {f:α->Int} {cf:α->α->Int} {A:OA} {m c i:Nat} {a:α} {d:Array α} {T t:Td} {fv:Value}
def Gives.zR {e bytes:Nat} [ht:dn P t e] [hc:Cells P e 1 bytes] (hm:m=d.size) (hx:ρ x=.slice A m c) (hy:ρ y=.int .i64 i) (hr:Rd w1 A (EJ f) 1 d.toList) (aX:i<d.size):Gives P ρ (.indexAddr t x y) ty w (adr A (i*1)) w:=
 Gives.LB (l:=d.toList) (by rw[hm];rfl) hx hy hr aX
def Gives.aoX [Inhabited α] [OneCell P T] (hx:ρ x=adr A (i*1)) (hr:Rd w A (EJ f) 1 d.toList) (aX:i<d.size):Gives P ρ (.load T x) ty w (I (f d[i]!)) w:=
 Gives.CJ (enc:=EJ f) (l:=d.toList) (f:=0) hx hr (aoW aX) rfl
def XO [Inhabited α] [h1:OneCell P T] (hm:m=d.size) (H:Sep w0 S rs w) (hat:At rs (gG f A m c d) put) (aX:i<d.size) (hx:evF σ x=adr A (i*1)) (hy:evF σ y=I (f a)):
    ∃w',PE P (evF σ) (.store T x y) ty w w'/\Sep w0 S (put (gG f A m c (d.setIfInBounds i a))) w':=by
  obtain⟨w',h,hs⟩:=KL (P:=P) (ty:=ty) (T:=T) (enc:=EJ f) (f:=0) a (m:=m) (by rw[hm];rfl) H hat (aoW aX) dC rfl hx hy rfl;refine⟨w',h,?_⟩;unfold gG;rw[Array.toList_setIfInBounds];exact hs
def XP [Inhabited α] (fB:dX n ops=true) (e:Nat) (pd':LNB) (hm:m=d.size) [h1:OneCell P T] (H:Sep w0 S rs w) (hat:At rs (gG f A m c d) put) (aX:i<d.size)
    (ho:ops[e]? =some ⟨none,.store T x y,ty,pos,after,guard⟩:=by exact rfl)
    (hw:Region.wanted ⟨none,.store T x y,ty,pos,after,guard⟩ (bY ops σ)=true:=by kernel_rfl)
    (hx:evF σ x=adr A (i*1):=by exact rfl) (hy:evF σ y=I (f a):=by exact rfl)
    (dN:fE ops lv (pd.map (·.1)) e=true:=by kernel_rfl) (oH:pd.filter (λp=> !((above ops e).contains p.1))=pd':=by exact pD)
    (h: ∀w',Sep w0 S (put (gG f A m c (d.setIfInBounds i a))) w'->jo P ops σ w' pd'/\FG P r n ops Q (lv.set e true) pd' σ w'):FG P r n ops Q lv pd σ w:=
  XL fB e pd' ho hw (XO hm H hat aX hx hy) dN oH h
def aoY (fB:dX n ops=true) (e:Nat) (pd':LNB) (hC:pK P fv f cf F w1) (H:Sep w1 F rs w) (a b:α) {dd:Nat} {xs:List Od} {ats:Array Td}
    (ho:ops[e]? =some ⟨some dd,.call {callee:=.value y,args:=xs.toArray,argTypes:=ats},ty,pos,after,guard⟩:=by exact rfl)
    (hw:Region.wanted ⟨some dd,.call {callee:=.value y,args:=xs.toArray,argTypes:=ats},ty,pos,after,guard⟩ (bY ops σ)=true:=by kernel_rfl)
    (hy:evF σ y=fv:=by exact rfl) (hv:xs.map (evF σ)=[I (f a),I (f b)]:=by exact rfl)
    (dN:fE ops lv (pd.map (·.1)) e=true:=by kernel_rfl) (oH:pd.filter (λp=> !((above ops e).contains p.1))=pd':=by exact pD)
    (h: ∀w',Sep w1 F rs w'->jo P ops (upd σ dd (I (cf a b))) w' pd'/\FG P r n ops Q (lv.set e true) pd' (upd σ dd (I (cf a b))) w'):FG P r n ops Q lv pd σ w:=by
  obtain⟨g,fs,cs,rfl,he,hc⟩:=hC;refine j4 (he:=he) fB e pd' hy (hc w H.kept a b) ho hw hv dN oH λv w' hr=>?_;obtain⟨rfl,hk⟩:=hr;exact h w' (H.keep hk)
def Gives.aq8 {e bytes:Nat} [ht:dn P t e] [hc:Cells P e 1 bytes] (hx:ρ x=.slice A m c) (hy:ρ y=.int .i64 i) (H:Sep w0 S rs w1) (hat:At rs (gG f A m c d) put) (hm:m=d.size) (aX:i<m):Gives P ρ (.indexAddr t x y) ty w (adr A (i*1)) w:=
 Gives.zR hm hx hy (rdI hm H hat) (hm▸aX)
def Gives.aoZ [Inhabited α] [OneCell P T] (hx:ρ x=adr A (i*1)) (H:Sep w0 S rs w) (hat:At rs (gG f A m c d) put) (hm:m=d.size) (aX:i<m):Gives P ρ (.load T x) ty w (I (f d[i]!)) w:=
 Gives.aoX hx (rdI hm H hat) (hm▸aX)
def sz {p:Prop} (h:p:=by first | assumption | (simp only[zej];assumption) | (simp only[swp_size];assumption)):p:=h
def FsI [Inhabited α] {j:Nat} [h1:OneCell P T] (h: ∀w',Sep w0 S (put (gG f A m c (d.setIfInBounds i a))) w'->FG P r n ops Q ((lv.set j true).set (j+1) true) (pd.filter (λp=> !((above ops (j+1)).contains p.1))) σ w') (H:Sep w0 S rs w:=by assumption) (hat:At rs (gG f A m c d) put:=by first | exact At0 | exact At1)
    (fB:dX n ops=true:=by assumption) (ho:ops[j+1]? =some ⟨none,.store T x y,ty,pos,after,guard⟩:=by exact rfl)
    (hw:Region.wanted ⟨none,.store T x y,ty,pos,after,guard⟩ (bY ops σ)=true:=by kernel_rfl)
    (hx:evF σ x=adr A (i*1):=by exact rfl) (hy:evF σ y=I (f a):=by exact rfl) (hm:m=d.size:=by exact sz) (aX:i<m:=by omega)
    (dN:fE ops (lv.set j true) (pd.map (·.1)) (j+1)=true:=by kernel_rfl) (dK:(pd.filter (λp=> !((above ops (j+1)).contains p.1))).all (λp=>p.2)=true:=by kernel_rfl):FG P r n ops Q (lv.set j true) pd σ w:=
  XP fB (j+1) _ hm H hat (hm▸aX) ho hw hx hy dN rfl λw' hs=>⟨sT dK,h w' hs⟩
def FcI {j:Nat} {a b:α} {dd:Nat} {xs:List Od} {ats:Array Td} (h: ∀w',Sep w1 F rs w'->FG P r n ops Q ((lv.set j true).set (j+1) true) (pd.filter (λp=> !((above ops (j+1)).contains p.1))) (upd σ dd (I (cf a b))) w')
    (hC:pK P fv f cf F w1:=by assumption) (H:Sep w1 F rs w:=by assumption) (fB:dX n ops=true:=by assumption)
    (ho:ops[j+1]? =some ⟨some dd,.call {callee:=.value y,args:=xs.toArray,argTypes:=ats},ty,pos,after,guard⟩:=by exact rfl)
    (hw:Region.wanted ⟨some dd,.call {callee:=.value y,args:=xs.toArray,argTypes:=ats},ty,pos,after,guard⟩ (bY ops σ)=true:=by kernel_rfl)
    (hy:evF σ y=fv:=by exact rfl) (hv:xs.map (evF σ)=[I (f a),I (f b)]:=by exact rfl)
    (dN:fE ops (lv.set j true) (pd.map (·.1)) (j+1)=true:=by kernel_rfl) (dK:(pd.filter (λp=> !((above ops (j+1)).contains p.1))).all (λp=>p.2)=true:=by kernel_rfl):FG P r n ops Q (lv.set j true) pd σ w:=
  aoY fB (j+1) _ hC H a b ho hw hy hv dN rfl λw' hs=>⟨sT dK,h w' hs⟩
end
open Go.ChangeShapes Go.WideShapes Go.Sort
section
attribute [local irreducible] FW FL FG FGn jJ jO fC lJ Qfn Gives
section
variable {H:Type} {enc:Td×Value->H} {W:Wd} {r:Reach} {base:Nat} {v:Value} {d:DataW H} {ps:List MemPlace}
end
def acu {W:Wd}: ∀r:List (L8×Value),(∀x∈r,∃l,aJ W x.2 aN 3 l/\bC l)->∃cols:List nQ,pI W r cols/\∀o∈cols,bC o.steps
 | [],_=>⟨[],pI.nil,λo h=>zas h zam⟩
 | x::r,h=>by
  obtain⟨l,hl,hf⟩:=h x zao;obtain⟨cols,⟨h1,h2⟩,hc⟩:=acu r λy hy=>h y (zau _ hy);refine⟨⟨x.1,l⟩::cols,⟨by rw[zav,zav,h1],λi y o hy ho=>?_⟩,λo ho=>?_⟩
  .cases i with
   | zero=>
    rw[zca]at hy ho;injection hy with hy
    injection ho with ho
    subst hy ho;exact hl
   | succ i=>exact h2 i y o hy ho
  rcases zbb.1 ho with e | e
  .subst e;exact hf
  exact hc o e
section
variable {H:Type} {enc:Td×Value->H} {W:Wd} {r:Reach} {base:Nat} {v:Value} {d:DataW H} {ps:List MemPlace}
def XQ {n0:Nat} {y:DataW H×List MemPlace} (h:DataW.trod enc prog W 0 (λ_=>true) true n0 23 [v]=some y): ∃l:List bL,aJ W v aN 3 l/\bC l:=by
 obtain⟨A,c,l,rfl,h2,h3,h4,h5⟩:=uI (f:=aN) (good:=λx:bL=>fits x.n) (s:=3) underlying23 kR (λ_=>rfl) (λn cs y hl hc=>adP hl hc) h;exact⟨l,yU h2 h3 h4,h5⟩
def aho {n:Nat} {cs:LV} {y:DataW H×List MemPlace} (hl:cs.length=2) (hc:DataW.trod enc prog W 0 (λ_=>true) true n 68 cs=some y): ∃x:L8×Value,cs=dx x/\∃l,aJ W x.2 aN 3 l/\bC l:=by
 have hf:=nO underlying68 kR hc kR hl;obtain⟨v0,_,_,LY,h0⟩:=hf 0 _ rfl;obtain⟨v1,_,_,Tt,h1⟩:=hf 1 _ rfl;obtain⟨s,hs,_⟩:=DataW.trod_string underlying9 h0;obtain⟨l,hr,Mr⟩:=XQ h1;injection hs with hs _
 subst hs
 match cs,hl with
 | [c0,c1],_=>
  simp only[zca,zcm,Option.some.injEq]at LY Tt;subst LY Tt;exact⟨(s.data.toList,c1),by rw[J6 s];rfl,l,hr,Mr⟩
def aki {n0:Nat} {y:DataW H×List MemPlace} (h:DataW.trod enc prog W 0 (λ_=>true) true n0 24 [v]=some y): ∃l:List nQ,Jw W v l/\∀o∈l,bC o.steps:=by
 obtain⟨A,c,q,rfl,h2,h3,h4,h5⟩:=uI (f:=dx) (good:=λx:L8×Value=>∃l,aJ W x.2 aN 3 l/\bC l) (s:=2) underlying24 kR (λ_=>rfl) (λn cs y hl hc=>aho hl hc) h;obtain⟨cols,hr,hf⟩:=acu q h5;exact⟨cols,⟨q,yU h2 h3 h4,hr⟩,hf⟩
def aeB (hv:Value.okWide prog W r base 26 v) (h:DataW.Trod enc prog W 0 (λ_=>true) true 26 v d ps): ∃p:aW,fZ W v p/\rM p:=by
 obtain⟨cs,rfl,Ph⟩:=okWide_struct underlying26 hv;have hc:prog.cellsOf 26=3:=kR;rw[hc]at Ph;obtain⟨fuel,hfu⟩:=h;obtain⟨l⟩:=cs
 match l,Ph with
 | [a,b,c],_=>
  have hf:=nO underlying26 kR hfu kR rfl;obtain⟨v0,_,_,LY,h0⟩:=hf 0 _ rfl;obtain⟨v1,_,_,Tt,h1⟩:=hf 1 _ rfl;obtain⟨v2,_,_,hv2,h2⟩:=hf 2 _ rfl;have e0:some a=some v0:=LY;have e1:some b=some v1:=Tt;have e2:some c=some v2:=hv2;injection e0 with e0
  injection e1 with e1
  injection e2 with e2
  subst e0 e1 e2;obtain⟨wh,hw,hwf⟩:=XQ h0;obtain⟨cols,ho,Mt⟩:=aki h1;obtain⟨g,hg,_,_⟩:=DataW.trod_int underlying3 h2;injection hg with hg _
  subst hg;exact⟨⟨wh,cols,g⟩,⟨a,b,rfl,hw,ho⟩,hwf,Mt⟩
end
section
variable {α:Type} [Inhabited α] {f:α->Int} {cf:α->α->Int} {w:Wd} {F:NP} {A:OA} {n c:Nat} {d₀:Array α} {fv:Value}
def aas {a b:Nat} (hp:(gG f A n c d₀).ok F w) (zG:n=d₀.size) (LU:a<=b) (hb:b<=n) (pR:n<=1000000) (oJ:pK Tryz.prog fv f cf F w):
    aQ Tryz.prog 344 [.slice A n c,I a,I b,fv] w λr w'=>r=.tuple #[]/\Turn F (gG f A n c (insertionSort (ltC cf) d₀ a b)) w w':=by
  have H:=Sep.bW hp;obtain⟨res,ak⟩: ∃res,res=insertionSort (ltC cf) d₀ a b:=⟨_,rfl⟩;rw[<-ak];unfold insertionSort at ak;refine yM Tryz.func344 ?_;refine V1 ?_;refine Vc ((a+1:Nat):Int) ?_;refine V1 ?_;refine aI (λx:Nat×Array α=>[(0,.slice A n c),(1,I a),(2,I b),(3,fv),(8,I x.1)]) (λx w'=>((n=x.2.size/\x.1<=b+1)/\insOuter (ltC cf) a b x.1 x.2=res)/\Sep w F [gG f A n c x.2] w') (λx _=>b+1-x.1) (a+1,d₀) tR ⟨⟨⟨zG,oM⟩,ak.symm⟩,H⟩ (λx τ _ hI=>?_);obtain⟨i,d⟩:=x;obtain⟨⟨⟨hn,hib⟩,hi⟩,S⟩:=hI;dsimp only at hn hib hi S;refine Lp ?_;refine Cz (λe=>?_) (λe=>?_)
  . have aX:i<b:=oM
    rw[insOuter,zac aX]at hi;refine V2 ?_;refine aI (λx:Nat×Array α=>[(0,.slice A n c),(1,I a),(2,I b),(3,fv),(8,I i),(9,I x.1)]) (λx w'=>((n=x.2.size/\x.1<=i)/\insOuter (ltC cf) a b (i+1) (insInner (ltC cf) a x.1 x.2)=res)/\Sep w F [gG f A n c x.2] w') (λx _=>x.1) (i,d) tR ⟨⟨⟨hn,zbi _⟩,hi⟩,S⟩ (λx τ _ hI=>?_);clear hi hn;obtain⟨j,d⟩:=x;obtain⟨⟨⟨hn,hji⟩,hi⟩,e⟩:=hI;dsimp only at hn hji hi e;have hR:=rdI hn e At0;refine Lp ?_;refine Dz (λe _ g=>?_);refine V4 ?_;refine fK (t:=21) rfl (λl=>?_) (λl=>?_)
    . obtain⟨k,rfl⟩: ∃k,j=k+1:=⟨j-1,oM⟩
      have hka:k+1>a:=oM;refine V7 ?_;refine Gc e 11 ((k:Nat):Int) ?_;refine V2 ?_;refine FcI (λ_ l=>?_);refine O2 ?_;refine fO e kR ?_;refine Cz (λe=>?_) (λe=>?_)
      . rw[insInner,zac (by simp[ltC];exact⟨oM,e⟩)]at hi
        refine Dz (λm _ _=>?_);refine V4 ?_;refine Gc m 4 ((k:Nat):Int) ?_;refine V2 ?_;refine Gc m 7 ((k:Nat):Int) ?_;refine V7 ?_;refine FsI (λ_ _=>?_);refine V1 ?_;refine FsI (λ_ m=>?_);refine V1 ?_;refine Vc (k:Int) ?_;refine V1 ?_;exact aj (k,swp d (k+1) k) tR ⟨⟨⟨by rw[swp_size];exact hn,dO⟩,hi⟩,m⟩ dO
      rw[insInner,zaa (by simp[ltC];intro _;have:=e;omega)]at hi;refine V1 ?_;refine Vc ((i+1:Nat):Int) ?_;refine V1 ?_;exact aj (i+1,d) tR ⟨⟨⟨hn,dO⟩,hi⟩,l⟩ dO
    have dK:insInner (ltC cf) a j d=d:=by
      cases j with
      | zero=>rfl
      | succ k=>rw[insInner,zaa (by simp;intro h;omega)]
    rw[dK]at hi;refine V2 ?_;refine Vc ((i+1:Nat):Int) ?_;refine V1 ?_;exact aj (i+1,d) tR ⟨⟨⟨hn,dO⟩,hi⟩,g⟩ dO
  rw[insOuter,zaa oM]at hi;refine V0 ?_;exact⟨rfl,by rw[<-hi];exact S.turn⟩
theorem acv {root top first:Nat} (hp:(gG f A n c d₀).ok F w) (zG:n=d₀.size) (hb:first+top<=n) (pR:n<=1000000) (hr:root<=n) (oJ:pK prog fv f cf F w):
    aQ prog 364 [.slice A n c,I root,I top,I first,fv] w λr w'=>r=.tuple #[]/\n=(siftDown (ltC cf) top first root d₀).size/\Turn F (gG f A n c (siftDown (ltC cf) top first root d₀)) w w':=by
  have H:=Sep.bW hp;obtain⟨res,ak⟩: ∃res,res=siftDown (ltC cf) top first root d₀:=⟨_,rfl⟩;rw[<-ak];refine Qt func364 ?_;refine V2 ?_;refine aI (λx:Nat×Array α=>[(0,.slice A n c),(2,I top),(3,I first),(4,fv),(10,I x.1)]) (λx w'=>((n=x.2.size/\x.1<=n)/\siftDown (ltC cf) top first x.1 x.2=res)/\Sep w F [gG f A n c x.2] w') (λx _=>n+1-x.1) (root,d₀) tR ⟨⟨⟨zG,hr⟩,ak.symm⟩,H⟩ (λx τ _ hI=>?_);obtain⟨r,d⟩:=x;obtain⟨⟨⟨hn,hrn⟩,hi⟩,k⟩:=hI;dsimp only at hn hrn hi k;have hR:=rdI hn k At0;refine Lp ?_;refine V1 ?_;refine Vc ((2*r:Nat):Int) ?_;refine Vc ((2*r+1:Nat):Int) ?_;refine Cz (λS=>?_) (λS=>?_)
  . have hge:2*r+1≥top:=oM
    rw[siftDown,dif_pos hge]at hi;refine V0 ?_;exact⟨rfl,by rw[<-hi];exact hn,by rw[<-hi];exact k.turn⟩
  have hge: ¬2*r+1≥top:=oM;rw[siftDown,dif_neg hge]at hi;refine Dz (λS _ _=>?_);refine V1 ?_;refine Gc S 1 ((2*r+1+1:Nat):Int) ?_;refine V3 ?_;refine fK (t:=23) rfl (λk=>?_) (λk=>?_)
  . have h2:2*r+1+1<top:=oM
    refine V4 ?_;refine Gc S 9 ((first+(2*r+1):Nat):Int) ?_;refine V5 ?_;refine Gc S 15 ((first+(2*r+1):Nat):Int) ?_;refine Gc S 16 ((first+(2*r+1)+1:Nat):Int) ?_;refine V2 ?_;refine FcI (λ_ _=>?_);refine O2 ?_;refine fO S kR ?_;refine Cz (λS=>?_) (λS=>?_)
    . have aX:=S
      rw[zac (by simp only[zbr,decide_eq_true_eq,ltC];exact⟨h2,aX⟩),dif_pos (show 2*r+2<top from oM)]at hi;refine V1 ?_;refine Vc ((2*r+2:Nat):Int) ?_;obtain⟨ch,hch⟩: ∃ch,ch=2*r+2:=⟨_,rfl⟩;rw[<-hch]at hi ⊢;have hct:ch<top:=oM;refine Dz (λk _ _=>?_);refine V4 ?_;refine Gc k 4 ((first+r:Nat):Int) ?_;refine V5 ?_;refine Gc k 10 ((first+ch:Nat):Int) ?_;refine V2 ?_;refine FcI (λ_ a=>?_);refine O2 ?_;refine fO k kR ?_;refine Cz (λk=>?_) (λk=>?_)
      . have aX:=k
        rw[zac (by simp only[zdi,decide_eq_false_iff_not,ltC];exact aX)]at hi;refine V0 ?_;exact⟨rfl,by rw[<-hi];exact hn,by rw[<-hi];exact a.turn⟩
      have aX:=k;rw[zaa (by simp only[zdi,decide_eq_false_iff_not,ltC];exact aX)]at hi;refine Dz (λk _ _=>?_);refine V3 ?_;refine Gc k 3 ((first+r:Nat):Int) ?_;refine V3 ?_;refine Gc k 7 ((first+ch:Nat):Int) ?_;refine V3 ?_;refine Gc k 11 ((first+ch:Nat):Int) ?_;refine V5 ?_;refine Gc k 17 ((first+r:Nat):Int) ?_;refine V3 ?_;refine FsI (λ_ _=>?_);refine V1 ?_;refine FsI (λ_ k=>?_);refine V2 ?_;exact aj (ch,swp d (first+r) (first+ch)) tR ⟨⟨⟨by rw[swp_size];exact hn,dO⟩,hi⟩,k⟩ dO
    have aX:=S;rw[zaa (by simp only[zbr,decide_eq_true_eq,ltC];exact λh=>aX h.2)]at hi;obtain⟨ch,hch⟩: ∃ch,ch=2*r+1:=⟨_,rfl⟩;rw[<-hch]at hi ⊢;have hct:ch<top:=oM;refine Dz (λk _ _=>?_);refine V4 ?_;refine Gc k 4 ((first+r:Nat):Int) ?_;refine V5 ?_;refine Gc k 10 ((first+ch:Nat):Int) ?_;refine V2 ?_;refine FcI (λ_ S=>?_);refine O2 ?_;refine fO k kR ?_;refine Cz (λk=>?_) (λk=>?_)
    . have aX:=k
      rw[zac (by simp only[zdi,decide_eq_false_iff_not,ltC];exact aX)]at hi;refine V0 ?_;exact⟨rfl,by rw[<-hi];exact hn,by rw[<-hi];exact S.turn⟩
    have aX:=k;rw[zaa (by simp only[zdi,decide_eq_false_iff_not,ltC];exact aX)]at hi;refine Dz (λk _ _=>?_);refine V3 ?_;refine Gc k 3 ((first+r:Nat):Int) ?_;refine V3 ?_;refine Gc k 7 ((first+ch:Nat):Int) ?_;refine V3 ?_;refine Gc k 11 ((first+ch:Nat):Int) ?_;refine V5 ?_;refine Gc k 17 ((first+r:Nat):Int) ?_;refine V3 ?_;refine FsI (λ_ _=>?_);refine V1 ?_;refine FsI (λ_ k=>?_);refine V2 ?_;exact aj (ch,swp d (first+r) (first+ch)) tR ⟨⟨⟨by rw[swp_size];exact hn,dO⟩,hi⟩,k⟩ dO
  have h2: ¬2*r+1+1<top:=oM;rw[zaa (by simp[h2])]at hi;obtain⟨ch,hch⟩: ∃ch,ch=2*r+1:=⟨_,rfl⟩;rw[<-hch]at hi ⊢;have hct:ch<top:=oM;refine Dz (λk _ _=>?_);refine V4 ?_;refine Gc k 4 ((first+r:Nat):Int) ?_;refine V5 ?_;refine Gc k 10 ((first+ch:Nat):Int) ?_;refine V2 ?_;refine FcI (λ_ S=>?_);refine O2 ?_;refine fO k kR ?_;refine Cz (λk=>?_) (λk=>?_)
  . have aX:=k
    rw[zac (by simp only[zdi,decide_eq_false_iff_not,ltC];exact aX)]at hi;refine V0 ?_;exact⟨rfl,by rw[<-hi];exact hn,by rw[<-hi];exact S.turn⟩
  have aX:=k;rw[zaa (by simp only[zdi,decide_eq_false_iff_not,ltC];exact aX)]at hi;refine Dz (λk _ _=>?_);refine V3 ?_;refine Gc k 3 ((first+r:Nat):Int) ?_;refine V3 ?_;refine Gc k 7 ((first+ch:Nat):Int) ?_;refine V3 ?_;refine Gc k 11 ((first+ch:Nat):Int) ?_;refine V5 ?_;refine Gc k 17 ((first+r:Nat):Int) ?_;refine V3 ?_;refine FsI (λ_ _=>?_);refine V1 ?_;refine FsI (λ_ k=>?_);refine V2 ?_;exact aj (ch,swp d (first+r) (first+ch)) tR ⟨⟨⟨by rw[swp_size];exact hn,dO⟩,hi⟩,k⟩ dO
def XT {a b:Nat} (hp:(gG f A n c d₀).ok F w) (zG:n=d₀.size) (LU:a<b) (hb:b<=n) (pR:n<=1000000) (oJ:pK prog fv f cf F w):
    aQ prog 345 [.slice A n c,I a,I b,fv] w λr w'=>r=.tuple #[]/\n=(heapSort (ltC cf) d₀ a b).size/\Turn F (gG f A n c (heapSort (ltC cf) d₀ a b)) w w':=by
  have H:=Sep.bW hp;obtain⟨res,ak⟩: ∃res,res=heapSort (ltC cf) d₀ a b:=⟨_,rfl⟩;rw[<-ak];unfold heapSort at ak;refine yM func345 ?_;refine V5 ?_;refine Vc ((b-a:Nat):Int) ?_;refine V2 ?_;refine Vc ((b-a-1:Nat):Int) ?_;refine Vv (Gives.GZ (a:=b-a-1) (b:=2) rfl rfl dC oM) (V1 ?_);refine aI (λx:Nat×Array α=>[(0,.slice A n c),(3,fv),(8,I a),(9,I 0),(10,I (b-a:Nat)),(11,I ((x.1:Int)-1))]) (λx w'=>((n=x.2.size/\x.1<=(b-a-1)/2+1)/\res=heapPop (ltC cf) a (b-a) (heapBuild (ltC cf) (b-a) a x.1 x.2))/\Sep w F [gG f A n c x.2] w') (λx _=>x.1) ((b-a-1)/2+1,d₀) ⟨rfl,rfl,rfl,rfl,rfl,zay I dO,trivial⟩ ⟨⟨⟨zG,zbi _⟩,ak⟩,H⟩ (λx τ wa hI=>?_);obtain⟨k,d⟩:=x;obtain⟨⟨⟨hn,hkb⟩,hi⟩,Ha⟩:=hI;dsimp only at hn hkb hi Ha;clear ak;refine Lp ?_;refine Cz (λIe=>?_) (λIe=>?_)
  . obtain⟨m,rfl⟩: ∃m,k=m+1:=⟨k-1,oM⟩
    rw[show((m+1:Nat):Int)-1=(m:Int)from oM];rw[heapBuild]at hi;refine V5 ?_;obtain⟨F0,eO,gQ,aK⟩:=Ha.focus At0;refine aL (acv (root:=m) (top:=b-a) (first:=a) eO hn oM pR oM (oJ.into Ha.kept gQ)) rfl rfl (λv' wb hv=>?_);obtain⟨rfl,Ph,asn,F1,hq,hs⟩:=hv;have Hb:=aK _ F1 _ asn hq hs;refine V1 ?_;refine Vc ((m:Int)-1) ?_;refine V1 ?_;exact aj (m,siftDown (ltC cf) (b-a) a m d) tR ⟨⟨⟨Ph,dO⟩,hi⟩,Hb⟩ dO
  have zF:k=0:=oM;subst zF;rw[heapBuild]at hi;refine V1 ?_;refine Vc (((b-a:Nat):Int)-1) ?_;refine V1 ?_;refine aI (λx:Nat×Array α=>[(0,.slice A n c),(3,fv),(8,I a),(9,I 0),(12,I ((x.1:Int)-1))]) (λx w'=>((n=x.2.size/\x.1<=b-a)/\res=heapPop (ltC cf) a x.1 x.2)/\Sep w F [gG f A n c x.2] w') (λx _=>x.1) (b-a,d) tR ⟨⟨⟨hn,zbi _⟩,hi⟩,Ha⟩ (λx τ wc hI=>?_);clear hi hn hkb;obtain⟨k,d⟩:=x;obtain⟨⟨⟨hn,hkb⟩,hi⟩,Hc⟩:=hI;dsimp only at hn hkb hi Hc;have hR:=rdI hn Hc At0;refine Lp ?_;refine Cz (λIf=>?_) (λIf=>?_)
  . obtain⟨m,rfl⟩: ∃m,k=m+1:=⟨k-1,oM⟩
    rw[show((m+1:Nat):Int)-1=(m:Int)from oM];rw[heapPop]at hi;refine Dz (λSa wd Hd=>?_);refine V5 ?_;refine Gc Sa 5 ((a+m:Nat):Int) ?_;refine V3 ?_;refine Gc Sa 9 ((a+m:Nat):Int) ?_;refine V7 ?_;refine FsI (λwe He=>?_);refine V1 ?_;refine FsI (λwf Hf=>?_);refine V5 ?_;have Ms:n=(swp d a (a+m)).size:=by rw[swp_size];exact hn
    obtain⟨F0,eO,gQ,aK⟩:=Hf.focus At0;refine aL (acv (root:=0) (top:=m) (first:=a) (d₀:=swp d a (a+m)) eO Ms oM pR oM (oJ.into Hf.kept gQ)) rfl rfl (λv' wg hv=>?_);obtain⟨rfl,Ph,aso,F1,hq,hs⟩:=hv;have Hg:=aK _ F1 _ aso hq hs;refine V1 ?_;refine Vc ((m:Int)-1) ?_;refine V1 ?_;exact aj (m,siftDown (ltC cf) m a 0 (swp d a (a+m))) tR ⟨⟨⟨Ph,dO⟩,hi⟩,Hg⟩ dO
  have zF:k=0:=oM;subst zF;rw[heapPop]at hi;refine V0 ?_;exact⟨rfl,by rw[hi];exact hn,by rw[hi];exact Hc.turn⟩
def JK {a b s bs:Nat} {E:Td} (hp:(star (blk bs [I s] E) (gG f A n c d₀)).ok F w) (hn:n=d₀.size) (ha:a<n) (hb:b<n) (pR:n<=1000000) (hs:s<=1000) (oJ:pK prog fv f cf F w):
    aQ prog 368 [.slice A n c,I a,I b,av bs,fv] w λr w'=>r=.tuple #[I (order2 (ltC cf) d₀ a b s).1,I (order2 (ltC cf) d₀ a b s).2.1]/\Turn F (star (blk bs [I (order2 (ltC cf) d₀ a b s).2.2] E) (gG f A n c d₀)) w w':=by
  have H:=(Sep.bW hp).bE;have hR:=rdI hn H At1;unfold order2;refine Qt func368 ?_;refine Dz (λk _ _=>?_);refine V9 ?_;refine FcI (λ_ S=>?_);refine O1 ?_;refine fO k kR ?_;refine Cz (λk=>?_) (λk=>?_)
  . rw[zac (show ltC cf d₀[b]! d₀[a]! =true from zap k)]
    refine V3 ?_;refine Vc ((s+1:Nat):Int) ?_;refine Uz (λ_ d=>?_);refine V4 ?_;exact⟨rfl,d.aR.turn⟩
  rw[zaa (show ¬ltC cf d₀[b]! d₀[a]! =true from λh=>k (zbd h))];refine V4 ?_;exact⟨rfl,S.aR.turn⟩
def order2_mem {d:Array α} {a b s:Nat} {p:NP} (ha:p a) (hb:p b):p (order2 (ltC cf) d a b s).1/\p (order2 (ltC cf) d a b s).2.1/\(order2 (ltC cf) d a b s).2.2<=s+1:=by
 unfold order2
 split
 .exact⟨hb,ha,zbi _⟩
 exact⟨ha,hb,Nat.le_succ _⟩
def median_mem {d:Array α} {a b m s:Nat} {p:NP} (ha:p a) (hb:p b) (hm:p m):p (median (ltC cf) d a b m s).1/\(median (ltC cf) d a b m s).2<=s+3:=by
 unfold median;dsimp only;obtain⟨h1,h2,h3⟩:=order2_mem (cf:=cf) (d:=d) (s:=s) ha hb;obtain⟨h4,h5,h6⟩:=order2_mem (cf:=cf) (d:=d) (s:=(order2 (ltC cf) d a b s).2.2) h2 hm;obtain⟨h7,h8,h9⟩:=order2_mem (cf:=cf) (d:=d) (s:=(order2 (ltC cf) d (order2 (ltC cf) d a b s).2.1 m (order2 (ltC cf) d a b s).2.2).2.2) h1 h4;exact⟨h8,oM⟩
def Rq {a b m s bs:Nat} {E:Td} (hp:(star (blk bs [I s] E) (gG f A n c d₀)).ok F w) (hn:n=d₀.size) (ha:a<n) (hb:b<n) (hm:m<n) (pR:n<=1000000) (hs:s<=900) (oJ:pK prog fv f cf F w):
    aQ prog 366 [.slice A n c,I a,I b,I m,av bs,fv] w λr w'=>r=I (median (ltC cf) d₀ a b m s).1/\Turn F (star (blk bs [I (median (ltC cf) d₀ a b m s).2] E) (gG f A n c d₀)) w w':=by
  have H:=Sep.bW hp;unfold median;dsimp only;obtain⟨h1,h2,h3⟩:=order2_mem (cf:=cf) (d:=d₀) (s:=s) (p:=λx=>x<n) ha hb;obtain⟨r1,Y3⟩: ∃r1,r1=order2 (ltC cf) d₀ a b s:=⟨_,rfl⟩;rw[<-Y3]at h1 h2 h3 ⊢;obtain⟨h4,h5,h6⟩:=order2_mem (cf:=cf) (d:=d₀) (s:=r1.2.2) (p:=λx=>x<n) h2 hm;obtain⟨r2,Vp⟩: ∃r2,r2=order2 (ltC cf) d₀ r1.2.1 m r1.2.2:=⟨_,rfl⟩;rw[<-Vp]at h4 h5 h6 ⊢;refine aoA func366 ?_;refine V6 ?_;obtain⟨F0,eO,gQ,aK⟩:=H.focus At0;refine aL (JK (a:=a) (b:=b) (s:=s) eO hn ha hb pR oM (oJ.into H.kept gQ)) rfl rfl (λv' _ hv=>?_);obtain⟨rfl,hk7,F1,hq,hs⟩:=hv;have k:=aK _ F1 _ hk7 hq hs;rw[<-Y3]at k ⊢;refine V10 ?_;obtain⟨F0,eO,gQ,aK⟩:=k.focus At0;refine aL (JK (a:=r1.2.1) (b:=m) (s:=r1.2.2) eO hn h2 hm pR oM (oJ.into k.kept gQ)) rfl rfl (λv' _ hv=>?_);obtain⟨rfl,asq,F1,hq,hs⟩:=hv;have k:=aK _ F1 _ asq hq hs;rw[<-Vp]at k ⊢;refine V10 ?_;obtain⟨F0,eO,gQ,aK⟩:=k.focus At0;refine aL (JK (a:=r1.1) (b:=r2.1) (s:=r2.2.2) eO hn h1 h4 pR oM (oJ.into k.kept gQ)) rfl rfl (λv' _ hv=>?_);obtain⟨rfl,asr,F1,hq,hs⟩:=hv;have k:=aK _ F1 _ asr hq hs;refine V7 ?_;exact⟨rfl,k.turn⟩
def BR {a s bs:Nat} {E:Td} (hp:(star (blk bs [I s] E) (gG f A n c d₀)).ok F w) (hn:n=d₀.size) (ha:1<=a) (Vz:a+1<n) (pR:n<=1000000) (hs:s<=900) (oJ:pK prog fv f cf F w):
    aQ prog 365 [.slice A n c,I a,av bs,fv] w λr w'=>r=I (medianAdjacent (ltC cf) d₀ a s).1/\Turn F (star (blk bs [I (medianAdjacent (ltC cf) d₀ a s).2] E) (gG f A n c d₀)) w w':=by
  have H:=Sep.bW hp;unfold medianAdjacent;refine yM func365 ?_;refine V3 ?_;refine Vc ((a-1:Nat):Int) ?_;refine V2 ?_;refine Vc ((a+1:Nat):Int) ?_;refine V2 ?_;obtain⟨F0,eO,gQ,aK⟩:=H.focus At0;refine aL (Rq (a:=a-1) (b:=a) (m:=a+1) (s:=s) eO hn oM oM oM pR hs (oJ.into H.kept gQ)) rfl rfl (λv' _ hv=>?_);obtain⟨rfl,anT,F1,hq,hs⟩:=hv;have k:=aK _ F1 _ anT hq hs;refine V1 ?_;exact⟨rfl,k.turn⟩
def alQ:Sort.Hint->Int
 | .unknown=>0
 | .increasing=>1
 | .decreasing=>2
theorem ahp {a b:Nat} (hp:(gG f A n c d₀).ok F w) (hn:n=d₀.size) (LU:a+12<b) (hb:b<=n) (pR:n<=1000000) (oJ:pK prog fv f cf F w):
    aQ prog 347 [.slice A n c,I a,I b,fv] w λr w'=>r=.tuple #[I (choosePivot (ltC cf) d₀ a b).1,I (alQ (choosePivot (ltC cf) d₀ a b).2)]/\Turn F (gG f A n c d₀) w w':=by
  have H:=Sep.bW hp;obtain⟨l,hl⟩: ∃l,l=b-a:=⟨_,rfl⟩;obtain⟨i,hi⟩: ∃i,i=a+l/4*1:=⟨_,rfl⟩;obtain⟨j,hj⟩: ∃j,j=a+l/4*2:=⟨_,rfl⟩;obtain⟨k,hk⟩: ∃k,k=a+l/4*3:=⟨_,rfl⟩;obtain⟨res,ak⟩: ∃res,res=choosePivot (ltC cf) d₀ a b:=⟨_,rfl⟩;rw[<-ak];unfold choosePivot at ak;dsimp only at ak;rw[<-hl,<-hi,<-hj,<-hk,zac (show l≥8 from oM)]at ak;refine yM func347 ?_;refine V4 ?_;refine Vc (l:Int) ?_;refine Az (λbs _ S _=>?_);have S:=S.aR;refine V2 ?_;refine Vv (Gives.GZ (a:=l) (b:=4) rfl rfl dC oM) (Vc ((l/4*1:Nat):Int) ?_);refine Vc (i:Int) ?_;refine V3 ?_;refine Vv (Gives.GZ (a:=l) (b:=4) rfl rfl dC oM) (Vc ((l/4*2:Nat):Int) ?_);refine Vc (j:Int) ?_;refine V3 ?_;refine Vv (Gives.GZ (a:=l) (b:=4) rfl rfl dC oM) (Vc ((l/4*3:Nat):Int) ?_);refine Vc (k:Int) ?_;refine Am ?_;refine Qn (dB (λz:Nat×Nat=>[(11,av bs),(13,I z.1)]) (λz w'=>(res=(z.1,if z.2=0 then Sort.Hint.increasing else if z.2=12 then .decreasing else .unknown))/\Sep w F [star (blk bs [I z.2] 3) (gG f A n c d₀)] w') ?_ ?_)
  . refine Cz (λe=>?_) (λe=>?_)
    . have h8:=e
      refine dB (λz:Nat×Nat×Nat×Nat=>[(0,.slice A n c),(3,fv),(11,av bs),(12,I z.1),(13,I z.2.1),(14,I z.2.2.1)]) (λz w'=>((z.1<n/\z.2.1<n/\z.2.2.1<n/\z.2.2.2<=9)/\res=((median (ltC cf) d₀ z.1 z.2.1 z.2.2.1 z.2.2.2).1,if(median (ltC cf) d₀ z.1 z.2.1 z.2.2.1 z.2.2.2).2=0 then Sort.Hint.increasing else if(median (ltC cf) d₀ z.1 z.2.1 z.2.2.1 z.2.2.2).2=12 then .decreasing else .unknown))/\Sep w F [star (blk bs [I z.2.2.2] 3) (gG f A n c d₀)] w') ?_ ?_
      . refine Cz (λg=>?_) (λg=>?_)
        . rw[zac (show l≥50 from oM)]at ak
          refine V3 ?_;obtain⟨F0,eO,gQ,aK⟩:=S.focus At0;refine aL (BR (a:=i) (s:=0) eO hn oM oM pR dC (oJ.into S.kept gQ)) rfl rfl (λv' _ hv=>?_);obtain⟨rfl,asu,F1,hq,hs⟩:=hv;have g:=aK _ F1 _ asu hq hs;obtain⟨hm1,CU⟩:=median_mem (cf:=cf) (d:=d₀) (s:=0) (p:=λx=>x<n) (a:=i-1) (b:=i) (m:=i+1) oM oM oM;obtain⟨ri,hri⟩: ∃ri,ri=medianAdjacent (ltC cf) d₀ i 0:=⟨_,rfl⟩;rw[show median (ltC cf) d₀ (i-1) i (i+1) 0=ri from hri.symm]at hm1 CU;rw[<-hri]at ak g ⊢;refine V4 ?_;obtain⟨F0,eO,gQ,aK⟩:=g.focus At0;refine aL (BR (a:=j) (s:=ri.2) eO hn oM oM pR oM (oJ.into g.kept gQ)) rfl rfl (λv' _ hv=>?_);obtain⟨rfl,asw,F1,hq,hs⟩:=hv;have g:=aK _ F1 _ asw hq hs;obtain⟨hm3,hm4⟩:=median_mem (cf:=cf) (d:=d₀) (s:=ri.2) (p:=λx=>x<n) (a:=j-1) (b:=j) (m:=j+1) oM oM oM;obtain⟨rj,hrj⟩: ∃rj,rj=medianAdjacent (ltC cf) d₀ j ri.2:=⟨_,rfl⟩;rw[show median (ltC cf) d₀ (j-1) j (j+1) ri.2=rj from hrj.symm]at hm3 hm4;rw[<-hrj]at ak g ⊢;refine V4 ?_;obtain⟨F0,eO,gQ,aK⟩:=g.focus At0;refine aL (BR (a:=k) (s:=rj.2) eO hn oM oM pR oM (oJ.into g.kept gQ)) rfl rfl (λv' _ hv=>?_);obtain⟨rfl,asy,F1,hq,hs⟩:=hv;have g:=aK _ F1 _ asy hq hs;obtain⟨hm5,hm6⟩:=median_mem (cf:=cf) (d:=d₀) (s:=rj.2) (p:=λx=>x<n) (a:=k-1) (b:=k) (m:=k+1) oM oM oM;obtain⟨rk,hrk⟩: ∃rk,rk=medianAdjacent (ltC cf) d₀ k rj.2:=⟨_,rfl⟩;rw[show median (ltC cf) d₀ (k-1) k (k+1) rj.2=rk from hrk.symm]at hm5 hm6
          rw[<-hrk]at ak g ⊢;refine V1 ?_;exact au (ri.1,rj.1,rk.1,rk.2) tR ⟨⟨⟨hm1,hm3,hm5,dO⟩,ak⟩,g⟩
        rw[zaa (show ¬l≥50 from oM)]at ak;refine V0 ?_;exact au (i,j,k,0) tR ⟨⟨⟨dO,dO,dO,zai _⟩,ak⟩,S⟩
      rintro⟨i',j',k',s⟩ τ g ⟨⟨⟨hi',hj',Pe,g⟩,hr⟩,S⟩;dsimp only at hi' hj' Pe g hr S;refine Lp ?_;refine V5 ?_;obtain⟨F0,eO,gQ,aK⟩:=S.focus At0;refine aL (Rq (a:=i') (b:=j') (m:=k') (s:=s) eO hn hi' hj' Pe pR oM (oJ.into S.kept gQ)) rfl rfl (λv' _ hv=>?_);obtain⟨rfl,asz,F1,hq,hs⟩:=hv;have S:=aK _ F1 _ asz hq hs;refine V1 ?_;exact au (median (ltC cf) d₀ i' j' k' s) tR ⟨hr,S⟩
    exact zas e oM
  rintro⟨p,s⟩ τ S ⟨hr,S⟩;dsimp only at hr S;have S:=S.bE;refine Lp ?_;refine Cz (λe=>?_) (λe=>?_)
  . have g:s=0:=by have:=e;omega
    rw[zac g]at hr;refine V3 ?_;exact⟨by rw[hr];rfl,(S.bI).turn⟩
  have g:s≠0:=by have:=e;omega
  rw[zaa g]at hr;refine Cz (λg=>?_) (λg=>?_)
  . have e:s=12:=by have:=g;omega
    rw[zac e]at hr;refine V3 ?_;exact⟨by rw[hr];rfl,(S.bI).turn⟩
  have e:s≠12:=by have:=g;omega
  rw[zaa e]at hr;refine V3 ?_;exact⟨by rw[hr];rfl,(S.bI).turn⟩
end
end
end Go.Proofs.Mw
