/-
 Wide sums,walked.
-/
import Derived.Test.YtbfjonalkaophaaGreatDoorNk19
set_option linter.all false
set_option maxRecDepth 4000
namespace Go.Proofs.Mw
variable {P:Program} {v va vb:Value} {a b:List aF} {i:Nat}
open Go.Lib Go.Proofs.Tryz
section
attribute [local irreducible] FW FL FG FGn jX lg gD l7 Qfn ah
def U (n:Int):Value:=.int .u64 n
def dH (v:Int):LV:=[U (wA v),U (wB v),U (wC v)]
instance:jl dH 3:=⟨λ_=>rfl⟩
def FH (x:Int×Int×Int):LV:=[U x.1,U x.2.1,U x.2.2]
def YV {w:Wd} {d:Nat} {t:Td} (a b:Int) (h:P.underlying t=some (.int .u64)):(Op.equalIn (d+1) t (U a) (U b)).run P w=.ok (decide (a=b)) w:=by
 rw[show U a=.int .u64 a from rfl,show U b=.int .u64 b from rfl,run_equalIn_int w d t .u64 .u64 a b h];rfl
def ak7 {d:Nat} (a b:Int×Int×Int) (w:Wd):(Op.equalIn (d+2) 189 (.agg (FH a).toArray) (.agg (FH b).toArray)).run prog w=.ok (decide (a=b)) w:=by
 rw[run_equalIn_agg w (d+1) _ _ _ kR kR];simp only[Program.fieldsOf,underlying189];rw[JQ rfl ZK rfl rfl (YV a.1 b.1 kR),JQ rfl ZK rfl rfl (YV a.2.1 b.2.1 kR),JQ rfl ZK rfl rfl (YV a.2.2 b.2.2 kR),agT];have e:(a=b)=(a.1=b.1/\a.2.1=b.2.1/\a.2.2=b.2.2):=propext ⟨λh=>by subst h;exact⟨rfl,rfl,rfl⟩,λh=>Prod.ext h.1 (Prod.ext h.2.1 h.2.2)⟩;simp only[e]
 by_cases k:a.1=b.1<;>by_cases g:a.2.1=b.2.1<;>by_cases j:a.2.2=b.2.2<;>simp[k,g,j]
instance:EqData prog 189 (Int×Int×Int) FH:=⟨λa b w=>ak7 (d:=9998) a b w,kR⟩
def Dy:List Int->Int
 | []=>0
 | x::l=>x+Dy l
def Wx (a b:List Int):Dy (a++b)=Dy a+Dy b:=by
 induction a with
 | nil=>simp[Dy]
 | cons x a i=>rw[zcb,Dy,Dy,i];omega
section
variable {w:Wd}
def FI (n:Int) (h:cB n):aX prog 190 [I n] w λv w'=>v=U (if n<0 then 18446744073709551615 else 0)/\w=w':=by
 refine dL func190 ?_;refine V2 ?_;refine Vv (ah.shr rfl rfl dC) (Vv (ah.conv rfl) ?_);refine V1 ?_;exact⟨zay U (by
 show IntKind.u64.wrap (n.fdiv (2^63))=_
 rw[IntKind.wrap_u64];have k:=h.1;have b:=h.2;rw[show(2:Int)^63=9223372036854775808 from dC,zfx _ dC]
 split<;>omega),rfl⟩
def Tk (n:Int) (k:cB n):Rk prog 121 [I n] w (agg (dH n)):=by
 have H:=Sep.aI w;obtain⟨e,g⟩:=ahg k.1 (Int.lt_add_one_of_le k.2);refine pI func121 ?_;refine Az (λl p j o=>?_);refine V1 ?_;refine Vv (ah.conv rfl) ?_;rw[IntKind.wrap_u64];refine Mv ?_;refine fF (FI n k) (h:=?_);refine Mv ?_;refine fF (FI n k) (h:=?_);refine Vb [U (wA n),U (if n<0 then 18446744073709551615 else 0),U (if n<0 then 18446744073709551615 else 0)] ?_;refine Tz (λq b=>?_);refine V0 ?_;exact⟨_,gT b,by unfold dH;rw[e,g];rfl,b.au⟩
def Jg (a b c:Int) (k:0<=a) (g:0<=b) (h:0<=c) (j:c<=1):(callFunc 262 [U a,U b,U c].toArray).run prog w=.ok (.value (.tuple #[U ((a+b+c)%18446744073709551616),U ((a+b+c)/18446744073709551616)])) w:=by
 rw[run_callFunc_extern (e:=add64Entry) func262 kR kR kR kR];show((add64Entry #[.int .u64 a,.int .u64 b,.int .u64 c]).run prog w).andThen _=_
 rw[run_add64 a b c k g h j w];rfl
def ahH {L:List Int} {vl:Value} (Z:aP w vl dH 3 L):Rk prog 189 [vl] w (agg (dH (Dy L))):=by
 obtain⟨A,m,rfl,⟨F,S⟩,y⟩:=Z;have H:=Sep.aI w;refine pI func189 ?_;refine Az (λG T K P=>?_);refine V3 ?_;refine aM (λi:Nat=>[(2,aC G),(6,.slice A L.length m),(7,I L.length),(8,I i)]) (λi w'=>i<=L.length/\Sep w noB [blk G (dH (Dy (L.take i))) 189] w') (λi _=>L.length-i) 0 tR ⟨zai _,K⟩ (λi τ w7 N=>?_);obtain⟨hi,D⟩:=N;refine Lp ?_;refine Cz (λl=>?_) (λl=>?_)
 .have u:i<L.length:=oM
  obtain⟨x,J⟩:=aN u;have c:=J;have k:Dy (L.take (i+1))=Dy (L.take i)+x:=by rw[zaq,J,Wx];show _+(x+0)=_;omega
  obtain⟨s,a⟩: ∃s,s=Dy (L.take i):=⟨_,rfl⟩;rw[<-a]at k D;obtain⟨⟨b,O⟩,⟨g,R⟩,j,V⟩:=nu s;obtain⟨⟨o,W⟩,⟨p,X⟩,q,Y⟩:=nu x;obtain⟨v,z,C⟩:=aee s x;refine Az (λt wa d Q=>?_);refine Tz (λwb f=>?_);refine V5 ?_;refine Vv (ah.ext (vals:=[U (wA s),U (wA x),U 0]) (Jg _ _ _ b o dC dC)) (Uz (λwc n=>?_));refine V6 ?_;refine Vv (ah.ext (vals:=[U (wB s),U (wB x),U ((wA s+wA x+0)/18446744073709551616)]) (Jg _ _ _ g p oM oM)) (Uz (λwd r=>?_));refine V6 ?_;refine Vv (ah.ext (vals:=[U (wC s),U (wC x),U ((wB s+wB x+(wA s+wA x+0)/18446744073709551616)/18446744073709551616)]) (Jg _ _ _ j q oM oM)) (Uz (λwe M=>?_));refine V0 ?_;refine Vc ((i+1:Nat):Int) ?_;refine V1 ?_
  have e:[U ((wA s+wA x+0)%18446744073709551616),U ((wB s+wB x+(wA s+wA x+0)/18446744073709551616)%18446744073709551616),U ((wC s+wC x+(wB s+wB x+(wA s+wA x+0)/18446744073709551616)/18446744073709551616)%18446744073709551616)]=dH (Dy (L.take (i+1))):=by
   rw[k];unfold dH;rw[v,z,C,zgl]
  exact ak (i+1) tR ⟨oM,by rw[<-e];exact(M.aJ).first⟩ oM
 have h:Dy (L.take i)=Dy L:=by rw[zaj oM]
 rw[h]at D;refine Tz (λwf E=>?_);refine V0 ?_;exact⟨_,gT E,rfl,E.au⟩
def Tm (x y:Int):Rk prog 120 [agg (dH x),agg (dH y)] w (agg (dH (x+y))):=by
 have H:=Sep.aI w;refine tQ func120 ?_;refine Sr (bK H (cs:=dH x) rfl (h:=λq J e z=>?_));refine bK e (cs:=dH y) rfl (h:=λs K o C=>?_);refine Az (λu L g D=>?_);refine V2 ?_;refine Bs g ([x,y].flatMap dH) (λv M j E=>?_);have k:=MQ (enc:=dH) (l:=[x,y]) j At0 rfl (by show 2<=100000;decide);refine Kz (ahH k) (λN p G=>?_);rw[show Dy [x,y]=x+y from by show x+(y+0)=_;omega];refine Tz (λO b=>?_);refine V0 ?_;exact⟨_,gT b,rfl,b.au⟩
def aaI {v:Int} (h:bM v=true):yw v=v:=by
 have:=zbe h;unfold yw wA
 split<;>omega
def Wy (v:Int):IntKind.i64.wrap (wA v)=yw v:=by
 rw[IntKind.wrap_i64];unfold yw wA
 split<;>omega
def afo (v:Int):cB (yw v):=by
 unfold cB yw wA
 split<;>omega
def Tn (v:Int) (j: -3138550867693340381917894711603833208051177722232017256448<=v) (e:v<3138550867693340381917894711603833208051177722232017256448):
    Rk prog 122 [agg (dH v)] w (.tuple #[I (if bM v=true then v else 0),I (if bM v=true then 0 else 50)]):=by
  have H:=Sep.aI w;have p:=aef j e;refine dL func122 ?_;refine Sr (bK H (cs:=dH v) rfl (h:=λE K D G=>?_));refine V4 ?_;refine Vv (ah.zy (c:=yw v) rfl (Wy v)) (Dz (λk L l=>?_));refine V1 ?_;refine gY k 2 l (h:=?_);refine dS k 1 [(2,false)] l (Tk (yw v) (afo v)) (h:=λM o J=>⟨sU,?_⟩);refine Gp k 3 rfl rfl (λ_=>ah.af8 (enc:=FH) (wA (yw v),wB (yw v),wC (yw v)) (wA v,wB v,wC v) rfl rfl) (fZ k kR ?_);refine Cz (λg=>?_) (λg=>?_)
  . have b: ¬bM v=true:=λh=>by
      obtain⟨q,s,u⟩:=p.2 h;exact g (by rw[q,s,u])
    refine V2 ?_;exact⟨by rw[zab b,zab b];rfl,o.au⟩
  have b:bM v=true:=by
    have h:=Decidable.of_not_not g;injection h with j e
    injection e with e C
    exact p.1 ⟨j,e,C⟩
  refine V3 ?_;exact⟨by rw[zac b,zac b];exact zay (λz=>Value.tuple #[I z,I 0]) (aaI b),o.au⟩
def afp (a b:Int) (h:0<=a) (k:a<18446744073709551616) (g:0<=b) (j:b<18446744073709551616):aX prog 409 [U a,U b] w λv w'=>v=.tuple #[U (a*b/18446744073709551616),U (a*b%18446744073709551616)]/\w=w':=by
 obtain⟨x,rfl⟩:=zfm h;obtain⟨y,rfl⟩:=zfm g;have:=Tryz.bits_Mul64 x y oM oM w;refine lN (Calls.mono this λe w' l=>?_);obtain⟨rfl,rfl⟩:=l;exact⟨by congr 2<;>simp[U],rfl⟩
def and_ones (a:Int) (k:0<=a) (b:a<18446744073709551616) (p:Prop) [Decidable p]:bits .and .u64 a (if p then 18446744073709551615 else 0)=if p then a else 0:=by
 obtain⟨x,rfl⟩:=zfm k
 split
 .have h:=bits_and_u64_nat x 18446744073709551615 oM oM
  have e:x&&& 18446744073709551615=x%18446744073709551616:=Nat.and_two_pow_sub_one_eq_mod x 64;rw[e,Nat.mod_eq_of_lt oM]at h;exact h
 have h:=bits_and_u64_nat x 0 oM oM;rw[Nat.and_zero]at h;exact h
def ahI (a b:Int) (o:cB a) (p:cB b):Rk prog 405 [I a,I b] w (agg (dH (a*b))):=by
 have H:=Sep.aI w;obtain⟨m,z,C⟩:=aeg o p;obtain⟨⟨e,g⟩,_,_⟩:=nu a;obtain⟨⟨k,j⟩,_,_⟩:=nu b
 have K:0<=wA a*wA b/18446744073709551616/\wA a*wA b/18446744073709551616<18446744073709551616:=by
  have G:=Int.mul_nonneg e k;have J:wA a*wA b<=18446744073709551615*18446744073709551615:=Int.mul_le_mul oM oM k dC;omega
 obtain⟨⟨q,s⟩,⟨u,v⟩,_⟩:=nu (a*b);refine tQ func405 ?_;refine Az (λE M D L=>?_);refine V1 ?_;refine Vv (ah.zy (c:=wA a) rfl Ir) ?_;refine Mv ?_;refine Vv (ah.zy (c:=wA b) rfl Ir) ?_;refine fF (afp (wA a) (wA b) e g k j) (h:=?_);refine V7 ?_;refine Vv (ah.zy (c:=wA a) rfl Ir) ?_;refine Mv ?_;refine fF (FI b p) (h:=?_);refine Vv (ah.ajV rfl rfl (and_ones (wA a) e g (b<0))) (Mv ?_);refine Vv (ah.zy (c:=wA b) rfl Ir) ?_;refine Mv ?_;refine fF (FI a o) (h:=?_);refine Vv (ah.ajV rfl rfl (and_ones (wA b) k j (a<0))) (Vv (ah.adu rfl rfl (IntKind.wrap_u64 _)) ?_);refine Vv (ah.ajU (c:=wB (a*b)) rfl rfl (by rw[IntKind.wrap_u64,z])) ?_;refine V4 ?_;refine Vv (ah.zy rfl rfl) (fF (FI (IntKind.i64.wrap (wB (a*b))) (by unfold cB;rw[IntKind.wrap_i64];omega)) (h:=?_));refine Vb [U (wA a*wA b%18446744073709551616),U (wB (a*b)),U _] ?_;refine Tz (λN l=>?_);refine V0 ?_;exact⟨_,gT l,by
 show agg [U (wA a*wA b%18446744073709551616),U (wB (a*b)),U (if IntKind.i64.wrap (wB (a*b))<0 then 18446744073709551615 else 0)]=agg (dH (a*b))
 unfold dH;rw[m,C,IntKind.wrap_i64]
 congr 5
 split<;>split<;>first | rfl | omega,l.au⟩
end
def Qf (h:a.take i=b.take i):q8 nV a b=q8 nV (a.drop i) (b.drop i):=by
 induction i generalizing a b with
 | zero=>rfl
 | succ i k=>
  cases a with
  | nil=>cases b with
   | nil=>rfl
   | cons y s=>simp at h
  | cons x r=>cases b with
   | nil=>simp at h
   | cons y s=>
    simp only[zdd,List.cons.injEq]at h;obtain⟨rfl,h⟩:=h;rw[zev,zev,<-k h,q8,zab (by rw[EW.self];decide)]
def aaJ {x y:aF} (h:a.take i=b.take i) (j:a[i]? =some x) (l:b[i]? =some y) (k:nV x y≠0):jU a b=nV x y:=by
 unfold jU;rw[Qf h]
 have ex:a.drop i=x::a.drop (i+1):=by
  obtain⟨hi,e⟩:=zba.1 j;rw[<-e];exact zbn hi
 have g:b.drop i=y::b.drop (i+1):=by
  obtain⟨hi,e⟩:=zba.1 l;rw[<-e];exact zbn hi
 rw[ex,g,q8,zac k]
def vK (h:a.take i=b.take i) (hi:i=min a.length b.length):jU a b=xu (a.length:Int) (b.length:Int):=by
 unfold jU;rw[Qf h]
 rcases Nat.lt_trichotomy a.length b.length with g | g | g
 .have e:a.drop i=[]:=zbv oM
  obtain⟨y,s,k⟩: ∃y s,b.drop i=y::s:=zfj Iz;rw[e,k,q8];unfold xu;rw[zac oM]
 .have e:a.drop i=[]:=zbv oM
  have k:b.drop i=[]:=zbv oM;rw[e,k,q8];unfold xu;rw[zab oM,zab oM]
 have e:b.drop i=[]:=zbv oM;obtain⟨y,s,k⟩: ∃y s,a.drop i=y::s:=zfj Iz;rw[e,k,q8];unfold xu;rw[zab oM,zac oM]
section
variable {w:Wd}
def Qg (n:Int):aX prog 266 [I n] w λv w'=>v=.bool false/\w=w':=by
 have H:=Sep.aI w;refine dL func266 ?_;refine V5 ?_;exact⟨zay Value.bool sM,rfl⟩
def acI (a b:Int):aX prog 193 [I a,I b] w λv w'=>v=I (xu a b)/\w=w':=by
 have H:=Sep.aI w;refine dn func193 ?_;refine V2 ?_;refine fF (Qg a) (h:=?_);refine V2 ?_;refine fF (Qg b) (h:=?_);refine O2 ?_;refine Qn (Cd rfl (λk=>?_) (λk=>?_))
 .cases k
 refine O1 ?_;refine Qn (Cd rfl (λl=>?_) (λl=>?_))
 .cases l
 refine Cz (λg=>?_) (λg=>?_)
 .have e:=g
  refine V1 ?_;exact⟨by unfold xu;rw[zac e];rfl,rfl⟩
 have e:=g;refine Cz (λj=>?_) (λj=>?_)
 .have o:=j
  refine V1 ?_;exact⟨by unfold xu;rw[zab e,zac oM];rfl,rfl⟩
 have o:=j;refine V1 ?_;exact⟨by unfold xu;rw[zab e,zab oM];rfl,rfl⟩
def acJ (E:aP w va aj 3 a) (G:aP w vb aj 3 b):Rk prog 125 [va,vb] w (I (jU a b)):=by
 obtain⟨A,m,rfl,⟨N,J⟩,L⟩:=E;obtain⟨B,n,rfl,⟨O,K⟩,M⟩:=G;have H:=Sep.aI w;refine dn func125 ?_;refine V5 ?_;refine Vv (ah.abY (m:=((min a.length b.length:Nat):Int)) rfl rfl oM) (V1 ?_);refine aM (λi:Nat=>[(0,.slice A a.length m),(1,.slice B b.length n),(11,I (min a.length b.length:Nat)),(12,I i)]) (λi w'=>(i<=min a.length b.length/\a.take i=b.take i)/\Sep w noB [] w') (λi _=>min a.length b.length-i) 0 tR ⟨⟨zai _,sM⟩,H⟩ (λi Y V D=>?_);obtain⟨⟨hi,k⟩,v⟩:=D;refine Lp ?_;refine Cz (λC=>?_) (λC=>?_)
 .have o:i<a.length:=oM
  have g:i<b.length:=oM;obtain⟨x,s⟩:=aN o;obtain⟨y,u⟩:=aN g;refine Dz (λS W z=>?_);refine V8 ?_;refine dS S 8 _ z (sD x y) (h:=λX q R=>⟨sT,?_⟩);refine Cz (λj=>?_) (λj=>?_)
  .have e:=j
   refine V2 ?_;exact⟨by rw[aaJ k s u e];rfl,q.au⟩
  have e:x=y:=(EW.eq0 x y).1 (by have:=j;omega);have p:a.take (i+1)=b.take (i+1):=by rw[zaq,zaq,k,s,u,e]
  refine V2 ?_;exact ak (i+1) tR ⟨⟨oM,p⟩,q⟩ oM
 have l:i=min a.length b.length:=oM;refine V4 ?_;refine fF (acI _ _) (h:=?_);refine V1 ?_;exact⟨by rw[vK k l];rfl,v.au⟩
def Kq (R:aP w va aj 3 a) (V:aP w vb aj 3 b):Rk prog 113 [va,vb] w (I (jU a b)):=by
 obtain⟨A,m,rfl,⟨c,W⟩,Y⟩:=R;obtain⟨B,n,rfl,⟨d,X⟩,Z⟩:=V;have H:=Sep.aI w;refine dn func113 ?_;refine V2 ?_;refine aM (λi:Nat=>[(0,.slice A a.length m),(1,.slice B b.length n),(5,I i)]) (λi w'=>(i<=min a.length b.length/\a.take i=b.take i)/\Sep w noB [] w') (λi _=>min a.length b.length-i) 0 tR ⟨⟨zai _,sM⟩,H⟩ (λi P r O=>?_);obtain⟨⟨hi,k⟩,o⟩:=O;refine Lp ?_;refine Sz (λS=>?_) (λS=>?_)
 .have J:=S
  refine Cz (λG=>?_) (λG=>?_)
  .have C:i<a.length:=oM
   have p:i<b.length:=oM;obtain⟨x,K⟩:=aN C;obtain⟨y,L⟩:=aN p;refine Dz (λN t M=>?_);refine V8 ?_;refine dS N 8 _ M (KJ x y) (h:=λF E f=>⟨sT,?_⟩);refine Cz (λq=>?_) (λq=>?_)
   .have l:=q
    refine V2 ?_;exact⟨by rw[aaJ k K L l];rfl,E.au⟩
   have l:x=y:=(EW.eq0 x y).1 (by have:=q;omega);have D:a.take (i+1)=b.take (i+1):=by rw[zaq,zaq,k,K,L,l]
   refine V3 ?_;exact ak (i+1) tR ⟨⟨oM,D⟩,E⟩ oM
  have e:i=min a.length b.length:=by have h:=G;omega
  refine Cz (λs=>?_) (λs=>?_)
  .have g:=s
   refine V1 ?_;exact⟨by rw[vK k e];unfold xu;rw[zac oM];rfl,o.au⟩
  have g:=s;refine Cz (λu=>?_) (λu=>?_)
  .have j:=u
   refine V1 ?_;exact⟨by rw[vK k e];unfold xu;rw[zab oM,zac oM];rfl,o.au⟩
  have j:=u;refine V1 ?_;exact⟨by rw[vK k e];unfold xu;rw[zab oM,zab oM];rfl,o.au⟩
 have e:i=min a.length b.length:=by have h:=S;omega
 refine Cz (λv=>?_) (λv=>?_)
 .have g:=v
  refine V1 ?_;exact⟨by rw[vK k e];unfold xu;rw[zac oM];rfl,o.au⟩
 have g:=v;refine Cz (λz=>?_) (λz=>?_)
 .have j:=z
  refine V1 ?_;exact⟨by rw[vK k e];unfold xu;rw[zab oM,zac oM];rfl,o.au⟩
 have j:=z;refine V1 ?_;exact⟨by rw[vK k e];unfold xu;rw[zab oM,zab oM];rfl,o.au⟩
def YW (K:aP w va aj 3 a) (L:aP w vb aj 3 b):Rk prog 117 [va,vb] w (.bool (decide (a=b))):=by
 obtain⟨A,m,rfl,⟨V,M⟩,O⟩:=K;obtain⟨B,n,rfl,⟨W,N⟩,R⟩:=L;have H:=Sep.aI w;refine dn func117 ?_;refine Cz (λg=>?_) (λg=>?_)
 .have v:=g
  refine V1 ?_;exact⟨zay Value.bool (Eq.symm (zam λe=>v (by rw[e]))),H.au⟩
 have j:a.length=b.length:=oM;refine V3 ?_;refine aM (λi:Nat=>[(0,.slice A a.length m),(1,.slice B b.length n),(12,I a.length),(13,I i)]) (λi w'=>(i<=a.length/\a.take i=b.take i)/\Sep w noB [] w') (λi _=>a.length-i) 0 tR ⟨⟨zai _,sM⟩,H⟩ (λi Z X J=>?_);obtain⟨⟨hi,h⟩,E⟩:=J;refine Lp ?_;refine Cz (λG=>?_) (λG=>?_)
 .have u:i<a.length:=oM
  obtain⟨x,o⟩:=aN u;obtain⟨y,D⟩:=aN (l:=b) (i:=i) oM;refine Dz (λS Y C=>?_);refine V8 ?_;refine Gp S 8 rfl rfl (λ_=>(ah.af8 (enc:=aj) _ _ rfl rfl)) (fZ S kR ?_);refine Cz (λp=>?_) (λp=>?_)
  .have k:=p
   refine V1 ?_;exact⟨zay Value.bool (Eq.symm (zam λe=>k (by rw[e,D]at o;injection o with o;exact o.symm))),C.au⟩
  have k:x=y:=zcd.1 p;have z:a.take (i+1)=b.take (i+1):=by rw[zaq,zaq,h,o,D,k]
  refine V2 ?_;exact ak (i+1) tR ⟨⟨oM,z⟩,C⟩ oM
 have s:i=a.length:=oM;have q:a=b:=by rw[s,zbo,j,zbo]at h;exact h
 refine V1 ?_;exact⟨zay Value.bool (Eq.symm (zau q)),E.au⟩
def YX (k:aP w va aj 3 a) (e:aP w vb aj 3 b):Rk prog 72 [va,vb] w (.bool (decide (a=b))):=by
 have H:=Sep.aI w;refine dn func72 ?_;refine Kz (YW k e) (λj h g=>?_);refine V1 ?_;exact⟨rfl,h.au⟩
def OD {l:List aF} (z:aP w v aj 3 l) (e:l.length<=1000):aX prog 191 [v] w λD w'=>∃x,D=x/\True/\cO noB (aY 48 3 aj x l) w w':=by
 obtain⟨A,m,rfl,⟨E,C⟩,p⟩:=z;have H:=Sep.aI w;refine dL func191 ?_;refine O3 ?_;refine Qn (Cd rfl (λk=>?_) (λk=>?_))
 .have g:A=none:=by have h:=k;cases A<;>first | rfl | cases h
  have j:l=[]:=by
   cases l with
   | nil=>rfl
   | cons x l=>obtain⟨a,q⟩:=p.addr (Nat.succ_pos _);rw[g]at q;cases q
  have s:=Sep.iX H 48 3 aj;refine V1 ?_;exact⟨_,rfl,trivial,by rw[j];exact s.bf⟩
 refine V0 ?_;refine Bs H [] (λu K b G=>?_);have b:Sep w noB (aY 48 3 aj (.slice (some ⟨u,0,none⟩) 0 0) ([]:List aF)::[]) _:=Sep.nC (n:=0) b At0 rfl dC;refine Mv ?_;refine mq b At0 (p.aK b.au) kP kN (dW (λ_=>rfl) _) (h:=?_);intro J L o;refine V1 ?_;exact⟨_,rfl,trivial,by rw[zby]at o;exact o.bf⟩
def Aj {l:List bF} (z:aP w v aL 7 l) (e:l.length<=1000):aX prog 55 [v] w λD w'=>∃x,D=x/\True/\cO noB (aY 50 7 aL x l) w w':=by
 obtain⟨A,m,rfl,⟨E,C⟩,p⟩:=z;have H:=Sep.aI w;refine dL func55 ?_;refine O3 ?_;refine Qn (Cd rfl (λk=>?_) (λk=>?_))
 .have g:A=none:=by have h:=k;cases A<;>first | rfl | cases h
  have j:l=[]:=by
   cases l with
   | nil=>rfl
   | cons x l=>obtain⟨a,q⟩:=p.addr (Nat.succ_pos _);rw[g]at q;cases q
  have s:=Sep.iX H 50 7 aL;refine V1 ?_;exact⟨_,rfl,trivial,by rw[j];exact s.bf⟩
 refine V0 ?_;refine Bs H [] (λu K b G=>?_);have b:Sep w noB (aY 50 7 aL (.slice (some ⟨u,0,none⟩) 0 0) ([]:List bF)::[]) _:=Sep.nC (n:=0) b At0 rfl dC;refine Mv ?_;refine mq b At0 (p.aK b.au) kP kN (dW (λ_=>rfl) _) (h:=?_);intro J L o;refine V1 ?_;exact⟨_,rfl,trivial,by rw[zby]at o;exact o.bf⟩
def yC {l:List bH} (z:aP w v aQ 3 l) (e:l.length<=1000):aX prog 97 [v] w λD w'=>∃x,D=x/\True/\cO noB (aY 41 3 aQ x l) w w':=by
 obtain⟨A,m,rfl,⟨E,C⟩,p⟩:=z;have H:=Sep.aI w;refine dL func97 ?_;refine O3 ?_;refine Qn (Cd rfl (λk=>?_) (λk=>?_))
 .have g:A=none:=by have h:=k;cases A<;>first | rfl | cases h
  have j:l=[]:=by
   cases l with
   | nil=>rfl
   | cons x l=>obtain⟨a,q⟩:=p.addr (Nat.succ_pos _);rw[g]at q;cases q
  have s:=Sep.iX H 41 3 aQ;refine V1 ?_;exact⟨_,rfl,trivial,by rw[j];exact s.bf⟩
 refine V0 ?_;refine Bs H [] (λu K b G=>?_);have b:Sep w noB (aY 41 3 aQ (.slice (some ⟨u,0,none⟩) 0 0) ([]:List bH)::[]) _:=Sep.nC (n:=0) b At0 rfl dC;refine Mv ?_;refine mq b At0 (p.aK b.au) kP kN (dW (λ_=>rfl) _) (h:=?_);intro J L o;refine V1 ?_;exact⟨_,rfl,trivial,by rw[zby]at o;exact o.bf⟩
def qw {l:List aF} (b:aP w v aj 3 l) (h:l.length<=1000):aX prog 123 [v] w λe w'=>∃x,e=x/\True/\cO noB (aY 48 3 aj x l) w w':=by
 have H:=Sep.aI w;refine dL func123 ?_;refine Nz (OD b h) (λj o _ k g=>?_);refine V1 ?_;exact⟨_,rfl,trivial,k.bf⟩
end
def usC (q:List Int):LV:=q.map U
def iR (v:Int):LV:=usC (KO v)
def FJ (v:Int):(KO v).length=6:=rfl
def Tp (v:Int) (hi:i<6):(KO v)[i]? =some (dgt v i):=by
 unfold KO;rw[zbw,List.getElem?_range hi];rfl
def oW (v:Int) {i:Nat} (hi:i<6):(iR v)[0+i*1]? =some (U (dgt v i)):=by
 unfold iR usC;rw[zde,zfc,zbw,Tp v hi];rfl
def aaK (q:List Int):(usC q).length=q.length:=zae ..
def aaL (q:List Int) (i:Nat) (a:Int):(usC q).set i (U a)=usC (q.set i a):=by unfold usC;rw[List.map_set]
def ze (A:List Int) (i:Nat):List Int:=A.take i++List.replicate (A.length-i) 0
def Qh {A:List Int} (h:i<=A.length):(ze A i).length=A.length:=by
 unfold ze;rw[zad,zah,zda];omega
def Qi {A:List Int} {a:Int} (h:A[i]? =some a):(ze A i).set i a=ze A (i+1):=by
 have b:=fP h;unfold ze;have k:(A.take i).length=i:=by rw[zah];omega
 rw[zdq _ _ oM,k,zdw,show A.length-i=(A.length-(i+1))+1 from oM,zex,zcz,zaq,h,zbp];rfl
def Qj (A:List Int):ze A A.length=A:=by unfold ze;rw[zbo,zdw];simp
section
variable {w:Wd}
def FK (n:Int) (o:cB n):Rk prog 327 [I n] w (agg (iR n)):=by
 have H:=Sep.aI w
 have j:(wA n).tmod 4294967296=dgt n 0:=by
  have:=(nu n).1;rw[zey this.1];show wA n%_=n%_
  unfold wA;omega
 have l:IntKind.u64.wrap ((wA n).tdiv 4294967296)=dgt n 1:=by
  have:=(nu n).1;rw[IntKind.wrap_u64,zez this.1];show wA n/_%_=n/_%_
  unfold wA;omega
 have D:=o.1;have E:=o.2;have u:dgt n 2=n/4294967296/4294967296%4294967296:=rfl;have v:dgt n 3=n/4294967296/4294967296/4294967296%4294967296:=rfl;have z:dgt n 4=n/4294967296/4294967296/4294967296/4294967296%4294967296:=rfl;have C:dgt n 5=n/4294967296/4294967296/4294967296/4294967296/4294967296%4294967296:=rfl;have e:iR n=[U (dgt n 0),U (dgt n 1),U (dgt n 2),U (dgt n 3),U (dgt n 4),U (dgt n 5)]:=rfl;refine pI func327 ?_;refine Az (λs J q G=>?_);refine V1 ?_;refine Vv (ah.zy (c:=wA n) rfl Ir) ?_;refine Cz (λh=>?_) (λh=>?_)
 .have p:=h
  have k:iR n=[U (dgt n 0),U (dgt n 1),U 4294967295,U 4294967295,U 4294967295,U 4294967295]:=by
   rw[e,show dgt n 2=4294967295 from oM,show dgt n 3=4294967295 from oM,show dgt n 4=4294967295 from oM,show dgt n 5=4294967295 from oM]
  refine V2 ?_;refine Vv (ah.aip (c:=dgt n 0) rfl rfl dC j) (Mv ?_);refine Vv (ah.aio (c:=dgt n 1) rfl rfl dC l) (V4 ?_);refine Vv (ah.Bg rfl (bQ.one rfl rfl rfl sM rfl (bQ.one rfl rfl rfl sM rfl (bQ.one rfl rfl rfl sM rfl (bQ.one rfl rfl rfl sM rfl (bQ.one rfl rfl rfl sM rfl (bQ.one rfl rfl rfl sM rfl bQ.nil))))))) (Tz (λK b=>?_));refine V0 ?_;exact⟨_,gT b,by rw[k];rfl,b.au⟩
 have p:=h
 have k:iR n=[U (dgt n 0),U (dgt n 1),U 0,U 0,U 0,U 0]:=by
  rw[e,show dgt n 2=0 from oM,show dgt n 3=0 from oM,show dgt n 4=0 from oM,show dgt n 5=0 from oM]
 refine V1 ?_;refine Vv (ah.aip (c:=dgt n 0) rfl rfl dC j) (Mv ?_);refine Vv (ah.aio (c:=dgt n 1) rfl rfl dC l) (V4 ?_);refine Vv (ah.Bg rfl (bQ.one rfl rfl rfl sM rfl (bQ.one rfl rfl rfl sM rfl (bQ.one rfl rfl rfl sM rfl (bQ.one rfl rfl rfl sM rfl (bQ.one rfl rfl rfl sM rfl (bQ.one rfl rfl rfl sM rfl bQ.nil))))))) (Tz (λL g=>?_));refine V0 ?_;exact⟨_,gT g,by rw[k];rfl,g.au⟩
def Jh (x y:Int):Rk prog 258 [agg (iR x),agg (iR y)] w (agg (iR (x+y))):=by
 have H:=Sep.aI w;refine tQ func258 ?_;refine Sr (bK H (cs:=iR x) rfl (h:=λo X u O=>?_));refine bK u (cs:=iR y) rfl (h:=λp Y M R=>?_);refine Az (λq Z N V=>?_);refine Az (λs a v W=>?_);refine V2 ?_;refine aM (λi:Nat=>[(2,aC o),(3,aC p),(4,aC q),(5,aC s),(6,U (shl (x+y) i-shl x i-shl y i)),(7,I i)]) (λi w'=>i<=6/\Sep w noB [blk s (usC (ze (KO (x+y)) i)) 333,blk q (usC [0,0,0,0,0,0]) 333,blk p (iR y) 333,blk o (iR x) 333] w') (λi _=>6-i) 0 ⟨rfl,rfl,rfl,rfl,zay U (by show 0=x+y-x-y;omega),rfl,trivial⟩ ⟨zai _,v⟩ (λi r d E=>?_);obtain⟨hi,j⟩:=E;refine Lp ?_;refine Cz (λC=>?_) (λC=>?_)
 .have k:i<6:=oM
  obtain⟨e,g⟩:=ahh x y i;have L:=RB x y i;have G:=nW x i;have J:=nW y i;have K:=nW (x+y) i;refine Dz (λS f b=>?_);refine V1 ?_;refine Gp S 1 rfl rfl (λ_=>(ah.lI rfl rfl oM)) (vS S 2 b (hv:=oW x k) (h:=?_));refine V1 ?_;refine Gp S 4 rfl rfl (λ_=>(ah.lI rfl rfl oM)) (vS S 5 b (hv:=oW y k) (h:=?_));refine GS (Gn rfl (λ_=>ah.adu (c:=dgt x i+dgt y i) rfl rfl kU) ?_);refine V1 ?_;refine GS (Gn rfl (λ_=>ah.adu (c:=dgt x i+dgt y i+(shl (x+y) i-shl x i-shl y i)) rfl rfl kU) ?_);refine V3 ?_;refine Vv (ah.aip (c:=dgt (x+y) i) rfl rfl dC (by rw[zey oM,e])) ?_;refine Vv (ah.lI rfl rfl oM) (sO b (cs':=usC (ze (KO (x+y)) (i+1))) (ho:=Ua (by rw[aaK,Qh (by rw[FJ];omega),FJ];omega)) (hs:=by rw[zde,zfc];exact(aaL _ _ _).trans (zay usC (Qi (Tp _ k)))) (h:=λm z=>?_));refine V1 ?_;refine Vv (ah.aio (c:=shl (x+y) (i+1)-shl x (i+1)-shl y (i+1)) rfl rfl dC (by rw[g,IntKind.wrap_u64,zez oM];omega)) ?_;refine V4 ?_;exact ak (i+1) tR ⟨oM,z⟩ oM
 have D:i=6:=oM;subst D;refine V0 ?_;rw[show ze (KO (x+y)) 6=KO (x+y)from Qj _]at j;refine gF j (cs:=iR (x+y)) (h:=?_);refine Tz (λn l=>?_);refine V0 ?_;exact⟨_,gT l,rfl,l.au⟩
def Ji (x:Int):Rk prog 328 [agg (iR x)] w (agg (iR (-x))):=by
 have H:=Sep.aI w;refine pI func328 ?_;refine Sr (bK H (cs:=iR x) rfl (h:=λg M D G=>?_));refine Az (λj N E J=>?_);refine Az (λl O o K=>?_);refine V1 ?_;refine aM (λi:Nat=>[(1,aC g),(2,aC j),(3,aC l),(4,I i)]) (λi w'=>i<=6/\Sep w noB [blk l (usC (ze (KO (-1-x)) i)) 333,blk j (usC [0,0,0,0,0,0]) 333,blk g (iR x) 333] w') (λi _=>6-i) 0 tR ⟨zai _,o⟩ (λi Y R v=>?_);obtain⟨hi,b⟩:=v;refine Lp ?_;refine Cz (λs=>?_) (λs=>?_)
 .have k:i<6:=oM
  have C:=ahi x i;have z:=nW x i;refine V2 ?_;refine Vv (ah.lI rfl rfl oM) (Lb b (hv:=oW x k) (h:=?_));refine Vv (ah.ajU (c:=dgt (-1-x) i) rfl rfl kU) ?_;refine Vv (ah.lI rfl rfl oM) (sO b (cs':=usC (ze (KO (-1-x)) (i+1))) (ho:=Ua (by rw[aaK,Qh (by rw[FJ];omega),FJ];omega)) (hs:=by rw[zde,zfc];exact(aaL _ _ _).trans (zay usC (Qi (Tp _ k)))) (h:=λV p=>?_));refine V3 ?_;exact ak (i+1) tR ⟨oM,p⟩ oM
 have u:i=6:=oM;subst u;refine V0 ?_;rw[show ze (KO (-1-x)) 6=KO (-1-x)from Qj _]at b;refine gF b (cs:=iR (-1-x)) (h:=?_);refine Vv (ah.Bg rfl (bQ.one rfl rfl rfl sM rfl bQ.nil)) (Kz (Jh (-1-x) 1) (λW q L=>?_));rw[show -1-x+1= -x from oM];refine iF q (us:=iR (-x)) (h:=λX e=>?_);refine V0 ?_;exact⟨_,gT e,rfl,e.au⟩
end
def pw:Nat->Int
 | 0=>1
 | 1=>4294967296
 | _=>18446744073709551616
def pt (n:Int) (i:Nat):Int:=n%pw i
def aaM {n:Int} (k:0<=n) (b:n<18446744073709551616) (hi:i<2):pt n (i+1)=pt n i+dgt n i*pw i:=by
 have e:dgt n 0=n%4294967296:=rfl;have h:dgt n 1=n/4294967296%4294967296:=rfl
 rcases (by omega :i=0\/i=1)with rfl | rfl
 .show n%4294967296=n%1+dgt n 0*1;omega
 show n%18446744073709551616=n%4294967296+dgt n 1*4294967296;omega
def afq {n:Int} (h:0<=n) (k:n<18446744073709551616):pt n 2=n:=by show n%18446744073709551616=n;omega
def aaN (n:Int):pt n 0=0:=by show n%1=0;omega
def ahJ {p:Int} (h:0<=p) (b:p<18446744073709551616) {k:Nat} (hi:i<2) (g:k<2):
    ((usC [0,0,0,0,0,0]).set (i+k) (U (p%4294967296))).set (i+k+1) (U (p/4294967296))=iR (p*(pw i*pw k)):=by
  have e: ∀n:Int,iR n=[U (n%4294967296),U (n/4294967296%4294967296),U (n/4294967296/4294967296%4294967296),U (n/4294967296/4294967296/4294967296%4294967296),U (n/4294967296/4294967296/4294967296/4294967296%4294967296),U (n/4294967296/4294967296/4294967296/4294967296/4294967296%4294967296)]:=λn=>rfl;rw[e]
  rcases (by omega :i=0\/i=1)with rfl | rfl<;>rcases (by omega :k=0\/k=1)with rfl | rfl
  . show [U (p%4294967296),U (p/4294967296),U 0,U 0,U 0,U 0]=_
    simp only[pw]
    congr 6<;>first | rfl | (congr 1;omega)
  . show [U 0,U (p%4294967296),U (p/4294967296),U 0,U 0,U 0]=_
    simp only[pw]
    congr 6<;>first | rfl | (congr 1;omega)
  . show [U 0,U (p%4294967296),U (p/4294967296),U 0,U 0,U 0]=_
    simp only[pw]
    congr 6<;>first | rfl | (congr 1;omega)
  show [U 0,U 0,U (p%4294967296),U (p/4294967296),U 0,U 0]=_
  simp only[pw]
  congr 6<;>first | rfl | (congr 1;omega)
section
variable {w:Wd}
theorem Qk (a b:Int) (V:cB a) (W:cB b):Rk prog 259 [I a,I b] w (agg (iR (a*b))):=by
  have H:=Sep.aI w;obtain⟨A,v⟩: ∃A,A=if a<0 then -a else a:=⟨_,rfl⟩
  obtain⟨B,z⟩: ∃B,B=if b<0 then -b else b:=⟨_,rfl⟩
  have l:0<=A/\A<18446744073709551616:=by have u:=V.1;have j:=V.2;rw[v];split<;>omega
  have o:0<=B/\B<18446744073709551616:=by have u:=W.1;have j:=W.2;rw[z];split<;>omega
  refine tQ func259 ?_;refine Az (λp w2 H2 k1=>?_);refine Kz (FK a V) (λw5 H5 k4=>?_);refine Mv ?_;refine Kz (FK b W) (λw8 H8 k7=>?_);refine Az (λq wa Ha k9=>?_);refine Az (λs wb F ka=>?_);refine iF F (us:=iR a) (h:=λwc P=>?_);refine iF P (us:=iR b) (h:=λwd f=>?_);refine Qn (dU (λ_:Unit=>[(0,I a),(1,I b),(4,aC p),(5,aC q),(6,aC s)]) (λ_ w'=>Sep w noB [blk s (iR b) 333,blk q (iR A) 333,blk p (usC [0,0,0,0,0,0]) 333] w') ?_ ?_)
  . refine Cz (λM=>?_) (λM=>?_)
    . have g:=M
      refine Kz (Ji a) (λwe Q kb=>?_);rw[show iR (-a)=iR A from by rw[v,zac g]];refine iF Q (us:=iR A) (h:=λwf T=>?_);refine V0 ?_;exact aA () tR T
    rw[show iR a=iR A from by rw[v,zab M]]at f;refine V0 ?_;exact aA () tR f
  rintro⟨⟩ d wg m;refine Lp ?_;refine dU (λ_:Unit=>[(0,I a),(1,I b),(4,aC p),(5,aC q),(6,aC s)]) (λ_ w'=>Sep w noB [blk s (iR B) 333,blk q (iR A) 333,blk p (usC [0,0,0,0,0,0]) 333] w') ?_ ?_
  . refine Cz (λN=>?_) (λN=>?_)
    . have g:=N
      refine Kz (Ji b) (λwh Hh kc=>?_);rw[show iR (-b)=iR B from by rw[z,zac g]];refine iF Hh (us:=iR B) (h:=λwi Hi=>?_);refine V0 ?_;exact aA () tR Hi
    rw[show iR b=iR B from by rw[z,zab N]]at m;refine V0 ?_;exact aA () tR m
  rintro⟨⟩ d wj Hj;refine Lp ?_;refine Az (λK wk Hk kd=>?_);refine V1 ?_;refine aM (λi:Nat=>[(0,I a),(1,I b),(4,aC p),(5,aC q),(6,aC s),(7,aC K),(8,I i)]) (λi w'=>i<=2/\Sep w noB [blk K (iR (pt A i*B)) 333,blk s (iR B) 333,blk q (iR A) 333,blk p (usC [0,0,0,0,0,0]) 333] w') (λi _=>2-i) 0 tR ⟨zai _,by rw[aaN,Int.zero_mul];exact Hk⟩ (λi d wl R=>?_);obtain⟨hi,J⟩:=R;refine Lp ?_;refine Cz (λIg=>?_) (λIg=>?_)
  . have E:i<2:=oM
    have Z:=aaM l.1 l.2 E;have X:=nW A i;refine V1 ?_;refine aM (λk:Nat=>[(0,I a),(1,I b),(4,aC p),(5,aC q),(6,aC s),(7,aC K),(8,I i),(9,I k)]) (λk w'=>k<=2/\Sep w noB [blk K (iR (pt A i*B+dgt A i*pw i*pt B k)) 333,blk s (iR B) 333,blk q (iR A) 333,blk p (usC [0,0,0,0,0,0]) 333] w') (λk _=>2-k) 0 tR ⟨zai _,by rw[aaN,Int.mul_zero,zgl];exact J⟩ (λk d wm R=>?_);obtain⟨hk,n⟩:=R;refine Lp ?_;refine Cz (λIh=>?_) (λIh=>?_)
    . have G:k<2:=oM
      have Y:=aaM o.1 o.2 G;have D:=nW B k
      have L:0<=dgt A i*dgt B k/\dgt A i*dgt B k<18446744073709551616:=by
        have u:=Int.mul_nonneg X.1 D.1;have j:dgt A i*dgt B k<=4294967295*4294967295:=Int.mul_le_mul oM oM D.1 dC;omega
      refine Dz (λS wn r=>?_);refine V1 ?_;refine Gp S 1 rfl rfl (λ_=>(ah.lI rfl rfl oM)) (vS S 2 r (hv:=oW A oM) (h:=?_));refine V1 ?_;refine Gp S 4 rfl rfl (λ_=>(ah.lI rfl rfl oM)) (vS S 5 r (hv:=oW B oM) (h:=?_));refine GS (Gn rfl (λ_=>ah.alq (c:=dgt A i*dgt B k) rfl rfl kU) ?_);refine Az (λb11 wo Ho ke=>?_);refine V2 ?_;refine Vc ((i+k:Nat):Int) ?_;refine Mv ?_;refine Vv (ah.aip (c:=dgt A i*dgt B k%4294967296) rfl rfl dC (by rw[zey L.1])) ?_;refine Vv (ah.lI rfl rfl oM) (sO Ho (cs':=(usC [0,0,0,0,0,0]).set (i+k) (U (dgt A i*dgt B k%4294967296))) (ho:=Ua (by show 0+(i+k)*1<6;omega)) (hs:=by rw[zde,zfc];rfl) (h:=λwp Hp=>?_));refine V2 ?_;refine Vc ((i+k:Nat):Int) ?_;refine Vc ((i+k+1:Nat):Int) ?_;refine Mv ?_;refine Vv (ah.aio (c:=dgt A i*dgt B k/4294967296) rfl rfl dC (by rw[IntKind.wrap_u64,zez L.1];omega)) ?_;refine Vv (ah.lI rfl rfl oM) (sO Hp (cs':=iR (dgt A i*dgt B k*(pw i*pw k))) (ho:=Ua (by rw[zdb];show 0+(i+k+1)*1<6;omega)) (hs:=by rw[zde,zfc];exact ahJ L.1 L.2 E G) (h:=λwq Hq=>?_));refine Kz (Jh _ _) (λwr Hr kf=>?_);refine iF Hr (us:=iR (pt A i*B+dgt A i*pw i*pt B k+dgt A i*dgt B k*(pw i*pw k))) (h:=λws t=>?_);refine V1 ?_;refine Vc ((k+1:Nat):Int) ?_;refine V1 ?_
      have e:pt A i*B+dgt A i*pw i*pt B k+dgt A i*dgt B k*(pw i*pw k)=pt A i*B+dgt A i*pw i*pt B (k+1):=by
        rw[Y,Int.mul_add,Int.add_assoc]
        congr 2
        rw[Int.mul_assoc,Int.mul_assoc,Int.mul_left_comm (dgt B k)]
      rw[e]at t;exact ak (k+1) tR ⟨oM,t.bN⟩ oM
    have j:k=2:=oM;subst j;rw[afq o.1 o.2,<-Int.add_mul,<-Z]at n;refine V3 ?_;exact ak (i+1) tR ⟨oM,n⟩ oM
  have j:i=2:=oM;subst j;rw[afq l.1 l.2]at J;refine O5 ?_;refine Qn (Cd rfl (λO=>?_) (λO=>?_))
  . have hs: -(A*B)=a*b:=by
      have C:=O;rw[v,z]
      by_cases u:a<0<;>by_cases j:b<0<;>simp only[u,j,if_true,if_false,decide_true,decide_false,Int.neg_mul,Int.mul_neg,Int.neg_neg]at C |- <;>simp at C
    refine Kz (Ji (A*B)) (λwt Ht kg=>?_);rw[hs];refine iF Ht (us:=iR (a*b)) (h:=λwu x=>?_);refine V0 ?_;exact⟨_,gT x,rfl,x.au⟩
  have hs:A*B=a*b:=by
    have C:=O;rw[v,z]
    by_cases u:a<0<;>by_cases j:b<0<;>simp only[u,j,if_true,if_false,decide_true,decide_false,Int.neg_mul,Int.mul_neg,Int.neg_neg]at C |- <;>simp at C
  rw[hs]at J;refine V1 ?_;refine iF J (us:=iR (a*b)) (h:=λwv y=>?_);refine V0 ?_;exact⟨_,gT y,rfl,y.au⟩
def OE (x y:Int):Int:=if x<y then -1 else if y<x then 1 else 0
def Ql (x y:Int) (M: -3138550867693340381917894711603833208051177722232017256448<=x) (N:x<3138550867693340381917894711603833208051177722232017256448) (O: -3138550867693340381917894711603833208051177722232017256448<=y) (R:y<3138550867693340381917894711603833208051177722232017256448):
    Rk prog 329 [agg (iR x),agg (iR y)] w (I (OE x y)):=by
  have H:=Sep.aI w;obtain⟨E,b⟩:=aao M N;obtain⟨G,p⟩:=aao O R;have X:=nW x 5;have Y:=nW y 5;refine dn func329 ?_;refine Sr (bK H (cs:=iR x) rfl (h:=λV w2 a k1=>?_));refine bK a (cs:=iR y) rfl (h:=λW w4 H4 k3=>?_);refine Dz (λk w8 l=>?_);refine Gp k 0 rfl rfl (λ_=>(ah.lI (i:=5) rfl rfl oM)) (vS k 1 l (hv:=oW x dC) (h:=?_));refine V1 ?_;refine Gp k 3 rfl rfl (λ_=>(ah.lI (i:=5) rfl rfl oM)) (vS k 4 l (hv:=oW y dC) (h:=?_));refine O6 ?_;refine Qn (Cd rfl (λv=>?_) (λv=>?_))
  . have hd: ¬(x<0↔y<0):=by
      have j:=v;intro Z;rw[<-b,<-p]at Z
      by_cases f:2147483648<=dgt x 5<;>by_cases r:2147483648<=dgt y 5<;>simp[f,r]at j Z
    refine Cz (λz=>?_) (λz=>?_)
    . have t:x<0:=b.1 (by have:=z;omega)
      refine V1 ?_;exact⟨by unfold OE;rw[zac oM];rfl,l.au⟩
    have t: ¬x<0:=λh=>z (by have:=b.2 h;omega);refine V1 ?_;exact⟨by unfold OE;rw[zab oM,zac oM];rfl,l.au⟩
  have F:shl x 6=shl y 6:=by
    have j:=v;simp only[Bool.not_eq_false',beq_iff_eq,zbg]at j;rw[b,p]at j;rw[E,G]
    by_cases h:x<0
    . rw[zac h,zac (j.1 h)]
    rw[zab h,zab λA=>h (j.2 A)]
  refine V1 ?_;refine aM (λn:Nat=>[(2,aC V),(3,aC W),(7,I ((n:Int)-1))]) (λn w'=>(n<=6/\shl x n=shl y n)/\Sep w noB [blk W (iR y) 333,blk V (iR x) 333] w') (λn _=>n) 6 tR ⟨⟨zbk _,F⟩,l⟩ (λn τ wa P=>?_);obtain⟨⟨hn,s⟩,c⟩:=P;refine Lp ?_;refine Cz (λd=>?_) (λd=>?_)
  . obtain⟨m,rfl⟩: ∃m,n=m+1:=⟨n-1,oM⟩
    have g:m<6:=oM;have e:((m+1:Nat):Int)-1=(m:Int):=oM;rw[e];refine Dz (λS wb u=>?_);refine V1 ?_;refine Gp S 1 rfl rfl (λ_=>(ah.lI rfl rfl oM)) (vS S 2 u (hv:=oW x g) (h:=?_));refine V1 ?_;refine Gp S 4 rfl rfl (λ_=>(ah.lI rfl rfl oM)) (vS S 5 u (hv:=oW y g) (h:=?_));refine O1 ?_;refine fZ S kR ?_;refine Cz (λC=>?_) (λC=>?_)
    . have K:x<y:=aeh s C
      refine V1 ?_;exact⟨by unfold OE;rw[zac K];rfl,u.au⟩
    have Q:=C;refine Dz (λo wc q=>?_);refine V1 ?_;refine Gp o 1 rfl rfl (λ_=>(ah.lI rfl rfl oM)) (vS o 2 q (hv:=oW x g) (h:=?_));refine V1 ?_;refine Gp o 4 rfl rfl (λ_=>(ah.lI rfl rfl oM)) (vS o 5 q (hv:=oW y g) (h:=?_));refine O1 ?_;refine fZ o kR ?_;refine Cz (λD=>?_) (λD=>?_)
    . have J:y<x:=aeh s.symm D
      refine V1 ?_;exact⟨by unfold OE;rw[zab oM,zac J];rfl,q.au⟩
    have T:=D;refine V1 ?_;refine Vc ((m:Int)-1) ?_;refine V1 ?_;exact ak m tR ⟨⟨oM,ajd s oM⟩,q⟩ oM
  have L:n=0:=oM;subst L;have hxy:x=y:=s;refine V1 ?_;exact⟨by unfold OE;rw[zab oM,zab oM];rfl,c.au⟩
def Qm (v:Int) (p: -3138550867693340381917894711603833208051177722232017256448<=v) (q:v<3138550867693340381917894711603833208051177722232017256448):
    Rk prog 260 [agg (iR v)] w (.tuple #[I (if bM v=true then v else 0),I (if bM v=true then 0 else 50)]):=by
  have H:=Sep.aI w;have C:=nW v 0;have D:=nW v 1;have K:dgt v 0=v%4294967296:=rfl;have L:dgt v 1=v/4294967296%4294967296:=rfl;refine dL func260 ?_;refine Sr (bK H (cs:=iR v) rfl (h:=λJ W G M=>?_));refine Dz (λk X o=>?_);refine gY k 0 o (cs:=iR v) (h:=?_);refine dS k 1 [(0,false)] o (FK (-9223372036854775808) ⟨dC,dC⟩) (h:=λY s N=>⟨sU,?_⟩);refine dS k 2 _ s (Ql v (-9223372036854775808) p q dC dC) (h:=λZ j O=>⟨sT,?_⟩);refine V2 ?_;refine gu (t:=8) rfl (λS=>?_) (λS=>?_)
  . have e: ¬bM v=true:=by
      have b:=S;unfold OE at b;unfold bM;rw[decide_eq_true_eq]
      split at b
      . omega
      split at b<;>omega
    refine V3 ?_;exact⟨by rw[zab e,zab e];rfl,j.au⟩
  have E: -9223372036854775808<=v:=by
    have b:=S;unfold OE at b
    split at b
    . omega
    split at b<;>omega
  refine gY k 5 j (cs:=iR v) (h:=?_);refine dS k 6 [(5,false)] j (FK 9223372036854775807 ⟨dC,dC⟩) (h:=λa u R=>⟨sU,?_⟩);refine dS k 7 _ u (Ql v 9223372036854775807 p q dC dC) (h:=λd g V=>⟨sT,?_⟩);refine O2 ?_;refine fZ k kR ?_;refine Cz (λl=>?_) (λl=>?_)
  . have e: ¬bM v=true:=by
      have b:=l;unfold OE at b;unfold bM;rw[decide_eq_true_eq]
      split at b
      . omega
      split at b<;>omega
    refine V2 ?_;exact⟨by rw[zab e,zab e];rfl,g.au⟩
  have e:bM v=true:=by
    have b:=l;unfold OE at b;unfold bM;rw[decide_eq_true_eq]
    split at b
    . omega
    split at b<;>omega
  refine V0 ?_;refine Vv (ah.lI (i:=0) rfl rfl oM) (Lb g (hv:=oW v dC) (h:=?_));refine Vv (ah.lI (i:=1) rfl rfl oM) (Lb g (hv:=oW v dC) (h:=?_));refine Vv (ah.alq (c:=4294967296*dgt v 1) rfl rfl kU) ?_;refine Vv (ah.adu (c:=wA v) rfl rfl (by rw[IntKind.wrap_u64];unfold wA;omega)) ?_;refine Vv (ah.zy (c:=yw v) rfl (Wy v)) (V2 ?_);exact⟨by rw[zac e,zac e];exact zay (λz=>Value.tuple #[I z,I 0]) (aaI e),g.au⟩
def mI (x:Int×Int):LV:=[I x.1,I x.2]
instance:jl mI 2:=⟨λ_=>rfl⟩
def rP:List (Int×Int)->Int
 | []=>0
 | x::l=>x.1*x.2+rP l
def Kt (a b:List (Int×Int)):rP (a++b)=rP a+rP b:=by
 induction a with
 | nil=>simp[rP]
 | cons x a i=>rw[zcb,rP,rP,i];omega
def Qo: ∀{l:List (Int×Int)},(∀x∈l,cB x.1/\cB x.2)-> -(85070591730234615865843651857942052864*(l.length:Int))<=rP l/\rP l<=85070591730234615865843651857942052864*(l.length:Int)
 | [],_=>by simp[rP]
 | x::l,h=>by
  have i:=Qo λy e=>h y (zap _ e);obtain⟨k,b⟩:=h x zak;have:=Cy k b;rw[rP,zat];omega
def Jj {L:List (Int×Int)} {vl:Value} (c:aP w vl mI 2 L) (J: ∀x∈L,cB x.1/\cB x.2) (r:L.length<=1000000):
    Rk prog 186 [vl] w (.tuple #[I (if bM (rP L)=true then rP L else 0),I (if bM (rP L)=true then 0 else 50)]):=by
  obtain⟨A,m,rfl,⟨n,d⟩,p⟩:=c;have Z:=Qo J;have H:=Sep.aI w;refine dL func186 ?_;refine Az (λG Q M t=>?_);refine V1 ?_;refine aM (λi:Nat=>[(0,.slice A L.length m),(4,aC G),(5,I i)]) (λi w'=>i<=L.length/\Sep w noB [blk G (iR (rP (L.take i))) 333] w') (λi _=>L.length-i) 0 tR ⟨zai _,M⟩ (λi τ T Y=>?_);obtain⟨hi,D⟩:=Y;refine Lp ?_;refine Cz (λW=>?_) (λW=>?_)
  . have e:i<L.length:=oM
    obtain⟨x,o⟩:=aN e;have j:=J x (zag o);have C:rP (L.take (i+1))=rP (L.take i)+x.1*x.2:=by rw[zaq,o,Kt];show _+(_+0)=_;omega
    obtain⟨a,rfl⟩:=p.addr oM;refine Dz (λS K l=>?_);obtain⟨X,b,q⟩:=(p.aK l.au).cell (f:=0) (v:=I x.1) o rfl;obtain⟨E,k,s⟩:=(p.aK l.au).cell (f:=1) (v:=I x.2) o rfl;injection b with b
    injection k with k
    subst b;subst k;have u:K.cell? ((a.add (i*2)).add (0*1))=some (I x.1):=by rw[add_add];exact q
    have z:K.cell? ((a.add (i*2)).add (1*1))=some (I x.2):=by rw[add_add];exact s
    refine gY S 0 l (cs:=iR (rP (L.take i))) (h:=?_);refine V2 ?_;refine GS (Gn rfl (λ_=>ah.idx rfl rfl e) ?_);refine Gp S 4 rfl rfl (λ_=>(ah.BD (i:=0) rfl rfl oM)) (GS (Gt rfl (ah.aa3 rfl u) ?_));refine V2 ?_;refine GS (Gn rfl (λ_=>ah.idx rfl rfl e) ?_);refine Gp S 9 rfl rfl (λ_=>(ah.BD (i:=1) rfl rfl oM)) (GS (Gt rfl (ah.aa3 rfl z) ?_));refine dS S 11 [(0,false)] l (Qk x.1 x.2 j.1 j.2) (h:=λwb N y=>⟨sU,?_⟩);refine dS S 12 _ N (Jh _ _) (h:=λwc O F=>⟨sT,?_⟩);refine cu S 13 _ O (us:=iR (rP (L.take i)+x.1*x.2)) (h:=λwd R=>⟨sT,?_⟩);refine V3 ?_;exact ak (i+1) tR ⟨oM,by rw[C];exact R⟩ oM
  have g:L.take i=L:=zaj oM;rw[g]at D;refine V0 ?_;refine gF D (cs:=iR (rP L)) (h:=?_);refine Kz (Qm (rP L) oM oM) (λwe V P=>?_);refine V4 ?_;exact⟨rfl,V.au⟩
def Wz (a b:Int) (h:cB a) (k:cB b):Rk prog 187 [I a,I b] w (.tuple #[I (if bM (a*b)=true then a*b else 0),I (if bM (a*b)=true then 0 else 50)]):=by
 have g:=Cy h k;have H:=Sep.aI w;refine dn func187 ?_;refine Kz (Qk a b h k) (λp j l=>?_);refine Kz (Qm (a*b) oM oM) (λq e o=>?_);refine V4 ?_;exact⟨rfl,e.au⟩
end
open Go.Sort
def Es {α:Type} (f:α->Int) (x:α):LV:=[I (f x)]
instance {α:Type} (f:α->Int):jl (Es f) 1:=⟨λ_=>rfl⟩
def gU {α:Type} (f:α->Int) (A:OA) (n c:Nat) (d:Array α):HP:=aY 3 1 (Es f) (.slice A n c) d.toList
def ltC {α:Type} (cf:α->α->Int) (x y:α):Bool:=decide (cf x y<0)
section
variable {α:Type} {f:α->Int} {cf:α->α->Int} {w w' w0:Wd} {S F:NP} {rs:List HP} {put:HP->List HP} {A:OA} {n c i:Nat} {d:Array α} {fv:Value}
def ak8 [Inhabited α] (h:i<d.size):d.toList[i]? =some d[i]! :=by
 rw[Array.getElem?_toList,getElem!_pos d i h,zdz h]
def jC [Inhabited α] (d:Array α) (i j:Nat):(swp d i j).size=d.size:=by unfold swp;rw[zem,zem]
def rdI (k:n=d.size) (H:Mw.Sep w0 S rs w) (h:At rs (gU f A n c d) put):Rd w A (Es f) 1 d.toList:=by
 subst k;exact eF H h
def pO {α:Type} (P:Program) (fv:Value) (f:α->Int) (cf:α->α->Int) (F:NP) (w:Wd):Prop:=
 ∃(g:FuncId) (fs cs:LV),fv=.func (.func g) fs.toArray cs.toArray/\qB P g/\∀w1,aS F w w1->∀x y:α,Rk P g (fs++[I (f x),I (f y)]++cs) w1 (I (cf x y))
def pO.aK (h:pO P fv f cf F w) (j:aS F w w'):pO P fv f cf F w':=by
 obtain⟨g,fs,cs,e,he,b⟩:=h;exact⟨g,fs,cs,e,he,λl k x y=>b l (j.trans k λ_=>.inl) x y⟩
def pO.into (h:pO P fv f cf F w) (o:aS F w w') (j: ∀b,S b->F b\/w.heap.size<=b):pO P fv f cf S w':=by
 obtain⟨g,fs,cs,e,he,l⟩:=h;exact⟨g,fs,cs,e,he,λp k x y=>l p (o.trans k j) x y⟩
end
end
variable {w1:Wd}
open Go.RowKit
section
variable {P:Program} {r:Option Nat} {n:Nat} {ops:AO} {Q:Post} {rest:LO} {σ:St} {w w0:Wd} {S F:NP} {rs:List HP} {put:HP->List HP} {ty:Td} {pos:String} {after:Array Edge} {guard:Option (Nat×Bool)} {lv:List Bool} {pd:LNB}
 {ρ:Od->Value} {x y:Od} {α:Type} {f:α->Int} {cf:α->α->Int} {A:OA} {m c i:Nat} {a:α} {d:Array α} {T t:Td} {fv:Value}
def ah.zM {e q:Nat} [p:dR P t e] [o:Cells P e 1 q] (k:m=d.size) (g:ρ x=.slice A m c) (j:ρ y=.int .i64 i) (b:Rd w1 A (Es f) 1 d.toList) (h:i<d.size):ah P ρ (.indexAddr t x y) ty w (adr A (i*1)) w:=
 ah.yA (l:=d.toList) (by rw[k];rfl) g j b h
def ah.ak9 [Inhabited α] [OneCell P T] (b:ρ x=adr A (i*1)) (k:Rd w A (Es f) 1 d.toList) (h:i<d.size):ah P ρ (.load T x) ty w (I (f d[i]!)) w:=
 ah.yh (enc:=Es f) (l:=d.toList) (f:=0) b k (ak8 h) rfl
def WA [Inhabited α] [o:OneCell P T] (e:m=d.size) (H:Sep w0 S rs w) (k:At rs (gU f A m c d) put) (b:i<d.size) (j:evF σ x=adr A (i*1)) (l:evF σ y=I (f a)):
    ∃w',Oq P (evF σ) (.store T x y) ty w w'/\Sep w0 S (put (gU f A m c (d.setIfInBounds i a))) w':=by
  obtain⟨w',h,g⟩:=Kg (P:=P) (ty:=ty) (T:=T) (enc:=Es f) (f:=0) a (m:=m) (by rw[e];rfl) H k (ak8 b) dC rfl j l rfl;refine⟨w',h,?_⟩;unfold gU;rw[Array.toList_setIfInBounds];exact g
def WC [Inhabited α] (l:eY n ops=true) (e:Nat) (k:LNB) (q:m=d.size) [C:OneCell P T] (H:Sep w0 S rs w) (b:At rs (gU f A m c d) put) (j:i<d.size)
    (s:ops[e]? =some ⟨none,.store T x y,ty,pos,after,guard⟩:=by exact rfl)
    (u:Region.wanted ⟨none,.store T x y,ty,pos,after,guard⟩ (dG ops σ)=true:=by kernel_rfl)
    (v:evF σ x=adr A (i*1):=by exact rfl) (z:evF σ y=I (f a):=by exact rfl)
    (g:gy ops lv (pd.map (·.1)) e=true:=by kernel_rfl) (o:pd.filter (λp=> !((above ops e).contains p.1))=k:=by exact pD)
    (h: ∀w',Sep w0 S (put (gU f A m c (d.setIfInBounds i a))) w'->jK P ops σ w' k/\FG P r n ops Q (lv.set e true) k σ w'):FG P r n ops Q lv pd σ w:=
  Ww l e k s u (WA q H b j v z) g o h
def ala (l:eY n ops=true) (e:Nat) (k:LNB) (q:pO P fv f cf F w1) (H:Sep w1 F rs w) (a b:α) {d:Nat} {x:List Od} {K:Array Td}
    (z:ops[e]? =some ⟨some d,.call {callee:=.value y,args:=x.toArray,argTypes:=K},ty,pos,after,guard⟩:=by exact rfl)
    (E:Region.wanted ⟨some d,.call {callee:=.value y,args:=x.toArray,argTypes:=K},ty,pos,after,guard⟩ (dG ops σ)=true:=by kernel_rfl)
    (G:evF σ y=fv:=by exact rfl) (D:x.map (evF σ)=[I (f a),I (f b)]:=by exact rfl)
    (j:gy ops lv (pd.map (·.1)) e=true:=by kernel_rfl) (o:pd.filter (λp=> !((above ops e).contains p.1))=k:=by exact pD)
    (h: ∀w',Sep w1 F rs w'->jK P ops (upd σ d (I (cf a b))) w' k/\FG P r n ops Q (lv.set e true) k (upd σ d (I (cf a b))) w'):FG P r n ops Q lv pd σ w:=by
  obtain⟨g,J,cs,rfl,he,s⟩:=q;refine lH (he:=he) l e k G (s w H.au a b) z E D j o λv w' C=>?_;obtain⟨rfl,u⟩:=C;exact h w' (H.aK u)
def ah.amZ {e p:Nat} [o:dR P t e] [l:Cells P e 1 p] (g:ρ x=.slice A m c) (j:ρ y=.int .i64 i) (H:Sep w0 S rs w1) (h:At rs (gU f A m c d) put) (b:m=d.size) (k:i<m):ah P ρ (.indexAddr t x y) ty w (adr A (i*1)) w:=
 ah.zM b g j (rdI b H h) (b▸k)
def ah.alb [Inhabited α] [OneCell P T] (e:ρ x=adr A (i*1)) (H:Sep w0 S rs w) (h:At rs (gU f A m c d) put) (b:m=d.size) (k:i<m):ah P ρ (.load T x) ty w (I (f d[i]!)) w:=
 ah.ak9 e (rdI b H h) (b▸k)
def sz {p:Prop} (h:p:=by first | assumption | (simp only[zem];assumption) | (simp only[jC];assumption)):p:=h
def FsI [Inhabited α] {j:Nat} [C:OneCell P T] (h: ∀w',Sep w0 S (put (gU f A m c (d.setIfInBounds i a))) w'->FG P r n ops Q ((lv.set j true).set (j+1) true) (pd.filter (λp=> !((above ops (j+1)).contains p.1))) σ w') (H:Sep w0 S rs w:=by assumption) (k:At rs (gU f A m c d) put:=by first | exact At0 | exact At1)
    (g:eY n ops=true:=by assumption) (q:ops[j+1]? =some ⟨none,.store T x y,ty,pos,after,guard⟩:=by exact rfl)
    (u:Region.wanted ⟨none,.store T x y,ty,pos,after,guard⟩ (dG ops σ)=true:=by kernel_rfl)
    (v:evF σ x=adr A (i*1):=by exact rfl) (z:evF σ y=I (f a):=by exact rfl) (o:m=d.size:=by exact sz) (e:i<m:=by omega)
    (b:gy ops (lv.set j true) (pd.map (·.1)) (j+1)=true:=by kernel_rfl) (l:(pd.filter (λp=> !((above ops (j+1)).contains p.1))).all (λp=>p.2)=true:=by kernel_rfl):FG P r n ops Q (lv.set j true) pd σ w:=
  WC g (j+1) _ o H k (o▸e) q u v z b rfl λw' s=>⟨sT l,h w' s⟩
def FcI {j:Nat} {a b:α} {d:Nat} {x:List Od} {z:Array Td} (h: ∀w',Sep w1 F rs w'->FG P r n ops Q ((lv.set j true).set (j+1) true) (pd.filter (λp=> !((above ops (j+1)).contains p.1))) (upd σ d (I (cf a b))) w')
    (l:pO P fv f cf F w1:=by assumption) (H:Sep w1 F rs w:=by assumption) (e:eY n ops=true:=by assumption)
    (o:ops[j+1]? =some ⟨some d,.call {callee:=.value y,args:=x.toArray,argTypes:=z},ty,pos,after,guard⟩:=by exact rfl)
    (u:Region.wanted ⟨some d,.call {callee:=.value y,args:=x.toArray,argTypes:=z},ty,pos,after,guard⟩ (dG ops σ)=true:=by kernel_rfl)
    (v:evF σ y=fv:=by exact rfl) (s:x.map (evF σ)=[I (f a),I (f b)]:=by exact rfl)
    (k:gy ops (lv.set j true) (pd.map (·.1)) (j+1)=true:=by kernel_rfl) (g:(pd.filter (λp=> !((above ops (j+1)).contains p.1))).all (λp=>p.2)=true:=by kernel_rfl):FG P r n ops Q (lv.set j true) pd σ w:=
  ala e (j+1) _ l H a b o u v s k rfl λw' q=>⟨sT g,h w' q⟩
end
open Go.Sort
section
attribute [local irreducible] FW FL FG FGn jX lg gD l7 Qfn ah
section
variable {α:Type} [Inhabited α] {f:α->Int} {cf:α->α->Int} {w:Wd} {F:NP} {A:OA} {n c:Nat} {d₀:Array α} {fv:Value}
def YZ {a b:Nat} (V:(gU f A n c d₀).ok F w) (z:n=d₀.size) (O:a<=b) (Z:b<=n) (G:n<=1000000) (J:pO Tryz.prog fv f cf F w):
    aX Tryz.prog 330 [.slice A n c,I a,I b,fv] w λr w'=>r=.tuple #[]/\cO F (gU f A n c (insertionSort (ltC cf) d₀ a b)) w w':=by
  have H:=Sep.dA V;obtain⟨g,ay⟩: ∃g,g=insertionSort (ltC cf) d₀ a b:=⟨_,rfl⟩;rw[<-ay];unfold insertionSort at ay;refine yM Tryz.func330 ?_;refine V1 ?_;refine Vc ((a+1:Nat):Int) ?_;refine V1 ?_;refine aM (λx:Nat×Array α=>[(0,.slice A n c),(1,I a),(2,I b),(3,fv),(8,I x.1)]) (λx w'=>((n=x.2.size/\x.1<=b+1)/\insOuter (ltC cf) a b x.1 x.2=g)/\Sep w F [gU f A n c x.2] w') (λx _=>b+1-x.1) (a+1,d₀) tR ⟨⟨⟨z,oM⟩,ay.symm⟩,H⟩ (λx W m p=>?_);obtain⟨i,d⟩:=x;obtain⟨⟨⟨e,s⟩,hi⟩,l⟩:=p;dsimp only at e s hi l;refine Lp ?_;refine Cz (λq=>?_) (λq=>?_)
  . have v:i<b:=oM
    rw[insOuter,zac v]at hi;refine V2 ?_;refine aM (λx:Nat×Array α=>[(0,.slice A n c),(1,I a),(2,I b),(3,fv),(8,I i),(9,I x.1)]) (λx w'=>((n=x.2.size/\x.1<=i)/\insOuter (ltC cf) a b (i+1) (insInner (ltC cf) a x.1 x.2)=g)/\Sep w F [gU f A n c x.2] w') (λx _=>x.1) (i,d) tR ⟨⟨⟨e,zbk _⟩,hi⟩,l⟩ (λx W y p=>?_);clear hi e;obtain⟨j,d⟩:=x;obtain⟨⟨⟨e,u⟩,hi⟩,D⟩:=p;dsimp only at e u hi D;have hR:=rdI e D At0;refine Lp ?_;refine Dz (λS P K=>?_);refine V4 ?_;refine gu (t:=21) rfl (λN=>?_) (λN=>?_)
    . obtain⟨k,rfl⟩: ∃k,j=k+1:=⟨j-1,oM⟩
      have R:k+1>a:=oM;refine V7 ?_;refine Gc S 11 ((k:Nat):Int) ?_;refine V2 ?_;refine FcI (λQ L=>?_);refine O2 ?_;refine fZ S kR ?_;refine Cz (λo=>?_) (λo=>?_)
      . rw[insInner,zac (by simp[ltC];exact⟨oM,o⟩)]at hi
        refine Dz (λE T X=>?_);refine V4 ?_;refine Gc E 4 ((k:Nat):Int) ?_;refine V2 ?_;refine Gc E 7 ((k:Nat):Int) ?_;refine V7 ?_;refine FsI (λwe Y=>?_);refine V1 ?_;refine FsI (λwf M=>?_);refine V1 ?_;refine Vc (k:Int) ?_;refine V1 ?_;exact ak (k,swp d (k+1) k) tR ⟨⟨⟨by rw[jC];exact e,dO⟩,hi⟩,M⟩ dO
      rw[insInner,zab (by simp[ltC];intro _;have:=o;omega)]at hi;refine V3 ?_;exact ak (i+1,d) tR ⟨⟨⟨e,dO⟩,hi⟩,L⟩ dO
    have C:insInner (ltC cf) a j d=d:=by
      cases j with
      | zero=>rfl
      | succ k=>rw[insInner,zab (by simp;intro h;omega)]
    rw[C]at hi;refine V4 ?_;exact ak (i+1,d) tR ⟨⟨⟨e,dO⟩,hi⟩,K⟩ dO
  rw[insOuter,zab oM]at hi;refine V0 ?_;exact⟨rfl,by rw[<-hi];exact l.bf⟩
end
end
end Go.Proofs.Mw
