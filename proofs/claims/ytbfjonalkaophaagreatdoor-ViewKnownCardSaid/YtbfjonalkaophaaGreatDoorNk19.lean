/-
 The document's check of a plan,walked.
-/
import Derived.Test.YtbfjonalkaophaaGreatDoorNk18
set_option linter.all false
set_option maxRecDepth 4000
namespace Go.Proofs.Mw
variable {p:aU} {v vc:Value} {b:Nat} {st:Int}
open Go.Lib Go.Proofs.Tryz
section
attribute [local irreducible] FW FL FG FGn jX lg gD l7 Qfn ah
section
variable {w:Wd}
def sN (id:Int) (name:L8) (t:bZ):Rk prog 100 [I id,str name,agg (aG t)] w (agg (aL (qD id name t))):=by
 have H:=Sep.aI w;refine AB func100 ?_;refine Sr (bK H (cs:=aG t) rfl (h:=λj q g k=>?_));refine Az (λm s i o=>?_);refine Dz (λa u f=>?_);refine V4 ?_;refine dS a 4 [(2,false),(1,true),(0,true)] f (agW t) (h:=λv b p=>⟨(bE rfl kR (ah.JZ rfl (b.obj At1) (us:=aG t) rfl rfl) rfl (av (av (dw)))),?_⟩);refine Gp a 5 rfl rfl (λ_=>(ah.build (out:=aL (qD id name t)) (bQ.one rfl rfl rfl sM rfl (bQ.one rfl rfl rfl sM rfl (bQ.many rfl rfl (zbd rfl) rfl (bQ.many rfl rfl (zbd rfl) rfl bQ.nil)))))) (cu a 6 _ b (h:=λx d=>⟨sT,?_⟩));refine V0 ?_;exact⟨_,gT d,rfl,d.au⟩
theorem acB {cols:List bF} {vp:Value} (hc:aP w vc aL 7 cols) (hp:fK w vp p):
    aX prog 58 [vc,vp] w λv D=>∃x,v=.tuple #[x,I (bD cols p).2]/\True/\cO noB (aY 50 7 aL x (bD cols p).1) w D:=by
  have hp0:=hp;obtain⟨vw,vq,rfl,hw,r,hr,u⟩:=hp;obtain⟨A,m,rfl,⟨hm,Gj⟩,hA⟩:=hr;have EO:=u.len;have H:=Sep.aI w;obtain⟨t,ay⟩: ∃t,t=bD cols p:=⟨_,rfl⟩;rw[<-ay];unfold bD at ay;obtain⟨C,n,rfl,⟨hwn,alU⟩,hC⟩:=id hw;refine dn func58 ?_;refine Sr (bK H (cs:=[.slice C p.wh.length n,.slice A r.length m,I p.group]) rfl (h:=λF w2 H2 k1=>?_));refine Kz (acA (hp0.aK H2.au)) (λw7 T k6=>?_);refine Vv (ah.not rfl) (Qn ?_);refine Cd rfl (λs=>?_) (λs=>?_)
  . rw[zac I5]at ay
    refine V2 ?_;exact⟨_,by rw[ay];rfl,trivial,by rw[ay];exact(Sep.iX T 50 7 aL).first.bf⟩
  rw[zab I5]at ay;have alV:p.cols.length<=16:=(rG I5).1.2.1;refine Sk (dU (λ_:Unit=>[(0,vc),(3,aC F)]) (λ_ D=>t=rz cols p.group 0 p.cols []/\Sep w noB [blk F [.slice C p.wh.length n,.slice A r.length m,I p.group] 32] D) ?_ ?_)
  . refine Cz (λZ=>?_) (λZ=>?_)
    . have M:p.wh≠[]:=λe=>by rw[e]at Z;exact zas Z dC
      refine Kz (JW (hc.aK T.au) (hw.aK T.au)) (λwa Ha ka=>?_);refine Az (λb6 wb Hb kb=>?_);refine Tz (λwc X=>?_);refine Cz (λk=>?_) (λk=>?_)
      . rw[zac ⟨M,k⟩]at ay
        refine V3 ?_;exact⟨_,by rw[ay];rfl,trivial,by rw[ay];exact(Sep.iX X 50 7 aL).first.bf⟩
      rw[zab (λh=>k h.2)]at ay;refine Cz (λc=>?_) (λc=>?_)
      . rw[zac ⟨M,c⟩]at ay
        refine V2 ?_;exact⟨_,by rw[ay];rfl,trivial,by rw[ay];exact(Sep.iX X 50 7 aL).first.bf⟩
      rw[zab (λh=>c h.2)]at ay;refine V0 ?_;exact aA () tR ⟨ay,X.bN⟩
    have he:p.wh=[]:=zbf oM;rw[zab (λh=>h.1 he),zab (λh=>h.1 he)]at ay;refine V0 ?_;exact aA () tR ⟨ay,T⟩
  rintro _ τ wd ⟨y,Hd⟩;refine Lp ?_;refine Sr (Vb (aG iZ) ?_);refine Az (λV we He kc=>?_);refine Tz (λwf Hf=>?_);refine V2 ?_;have E:=Sep.iX Hf 50 7 aL;refine aM (λx:Nat×List bF×Value=>[(0,vc),(3,aC F),(8,aC V),(9,x.2.2),(10,I x.1)]) (λx D=>(x.1<=r.length/\x.2.1.length<=2*x.1/\rz cols p.group x.1 (p.cols.drop x.1) x.2.1=t)/\Sep w noB [aY 50 7 aL x.2.2 x.2.1,blk V (aG iZ) 46,blk F [.slice C p.wh.length n,.slice A r.length m,I p.group] 32] D) (λx _=>r.length-x.1) (0,[],.slice none 0 0) tR ⟨⟨zai _,dC,y.symm⟩,E⟩ (λx τ wg hI=>?_);obtain⟨i,f,v0⟩:=x;obtain⟨⟨hi,hal,a⟩,E⟩:=hI;dsimp only at hi hal a E;refine Lp ?_;refine Cz (λIh=>?_) (λIh=>?_)
  . have L:i<p.cols.length:=oM
    obtain⟨vx,hx,O⟩:=u.at L;have N:p.cols[i]? =some p.cols[i]:=zaa L;obtain⟨o,ho⟩: ∃o,o=p.cols[i]:=⟨_,rfl⟩;rw[<-ho]at hx O N;rw[P5 N,rz]at a;refine Kz (JW (hc.aK E.au) (O.aK E.au)) (λwi Hh kd=>?_);refine Az (λK wj Hi ke=>?_);refine Tz (λwk Y=>?_);refine Cz (λl=>?_) (λl=>?_)
    . rw[zac l]at a
      refine V3 ?_;exact⟨_,by rw[<-a];rfl,trivial,by rw[<-a];exact(Sep.iX Y 50 7 aL).first.bf⟩
    rw[zab l]at a;refine Sk (dU (λz:Value=>[(0,vc),(3,aC F),(8,aC V),(9,z),(10,I i),(11,aC K)]) (λz D=>Sep w noB [aY 50 7 aL z (if(i:Int)=p.group then f++[qD ((i:Int)+1) iY iZ]else f),blk K (aG (gH cols o.steps).1) 46,blk V (aG iZ) 46,blk F [.slice C p.wh.length n,.slice A r.length m,I p.group] 32] D) ?_ ?_)
    . refine Sz (λSa=>?_) (λSa=>?_)
      . refine Cz (λP=>?_) (λP=>?_)
        . have j:(i:Int)=p.group:=P
          refine V2 ?_;refine Vc ((i:Int)+1) ?_;refine Kz (sN ((i:Int)+1) iY iZ) (λwl Hk kf=>?_);refine Bs Hk ([qD ((i:Int)+1) iY iZ].flatMap aL) (λW wm Hl kg=>?_);refine eH Hl (news:=[qD ((i:Int)+1) iY iZ]) At1 kP kN (dW (λ_=>rfl) _) (h:=?_);intro v2 wn Hm;refine V1 ?_;exact aA v2 tR (by rw[zac j];exact Hm.aJ)
        have j: ¬(i:Int)=p.group:=P;refine V0 ?_;exact aA v0 tR (by rw[zab j];exact Y.aJ)
      have j: ¬(i:Int)=p.group:=λe=>Sa oM;refine V1 ?_;exact aA v0 tR (by rw[zab j];exact Y.aJ)
    intro v1 τ wo Hn;refine Lp ?_;refine Sz (λSb=>?_) (λSb=>?_)
    . have b: ¬(0<=p.group/\p.group<=i):=λh=>oM
      rw[zab b]at a;refine Dz (λS wp Ho=>?_);refine V2 ?_;refine Gc S 2 ((i:Int)+1) ?_;refine V7 ?_;have q: ¬(i:Int)=p.group:=λe=>b ⟨oM,oM⟩;rw[zab q]at Ho;refine dS S 10 _ Ho (sN ((i:Int)+1) o.name (gH cols o.steps).1) (h:=λwq Hp kh=>⟨sT,?_⟩);refine Gz S 11 _ Hp ([qD ((i:Int)+1) o.name (gH cols o.steps).1].flatMap aL) (h:=λW wr Hq=>⟨sT,?_⟩);refine gZ S 12 _ Hq (news:=[qD ((i:Int)+1) o.name (gH cols o.steps).1]) At0 kP kN (dW (λ_=>rfl) _) (h:=λR ws Hr=>⟨sT,?_⟩);refine rA S 13 _ (h:=⟨sT,?_⟩);refine V3 ?_;exact ak (i+1,f++[qD ((i:Int)+1) o.name (gH cols o.steps).1],R) tR ⟨⟨dO,by dsimp only;rw[zad,zaf];omega,a⟩,Hr.aJ.bN⟩ dO
    refine Cz (λIk=>?_) (λIk=>?_)
    . have b: ¬(0<=p.group/\p.group<=i):=λh=>oM
      rw[zab b]at a;refine Dz (λG wt Hs=>?_);refine V2 ?_;refine Gc G 2 ((i:Int)+1) ?_;refine V7 ?_;have q: ¬(i:Int)=p.group:=λe=>b ⟨oM,oM⟩;rw[zab q]at Hs;refine dS G 10 _ Hs (sN ((i:Int)+1) o.name (gH cols o.steps).1) (h:=λwu Ht ki=>⟨sT,?_⟩);refine Gz G 11 _ Ht ([qD ((i:Int)+1) o.name (gH cols o.steps).1].flatMap aL) (h:=λW wv Hu=>⟨sT,?_⟩);refine gZ G 12 _ Hu (news:=[qD ((i:Int)+1) o.name (gH cols o.steps).1]) At0 kP kN (dW (λ_=>rfl) _) (h:=λR ww Hv=>⟨sT,?_⟩);refine rA G 13 _ (h:=⟨sT,?_⟩);refine V3 ?_;exact ak (i+1,f++[qD ((i:Int)+1) o.name (gH cols o.steps).1],R) tR ⟨⟨dO,by dsimp only;rw[zad,zaf];omega,a⟩,Hv.aJ.bN⟩ dO
    have b:0<=p.group/\p.group<=i:=oM;rw[zac b]at a;refine Cz (λQ=>?_) (λQ=>?_)
    . rw[zac Q]at a
      refine V2 ?_;exact⟨_,by rw[<-a];rfl,trivial,by rw[<-a];exact(Sep.iX Hn 50 7 aL).first.bf⟩
    rw[zab Q]at a;obtain⟨d,g⟩: ∃d,d=if(i:Int)=p.group then f++[qD ((i:Int)+1) iY iZ]else f:=⟨_,rfl⟩
    rw[<-g]at Hn a
    have anG:d.length<=2*i+1:=by
      rw[g]
      split
      . rw[zad,zaf];omega
      omega
    refine Dz (λJ wx Hw=>?_);refine V2 ?_;refine Gc J 2 ((i:Int)+2) ?_;refine V7 ?_;refine dS J 10 _ Hw (sN ((i:Int)+2) o.name iZ) (h:=λwy Hx kj=>⟨sT,?_⟩);refine Gz J 11 _ Hx ([qD ((i:Int)+2) o.name iZ].flatMap aL) (h:=λW wz Hy=>⟨sT,?_⟩);refine gZ J 12 _ Hy (news:=[qD ((i:Int)+2) o.name iZ]) At0 kP kN (dW (λ_=>rfl) _) (h:=λR wD Hz=>⟨sT,?_⟩);refine rA J 13 _ (h:=⟨sT,?_⟩);refine V3 ?_;exact ak (i+1,d++[qD ((i:Int)+2) o.name iZ],R) tR ⟨⟨dO,by dsimp only;rw[zad,zaf];omega,a⟩,Hz.aJ.bN⟩ dO
  have Gq:i=r.length:=oM;rw[Gq,EO,zds,rz]at a;refine Cz (λIm=>?_) (λIm=>?_)
  . rw[zac oM]at a
    refine V3 ?_;refine Vc (p.group+1) ?_;refine Kz (sN (p.group+1) iY iZ) (λwE HA kk=>?_);refine Bs HA ([qD (p.group+1) iY iZ].flatMap aL) (λW wF HB kl=>?_);refine eH HB (news:=[qD (p.group+1) iY iZ]) At0 kP kN (dW (λ_=>rfl) _) (h:=?_);intro v2 wG HC;refine V4 ?_;exact⟨v2,by rw[<-a];rfl,trivial,by rw[<-a];exact HC.first.bf⟩
  rw[zab oM]at a;refine V3 ?_;exact⟨v0,by rw[<-a];rfl,trivial,by rw[<-a];exact E.first.bf⟩
end
def P7: ∀s:L8,Lib.index s [32]=match s.idxOf? 32 with | some i=>(i:Int) | none=> -1
 | []=>rfl
 | c::t=>by
  have b:=P7 t
  by_cases h:c=32
  .subst h
   have e:List.idxOf? 32 (32::t)=some 0:=by unfold List.idxOf?;rw[zgj];rfl
   rw[LX,e];rfl
  have a:(c==32)=false:=by simpa using h
  have e:List.idxOf? 32 (c::t)=(List.idxOf? 32 t).map (· +1):=by unfold List.idxOf?;rw[zgj,a];rfl
  rw[J7 h,b,e];cases List.idxOf? 32 t with
  | none=>rfl
  | some i=>
   show(if(i:Int)= -1 then(-1:Int)else(i:Int)+1)=((i+1:Nat):Int)
   rw[zab oM];omega
def ahC (s:L8):(Lib.cut s [32]).1=(jZ s).1/\(Lib.cut s [32]).2.1=(jZ s).2:=by
 unfold Lib.cut jZ zV;rw[P7];cases h:s.idxOf? 32 with
 | none=>simp
 | some i=>simp
def P8 (s:L8):(jZ s).1.length<=s.length/\(jZ s).2.length<=s.length:=by
 unfold jZ;cases h:zV s with
 | none=>simp
 | some x=>
  obtain⟨a,b⟩:=x;have:=ae7 h;rw[this];simp only[zdg,zad];omega
def Wt {n:L8} (a:v.oneCell'=true): ∀u∈[(n,v)].flatMap dV,u.oneCell'=true:=λu h=>by
 simp only[zbi,zfa,zbt,dV,zax,zal,or_false]at h
 rcases h with rfl | rfl
 .rfl
 exact a
def acC {l:L8} {v:Int} (h:atoiAll l=.ok v):cB v:=atoiAll_bounds h
def Ko (b:Nat) (p:aU) (st:Int):HP:=exH λx:Value×Value×List (L8×Value)=>jA [blk b [x.1,x.2.1,I p.group,I st] 53,Eo x.1 aQ 3 p.wh,aY 43 2 dV x.2.1 x.2.2,AX x.2.2 p.cols]
def ak5 (b:Nat):Option (aU×Int)->HP
 | some r=>Ko b r.1 r.2
 | none=>emp
section
variable {w w0:Wd} {S:NP} {rs:List HP}
def uJ {p:aU} {v:Value} {r:List (L8×Value)} (H:Mw.Sep w0 S (blk b [v,vc,I p.group,I st] 53::Eo v aQ 3 p.wh::aY 43 2 dV vc r::AX r p.cols::rs) w):Mw.Sep w0 S (Ko b p st::rs) w:=
 Sep.tZ (p:=λx:Value×Value×List (L8×Value)=>jA [blk b [x.1,x.2.1,I p.group,I st] 53,Eo x.1 aQ 3 p.wh,aY 43 2 dV x.2.1 x.2.2,AX x.2.2 p.cols]) (v,vc,r) (Sep.bundle (l:=[_,_,_,_]) H)
def MO (H:Mw.Sep w0 S (Ko b p st::rs) w): ∃h v r,Mw.Sep w0 S (blk b [h,v,I p.group,I st] 53::Eo h aQ 3 p.wh::aY 43 2 dV v r::AX r p.cols::rs) w:=by
 unfold Ko at H;obtain⟨⟨h,v,r⟩,H⟩:=H.ex0;exact⟨h,v,r,Sep.parts H⟩
def pK {F:NP} (H:Mw.Sep w0 F rs w):cO F emp w0 w:=(Sep.jY (φ:=True) trivial H).first.bf
def aff (s:L8) (o:s.length<=1048576) (f:gK w):aX prog 45 [str s,str [32]] w λv h=>(∃b,v=.tuple #[str (jZ s).1,str (jZ s).2,.bool b])/\aS noB w h:=by
 obtain⟨m,i⟩:=f.len;have j:(⟨s.toArray⟩:ByteArray).size=s.length:=Mw.size_mk s
 exact Calls.mono (Tryz.strings_Cut ⟨s.toArray⟩ ⟨#[32]⟩ m w (by rw[j];omega) i) λe h g=>by
  obtain⟨rfl,n,rfl⟩:=g;obtain⟨a,d⟩:=ahC s;refine⟨⟨(Lib.cut s [32]).2.2,?_⟩,(aS.refl noB w).akN _⟩;show Value.tuple #[str (Lib.cut s [32]).1,str (Lib.cut s [32]).2.1,.bool (Lib.cut s [32]).2.2]=_
  rw[a,d]
def ahD (t:L8) (x:t.length<=1048576) (s:gK w):aX prog 47 [str t] w λv f=>(∃n e b,v=.tuple #[I n,e]/\IsNil e b/\(b=true->atoiAll t=.ok n)/\(b=false->∀m,atoiAll t≠ .ok m))/\aS noB w f:=by
 have j:(⟨t.toArray⟩:ByteArray).size=t.length:=Mw.size_mk t;cases h:atoiAll t
 .rename_i v
  exact Calls.mono (Tryz.strconv_Atoi_ok ⟨t.toArray⟩ (by rw[j];omega) v h w) λe f a=>by
   obtain⟨rfl,u⟩:=a;refine⟨⟨v,.nilIface,true,rfl,.inl ⟨rfl,rfl⟩,λ_=>rfl,λd=>by cases d⟩,?_⟩
   rcases u with rfl | ⟨t,rfl⟩
   .exact aS.refl _ _
   exact aS.of_below (Lib.bytesWorld_below _ _ _)
 .skip
  obtain⟨q,p,o⟩:=s.syn
  exact Calls.mono (Tryz.strconv_Atoi_syntax_var ⟨t.toArray⟩ (by rw[j];omega) h rfl q p w o) λe f a=>by
   obtain⟨N,rfl,_,_,g⟩:=a;exact⟨⟨_,_,false,rfl,.inr ⟨rfl,_,_,rfl⟩,(λd=>by cases d),λ_ m i=>by cases i⟩,aS.of_below g⟩
 skip;obtain⟨q,p,o⟩:=s.ran
 exact Calls.mono (Tryz.strconv_Atoi_range_var ⟨t.toArray⟩ (by rw[j];omega) h q p w o) λe f a=>by
  obtain⟨N,rfl,_,_,g⟩:=a;exact⟨⟨_,_,false,rfl,.inr ⟨rfl,_,_,rfl⟩,(λd=>by cases d),λ_ m i=>by cases i⟩,aS.of_below g⟩
def P9 (t:L8) (i:t.length<=1000000) (f:gK w):aX prog 46 [str t] w λv j=>∃x,v=.tuple #[x,.bool (oh t).isSome]/\True/\cO noB (aY 41 3 aQ x (fE t).1) w j:=by
 have H:=Sep.aI w;obtain⟨r,ay⟩: ∃r,r=(oh t).isSome:=⟨_,rfl⟩;rw[<-ay];unfold oh at ay;refine dL func46 ?_;refine Nz (abX t (.inl i) oM (f.aK H.au)) (λx o _ a k=>?_);obtain⟨B,cb,rfl,g,m⟩:=Sep.bX a At0;refine Sz (λS=>?_) (λS=>?_)
 .have d:(fE t).2=0:=S
  refine V6 ?_;exact⟨_,by first | (rw[ay];rfl) | (rw[ay];by_cases b:(fE t).1=[]<;>simp[b,d,fU,zfn]),trivial,a.bf⟩
 rw[zab (λh=>S h.1)]at ay;refine V3 ?_;exact⟨_,by first | (rw[ay];rfl) | (rw[ay];by_cases b:(fE t).1=[]<;>simp[b,d,fU,zfn]),trivial,a.bf⟩
theorem ahE {F:NP} (s:L8) (hp:(Ko b p st).ok F w) (hst:st=0\/st=1\/st=2\/st=3) (hl:s.length<=1000000) (hn:p.cols.length<=1000000) (R: ∀T,aS F w T->gK T):
    aX prog 14 [aC b,str s] w λv T=>v=.bool (j3 p st s).isSome/\cO F (ak5 b (j3 p st s)) w T:=by
  obtain⟨vw,vc,r,H⟩:=MO (Sep.dA hp);obtain⟨N,ay⟩: ∃N,N=j3 p st s:=⟨_,rfl⟩;rw[<-ay];unfold j3 at ay;obtain⟨O,M⟩: ∃O,O=(jZ s).1:=⟨_,rfl⟩;obtain⟨rest,f⟩: ∃rest,rest=(jZ s).2:=⟨_,rfl⟩;have EO:rest.length<=1000000:=by have:=(P8 s).2;rw[f];omega
  rw[<-M,<-f]at ay;obtain⟨A,ca,rfl,hca,hA⟩:=Sep.bX H At2;have X:qm w r p.cols:=Sep.dh H At3;have hrn:=X.len
  have hvw: ∃A c,vw=.slice A p.wh.length c:=by
    obtain⟨A,c,e,_⟩:=(Sep.dh H At1:aP w vw aQ 3 p.wh);exact⟨A,c,e⟩
  obtain⟨Aw,cw,rfl⟩:=hvw;refine dn func14 ?_;refine V2 ?_;refine aO (aff s oM (R _ H.au)) rfl rfl (λv' w4 Y=>?_);obtain⟨⟨b7,rfl⟩,u⟩:=Y;have P:=H.aK u;rw[<-M,<-f];refine O11 ?_;refine Qn (rZ (dU (λ_:Unit=>[(0,aC b),(5,str O),(6,str rest)]) (λ_ T=>(N=(YG s).map λo=>(⟨p.wh,p.cols++[o],p.group⟩,2))/\Sep w F [blk b [.slice Aw p.wh.length cw,.slice A r.length ca,I p.group,I st] 53,Eo (.slice Aw p.wh.length cw) aQ 3 p.wh,aY 43 2 dV (.slice A r.length ca) r,AX r p.cols] T) ?_ ?_))
  . refine Cz (λIe=>?_) (λIe=>?_)
    . rw[zac Ie]at ay
      refine Uz (λwa Q=>?_);refine Sz (λSa=>?_) (λSa=>?_)
      . have C: ¬O=Bv:=Sa
        rw[zab C]at ay;refine V4 ?_;exact⟨by rw[ay];exact zay Value.bool (zam C),by rw[ay];exact pK Q⟩
      have C:O=Bv:=zcd.1 Sa;rw[zac C]at ay;refine Cz (λIf=>?_) (λIf=>?_)
      . have j:rest=nA:=If
        rw[zac j]at ay;refine V3 ?_;exact⟨by rw[ay];exact zay Value.bool (zau C),by rw[ay];exact(uJ (p:=p) Q).first.bf⟩
      rw[zab (show ¬rest=nA from If)]at ay;refine Nz (P9 rest EO (R _ Q.au)) (λx wb _ Hb ka=>?_);obtain⟨B,cb,rfl,hcb,hB⟩:=Sep.bX Hb At0;refine Uz (λwc Hc=>?_);refine V2 ?_;rw[ay];unfold oh
      by_cases g:(fE rest).2=0/\(fE rest).1≠[]
      . rw[zac g]
        refine⟨rfl,?_⟩;exact(uJ (p:=⟨(fE rest).1,p.cols,p.group⟩) (Sep.aJ (dz Hc At0)).aR.bN).first.bf
      rw[zab g];exact⟨rfl,pK Hc⟩
    have hs0: ¬st=0:=Ie;rw[zab hs0]at ay;refine Cz (λIg=>?_) (λIg=>?_)
    . have G:st=2:=Ig
      refine Cz (λIh=>?_) (λIh=>?_)
      . rw[zac ⟨G,Ih⟩]at ay
        refine Uz (λwe Hd=>?_);refine V1 ?_;refine aO (ahD rest oM (R _ Hd.au)) rfl rfl (λv' wf Y=>?_);obtain⟨⟨n,ev,bn,rfl,V,Z,W⟩,u⟩:=Y;have He:=Hd.aK u;refine Cz (λIi=>?_) (λIi=>?_)
        . have j:rest=nA:=Ii
          have i:qI rest=some (-1):=by unfold qI;rw[zac j]
          rw[i]at ay;refine Uz (λwg Hf=>?_);refine V1 ?_;refine Vv (ah.Ub (b:=true) (.inl ⟨rfl,rfl⟩) rfl rfl) (Mv ?_);refine eO (t:=74) rfl (λSb=>?_) (λSb=>?_)
          . refine Sz (λSc=>?_) (λSc=>?_)
            . refine Sz (λSd=>?_) (λSd=>?_)
              . exact zas Sd dC
              refine V5 ?_;exact⟨by rw[ay];exact zay Value.bool (zau j),by rw[ay];exact(uJ (p:=⟨p.wh,p.cols, -1⟩) Hf).first.bf⟩
            exact zas (show(-1:Int)<0 from dC) Sc
          exact Bool.noConfusion Sb
        have j: ¬rest=nA:=Ii;have i:qI rest=(pY rest).map λn:Nat=>((n:Nat):Int):=by unfold qI;rw[zab j]
        refine Uz (λwi Hg=>?_);refine V1 ?_;refine Vv (ah.Ub V rfl rfl) (Mv ?_);refine eO (t:=74) rfl (λSe=>?_) (λSe=>?_)
        . have q:atoiAll rest=.ok n:=Z Se
          have hnf:=acC q;refine Sz (λSf=>?_) (λSf=>?_)
          . have d:qI rest=none:=by
              rw[i];cases g:pY rest with
              | none=>rfl
              | some k=>
                have E:=(sH.2 (show(pY rest).map (λn:Nat=>((n:Nat):Int))=some (k:Int) by rw[g];rfl)).1;rw[q]at E;injection E with E
                omega
            refine Sz (λSg=>?_) (λSg=>?_)
            . exact zas Sg oM
            refine V5 ?_;exact⟨by rw[ay,d];exact zay Value.bool (zam j),by rw[ay,d];exact pK Hg⟩
          refine Kz (Tf n hnf (R _ Hg.au)) (λwj Hh kb=>?_);refine Sz (λSh=>?_) (λSh=>?_)
          . refine Sz (λSi=>?_) (λSi=>?_)
            . have z:qI rest=some n:=by rw[i];exact sH.1 ⟨q,oM,by assumption,Si⟩
              refine Sz (λSj=>?_) (λSj=>?_)
              . refine V3 ?_
                exact⟨by rw[ay,z];rfl,by rw[ay,z];exact(uJ (p:=⟨p.wh,p.cols,n⟩) Hh).first.bf⟩
              exact zas (show 0<=n from oM) Sj
            have d:qI rest=none:=by
              rw[i];cases g:pY rest with
              | none=>rfl
              | some k=>
                have E:=sH.2 (show(pY rest).map (λn:Nat=>((n:Nat):Int))=some (k:Int) by rw[g];rfl);have J:=E.1;rw[q]at J;injection J with J
                omega
            refine V2 ?_;exact⟨by rw[ay,d];rfl,by rw[ay,d];exact pK Hh⟩
          have d:qI rest=none:=by
            rw[i];cases g:pY rest with
            | none=>rfl
            | some k=>
              have E:=sH.2 (show(pY rest).map (λn:Nat=>((n:Nat):Int))=some (k:Int) by rw[g];rfl);have J:=E.1;rw[q]at J;injection J with J
              exact zas (by rw[J];exact E.2.2.1) Sh
          refine V6 ?_;exact⟨by rw[ay,d];rfl,by rw[ay,d];exact pK Hh⟩
        have d:qI rest=none:=by
          rw[i];cases g:pY rest with
          | none=>rfl
          | some k=>exact zas (sH.2 (by rw[g];rfl)).1 (W (by simpa using Se) _)
        refine V4 ?_;exact⟨by rw[ay,d];rfl,by rw[ay,d];exact pK Hg⟩
      rw[zab (λh=>Ih h.2),zac (.inr G)]at ay;refine V0 ?_;exact aA () tR ⟨ay,P⟩
    have G: ¬st=2:=Ig;rw[zab (λh=>G h.1)]at ay;refine Cz (λIj=>?_) (λIj=>?_)
    . have Sl:st=1\/st=2:=.inl Ij
      rw[zac Sl]at ay;refine V0 ?_;exact aA () tR ⟨ay,P⟩
    rw[zab oM]at ay;refine V1 ?_;exact⟨by rw[ay];rfl,by rw[ay];exact pK P⟩
  rintro _ τ wk ⟨a,Hi⟩;refine Lp ?_;refine Uz (λwl Hj=>?_);refine V1 ?_;refine aO (aff rest oM (R _ Hj.au)) rfl rfl (λv' wm Y=>?_);obtain⟨⟨b14,rfl⟩,u⟩:=Y;have Hk:=Hj.aK u;obtain⟨name,y⟩: ∃name,name=(jZ rest).1:=⟨_,rfl⟩;obtain⟨text,m⟩: ∃text,text=(jZ rest).2:=⟨_,rfl⟩;have htl:text.length<=1000000:=by have:=(P8 rest).2;rw[m];omega
  unfold YG at a;rw[<-M,<-f,<-y,<-m]at a;rw[<-y,<-m];refine Nz (P9 text htl (R _ Hk.au)) (λx wn _ Hl kc=>?_);obtain⟨B,cb,rfl,hcb,hB⟩:=Sep.bX Hl At0;refine V13 ?_;refine Vb (dV (name,.slice B (fE text).1.length cb)) ?_;refine Bs Hl ([(name,Value.slice B (fE text).1.length cb)].flatMap dV) (λbs wo Hm kd=>?_);refine eH Hm (news:=[(name,Value.slice B (fE text).1.length cb)]) At3 kP kN (Wt rfl) (h:=?_);intro v2 wp Hn;obtain⟨A2,c2,rfl,hc2,hA2⟩:=Sep.bX Hn At3;refine Uz (λwq Ho=>?_);refine V2 ?_;refine eO (t:=125) rfl (λS=>?_) (λS=>?_)
  . have L:(oh text).isSome=true:=S
    refine Sz (λSn=>?_) (λSn=>?_)
    . have D:O=OB:=Sn
      refine Kz (PZ _) (λwr Hp ke=>?_);refine V2 ?_;cases g:fM name with
      | false=>exact⟨by rw[a,zab (λh=>by rw[g]at h;cases h.2)];rfl,by rw[a,zab (λh=>by rw[g]at h;cases h.2)];exact pK Hp⟩
      | true=>
        have K:oh text=some (fE text).1:=by
          unfold oh at L |-
          split at L
          . rename_i E;rw[zac E]
          cases L
        refine⟨by rw[a,zac ⟨D,g⟩,K];rfl,?_⟩;rw[a,zac ⟨D,g⟩,K];have HA:=(sK (n:=name) (Hp.eZ.aJ)).bB.bB.bB;exact(uJ (p:=⟨p.wh,p.cols++[⟨name,(fE text).1⟩],p.group⟩) HA).first.bf
    have D: ¬O=OB:=Sn;refine V2 ?_;exact⟨by rw[a,zab (λh=>D h.1)];rfl,by rw[a,zab (λh=>D h.1)];exact pK Ho⟩
  have d:oh text=none:=by
    cases g:oh text with
    | none=>rfl
    | some l=>rw[g]at S;exact Bool.noConfusion S
  refine V4 ?_;exact⟨by rw[a,d];split<;>rfl,by rw[a,d];split<;>exact pK Ho⟩
end
def Wu (x:L8):(∃l,x=mG l/\Lib.trimSuffix x [10]=l/\Lib.hasSuffix x [10]=true)\/((∀l,x≠mG l)/\Lib.trimSuffix x [10]=x/\Lib.hasSuffix x [10]=false):=by
 by_cases h:Lib.hasSuffix x [10]=true
 .have a:=h
  unfold Lib.hasSuffix at a;obtain⟨l,b⟩:=List.isSuffixOf_iff_suffix.1 a;refine .inl ⟨l,b.symm,?_,h⟩;unfold Lib.trimSuffix;rw[zac h,<-b];simp
 refine .inr ⟨λl e=>h ?_,?_,by simpa using h⟩
 .unfold Lib.hasSuffix
  exact List.isSuffixOf_iff_suffix.2 ⟨l,e.symm⟩
 unfold Lib.trimSuffix;rw[zab h]
def plJ (b2 b3 b4 b5:Nat) (pre:List (L8)):HP:=exH λz:List (L8)×aU×Int=>jA [jH (pre=z.1.map mG/\vB z.1=some (z.2.1,z.2.2)),blk b2 [.slice none 0 0,.slice none 0 0,I 0] 32,blk b3 [I (pre.length:Nat)] 3,blk b4 [I 0] 33,Ko b5 z.2.1 z.2.2]
def plL (b2 b3 b4:Nat) (pre:List (L8)) (x:L8):HP:=jA [jH (∃ls p st,pre=ls.map mG/\vB ls=some (p,st)/\((∃l,x=mG l/\j3 p st l=none)\/∀l,x≠mG l)),blk b2 [.slice none 0 0,.slice none 0 0,I 0] 32,blk b3 [I (pre.length:Nat)] 3,blk b4 [I 4] 33]
def acD {s:L8} {q:List (L8)} {x:L8} (d:s.length<=1048576) (m:q.map mG++[x]<+:sI s) (a:vB q=some (p,st)) (b:(∃l,x=mG l/\j3 p st l=none)\/∀l,x≠mG l):l9 s=(ny,(((q.map mG).length:Nat):Int),4):=by
 rw[zae]
 rcases YN m with⟨l,rest,e,h⟩ | ⟨f,h,j⟩
 .rcases b with⟨o,g,i⟩ | b
  .have :l=o:=VZ (e.symm.trans g)
   subst this;exact YK d h a i
  exact zas e (b l)
 unfold PX at h;rw[f,zab dC]at h;rw[h]at a ⊢;exact YL d f a
section
variable {w:Wd}
def YR (l:L8):aX prog 43 [str l,.int .u8 10] w λv h=>v=I (Lib.indexByte l 10)/\w=h:=
 lN (Tryz.strings_IndexByte ⟨l.toArray⟩ 10 w)
def afg (s:L8):aX prog 12 [str s] w λv d=>∃x:Nat,v=.func (.func 42) #[] #[aC x]/\True/\cO noB (blk x [str s] 9) w d:=by
 have H:=Sep.aI w;refine dL func12 ?_;refine Sr (bK H (cs:=[str s]) rfl (h:=λb f a k=>?_));refine V1 ?_;refine Vv (ah.makeFunc (fs:=[]) (us:=[]) (cs:=[.tmp 1]) rfl rfl) (V1 ?_);exact⟨b,rfl,trivial,a.bf⟩
def Tg (x:L8) (a:x.length<=10000000):aX prog 13 [str x,str [10]] w λv h=>v=.tuple #[str (Lib.trimSuffix x [10]),.bool (Lib.hasSuffix x [10])]/\w=h:=
 lN (Tryz.strings_CutSuffix ⟨x.toArray⟩ ⟨#[10]⟩ w (by rw[Mw.size_mk];omega))
def YS {S:NP} {w0:Wd} {J:List (L8)->HP} {L:List (L8)->L8->HP} {l D:Nat} {ro rj:Obj} {bS:Nat} {s:L8} (Q:s.length<=1048576)
    (M:Sep w0 S [obj l ro,obj D (.deferred (some [])),J [],blk bS [str s] 9] w)
    (K: ∀(pre:List (L8)) (x:L8) (Fr:List HP) (W:Wd),pre++[x]<+:sI s->Sep w0 S (obj l ro::obj D (.deferred (some []))::J pre::Fr) W->TR prog l [str x] W λb v=>if b=true then Sep w0 S (obj l ro::obj D (.deferred (some []))::J (pre++[x])::Fr) v else Sep w0 S [obj l rj,obj D (.deferred (some [])),L pre x] v):
    aX prog 42 [.func (.yield l) #[] #[],aC bS] w λ_ v=>Sep w0 S [obj l ro,obj D (.deferred (some [])),J (sI s)] v\/∃pre x,pre++[x]<+:sI s/\Sep w0 S [obj l rj,obj D (.deferred (some [])),L pre x] v:=by
  have H:=M;refine dn func42 ?_;refine V0 ?_;refine aM (λ_:List (L8)×L8=>[(0,.func (.yield l) #[] #[]),(1,aC bS)]) (λx A=>(x.1++sI x.2=sI s/\x.2.length<=s.length)/\Sep w0 S [obj l ro,obj D (.deferred (some [])),J x.1,blk bS [str x.2] 9] A) (λx _=>x.2.length) ([],s) tR ⟨⟨rfl,zbk _⟩,H⟩ (λx τ w2 X=>?_);obtain⟨pre,t⟩:=x;obtain⟨⟨f,E⟩,F⟩:=X;dsimp only at f E F;refine Lp ?_;refine Cz (λq=>?_) (λq=>?_)
  . have y:t≠[]:=λe=>by rw[e]at q;exact zas q dC
    refine V2 ?_;refine fF (YR t) (h:=?_);refine Cz (λk=>?_) (λk=>?_)
    . obtain⟨o,C⟩: ∃o:Nat,Lib.indexByte t 10=o:=⟨(Lib.indexByte t 10).toNat,by have m:=k;omega⟩
      obtain⟨G,Z,_⟩:=Fy C;have g:=acr C
      have d:pre++[t.take (o+1)]<+:sI s:=by
        rw[<-f,g];exact⟨sI (t.drop (o+1)),sM⟩
      rw[C];refine Dz (λu wa N=>?_);refine V2 ?_;refine Gp u 2 rfl rfl (λ_=>(ah.Rz (c:=((o+1:Nat):Int)) rfl rfl (by show(o:Int)+1=_;omega) oM)) (Gp u 3 rfl rfl (λ_=>(ah.qP (i:=o+1) rfl rfl oM)) ?_);refine V2 ?_;refine Gp u 6 rfl rfl (λ_=>(ah.Rz (c:=((o+1:Nat):Int)) rfl rfl (by show(o:Int)+1=_;omega) oM)) (Gp u 7 rfl rfl (λ_=>(ah.qd (i:=o+1) rfl rfl oM)) ?_);refine V1 ?_;refine mJ u 9 _ N (h:=λwb O=>⟨sT,?_⟩);refine V2 ?_;refine Dl rfl (K pre (t.take (o+1)) _ _ d O) rfl rfl (λj wc a=>?_);refine Vv (ah.not rfl) (Qn ?_);refine Cd rfl (λn=>?_) (λn=>?_)
      . have p:j=false:=by have m:=n;revert m;cases j<;>simp
        rw[p,zab dC]at a;refine V0 ?_;exact .inr ⟨pre,t.take (o+1),d,a⟩
      have p:j=true:=by have m:=n;revert m;cases j<;>simp
      rw[p,zac rfl]at a;have R:=a;refine V0 ?_;exact ak (pre++[t.take (o+1)],t.drop (o+1)) tR ⟨⟨by dsimp only;rw[<-f,g];simp,by dsimp only;rw[zbm];omega⟩,R⟩ (by dsimp only;rw[zbm];omega)
    have z:Lib.indexByte t 10= -1:=by have m:=k;have P:=Lib.indexByte_ge t 10;omega
    have g:=acp z y;have d:pre++[t]<+:sI s:=by rw[<-f,g];exact List.prefix_refl _
    refine Uz (λwd T=>?_);refine V2 ?_;refine Dl rfl (K pre t _ _ d T) rfl rfl (λj we a=>?_);refine Vv (ah.not rfl) (Qn ?_);refine Cd rfl (λr=>?_) (λr=>?_)
    . have p:j=false:=by have m:=r;revert m;cases j<;>simp
      rw[p,zab dC]at a;refine V0 ?_;exact .inr ⟨pre,t,d,a⟩
    have p:j=true:=by have m:=r;revert m;cases j<;>simp
    rw[p,zac rfl]at a;have V:=a;refine V0 ?_;exact ak (pre++[t],[]) tR ⟨⟨by dsimp only;rw[<-f,g,Wh,zbt],sM⟩,V⟩ (by have:=zfn.2 y;dsimp only;simpa using this)
  have Y:t=[]:=zbf oM;subst Y;rw[Wh,zbt]at f;refine V0 ?_;exact .inl (by rw[<-f];exact F.firsts (l:=[_,_,_]))
end
end
variable {x y:Od} {m:Nat}
open Go.RowKit
section
variable {P:Program} {r:Option Nat} {n:Nat} {ops:AO} {Q:Post} {rest:LO} {σ:St} {w w0:Wd} {S:NP} {rs:List HP} {put:HP->List HP} {ty:Td} {pos:String} {after:Array Edge} {lv:List Bool} {pd:LNB} {guard:Option (Nat×Bool)}
variable {α:Type} {enc:α->LV} {k e c:Nat} {l:List α} {A:OA}
def Qa (b: ∀x,(enc x).length=k) (a:α): ∀{l:List α} {i:Nat},i<l.length->(l.flatMap enc).take (i*k)++enc a++(l.flatMap enc).drop (i*k+k)=(l.set i a).flatMap enc
 | [],_,h=>zas h sM
 | x::l,0,_=>by
  rw[Nat.zero_mul,zdl,zby,zde,zcz,zbi,zbi,List.drop_left' (b x)]
 | x::l,i+1,h=>by
  have f:=Qa b a (l:=l) (i:=i) Iy;have d:=b x;rw[zfr,zbi,zbi,List.take_append,zaj (by rw[d,zei];omega),List.drop_append,zbv (by rw[d,zei];omega),d,show(i+1)*k-k=i*k by rw[zei];omega,show(i+1)*k+k-k=i*k+k by rw[zei];omega,zby,zbp,zbp,<-zbp ((l.flatMap enc).take (i*k)),f]
def FB {ρ:Od->Value} {T:Td} [r:Agg P T k] [C:jl enc k] {i:Nat} (a:α) (hm:m=l.length) (H:Sep w0 S rs w) (D:At rs (aY e k enc (.slice A m c) l) put) (hi:i<l.length) (hx:ρ x=adr A (i*k)) (hy:ρ y=.agg (enc a).toArray) (hv:(enc a).all Value.oneCell'=true):
    ∃W,Oq P ρ (.store T x y) ty w W/\Sep w0 S (put (aY e k enc (.slice A m c) (l.set i a))) W:=by
  subst hm;obtain⟨F,hp,V,s⟩:=H.bG D;have X:=Sep.dA hp;obtain⟨g,c',rest,M,o,hxl,G,J,R⟩:=X.aa4 At0 oM;injection M with hA _ hc
  subst hA;subst hc;have v:=R.obj At0;have f:=jh C.len l;have t:(enc a).length=k:=C.len a;have q:(i+1)*k<=l.length*k:=zfe k hi;rw[zei]at q;have L:=run_storeCells_at P g (i*k) e (enc a) 0 (l.flatMap enc++rest).toArray w v (by simp only[zfu,zad,f,t];omega) (λu t=>zaz.1 hv u t)
  have hs:(l.flatMap enc++rest).take (i*k)++enc a++(l.flatMap enc++rest).drop (i*k+(enc a).length)=(l.set i a).flatMap enc++rest:=by
    rw[t,zen (by rw[f];omega),zeo (by rw[f];omega),<-Qa C.len a hi];simp only[zbp]
  have E:aS (λz=>z=g) w (w.setRow g ((l.set i a).flatMap enc++rest).toArray):=⟨rfl,rfl,rfl,sM,λj hj V=>by simp only[World.setRow,zcw];rw[zab (λe=>V e.symm)]⟩
  have K:(w.setRow g ((l.set i a).flatMap enc++rest).toArray).heap[g]? =some (.cells ((l.set i a).flatMap enc++rest).toArray e (0,0)):=by
    simp only[World.setRow,zcw,if_true,v,zdk]
  have Y:Sep w F [blk g ((l.set i a).flatMap enc++rest) e] _:=R.setObj (At0 (p:=blk g (l.flatMap enc++rest) e) (l:=[])) E K;have h:=jh C.len (l.set i a);rw[zdb]at h;have Z:=Y.aa5 (n:=l.length) (c:=c) At0 (by rw[zad,h];rw[zad,f]at o;exact o) h G J;refine⟨w.setRow g ((l.set i a).flatMap enc++rest).toArray,λ_ _ _ _=>?_,?_⟩
  . have N:ρ x=.pointer (some ⟨g,i*k,none⟩):=by rw[hx];show Value.pointer (some (Addr.add ⟨g,0,none⟩ (i*k)))=_;rw[Addr.add_lit,zde]
    have d:=L;simp only[zfi]at d;rw[hs]at d;simp[execOp,N,hy,Instr.storeAt,Instr.sureAddr,storeVar,r.size,Value.cells,t];rw[d];simp
  obtain⟨Q,O,h6,h7⟩:=Z;refine s _ O _ Q ?_ λb v=>h7 b v;have h8:=Dk.1 h6;show(vE e k (.slice (some ⟨g,0,none⟩) l.length c) (l.set i a).length ((l.set i a).flatMap enc)).ok O _
  rw[zdb];exact h8
def Jd (g:eY n ops=true) (o:Nat) (a:LNB) {T:Td} [D:Agg P T k] [E:jl enc k] {i:Nat} (b:α) (s:m=l.length) (H:Sep w0 S rs w) (d:At rs (aY e k enc (.slice A m c) l) put) (hi:i<l.length) (u:(enc b).all Value.oneCell'=true)
    (t:ops[o]? =some ⟨none,.store T x y,ty,pos,after,guard⟩:=by exact rfl)
    (v:Region.wanted ⟨none,.store T x y,ty,pos,after,guard⟩ (dG ops σ)=true:=by kernel_rfl) (z:evF σ x=adr A (i*k):=by exact rfl) (C:evF σ y=.agg (enc b).toArray:=by exact rfl)
    (f:gy ops lv (pd.map (·.1)) o=true:=by kernel_rfl) (j:pd.filter (λp=> !((above ops o).contains p.1))=a:=by exact pD)
    (h: ∀q,Sep w0 S (put (aY e k enc (.slice A m c) (l.set i b))) q->jK P ops σ q a/\FG P r n ops Q (lv.set o true) a σ q):FG P r n ops Q lv pd σ w:=
  Ww g o a t v (FB b s H d hi z C u) f j h
end
def Kh.set {i:Nat} {r:List aF} {c:aF} (h:Kh m r) (g:cB c.n/\∀b,okC (aaA b i).type c):Kh m (r.set i c):=by
 refine⟨by rw[zdb];exact h.len,λy p=>?_,λb j d a=>?_⟩
 .rcases List.mem_or_eq_of_mem_set p with f | f
  .exact h.fit y f
  rw[f];exact g.1
 by_cases o:i=j
 .subst o
  rw[List.getElem?_set_self']at a;cases hg:r[i]? with
  | none=>rw[hg]at a;cases a
  | some z=>rw[hg]at a;simp at a;rw[<-a];exact g.2 b
 rw[List.getElem?_set_ne o]at a;exact h.ok b j d a
variable {w:Wd}
variable {k:Nat}
def MP {P:Program} {T U V:Td} [Agg P T k] [OneCell P U] [OneCell P V] {σ:St} {a c x y z:Nat} {us:LV} {u:Value} {E F G:Td} (g:w.heap[x]? =some (.cells us.toArray E (0,0))) (i:w.heap[y]? =some (.cells [v].toArray F (0,0))) (j:w.heap[z]? =some (.cells [u].toArray G (0,0)))
    (hk:us.length=k:=by exact rfl) (h:σ a=.pointer (some ⟨x,0,none⟩):=by exact rfl) (d:σ b=.pointer (some ⟨y,0,none⟩):=by exact rfl) (f:σ c=.pointer (some ⟨z,0,none⟩):=by exact rfl):qV P σ w [.cell a T,.cell b U,.cell c V] [.agg us.toArray,v,u]:=
  ⟨_,[v,u],⟨x,0,none⟩,rfl,h,nL (k:=k) g (us:=us) (by rw[zdh,<-hk,zbo]) hk,v,[u],⟨y,0,none⟩,rfl,d,Fj i,u,[],⟨z,0,none⟩,rfl,f,Fj j,rfl⟩
section
attribute [local irreducible] FW FL FG FGn jX lg gD l7 Qfn ah
def Ep {α:Type} {enc:α->LV}:aP w (.slice none 0 0) enc k []:=⟨none,0,rfl,⟨zbk _,dC⟩,iU.nil _ _ _⟩
def afh (w:Wd):fK w (agg [.slice none 0 0,.slice none 0 0,I 0]) ny:=⟨_,_,rfl,Ep,[],Ep,qm.nil⟩
section
variable {w w0:Wd} {S:NP} {rs:List HP}
def CX {F:NP} (H:Mw.Sep w0 F rs w):cO F (y7 (agg [.slice none 0 0,.slice none 0 0,I 0]) ny) w0 w:=(Sep.pU H afh).first.bf
def Ti {v:Value} {r:List (L8×Value)} (H:Mw.Sep w0 S (blk b [v,vc,I p.group,I st] 53::Eo v aQ 3 p.wh::aY 43 2 dV vc r::AX r p.cols::rs) w):fK w (agg [v,vc,I p.group]) p:=
 ⟨v,vc,rfl,Sep.dh H At1,r,gP H At2,Sep.dh H At3⟩
theorem Er (s:L8) (hl:s.length<=900000\/1048576<s.length) (hmx:s.length<=1000000000) (hT:gK w):aX Tryz.prog 5 [str s] w λv w'=>∃x,v=.tuple #[x,I (l9 s).2.1,I (l9 s).2.2]/\True/\cO noB (y7 x (l9 s).1) w w':=by
  have H:=Sep.aI w;obtain⟨res,ay⟩: ∃res,res=l9 s:=⟨_,rfl⟩;rw[<-ay];refine agD Tryz.func5 ?_;refine Az (λk w2 H2 k1=>?_);refine Az (λS w4 H4 k3=>?_);refine Az (λe w6 H6 k5=>?_);refine Cz (λIe=>?_) (λIe=>?_)
  . unfold l9 at ay
    rw[zac oM]at ay;refine Sr (Vb [.slice none 0 0,.slice none 0 0,I 0] ?_);refine Tz (λwa Ha=>?_);refine Uz (λwb Hb=>?_);refine Uz (λwc Hc=>?_);refine Qn (Rs (Ga (h:=?_)));exact⟨[_,I 0,I 5],MP (Hc.obj At2) (Hc.obj At1) (Hc.obj At0),_,by rw[ay];rfl,trivial,by rw[ay];exact CX Hc⟩
  have hle:s.length<=900000:=oM;have V:s.length<=1048576:=oM;refine Az (λb5 wd Hd ka=>?_);refine V1 ?_;refine aO (afg s) rfl rfl (λv' we hv=>?_);obtain⟨bS,rfl,_,N,F1,J,K⟩:=hv;have He:=Hd.new N J (λb hb=>(K b hb).resolve_left id);refine V0 ?_;have aoU:=afa s
  have HJ:Mw.Sep w noB (plJ k S e b5 []::[blk bS [str s] 9]) we:=by
    have h0:Mw.Sep w noB (Eo (.slice none 0 0) aQ 3 []::_) we:=Sep.pU He λ_=>Ep;have j:=((vC (Sep.iX h0 43 2 dV)).aJ.aR).eZ;have h2:=((uJ (p:=ny) j).aR.bB).eZ;exact Sep.tZ (p:=λz:List (L8)×aU×Int=>jA [jH (([]:List (L8))=z.1.map mG/\vB z.1=some (z.2.1,z.2.2)),blk k [.slice none 0 0,.slice none 0 0,I 0] 32,blk S [I (([]:List (L8)).length:Nat)] 3,blk e [I 0] 33,Ko b5 z.2.1 z.2.2]) ([],ny,0) (Sep.bundle (l:=[jH (([]:List (L8))=([]:List (L8)).map mG/\vB []=some (ny,0)),_,_,_,_]) (Sep.jY ⟨rfl,rfl⟩ h2))
  refine QZ (gf:=42) (lb:=[aC bS]) str (sI s) (plJ k S e b5) (plL k S e) _ HJ rfl rfl ?_ ?_ ?_ ?_
  . intro l D ro rb pre x Fr W E HW
    have hxm:x∈sI s:=E.subset (zck pre (zaw.2 rfl));have hxl:=ahy hxm;have hpl:pre.length+1<=s.length+1:=by have:=E.length_le;rw[zad,zaf]at this;omega
    refine O1 ?_;refine yj (qO ?_);refine⟨[],HW,λWB HB=>?_⟩;have F:Mw.Sep w noB (obj l rb::obj D (.deferred (some []))::plJ k S e b5 pre::Fr) WB:=HB;replace F:=F.aR;unfold plJ at F;obtain⟨⟨f,p,m⟩,F⟩:=F.ex0;obtain⟨⟨i,d⟩,n⟩:=(F.parts).ru;dsimp only at i d n;obtain⟨hpc,hst,G⟩:=Wj f d;replace HB:=n;refine V1 ?_;refine fF (Tg x oM) (h:=?_);refine V8 ?_;refine eO (t:=25) rfl (λSa=>?_) (λSa=>?_)
    . have L:Lib.hasSuffix x [10]=false:=by simpa using Sa
      have hno: ∀l,x≠mG l:=by
        rcases Wu x with⟨_,_,_,h⟩ | ⟨h,_⟩
        . rw[L]at h;cases h
        exact h
      have o: ∃f p m,pre=f.map mG/\vB f=some (p,m)/\((∃l,x=mG l/\j3 p m l=none)\/∀l,x≠mG l):=⟨f,p,m,i,d,.inr hno⟩;refine Dz (λA wf Hf=>?_);refine Gb A 0 [.slice none 0 0,.slice none 0 0,I 0] ?_;refine V1 ?_;refine cu A 2 [(1,false)] Hf (h:=λwg Hg=>⟨sL,?_⟩);refine mJ A 3 _ Hg (h:=λwi Hh=>⟨sT,?_⟩);refine mJ A 4 _ Hh (h:=λwj Hi=>⟨sT,?_⟩);refine fZ A kR ?_;refine ig (Rs (uR (Ar ?_)));exact(Sep.bundle (l:=[jH (∃f p m,pre=f.map mG/\vB f=some (p,m)/\((∃l,x=mG l/\j3 p m l=none)\/∀l,x≠mG l)),_,_,_]) (rs:=[_,_]) (Sep.jY o ((Hi.bB).bN.firsts (l:=[_,_,_,_,_])))).F4
    have L:Lib.hasSuffix x [10]=true:=by simpa using Sa
    obtain⟨q,Y,X⟩: ∃q,x=mG q/\Lib.trimSuffix x [10]=q:=by
      rcases Wu x with⟨q,j,h2,_⟩ | ⟨_,_,h⟩
      . exact⟨q,j,h2⟩
      rw[L]at h;cases h
    have hl0:q.length<=s.length+1:=by have j:=hxl;rw[Y]at j;unfold mG at j;rw[zad,zaf]at j;omega
    have ap6:f.length=pre.length:=by rw[i,zae]
    rw[X];refine V1 ?_;obtain⟨F0,hp0,hS0,R⟩:=HB.bG At3;refine aO (ahE q hp0 hst oM oM λw' hk=>hT.aK (HB.au.trans hk hS0)) rfl rfl (λv' wk hv=>?_);obtain⟨rfl,N,F1,J,K⟩:=hv;have Hj:=R _ F1 _ N J K;refine On (Vv (ah.not rfl) (Pf ?_));refine Qn (Cd rfl (λIf=>?_) (λIf=>?_))
    . have O:j3 p m q=none:=by
        have j:=If;cases J:j3 p m q with
        | none=>rfl
        | some y=>rw[J]at j;cases j
      have o: ∃f p m,pre=f.map mG/\vB f=some (p,m)/\((∃l,x=mG l/\j3 p m l=none)\/∀l,x≠mG l):=⟨f,p,m,i,d,.inl ⟨q,Y,O⟩⟩;refine Dz (λP wl Hk=>?_);refine Gb P 0 [.slice none 0 0,.slice none 0 0,I 0] ?_;refine V1 ?_;refine cu P 2 [(1,false)] Hk (h:=λwm Hl=>⟨sL,?_⟩);refine mJ P 3 _ Hl (h:=λwn Hm=>⟨sT,?_⟩);refine mJ P 4 _ Hm (h:=λwo Hn=>⟨sT,?_⟩);refine fZ P kR ?_;refine ig (Rs (uR (Ar ?_)));exact(Sep.bundle (l:=[jH (∃f p m,pre=f.map mG/\vB f=some (p,m)/\((∃l,x=mG l/\j3 p m l=none)\/∀l,x≠mG l)),_,_,_]) (rs:=[_,_]) (Sep.jY o ((Hn.bB).bN.firsts (l:=[_,_,_,_,_])))).F4
    obtain⟨⟨p',Z⟩,hl1⟩: ∃y,j3 p m q=some y:=by
      have j:=If;cases J:j3 p m q with
      | none=>rw[J]at j;cases j
      | some y=>exact⟨y,rfl⟩
    rw[hl1]at Hj;have anI:pre++[x]=(f++[q]).map mG:=by rw[zan,i,Y];rfl
    have T:vB (f++[q])=some (p',Z):=by rw[MG,d];exact hl1
    refine V1 ?_;refine Vv (ah.Rz (c:=(((pre++[x]).length:Nat):Int)) rfl rfl (by rw[zad,zaf];omega) (by rw[zad,zaf];omega)) ?_;refine Uz (λwp Ho=>?_);refine yj (xC (DZ ?_));exact(Sep.tZ (p:=λz:List (L8)×aU×Int=>jA [jH (pre++[x]=z.1.map mG/\vB z.1=some (z.2.1,z.2.2)),blk k [.slice none 0 0,.slice none 0 0,I 0] 32,blk S [I ((pre++[x]).length:Nat)] 3,blk e [I 0] 33,Ko b5 z.2.1 z.2.2]) (f++[q],p',Z) (Sep.bundle (l:=[jH (pre++[x]=(f++[q]).map mG/\vB (f++[q])=some (p',Z)),_,_,_,_]) (Sep.jY ⟨anI,T⟩ Ho))).F4
  . intro l D ro rj W HW hy
    exact YS V HW hy
  rotate_left 1
  . intro D W pre x E HD
    obtain⟨⟨f,p,m,i,d,o⟩,HD2⟩:=((HD.aJ).parts).ru;subst i;rw[acD V E d o]at ay;exact uR (ER (zA HD2 At3 (λw1 H1=>⟨[_,_,I 4],MP (H1.obj At0) (H1.obj At1) (H1.obj At2),_,by rw[ay];rfl,trivial,by rw[ay];exact CX H1⟩)))
  intro D wq u;have u:=u.aJ;unfold plJ at u;obtain⟨⟨f,p,m⟩,u⟩:=u.ex0;obtain⟨⟨i,d⟩,u⟩:=(u.parts).ru;dsimp only at i d u;obtain⟨hpc,hst,G⟩:=Wj f d;obtain⟨M,hls⟩:=ahx i;have a:=YJ V M (by rw[hls];exact d);rw[<-ay,hls]at a;have hlen:(sI s).length=f.length:=by rw[i,zae]
  rw[hlen]at u;obtain⟨vw,vc,r,u⟩:=MO (u.bB);obtain⟨Aw,cw,rfl,_⟩:=(Sep.dh u At1:aP _ vw aQ 3 p.wh);obtain⟨Ac,cc,rfl,hcc,hRc⟩:=Sep.bX u At2;refine Cz (λIg=>?_) (λIg=>?_)
  . rw[zac Ig]at a
    refine Dz (λQ wr Hq=>?_);refine Gb Q 0 [.slice none 0 0,.slice none 0 0,I 0] ?_;refine V1 ?_;refine cu Q 2 [(1,false)] Hq (h:=λws Hr=>⟨sL,?_⟩);refine mJ Q 3 _ Hr (h:=λwt Hs=>⟨sT,?_⟩);refine mJ Q 4 _ Hs (h:=λwu Ht=>⟨sT,?_⟩);refine fZ Q kR ?_;refine ig (Rs (zA Ht At7 (hR:=λwv Hu=>?_)));exact⟨[_,_,I 4],MP (Hu.obj At4) (Hu.obj At5) (Hu.obj At6),_,by rw[a];rfl,trivial,by rw[a];exact CX Hu⟩
  rw[zab Ig]at a;refine V1 ?_;refine FD u (us:=[.slice Aw p.wh.length cw,.slice Ac r.length cc,I p.group]) (hu:=rfl) (hk:=rfl) (h:=?_);have hpl:=Ti u;refine Kz (acz hpl G.1 G.2 oM (hT.aK u.au)) (λww Hv kb=>?_);refine Cz (λIh=>?_) (λIh=>?_)
  . have C:Dx p=false:=by
      cases J:Dx p with
      | false=>rfl
      | true=>have j:=Ih;unfold Ki at j;rw[J,zab dC]at j;exact zas rfl j
    have ht2:(Ki p).2=2:=by unfold Ki;rw[zac C]
    rw[zac C]at a;refine Sr (Vb [.slice none 0 0,.slice none 0 0,I 0] ?_);refine Mv ?_;refine Tz (λwx Hw=>?_);refine Uz (λwy Hx=>?_);refine Uz (λwz Hy=>?_);refine Qn (Rs (zA Hy At7 (hR:=λwD Hz=>?_)));exact⟨[_,I 0,_],MP (Hz.obj At4) (Hz.obj At5) (Hz.obj At6),_,by rw[a,ht2];rfl,trivial,by rw[a];exact CX Hz⟩
  have C:Dx p=true:=by
    cases J:Dx p with
    | true=>rfl
    | false=>have j:=Ih;unfold Ki at j;rw[zac J]at j;exact zas dC j
  rw[zab (by rw[C];decide)]at a;refine V1 ?_;refine FD Hv (us:=[.slice Aw p.wh.length cw,.slice Ac r.length cc,I p.group]) (hu:=rfl) (hk:=rfl) (h:=?_);refine Tz (λwE HA=>?_);refine Uz (λwF HC=>?_);refine Uz (λwG HE=>?_);refine Qn (Lu (zA HE At7 (hR:=λwH HF=>?_)));exact⟨[_,I 0,I 0],MP (HF.obj At4) (HF.obj At5) (HF.obj At6),_,by rw[a];rfl,trivial,by rw[a];exact(Fz (g:=p.group) HF.bN).first.bf⟩
end

section
variable {w:Wd}
end
def hi0 (k a b:Int):Int:=if k=8 then a/4294967296-b/4294967296 else a/4294967296+b/4294967296
section
variable {w:Wd}
def afi (hp:fK w v p) (hn:p.cols.length<=100) (hw1:p.wh.length<=1000) (D: ∀o∈p.cols,o.steps.length<=1000):aX Tryz.prog 59 [v] w λv' G=>∃x,v'=x/\True/\cO noB (y7 x p) w G:=by
 obtain⟨vw,vc,rfl,hw,r,hr,a⟩:=hp;obtain⟨A,m,rfl,⟨hm,Gj⟩,hA⟩:=hr;obtain⟨W,k,rfl,_,hW⟩:=id hw;have EO:=a.len;have H:=Sep.aI w;refine pI Tryz.func59 ?_;refine Sr (bK H (cs:=[.slice W p.wh.length k,.slice A r.length m,I p.group]) rfl (h:=λO w2 H2 k1=>?_));refine Az (λR w4 H4 k3=>?_);refine V2 ?_;refine Vb [.slice none 0 0,.slice none 0 0,I p.group] ?_;refine Az (λT w9 H9 k8=>?_);refine Tz (λwa n=>?_);refine Nx ?_;have J:=Sep.iX n 41 3 aQ;refine Vf ?_;refine V3 ?_;refine mq J At0 (hW.aK J.au) kP kN (dW (λ_=>rfl) _) (h:=?_);intro v0 wb K;rw[zby]at K;obtain⟨X,V,rfl,_,_⟩:=Sep.bX K At0;refine Vf ?_;refine Uz (λwc P=>?_);refine V1 ?_;have j:=vC (Sep.iX (dz P At0) 43 2 dV);refine aM (λx:Nat×(OA×Nat)×List (L8×Value)=>[(1,aC O),(2,aC R),(3,aC T),(4,I x.1)]) (λx G=>(x.1<=r.length/\x.2.2.length=x.1)/\Sep w noB [AX x.2.2 (p.cols.take x.1),aY 43 2 dV (.slice x.2.1.1 x.2.2.length x.2.1.2) x.2.2,Eo (.slice X p.wh.length V) aQ 3 p.wh,blk T [.slice X p.wh.length V,.slice x.2.1.1 x.2.2.length x.2.1.2,I p.group] 32,blk R [.slice none 0 0,.slice none 0 0,I 0] 32,blk O [.slice W p.wh.length k,.slice A r.length m,I p.group] 32] G) (λx _=>r.length-x.1) (0,(none,0),[]) tR ⟨⟨zai _,rfl⟩,j⟩ (λx τ wd hI=>?_);obtain⟨i,⟨C,cc⟩,q⟩:=x;obtain⟨⟨hi,u⟩,j⟩:=hI;dsimp only at hi u j;refine Lp ?_;refine Cz (λIe=>?_) (λIe=>?_)
 .have t:i<p.cols.length:=oM
  obtain⟨vx,Z,y⟩:=a.at t;have b:p.cols[i]? =some p.cols[i]:=zaa t;obtain⟨o,ho⟩: ∃o,o=p.cols[i]:=⟨_,rfl⟩;rw[<-ho]at Z y b;obtain⟨e,mx,rfl,_,hX⟩:=id y;have hol:=D o (zag b);have F:p.cols.take (i+1)=p.cols.take i++[o]:=by rw[zaq,b];rfl
  refine V0 ?_;have Hf:=Sep.iX j 41 3 aQ;refine Am ?_;refine Dz (λS we L=>?_);refine V15 ?_;refine JV S 15 [(7,false),(6,true),(5,true),(4,true),(3,false),(2,true),(1,false),(0,true)] L At0 (hX.aK L.au) kP kN (dW (λ_=>rfl) _) (h:=λv2 wf d=>?_);rw[zby]at d;obtain⟨Y,z,rfl,_,_⟩:=Sep.bX d At0;refine⟨(bE rfl kR (ah.dY (i:=i) (f:=0) (c:=(o.name,.slice e o.steps.length mx)) rfl d hA Z rfl) rfl (av (av (av (jG d (h:=av (jG d (h:=av (dw))))))))),?_⟩;refine Gb S 16 (dV (o.name,.slice Y o.steps.length z)) ?_;refine Gz S 17 [(1,false),(0,true)] d ([(o.name,Value.slice Y o.steps.length z)].flatMap dV) (h:=λbs wg Q=>⟨sL,?_⟩);refine gZ S 18 _ Q (news:=[(o.name,Value.slice Y o.steps.length z)]) At2 kP kN (Wt rfl) (h:=λv3 wi M=>?_);obtain⟨l,c2,rfl,_,_⟩:=Sep.bX M At2;refine⟨sT,?_⟩;refine V1 ?_;refine mJ S 20 _ M (h:=λwj Hk=>⟨sT,?_⟩);refine V3 ?_;exact ak (i+1,(l,c2),q++[(o.name,Value.slice Y o.steps.length z)]) tR ⟨⟨dO,by dsimp only;rw[zad,u];rfl⟩,by
  dsimp only;rw[F];exact sK Hk⟩ dO
 have E:i=r.length:=oM;rw[E,zaj oM]at j;refine Tz (λwk N=>?_);refine V0 ?_;exact⟨_,gT N,_,rfl,trivial,(Fz (s:=p.wh) (g:=p.group) (cols:=p.cols) N.aJ.aR).first.bf⟩
end
end
section
variable {P:Program} {r:Option Nat} {n:Nat} {ops:AO} {Q:Post} {rest:LO} {σ:St} {w w0:Wd} {S:NP} {rs:List HP} {put:HP->List HP} {ty:Td} {pos:String} {after:Array Edge} {lv:List Bool} {pd:LNB} {guard:Option (Nat×Bool)}
def ah.aiQ {C:Od->Value} {t e:Td} [m:dR P t e] {size H:Nat} [g:Cells P e size H] {z:Value} [s:Zero P e z] {cs:LV} (o:C x=.int .i64 k) (p:C y=.int .i64 k) (d:madeCells z.cells (k*size)=cs.toArray) (f:H*k<=281474976710656) (j:k<=maxLen):
    ah P C (.makeSlice t x y) ty w (.slice (some ⟨w.heap.size,0,none⟩) k k) (w.alloc (.cells cs.toArray e)):=λ_ _ _ _=>by
  obtain⟨i,hi,a⟩:=zbb.1 g.size;simp only[Prod.mk.injEq]at a
  have b:i.zero=some z:=by
    have:=s.run w;simp[zeroValue,typeInfo,hi]at this;cases hq:i.zero with
    | none=>simp[hq]at this
    | some u=>simp[hq]at this;rw[this]
  have h:=run_make (P:=P) w t e i z m.und hi b .i64 .i64 (k:Int) (k:Int) oM oM (by rw[a.2,<-Int.natCast_mul];generalize H*k=q at f ⊢;omega) (by unfold maxLen at j;omega);rw[zdv,a.1,d]at h;simp only[execOp,o,p,zbj,h,zar,zbl]
def rM {α:Type} {enc:α->LV} {e c:Nat} {l:List α} {A:OA} {T:Td} [q:Agg P T k] [s:jl enc k] {i:Nat} (a':α) (f:m=l.length) (H:Sep w0 S rs w) (b:At rs (aY e k enc (.slice A m c) l) put) (hi:i<l.length) (j:(enc a').all Value.oneCell'=true)
    (h: ∀a,Sep w0 S (put (aY e k enc (.slice A m c) (l.set i a'))) a->FL P r n ops Q rest σ a) (o:evF σ x=adr A (i*k):=by exact rfl) (p:evF σ y=.agg (enc a').toArray:=by exact rfl):
    FL P r n ops Q (⟨none,.store T x y,ty,pos,after,none⟩::rest) σ w:=by
  obtain⟨a,d,g⟩:=FB (P:=P) (ty:=ty) (T:=T) a' f H b hi o p j;exact Ee d rfl (h a g)
end
section
variable {w w0:Wd} {S:NP} {rs:List HP} {put:HP->List HP}
def mR {α:Type} (w:Wd) (enc:α->LV) (k:Nat):aP w (.slice none 0 0) enc k []:=⟨none,0,rfl,⟨zbk _,dC⟩,iU.nil _ _ _⟩
def MQ {α:Type} {enc:α->LV} {e:Nat} [a:jl enc k] {l:List α} (H:Mw.Sep w0 S rs w) (h:At rs (blk b (l.flatMap enc) e) put) (d:m=l.length) (f:l.length<=100000):aP w (.slice (some ⟨b,0,none⟩) m m) enc k l:=by
 subst d;exact⟨_,_,rfl,⟨zbk _,oM⟩,Sep.mg H h (jh a.len l)⟩
end
end Go.Proofs.Mw
