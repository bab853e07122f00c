/-
 The program's Type,walked.
-/
import Derived.Test.YtbkjpdboaclopaaGreatDoorNd11
import Derived.Lib.RowBridge
set_option linter.all false
set_option maxRecDepth 4000
namespace Go.Proofs.Mw
open Go.Lib Go.Proofs.Tryz
variable {x:bL} {k:Int} {cols:List bT} {vc vl:Value}
attribute [local irreducible] FW FL FG FGn jJ jO fC lJ Qfn Gives
section
def ab2 (K:Nat) (A:OA) (n c k:Nat):Value:=if k<=n then .slice (if c=n-k then A else A.map (·.add ((n-k)*K))) k (c-(n-k))else .slice none 0 0
def leftV (A:OA) (n c k:Nat):Value:=if k<=n then .slice A (n-k) (n-k)else .slice A n c
def Qz (k:Int):dH k<=2:=by unfold dH;(repeat' split)<;>omega
def QA (h:dU x=true):1<=x.kind/\x.kind<=18:=by
 unfold dU at h
 repeat' split at h
 all_goals first | omega | (have:=zbd h;omega)
def uq:dH k=0↔k<7:=by
 unfold dH
 split
 .simp[*]
 split<;>simp<;>omega
def Wu {α:Type} {st:List α} {d:α} (h7:7<=k) (hk:dH k<=st.length):Bv k (st.drop (st.length-dH k)) (st.getD (st.length-dH k) d) (st.getD (st.length-1) d):=by
 unfold dH at hk ⊢;rw[zaa oM]at hk |-
 by_cases h1:k=10\/k=15\/k=16\/k=18
 .rw[zac h1]at hk |-
  left
  refine⟨?_,rfl,h1⟩;have aX:st.length-1<st.length:=oM;rw[zbn aX,zbu oM,zaz,zab aX];rfl
 rw[zaa h1]at hk |-
 right
 refine⟨?_,oM⟩;have aX:st.length-2<st.length:=oM;have Fg:st.length-2+1<st.length:=oM;have e:st.length-1=st.length-2+1:=oM;rw[e,zbn aX,zbn Fg,zbu oM,zaz,zab aX,zaz,zab Fg];rfl
def PG (cols:List bT) (st:List bR) (x:bL):Option bR:=
 if dH x.kind=0 then qU cols x else vW x.kind (st.getD (st.length-dH x.kind) gW) (st.getD (st.length-1) gW)
def Zx {st:List bR} (h1:dU x=true) (h2:dH x.kind<=st.length):stepT cols st x=(PG cols st x).map λt=>st.take (st.length-dH x.kind)++[t]:=by
 unfold stepT PG;dsimp only;rw[zaa (by rw[h1];simp;omega)]
def Jq {st:List bR} (h:dU x=false\/st.length<dH x.kind):stepT cols st x=none:=by
 unfold stepT;dsimp only;rw[zac h]
def Sep.ajS {α:Type} {enc:α->LV} {k e n c:Nat} {l:List α} {A:OA} {w w0:Wd} {S:NP} {rs:List HP} {put:HP->List HP} (H:Sep w0 S rs w) (hat:At rs (aU e k enc (.slice A n c) l) put):c<=9223372036854775807:=by
 obtain⟨F,hp,_,_⟩:=H.focus hat
 rcases hp.1.2 with⟨hv,h0⟩ | ⟨g,cap,cur,hv,_,hh,rW,hmax,_⟩
 .injection hv with _ _ h;omega
 injection hv with _ _ h;unfold maxLen at hmax;omega
def ML {α:Type} {enc:α->LV} {k:Nat} [hk:jd enc k] {w:Wd} {A:OA} {l:List α} {c j:Nat} (h:Rd w A enc k l) (hc:l.length<=c) (hc2:c<=9223372036854775807) (hj:j<=l.length):aJ w (.slice (if c=l.length-j then A else A.map (·.add ((l.length-j)*k))) j (c-(l.length-j))) enc k (l.drop (l.length-j)):=by
 refine⟨if c=l.length-j then A else A.map (·.add ((l.length-j)*k)),c-(l.length-j),?_,⟨?_,?_⟩,h.apt (l.length-j) hc⟩
 .rw[zbo,show l.length-(l.length-j)=j from oM]
 .rw[zbo];omega
 omega
section
variable {w:Wd}
def Zy {b E n c k:Nat} {A:OA} {F:NP} {f:FuncId} (hp:(blk b [.slice A n c] E).ok F w) (hk:k<=1000000)
    (Fh:k<=n->aQ prog f [.pointer (some ⟨b,0,none⟩),I k] w λv w'=>v=.tuple #[.slice (if c=n-k then A else A.map (·.add ((n-k)*2))) k (c-(n-k)),.bool true]/\Turn F (blk b [.slice A (n-k) (n-k)] E) w w')
    (mE:n<k->aQ prog f [.pointer (some ⟨b,0,none⟩),I k] w λv w'=>v=.tuple #[.slice none 0 0,.bool false]/\Turn F (blk b [.slice A n c] E) w w'):
    aQ prog f [.pointer (some ⟨b,0,none⟩),I k] w λv w'=>v=.tuple #[ab2 2 A n c k,.bool (decide (k<=n))]/\Turn F (blk b [leftV A n c k] E) w w':=by
  by_cases h:k<=n
  . rw[ab2,leftV,zac h,zac h,zap h];exact Fh h
  rw[ab2,leftV,zaa h,zaa h,zal h];exact mE oM
attribute [local irreducible] dU oD qU vW
theorem MN {l:List bL} (hc:aJ w vc aM 7 cols) (hl:aJ w vl aN 3 l) (hx: ∀x∈l,fits x.n) (hT:ny w):Rk prog 60 [vc,vl] w (.tuple #[agg (aD (iM cols l).1),I (iM cols l).2]):=by
  have Pg:=hc;obtain⟨A,m,rfl,⟨hm,nX⟩,hA⟩:=hc;obtain⟨C,n,rfl,⟨hn,hn'⟩,hC⟩:=hl;have H:=Sep.aH w;obtain⟨res,ak⟩: ∃res,res=iM cols l:=⟨_,rfl⟩;rw[<-ak];unfold iM at ak;refine tN func60 ?_;refine Az (λb4 w2 H2 k1=>?_);refine Cz (λVm=>?_) (λVm=>?_)
  . rw[zac oM]at ak
    refine Sr (Vb (aD gW) ?_);refine Tz (λwa Ha=>?_);refine V1 ?_;exact⟨_,bF Ha,by rw[ak];rfl,Ha.kept⟩
  rw[zaa oM]at ak;refine Az (λb6 wb Hb ka=>?_);refine V3 ?_;have Hc:=Sep.iW Hb 45 2 aD;refine aI (λx:Nat×List bR×Value=>[(0,.slice A cols.length m),(4,.pointer (some ⟨b4,0,none⟩)),(6,.pointer (some ⟨b6,0,none⟩)),(16,.slice C l.length n),(17,I l.length),(18,I x.1)]) (λx w'=>(x.1<=l.length/\x.2.1.length<=x.1/\runT cols x.2.1 (l.drop x.1)=runT cols [] l)/\Sep w noB [aU 45 2 aD x.2.2 x.2.1,blk b6 [x.2.2] 173,blk b4 (aD gW) 45] w') (λx _=>l.length-x.1) (0,[],.slice none 0 0) tR ⟨⟨zai _,zbi _,rfl⟩,Hc⟩ (λx τ wc hI=>?_);obtain⟨i,st,v0⟩:=x;obtain⟨⟨hi,YS,dK⟩,Hc⟩:=hI;dsimp only at hi YS dK Hc;obtain⟨B,cb,rfl,Pv,hB⟩:=Sep.bH Hc At0;refine Lp ?_;refine Cz (λIe=>?_) (λIe=>?_)
  . have aX:i<l.length:=oM
    obtain⟨x,pG⟩:=get_some aX
    have hdr:l.drop i=x::l.drop (i+1):=by
      rw[zbn aX];rw[zab aX]at pG;injection pG with pG;rw[pG]
    rw[hdr,runT]at dK;have hfx:=hx x (zag pG);have hk2:=Qz x.kind;refine Az (λb8 wd Hd kb=>?_);refine Tz (λwe He=>?_);refine Kz (abZ x.kind) (λwf Hf kc=>?_);obtain⟨F0,eO,gQ,aK⟩:=Hf.focus At2;refine aL (Zy eO oM (λh=>TG eO h Pv oM) (λh=>MI eO h oM)) rfl rfl (λv' wg hv=>?_);obtain⟨rfl,cK,F1,hq,hs⟩:=hv;have Hg:=aK _ F1 _ cK hq hs;refine Sz (λSa=>?_) (λSa=>?_)
    . rw[Jq (.inr oM)]at dK
      rw[<-dK]at ak;have bX:res=(gW,220):=ak;refine V1 ?_;refine Vb (aD gW) ?_;refine Tz (λwh Hh=>?_);refine V1 ?_;exact⟨_,bF Hh,by rw[bX];rfl,Hh.kept⟩
    have Qj:dH x.kind<=st.length:=oM;rw[ab2,zac Qj];rw[leftV,zac Qj]at Hg;refine Kz (Zw x hfx (hT.keep Hg.kept)) (λwi Hi kd=>?_);refine O2 ?_;refine Qn (Cd rfl (λIf=>?_) (λIf=>?_))
    . rw[Jq (.inl (by have h:=If;revert h;cases dU x<;>simp))]at dK
      rw[<-dK]at ak;have bX:res=(gW,220):=ak;refine Sr (Vb (aD gW) ?_);refine Tz (λwj Hj=>?_);refine V1 ?_;exact⟨_,bF Hj,by rw[bX];rfl,Hj.kept⟩
    have YX:dU x=true:=by have h:=If;revert h;cases dU x<;>simp
    obtain⟨jH,anA⟩:=QA YX;rw[Zx YX Qj]at dK;refine Az (λb11 wk Hk ke=>?_);refine Qn (dB (λtp:bR=>[(0,.slice A cols.length m),(4,.pointer (some ⟨b4,0,none⟩)),(6,.pointer (some ⟨b6,0,none⟩)),(8,.pointer (some ⟨b8,0,none⟩)),(10,.bool (PG cols st x).isSome),(11,.pointer (some ⟨b11,0,none⟩)),(16,.slice C l.length n),(17,I l.length),(18,I i)]) (λtp w'=>(∀y,PG cols st x=some y->tp=y)/\Sep w noB [blk b11 (aD tp) 45,blk b8 (aN x) 66,aU 45 2 aD (.slice B st.length cb) st,blk b6 [.slice B (st.length-dH x.kind) (st.length-dH x.kind)] 173,blk b4 (aD gW) 45] w') ?_ ?_)
    . refine Cz (λIg=>?_) (λIg=>?_)
      . have zF:dH x.kind=0:=oM
        have hrt:PG cols st x=qU cols x:=zac zF;have hk6:x.kind<=6:=by have:=uq.1 zF;omega
        refine Kz (amy x (Pg.keep Hk.kept) jH hk6) (λwl Hl kf=>?_);refine Tz (λwm Hm=>?_);refine V1 ?_;exact au ((qU cols x).getD gW) ⟨rfl,rfl,rfl,rfl,by rw[hrt];rfl,rfl,rfl,rfl,rfl,trivial⟩ ⟨λy hy=>by rw[hrt]at hy;rw[hy];rfl,Hm⟩
      have zF: ¬dH x.kind=0:=oM;have hrt:PG cols st x=vW x.kind (st.getD (st.length-dH x.kind) gW) (st.getD (st.length-1) gW):=zaa zF
      have hk7:7<=x.kind:=by
        refine Classical.byContradiction λh=>zF (uq.2 oM)
      refine V3 ?_;refine aL (agm (ML (dP Hk At2) Pv (Sep.ajS Hk At2) Qj) (Wu (d:=gW) hk7 Qj) hk7 anA) rfl rfl (λv' wn hv=>?_);obtain⟨⟨tp,rfl,htp⟩,cK⟩:=hv;have Hn:=Hk.keep cK;refine Tz (λwo Ho=>?_);refine V1 ?_;exact au tp ⟨rfl,rfl,rfl,rfl,by rw[hrt];rfl,rfl,rfl,rfl,rfl,trivial⟩ ⟨λy hy=>by rw[hrt]at hy;exact htp y hy,Ho⟩
    rintro tp τ wp ⟨htp,Hp⟩;refine Lp ?_;refine O2 ?_;refine Qn (Cd rfl (λIh=>?_) (λIh=>?_))
    . have mE:PG cols st x=none:=by
        cases h:PG cols st x with
        | none=>rfl
        | some y=>rw[h]at Ih;cases Ih
      rw[mE]at dK;rw[<-dK]at ak;have bX:res=(gW,220):=ak;refine Sr (Vb (aD gW) ?_);refine Tz (λwq Hq=>?_);refine V1 ?_;exact⟨_,bF Hq,by rw[bX];rfl,Hq.kept⟩
    obtain⟨y,hy⟩: ∃y,PG cols st x=some y:=by
      cases h:PG cols st x with
      | none=>rw[h]at Ih;cases Ih
      | some y=>exact⟨y,rfl⟩
    have hty:=htp y hy;subst hty;rw[hy]at dK;refine V1 ?_;refine Bs Hp ([tp].flatMap aD) (λbs wr Hr kg=>?_);obtain⟨F0,eO,gQ,aK⟩:=Hr.focus At4;have Bj:(st.take (st.length-dH x.kind)).length=st.length-dH x.kind:=by rw[zah];omega
    have hRc:=(dP Hr At3).cut (st.length-dH x.kind);have AZ:aJ _ (.slice (some ⟨bs,0,none⟩) 1 1) aD 2 [tp]:=⟨some ⟨bs,0,none⟩,1,rfl,⟨sM,oM⟩,Sep.lV Hr At0 rfl⟩;refine aL (Wq (l:=st.take (st.length-dH x.kind)) (by rw[Bj];exact eO) hRc AZ sM (by simp;omega)) rfl rfl (λv' ws hv=>?_);obtain⟨v2,rfl,_,cK,F1,hq,hs⟩:=hv;have Hs:=((aK _ F1 _ cK hq hs).gu).bE;refine V2 ?_;exact aj (i+1,st.take (st.length-dH x.kind)++[tp],v2) tR ⟨⟨dO,by dsimp only;rw[zad,Bj];simp;omega,dK⟩,(Hs.lu.aF.aO).firsts (l:=[_,_,_])⟩ dO
  have jG:i=l.length:=oM;rw[jG,zdz,runT]at dK;rw[<-dK]at ak;refine Cz (λIi=>?_) (λIi=>?_)
  . have bX:res=(gW,220):=by
      rw[ak]
      match st,Ii with
      | [],_=>rfl
      | [t],h=>exact zas rfl h
      | t::u::r,_=>rfl
    refine Sr (Vb (aD gW) ?_);refine Tz (λwt Ht=>?_);refine V1 ?_;exact⟨_,bF Ht,by rw[bX];rfl,Ht.kept⟩
  obtain⟨t,ht⟩: ∃t,st=[t]:=zfo.1 oM;have hg0:st[0]? =some t:=by rw[ht];rfl
  have bX:res=(t,0):=by rw[ak,ht]
  refine V2 ?_;refine Vv (Gives.fA (i:=0) rfl rfl hB oM) (Vv (Gives.pF (i:=0) rfl hB hg0) ?_);refine Tz (λwu Hu=>?_);refine V1 ?_;exact⟨_,bF Hu,by rw[bX];rfl,Hu.kept⟩
end
end
variable {a b:aC} {l:List aC}
section
def xA (a b:Int):Int:=if a<b then -1 else if b<a then 1 else 0
def orI (l:List Int):Int:=(l.find? λx=>decide (x≠0)).getD 0
def amB (a b:aC) (h:a.null=b.null):orI [xA a.n b.n,compareBytes a.s b.s]=nG a b:=by
 unfold orI xA nG;rw[zac h]
 by_cases h1:a.n<b.n
 .rw[zac h1,zac h1];rfl
 rw[zaa h1,zaa h1]
 by_cases h2:b.n<a.n
 .rw[zac h2,zac h2];rfl
 rw[zaa h2,zaa h2]
 rcases Kk a.s b.s with e | e | e<;>rw[e]<;>rfl
def Di {a b:Int} (h0:a≠0) (ha:fits a) (hb:fits b):(IntKind.i64.wrap ((IntKind.i64.wrap (a*b)).tdiv a)≠b\/(a= -1/\b= -9223372036854775808))↔¬aY (a*b)=true:=by
 obtain⟨Vj,Vz⟩:=ha;obtain⟨Fv,hb2⟩:=hb
 by_cases hm:a= -1
 .subst hm
  have e:(-1:Int)*b= -b:=oM;rw[e];have hf:aY (-b)=decide (b≠ -9223372036854775808):=by unfold aY;rw[zbf];omega
  rw[hf]
  by_cases alf:b= -9223372036854775808
  .subst alf;decide
  have e2:IntKind.i64.wrap (-b)= -b:=wrap64 oM;have e3:(-b).tdiv (-1)=b:=by rw[Int.tdiv_neg,Int.tdiv_one];omega
  rw[e2,e3,wrap64 ⟨Fv,hb2⟩];simp[alf]
 have hq:=YM (n:=IntKind.i64.wrap (a*b)) (by rw[IntKind.wrap_i64];omega) h0 hm;rw[wrap64 hq];have:=Tn (a:=b) (b:=a) h0 ⟨Vj,Vz⟩;rw[Int.mul_comm b a]at this;rw[<-this];constructor
 .rintro(h | h)
  .exact h
  exact zas h.1 hm
 exact .inl
section
variable {w:Wd}
def dW (b:Bool):Rk prog 175 [.bool b] w (agg (ah (gY b))):=by
 have H:=Sep.aH w;refine pE func175 ?_;refine Az (λb1 _ _ _=>?_);refine O1 ?_;refine Qn (Cd rfl (λk=>?_) (λk=>?_))
 .have hb:=k
  refine Sr (Vb (ah (gY true)) ?_);refine Tz (λ_ S=>?_);refine V0 ?_;exact⟨_,fG S,by rw[show b=true by simpa using hb];rfl,S.kept⟩
 have hb:=k;refine V0 ?_;refine Vb (ah (gY false)) ?_;refine Tz (λ_ S=>?_);refine V0 ?_;exact⟨_,fG S,by rw[show b=false by simpa using hb];rfl,S.kept⟩
def Wv (n:Int):aQ prog 322 [I n] w λv w'=>v=.bool false/\w=w':=by
 have H:=Sep.aH w;refine dh func322 ?_;refine V5 ?_;exact⟨zay Value.bool sM,rfl⟩
def ajT (a b:Int):aQ prog 243 [I a,I b] w λv w'=>v=I (xA a b)/\w=w':=by
 have H:=Sep.aH w;refine bU func243 ?_;refine V2 ?_;refine eG (Wv a) (h:=?_);refine V2 ?_;refine eG (Wv b) (h:=?_);refine O2 ?_;refine Qn (Cd rfl (λk=>?_) (λk=>?_))
 .cases k
 refine O1 ?_;refine Qn (Cd rfl (λk=>?_) (λk=>?_))
 .cases k
 refine Cz (λk=>?_) (λk=>?_)
 .have h1:=k
  refine V1 ?_;exact⟨by unfold xA;rw[zac h1];rfl,rfl⟩
 have h1:=k;refine Cz (λk=>?_) (λk=>?_)
 .have h2:=k
  refine V1 ?_;exact⟨by unfold xA;rw[zaa h1,zac oM];rfl,rfl⟩
 have h2:=k;refine V1 ?_;exact⟨by unfold xA;rw[zaa h1,zaa oM];rfl,rfl⟩
def amC {l:List Int} {v:Value} (hl:aJ w v intCells 1 l):Rk prog 242 [v] w (I (orI l)):=by
 obtain⟨A,m,rfl,⟨hm,nX⟩,hA⟩:=hl;have H:=Sep.aH w;refine dh func242 ?_;refine V5 ?_;refine aI (λi:Nat=>[(3,I 0),(6,.slice A l.length m),(7,I l.length),(8,I i)]) (λi w'=>(i<=l.length/\orI (l.drop i)=orI l)/\Sep w noB [] w') (λi _=>l.length-i) 0 tR ⟨⟨zai _,rfl⟩,H⟩ (λi τ _ hI=>?_);obtain⟨⟨hi,dK⟩,k⟩:=hI;refine Lp ?_;refine Cz (λS=>?_) (λS=>?_)
 .have aX:i<l.length:=oM
  obtain⟨y,hy⟩:=get_some aX
  have hdr:l.drop i=y::l.drop (i+1):=by
   rw[zbn aX];rw[zab aX]at hy;injection hy with hy;rw[hy]
  rw[hdr]at dK;refine Cz (λS=>?_) (λS=>?_)
  .have bX:orI l=y:=by rw[<-dK];unfold orI;rw[zch,zap S];rfl
   refine V2 ?_;exact⟨by rw[bX];rfl,k.kept⟩
  have Qk:orI (l.drop (i+1))=orI l:=by rw[<-dK];unfold orI;rw[zch,zal S]
  refine V2 ?_;exact aj (i+1) tR ⟨⟨oM,Qk⟩,k⟩ oM
 have jG:i=l.length:=oM;rw[jG,zdz]at dK;refine V2 ?_;exact⟨by rw[<-dK];rfl,k.kept⟩
def agq (a b:Int) (ha:fits a) (hb:fits b):aQ prog 245 [I a,I b] w λv w'=>(∃c,v=.tuple #[I c,.bool (aY (a*b))]/\(aY (a*b)=true->c=a*b))/\Kept noB w w':=by
 have H:=Sep.aH w;refine bU func245 ?_;refine V4 ?_;refine Vv (Gives.apq (c:=IntKind.i64.wrap (a*b)) rfl rfl rfl) (Sz (λk=>?_) (λk=>?_))
 .have h0:a≠0:=oM
  refine V2 ?_;refine Vv (Gives.apr (c:=IntKind.i64.wrap ((IntKind.i64.wrap (a*b)).tdiv a)) rfl rfl oM rfl) (Sz (λk=>?_) (λk=>?_))
  .have hA:=k
   have mE:aY (a*b)=false:=by simpa using (Di h0 ha hb).1 (.inl hA)
   refine V4 ?_;exact⟨⟨0,by rw[mE];rfl,λh=>by rw[mE]at h;cases h⟩,H.kept⟩
  have hA:=k;refine Sz (λk=>?_) (λk=>?_)
  .have hB:=k
   refine Cz (λS=>?_) (λS=>?_)
   .have mE:aY (a*b)=false:=by simpa using (Di h0 ha hb).1 (.inr ⟨hB,S⟩)
    refine V2 ?_;exact⟨⟨0,by rw[mE];rfl,λh=>by rw[mE]at h;cases h⟩,H.kept⟩
   have Fh:aY (a*b)=true:=Classical.byContradiction λh=>by
    rcases (Di h0 ha hb).2 h with h1 | h1
    .exact hA h1
    exact S h1.2
   refine V3 ?_;exact⟨⟨IntKind.i64.wrap (a*b),by rw[Fh];rfl,λh=>wrap64 (zbd h)⟩,H.kept⟩
  have hB:=k
  have Fh:aY (a*b)=true:=Classical.byContradiction λh=>by
   rcases (Di h0 ha hb).2 h with h1 | h1
   .exact hA h1
   exact hB h1.1
  refine V6 ?_;exact⟨⟨IntKind.i64.wrap (a*b),by rw[Fh];rfl,λh=>wrap64 (zbd h)⟩,H.kept⟩
 have h0:a=0:=oM;have Fh:aY (a*b)=true:=by rw[h0,Int.zero_mul];rfl
 refine V4 ?_;exact⟨⟨IntKind.i64.wrap (a*b),by rw[Fh];rfl,λh=>wrap64 (zbd h)⟩,H.kept⟩
def KD (k a b:Int):Int:=if k=7 then a+b else if k=8 then a-b else if k=9 then a*b else -a
def QB (k a b:Int) (ha:fits a) (hb:fits b):aQ prog 177 [I k,I a,I b] w λv w'=>(∃c,v=.tuple #[I c,.bool (aY (KD k a b))]/\(aY (KD k a b)=true->c=KD k a b))/\Kept noB w w':=by
 have H:=Sep.aH w;have Zj:=ha;have YZ:=hb;obtain⟨Vj,Vz⟩:=ha;obtain⟨Fv,hb2⟩:=hb;obtain⟨res,ak⟩: ∃res,res=KD k a b:=⟨_,rfl⟩;rw[<-ak];unfold KD at ak;refine D9 func177 ?_;refine Cz (λS=>?_) (λS=>?_)
 .rw[zac S]at ak
  refine V2 ?_;refine Vv (Gives.abp (c:=IntKind.i64.wrap (a+b)) rfl rfl rfl) (V10 ?_);exact⟨⟨_,zay (λb=>Value.tuple #[I _,.bool b]) (by rw[ak];unfold aY;rw[zdu,beq_iff_eq,zbf,decide_eq_true_eq,IntKind.wrap_i64];omega),λh=>by have:=zbd h;rw[ak]at this ⊢;exact wrap64 this⟩,H.kept⟩
 rw[zaa S]at ak;refine Cz (λS=>?_) (λS=>?_)
 .rw[zac S]at ak
  refine V2 ?_;refine Vv (Gives.ano (c:=IntKind.i64.wrap (a-b)) rfl rfl rfl) (V10 ?_);exact⟨⟨_,zay (λb=>Value.tuple #[I _,.bool b]) (by rw[ak];unfold aY;rw[zdu,beq_iff_eq,zbf,decide_eq_true_eq,IntKind.wrap_i64];omega),λh=>by have:=zbd h;rw[ak]at this ⊢;exact wrap64 this⟩,H.kept⟩
 rw[zaa S]at ak;refine Cz (λS=>?_) (λS=>?_)
 .rw[zac S]at ak
  refine V2 ?_;refine aL (agq a b Zj YZ) rfl rfl (λv' _ hv=>?_);obtain⟨⟨cp,rfl,Zk⟩,cK⟩:=hv;have d:=H.keep cK;refine V4 ?_;exact⟨⟨cp,by rw[ak];rfl,λh=>by rw[ak]at h ⊢;exact Zk h⟩,d.kept⟩
 rw[zaa S]at ak;refine V1 ?_;refine Vv (Gives.ak9 (c:=IntKind.i64.wrap (0-a)) rfl rfl) (V4 ?_);exact⟨⟨_,zay (λb=>Value.tuple #[I (IntKind.i64.wrap (0-a)),.bool b]) (by rw[ak];unfold aY;rw[zbf];omega),λh=>by have:=zbd h;rw[ak]at this ⊢;rw[wrap64 oM];omega⟩,H.kept⟩
end
attribute [local irreducible] gY
section
variable {w:Wd}
def sD (a b:aC):Rk prog 176 [agg (ah a),agg (ah b)] w (I (nG a b)):=by
 have H:=Sep.aH w;refine bU func176 ?_;refine Sr (bB H (cs:=ah a) rfl (h:=λb0 _ k _=>?_));refine bB k (cs:=ah b) rfl (h:=λb1 _ k _=>?_);refine Cz (λS=>?_) (λS=>?_)
 .have hn:=S
  refine Dz (λc _ d=>?_);refine V4 ?_;refine Gp c 5 rfl rfl (λ_=>(Gives.yt rfl)) (V3 ?_);refine Mi c 4 [(8,false),(7,true),(6,false),(5,true)] d (ajT a.n b.n) (h:=λ_ d=>⟨sL,?_⟩);refine Mi c 9 _ d (lH (Tryz.strings_Compare ⟨a.s.toArray⟩ ⟨b.s.toArray⟩ _)) (h:=λ_ d=>⟨sT,?_⟩);refine Gz c 10 _ d ([xA a.n b.n,compareBytes a.s b.s].flatMap intCells) (h:=λbs _ d=>⟨sT,?_⟩);have tV:aJ _ (.slice (some ⟨bs,0,none⟩) 2 2) intCells 1 [xA a.n b.n,compareBytes a.s b.s]:=⟨some ⟨bs,0,none⟩,2,rfl,⟨sM,oM⟩,Sep.lV d At0 rfl⟩;refine dA c 11 _ d (amC tV) (h:=λ_ d _=>⟨sT,?_⟩);refine V1 ?_;exact⟨by rw[<-amB a b hn];rfl,d.kept⟩
 have hn:=S;refine O3 ?_;refine Qn (Cd rfl (λd=>?_) (λd=>?_))
 .have hna:=d
  refine V1 ?_;exact⟨by unfold nG;rw[zaa hn,zac hna];rfl,k.kept⟩
 have hna:=d;refine V1 ?_;exact⟨by unfold nG;rw[zaa hn,zaa (by rw[hna];simp)];rfl,k.kept⟩
def yT {b:Nat} {E:Td} (c:aC) (hb:w.heap[b]? =some (.cells #[vl] E (0,0))) (hl:aJ w vl ah 3 l):Rk prog 240 [agg (ah c),.pointer (some ⟨b,0,none⟩)] w (.bool (l.any λy=>decide (c=y))):=by
 have H:=Sep.aH w;refine bU func240 ?_;refine Sr (bB H (cs:=ah c) rfl (h:=λb0 _ k _=>?_));refine V1 ?_;refine dM (cs:=[vl]) (k.kept.get hb id) (h:=?_);refine Kz (Wn c (hl.keep k.kept)) (λ_ k _=>?_);refine V1 ?_;exact⟨rfl,k.kept⟩
def FN (hs:Bv k l a b) (c:aC):(l.any λy=>decide (c=y))=decide (a=c\/b=c):=by
 rw[hs.any];rw[zdu,Bool.or_eq_true,decide_eq_true_eq,decide_eq_true_eq,decide_eq_true_eq];exact⟨λh=>h.imp Eq.symm Eq.symm,λh=>h.imp Eq.symm Eq.symm⟩
theorem Jr (hl:aJ w vl ah 3 l) (hs:Bv k l a b):Rk prog 174 [I k,vl] w (agg (ah (vX k a b))):=by
 have Fw:=hl;obtain⟨A,m,rfl,⟨hm,nX⟩,hA⟩:=hl;have H:=Sep.aH w;obtain⟨hga,_,Jb⟩:=hs.get;obtain⟨res,ak⟩: ∃res,res=vX k a b:=⟨_,rfl⟩;rw[<-ak];unfold vX at ak;refine tN func174 ?_;refine Sr (bB H (cs:=[.slice A l.length m]) rfl (h:=λb0 _ _ _=>?_));refine Az (λb1 _ S _=>?_);refine Sz (λc=>?_) (λc=>?_)
 .have anB:k=13:=c
  refine Kz (dW _) (λ_ d _=>?_);refine On ?_;have Et:=d.obj At1;refine eY (fs:=[]) (cs:=[.pointer (some ⟨b0,0,none⟩)]) (vals:=[_]) rfl (yT (gY false) Et (Fw.keep d.kept)) rfl rfl (λv' _ hv=>?_);obtain⟨rfl,cK⟩:=hv;have e:=d.keep cK;rw[FN hs];refine Cz (λd=>?_) (λd=>?_)
  .rw[zac ⟨anB,d⟩]at ak
   refine Sk (dV (zay Value.bool (zap d)) ?_);refine Kz (dW _) (λ_ _ _=>?_);refine Tz (λ_ f=>?_);refine V0 ?_;exact⟨_,fG f,by rw[ak,show decide (k=14)=false from zal oM];rfl,f.kept⟩
  rw[zaa (λh=>d h.2),zaa (λh=>oM)]at ak;refine Sz (λf=>?_) (λf=>?_)
  .exact zas f oM
  refine V3 ?_;refine Vb (ah bK) ?_;have Et:=e.obj At1;refine eY (fs:=[]) (cs:=[.pointer (some ⟨b0,0,none⟩)]) (vals:=[_]) rfl (yT bK Et (Fw.keep e.kept)) rfl rfl (λv' _ hv=>?_);obtain⟨rfl,cK⟩:=hv;have f:=e.keep cK;rw[FN hs];refine Am ?_;refine Cz (λf=>?_) (λf=>?_)
  .rw[zac f]at ak
   refine Sr (Vb (ah bK) ?_);refine Tz (λ_ e=>?_);refine V0 ?_;exact⟨_,fG e,by rw[ak];rfl,e.kept⟩
  rw[zaa f]at ak;refine Cz (λe=>?_) (λe=>?_)
  .rw[zac e]at ak
   refine Dz (λf _ d=>?_);refine V3 ?_;refine dA f 3 [(2,false),(1,true),(0,false)] d (dW _) (h:=λ_ d _=>⟨(bQ rfl kR (Gives.iA (i:=0) rfl d hA hga) rfl (ay (iL d (h:=eF)))),?_⟩);refine Gp f 4 rfl rfl (λ_=>(Gives.afd (enc:=ah) _ _ rfl rfl)) (dA f 5 _ d (dW _) (h:=λ_ d _=>⟨sT,?_⟩));refine bM f 6 _ d (h:=λ_ d=>⟨sT,?_⟩);refine V0 ?_;exact⟨_,fG d,by rw[ak];rfl,d.kept⟩
  rw[zaa e]at ak;refine Kz (dW _) (λ_ _ _=>?_);refine Tz (λ_ d=>?_);refine V0 ?_;exact⟨_,fG d,by rw[ak];rfl,d.kept⟩
 have anB: ¬k=13:=c;rw[zaa (λh=>anB h.1)]at ak;refine Sz (λd=>?_) (λd=>?_)
 .have anC:k=14:=d
  refine Kz (dW _) (λ_ c _=>?_);refine On ?_;have Et:=c.obj At1;refine eY (fs:=[]) (cs:=[.pointer (some ⟨b0,0,none⟩)]) (vals:=[_]) rfl (yT (gY true) Et (Fw.keep c.kept)) rfl rfl (λv' _ hv=>?_);obtain⟨rfl,cK⟩:=hv;have e:=c.keep cK;rw[FN hs];refine Cz (λc=>?_) (λc=>?_)
  .rw[zac ⟨anC,c⟩]at ak
   refine Kz (dW _) (λ_ _ _=>?_);refine Tz (λ_ f=>?_);refine V0 ?_;exact⟨_,fG f,by rw[ak,show decide (k=14)=true from zap oM];rfl,f.kept⟩
  rw[zaa (λh=>c h.2)]at ak;refine V1 ?_;refine Vb (ah bK) ?_;have Et:=e.obj At1;refine eY (fs:=[]) (cs:=[.pointer (some ⟨b0,0,none⟩)]) (vals:=[_]) rfl (yT bK Et (Fw.keep e.kept)) rfl rfl (λv' _ hv=>?_);obtain⟨rfl,cK⟩:=hv;have f:=e.keep cK;rw[FN hs];refine Am ?_;refine Cz (λf=>?_) (λf=>?_)
  .rw[zac f]at ak
   refine Sr (Vb (ah bK) ?_);refine Tz (λ_ e=>?_);refine V0 ?_;exact⟨_,fG e,by rw[ak];rfl,e.kept⟩
  rw[zaa f]at ak;refine Cz (λe=>?_) (λe=>?_)
  .rw[zac e]at ak
   refine Dz (λf _ c=>?_);refine V3 ?_;refine dA f 3 [(2,false),(1,true),(0,false)] c (dW _) (h:=λ_ c _=>⟨(bQ rfl kR (Gives.iA (i:=0) rfl c hA hga) rfl (ay (iL c (h:=eF)))),?_⟩);refine Gp f 4 rfl rfl (λ_=>(Gives.afd (enc:=ah) _ _ rfl rfl)) (dA f 5 _ c (dW _) (h:=λ_ c _=>⟨sT,?_⟩));refine bM f 6 _ c (h:=λ_ c=>⟨sT,?_⟩);refine V0 ?_;exact⟨_,fG c,by rw[ak];rfl,c.kept⟩
  rw[zaa e]at ak;refine Kz (dW _) (λ_ _ _=>?_);refine Tz (λ_ c=>?_);refine V0 ?_;exact⟨_,fG c,by rw[ak];rfl,c.kept⟩
 have anC: ¬k=14:=d;rw[zaa (λh=>anC h.1)]at ak;refine V3 ?_;refine Vb (ah bK) ?_;have Et:=S.obj At1;refine eY (fs:=[]) (cs:=[.pointer (some ⟨b0,0,none⟩)]) (vals:=[_]) rfl (yT bK Et (Fw.keep S.kept)) rfl rfl (λv' _ hv=>?_);obtain⟨rfl,cK⟩:=hv;have c:=S.keep cK;rw[FN hs];refine Am ?_;refine Cz (λc=>?_) (λc=>?_)
 .rw[zac c]at ak
  refine Sr (Vb (ah bK) ?_);refine Tz (λ_ S=>?_);refine V0 ?_;exact⟨_,fG S,by rw[ak];rfl,S.kept⟩
 rw[zaa c]at ak;refine Cz (λS=>?_) (λS=>?_)
 .rw[zac S]at ak
  refine Dz (λc _ d=>?_);refine V3 ?_;refine dA c 3 [(2,false),(1,true),(0,false)] d (dW _) (h:=λ_ d _=>⟨(bQ rfl kR (Gives.iA (i:=0) rfl d hA hga) rfl (ay (iL d (h:=eF)))),?_⟩);refine Gp c 4 rfl rfl (λ_=>(Gives.afd (enc:=ah) _ _ rfl rfl)) (dA c 5 _ d (dW _) (h:=λ_ d _=>⟨sT,?_⟩));refine bM c 6 _ d (h:=λ_ d=>⟨sT,?_⟩);refine V0 ?_;exact⟨_,fG d,by rw[ak];rfl,d.kept⟩
 rw[zaa S]at ak;refine Kz (dW _) (λ_ _ _=>?_);refine Tz (λ_ d=>?_);refine V0 ?_;exact⟨_,fG d,by rw[ak];rfl,d.kept⟩
end
end
section
attribute [local irreducible] gY nG vX
def adD (h7:7<=k) (h18:k<=18) (h1: ¬(k=13\/k=14\/k=15)) (h2: ¬k=16) (h3: ¬k=17) (h4: ¬(a.null=true\/b.null=true)) (h5: ¬k=11) (h6: ¬k=12) (h8: ¬k=18):jl k a b=DY (KD k a.n b.n):=by
 unfold jl DY KD;rw[zaa h1,zaa h2,zaa h3,zaa h4,zaa h5,zaa h6,zaa h8]
def m39 {p:Prop} (h:p:=by
 rw[ak]
 first
 | (rw[zac oM];refine zay (λx=>some (gY x)) ?_;first | exact zap oM | exact zal oM | exact zbf.2 oM)
 | (rw[zaa oM,zac oM];refine zay (λx=>some (gY x)) ?_;first | exact zap oM | exact zal oM | exact zbf.2 oM)):p:=h
section
variable {w:Wd}
theorem agr (hl:aJ w vl ah 3 l) (hs:Bv k l a b) (h7:7<=k) (h18:k<=18) (ha:fits a.n) (hb:fits b.n):aQ Tryz.prog 120 [I k,vl] w λv w'=>(∃c,v=.tuple #[agg (ah c),.bool (jl k a b).isSome]/\∀y,jl k a b=some y->c=y)/\Kept noB w w':=by
 have Fw:=hl;obtain⟨A,m,rfl,⟨hm,nX⟩,hA⟩:=hl;have H:=Sep.aH w;obtain⟨hga,hgb,Jb⟩:=hs.get;have hl2:l.length<=2:=by rcases hs with⟨rfl,_⟩ | ⟨rfl,_⟩<;>simp
 obtain⟨res,Y0⟩: ∃res,res=jl k a b:=⟨_,rfl⟩;rw[<-Y0];have ak:=Y0;unfold jl at ak;refine tN Tryz.func120 ?_;refine Az (λb4 _ _ _=>?_);refine Am ?_;refine Qn (dB (λz:Nat×Nat=>[(0,I k),(1,.slice A l.length m),(4,.pointer (some ⟨b4,0,none⟩)),(6,.pointer (some ⟨z.1,0,none⟩)),(7,.pointer (some ⟨z.2,0,none⟩))]) (λz w'=>Sep w noB [blk z.2 (ah b) 47,blk z.1 (ah a) 47,blk b4 (ah cell0) 47] w') ?_ ?_)
 .refine Dz (λS _ d=>?_)
  refine V1 ?_;refine Gp S 1 rfl rfl (λ_=>(Gives.fA (i:=0) rfl rfl hA Jb)) (GS (Gt rfl (Gives.iA (i:=0) rfl d hA hga) ?_));refine V3 ?_;refine Gc S 6 ((l.length-1:Nat):Int) ?_;refine V1 ?_;refine GS (Gt rfl (Gives.iA (i:=l.length-1) rfl d hA hgb) ?_);refine jQ S (e1:=9) (e2:=10) kR ?_ ?_
  .refine jE S 9 [(8,false),(7,true),(6,true),(5,true),(4,true),(3,true),(2,false),(1,true),(0,true)] d (h:=λb6 _ e=>⟨(bQ rfl kR (Gives.iA (i:=l.length-1) rfl e hA hgb) rfl (ay (ay (ay (ay (ay ((bQ rfl kR (Gives.iA (i:=0) rfl e hA hga) rfl (ay (ay (eF))))))))))),?_⟩)
   refine r9 S 10 [(8,false),(7,true),(6,true),(5,true),(4,true),(3,true),(2,false),(1,true),(0,true)] e (h:=λb7 _ e=>⟨(bQ rfl kR (Gives.iA (i:=l.length-1) rfl e hA hgb) rfl (ay (ay (ay (ay (ay ((bQ rfl kR (Gives.iA (i:=0) rfl e hA hga) rfl (ay (ay (eF))))))))))),?_⟩);refine bM S 11 [(8,false),(7,true),(6,true),(5,true),(4,true),(3,true)] e (h:=λ_ e=>⟨(bQ rfl kR (Gives.iA (i:=l.length-1) rfl e hA hgb) rfl (ay (ay (ay (ay (ay (eF))))))),?_⟩);refine bM S 12 _ e (h:=λ_ e=>⟨sT,?_⟩);refine V0 ?_;exact au (b6,b7) tR e
  refine jE S 10 [(8,false),(7,true),(6,true),(5,true),(4,true),(3,true),(2,false),(1,true),(0,true)] d (h:=λb7 _ e=>⟨(bQ rfl kR (Gives.iA (i:=l.length-1) rfl e hA hgb) rfl (ay (ay (ay (ay (ay ((bQ rfl kR (Gives.iA (i:=0) rfl e hA hga) rfl (ay (ay (eF))))))))))),?_⟩);refine r9 S 9 [(8,false),(7,true),(6,true),(5,true),(4,true),(3,true),(2,false),(1,true),(0,true)] e (h:=λb6 _ e=>⟨(bQ rfl kR (Gives.iA (i:=l.length-1) rfl e hA hgb) rfl (ay (ay (ay (ay (ay ((bQ rfl kR (Gives.iA (i:=0) rfl e hA hga) rfl (ay (ay (eF))))))))))),?_⟩);refine bM S 11 [(8,false),(7,true),(6,true),(5,true),(4,true),(3,true)] e (h:=λ_ e=>⟨(bQ rfl kR (Gives.iA (i:=l.length-1) rfl e hA hgb) rfl (ay (ay (ay (ay (ay (eF))))))),?_⟩);refine bM S 12 _ e (h:=λ_ e=>⟨sT,?_⟩);refine V0 ?_;exact au (b6,b7) tR e.aF
 rintro⟨b6,b7⟩ τ e e;dsimp only at e;refine Lp ?_;refine Sz (λS=>?_) (λS=>?_)
 .refine Kz (Jr (Fw.keep e.kept) hs) (λ_ _ _=>?_)
  refine Tz (λ_ S=>?_);refine V1 ?_;exact⟨_,bF S,dQ (by rw[ak,zac oM]),S.kept⟩
 refine Sz (λS=>?_) (λS=>?_)
 .refine Kz (Jr (Fw.keep e.kept) hs) (λ_ _ _=>?_)
  refine Tz (λ_ S=>?_);refine V1 ?_;exact⟨_,bF S,dQ (by rw[ak,zac oM]),S.kept⟩
 refine Cz (λS=>?_) (λS=>?_)
 .refine Kz (Jr (Fw.keep e.kept) hs) (λ_ _ _=>?_)
  refine Tz (λ_ S=>?_);refine V1 ?_;exact⟨_,bF S,dQ (by rw[ak,zac oM]),S.kept⟩
 refine Cz (λS=>?_) (λS=>?_)
 .refine Kz (dW _) (λ_ _ _=>?_)
  refine Tz (λ_ S=>?_);refine V1 ?_;exact⟨_,bF S,dQ (by rw[ak,zaa oM,zac oM]),S.kept⟩
 refine Sz (λS=>?_) (λS=>?_)
 .refine O4 ?_
  refine Qn (Cd rfl (λS=>?_) (λS=>?_))
  .have Mq:=S
   refine Tz (λ_ d=>?_);refine V1 ?_;exact⟨_,bF d,dQ (by rw[ak,zaa oM,zaa oM,zac oM,zac Mq]),d.kept⟩
  have Mq:=S;refine Cz (λd=>?_) (λd=>?_)
  .refine Tz (λ_ d=>?_)
   refine V1 ?_;exact⟨_,bF d,dQ (by rw[ak,zaa oM,zaa oM,zac oM,zaa (by simp[Mq])]),d.kept⟩
  refine V3 ?_;refine dL (t:=55) rfl (λd=>?_) (λd=>?_)
  .refine V2 ?_
   refine Vb (ah bK) ?_;refine Tz (λ_ _=>?_);refine V1 ?_
   (exfalso;omega)
  refine O4 ?_;refine Qn (Cd rfl (λd=>?_) (λd=>?_))
  .refine Sr (Vb (ah bK) ?_)
   refine Tz (λ_ _=>?_);refine V1 ?_
   (exfalso;omega)
  have tX: ¬(a.null=true\/b.null=true):=by simp[*]
  rw[zaa oM,zaa oM,zaa oM,zaa tX]at ak;refine Sz (λd=>?_) (λd=>?_)
  .refine Kz (sD a b) (λ_ _ _=>?_)
   refine Sz (λd=>?_) (λd=>?_)
   .refine Sz (λd=>?_) (λd=>?_)
    .refine Kz (dW _) (λ_ _ _=>?_)
     refine Tz (λ_ _=>?_);refine V1 ?_
     (exfalso;omega)
    refine Sz (λd=>?_) (λd=>?_)
    .refine Kz (dW _) (λ_ _ _=>?_)
     refine Tz (λ_ _=>?_);refine V1 ?_
     (exfalso;omega)
    refine Kz (dW _) (λ_ _ _=>?_);refine Tz (λ_ _=>?_);refine V1 ?_
    (exfalso;omega)
   refine Sz (λd=>?_) (λd=>?_)
   .refine Kz (dW _) (λ_ _ _=>?_)
    refine Tz (λ_ _=>?_);refine V1 ?_
    (exfalso;omega)
   refine Kz (dW _) (λ_ _ _=>?_);refine Tz (λ_ _=>?_);refine V1 ?_
   (exfalso;omega)
  refine Cz (λd=>?_) (λd=>?_)
  .refine Kz (sD a b) (λ_ _ _=>?_)
   refine Sz (λd=>?_) (λd=>?_)
   .refine Sz (λd=>?_) (λd=>?_)
    .refine Kz (dW _) (λ_ _ _=>?_)
     refine Tz (λ_ _=>?_);refine V1 ?_
     (exfalso;omega)
    refine Sz (λd=>?_) (λd=>?_)
    .refine Kz (dW _) (λ_ _ _=>?_)
     refine Tz (λ_ _=>?_);refine V1 ?_
     (exfalso;omega)
    refine Kz (dW _) (λ_ _ _=>?_);refine Tz (λ_ _=>?_);refine V1 ?_
    (exfalso;omega)
   refine Sz (λd=>?_) (λd=>?_)
   .refine Kz (dW _) (λ_ _ _=>?_)
    refine Tz (λ_ _=>?_);refine V1 ?_
    (exfalso;omega)
   refine Kz (dW _) (λ_ _ _=>?_);refine Tz (λ_ _=>?_);refine V1 ?_
   (exfalso;omega)
  refine Cz (λd=>?_) (λd=>?_)
  .refine V3 ?_
   refine Vb (ah ⟨false,(a.s.length:Int),[]⟩) ?_;refine Tz (λ_ _=>?_);refine V1 ?_
   (exfalso;omega)
  refine V5 ?_;refine aL (QB k a.n b.n ha hb) rfl rfl (λv' _ hv=>?_);obtain⟨⟨cp,rfl,Zk⟩,cK⟩:=hv;have d:=e.keep cK;refine V6 ?_;refine Vb (ah ⟨false,cp,[]⟩) ?_;refine Mv ?_;refine Tz (λ_ _=>?_);refine V1 ?_
  (exfalso;omega)
 refine Cz (λd=>?_) (λd=>?_)
 .refine Tz (λ_ _=>?_)
  refine V1 ?_
  (exfalso;omega)
 refine V3 ?_;refine dL (t:=55) rfl (λd=>?_) (λd=>?_)
 .refine V2 ?_
  refine Vb (ah bK) ?_;refine Tz (λ_ d=>?_);refine V1 ?_;exact⟨_,bF d,dQ (by rw[ak,zaa oM,zaa oM,zaa oM,zac (by simp[*])]),d.kept⟩
 refine O4 ?_;refine Qn (Cd rfl (λd=>?_) (λd=>?_))
 .refine Sr (Vb (ah bK) ?_)
  refine Tz (λ_ d=>?_);refine V1 ?_;exact⟨_,bF d,dQ (by rw[ak,zaa oM,zaa oM,zaa oM,zac (by simp[*])]),d.kept⟩
 have tX: ¬(a.null=true\/b.null=true):=by simp[*]
 rw[zaa oM,zaa oM,zaa oM,zaa tX]at ak;refine Sz (λd=>?_) (λd=>?_)
 .refine Kz (sD a b) (λ_ _ _=>?_)
  refine Sz (λd=>?_) (λd=>?_)
  .refine Sz (λd=>?_) (λd=>?_)
   .refine Kz (dW _) (λ_ _ _=>?_)
    refine Tz (λ_ d=>?_);refine V1 ?_;exact⟨_,bF d,dQ m39,d.kept⟩
   refine Sz (λd=>?_) (λd=>?_)
   .refine Kz (dW _) (λ_ _ _=>?_)
    refine Tz (λ_ _=>?_);refine V1 ?_
    (exfalso;omega)
   refine Kz (dW _) (λ_ _ _=>?_);refine Tz (λ_ _=>?_);refine V1 ?_
   (exfalso;omega)
  refine Sz (λd=>?_) (λd=>?_)
  .refine Kz (dW _) (λ_ _ _=>?_)
   refine Tz (λ_ d=>?_);refine V1 ?_;exact⟨_,bF d,dQ m39,d.kept⟩
  refine Kz (dW _) (λ_ _ _=>?_);refine Tz (λ_ d=>?_);refine V1 ?_;exact⟨_,bF d,dQ m39,d.kept⟩
 refine Cz (λd=>?_) (λd=>?_)
 .refine Kz (sD a b) (λ_ _ _=>?_)
  refine Sz (λd=>?_) (λd=>?_)
  .refine Sz (λd=>?_) (λd=>?_)
   .refine Kz (dW _) (λ_ _ _=>?_)
    refine Tz (λ_ _=>?_);refine V1 ?_
    (exfalso;omega)
   refine Sz (λd=>?_) (λd=>?_)
   .refine Kz (dW _) (λ_ _ _=>?_)
    refine Tz (λ_ _=>?_);refine V1 ?_
    (exfalso;omega)
   refine Kz (dW _) (λ_ _ _=>?_);refine Tz (λ_ d=>?_);refine V1 ?_;exact⟨_,bF d,dQ m39,d.kept⟩
  refine Sz (λd=>?_) (λd=>?_)
  .refine Kz (dW _) (λ_ _ _=>?_)
   refine Tz (λ_ d=>?_);refine V1 ?_;exact⟨_,bF d,dQ m39,d.kept⟩
  refine Kz (dW _) (λ_ _ _=>?_);refine Tz (λ_ d=>?_);refine V1 ?_;exact⟨_,bF d,dQ m39,d.kept⟩
 refine Cz (λd=>?_) (λd=>?_)
 .refine V3 ?_
  refine Vb (ah ⟨false,(a.s.length:Int),[]⟩) ?_;refine Tz (λ_ d=>?_);refine V1 ?_;exact⟨_,bF d,dQ (by rw[ak,zaa oM,zaa oM,zac oM]),d.kept⟩
 refine V5 ?_;refine aL (QB k a.n b.n ha hb) rfl rfl (λv' _ hv=>?_);obtain⟨⟨cp,rfl,Zk⟩,cK⟩:=hv;have d:=e.keep cK;refine V6 ?_;refine Vb (ah ⟨false,cp,[]⟩) ?_;refine Mv ?_;refine Tz (λ_ d=>?_);refine V1 ?_;exact⟨_,bF d,fV (n:=KD k a.n b.n) (by rw[Y0];exact adD h7 h18 oM oM oM tX oM oM oM) rfl Zk,d.kept⟩
end
end
variable {r:List aC} {vr:Value}
section
attribute [local irreducible] gL
section
variable {w:Wd}
def adE {b i:Nat} {E:Td} {a:bT} (c:aC) (hb:w.heap[b]? =some (.cells #[vc] E (0,0))) (hc:aJ w vc aM 7 cols) (ha:cols[i]? =some a) (hf:fits c.n) (hT:ny w):Rk prog 124 [I i,agg (ah c),.pointer (some ⟨b,0,none⟩)] w (I (gL a.type c)):=by
 obtain⟨A,m,rfl,⟨hm,nX⟩,hA⟩:=hc;have H:=Sep.aH w;have aX:=fI ha;refine D9 func124 ?_;refine Sr (bB H (cs:=ah c) rfl (h:=λb0 _ _ _=>?_));refine Dz (λk _ S=>?_);refine G0 (Gt rfl (Gives.nu (cs:=[.slice A cols.length m]) rfl (S.kept.get hb id) rfl) ?_);refine V3 ?_;refine GS (Gt rfl (Gives.EZ (us:=aD a.type) rfl S hA ha rfl rfl) ?_);refine V1 ?_;refine dA k 6 _ S (uo a.type c hf (hT.keep S.kept)) (h:=λ_ S _=>⟨sT,?_⟩);refine V1 ?_;exact⟨rfl,S.kept⟩
def ags {f:FuncId} {fs cs:LV} (hr:aJ w vr ah 3 r) (hlen:cols.length=r.length)
    (qY: ∀(i:Nat) a c w',cols[i]? =some a->r[i]? =some c->Kept noB w w'->aQ prog f (fs++[I i,agg (ah c)]++cs) w' λv w''=>v=I (gL a.type c)/\Kept noB w' w'') (Fe:qz prog f:=by exact eT):
    Rk prog 123 [vr,.func (.func f) fs.toArray cs.toArray] w (I (qW cols r 0)):=by
  obtain⟨A,m,rfl,⟨hm,nX⟩,hA⟩:=hr;have H:=Sep.aH w;refine bU func123 ?_;refine V4 ?_;refine aI (λi:Nat=>[(1,.func (.func f) fs.toArray cs.toArray),(8,.slice A r.length m),(9,I r.length),(10,I i)]) (λi w'=>(i<=r.length/\qW cols r i=qW cols r 0)/\Sep w noB [] w') (λi _=>r.length-i) 0 tR ⟨⟨zai _,rfl⟩,H⟩ (λi τ _ hI=>?_);obtain⟨⟨hi,dK⟩,k⟩:=hI;refine Lp ?_;refine Cz (λS=>?_) (λS=>?_)
  . have aX:i<r.length:=oM
    obtain⟨c,hcg⟩:=get_some aX;obtain⟨a,ha⟩:=get_some (l:=cols) (i:=i) oM;rw[yh ha hcg]at dK;refine Az (λb6 _ _ _=>?_);refine Am ?_;refine Tz (λ_ S=>?_);refine V3 ?_;refine eY (fs:=fs) (cs:=cs) (vals:=[I i,agg (ah c)]) rfl (qY i a c _ ha hcg S.kept) rfl rfl (λv' _ hv=>?_);obtain⟨rfl,cK⟩:=hv;have b:=S.keep cK;refine Cz (λS=>?_) (λS=>?_)
    . rw[zac S]at dK
      refine V2 ?_;exact⟨by rw[<-dK];rfl,b.kept⟩
    rw[zaa S]at dK;refine V2 ?_;exact aj (i+1) tR ⟨⟨oM,dK⟩,b.bI⟩ oM
  rw[E8 oM]at dK;refine V1 ?_;exact⟨by rw[<-dK];rfl,k.kept⟩
def FP (hc:aJ w vc aM 7 cols) (hr:aJ w vr ah 3 r) (hf:jA r) (hT:ny w):Rk prog 74 [vc,vr] w (I (fM cols r)):=by
 have Pg:=hc;have hrr:=hr;obtain⟨A,m,rfl,⟨hm,nX⟩,hA⟩:=hc;obtain⟨C,n,rfl,⟨hn,hn'⟩,hC⟩:=hr;have H:=Sep.aH w;refine bU func74 ?_;refine Sr (bB H (cs:=[.slice A cols.length m]) rfl (h:=λb0 _ k _=>?_));refine Cz (λS=>?_) (λS=>?_)
 .have iJ:=S
  refine V1 ?_;exact⟨by unfold fM;rw[zac oM];rfl,k.kept⟩
 have hlen:cols.length=r.length:=oM;refine V2 ?_;have Et:=k.obj At0;refine Kz (ags (f:=124) (fs:=[]) (cs:=[.pointer (some ⟨b0,0,none⟩)]) (hrr.keep k.kept) hlen (λi a c w' ha hcg hk=>adE c (hk.get Et id) ((Pg.keep k.kept).keep hk) ha (hf c (zag hcg)) ((hT.keep k.kept).keep hk))) (λ_ S _=>?_);refine V1 ?_;exact⟨by rw[CG hlen];rfl,S.kept⟩
end
end
section
def resE (cols:List bT) (r:List aC) (st:List aC) (x:bL):Option aC:=
 if dH x.kind=0 then some (xg cols r x)else jl x.kind (st.getD (st.length-dH x.kind) cell0) (st.getD (st.length-1) cell0)
def Js (cols:List bT) (r:List aC) (st:List aC) (x:bL):acW cols r st x=(resE cols r st x).map λc=>st.take (st.length-dH x.kind)++[c]:=rfl
def KE {ts ts':List bR} {st:List aC} (hr:fM cols r=0) (hf:jA r) (hx:fits x.n) (hT:Typed ts st) (hs:stepT cols ts x=some ts'):
    dU x=true/\dH x.kind<=st.length/\∀c,resE cols r st x=some c->Typed ts' (st.take (st.length-dH x.kind)++[c]):=by
  have hm:dU x=true:=by
    cases h:dU x with
    | true=>rfl
    | false=>rw[CK (.inl h)]at hs;cases hs
  have yH:=DR hm
  have rW:dH x.kind<=st.length:=by
    rw[<-hT.1];refine Classical.byContradiction λh=>?_;rw[Jq (.inr oM)]at hs;cases hs
  obtain⟨he,hg⟩:=Pd hr hf hx hT hs;refine⟨hm,rW,λc hc=>?_⟩;rw[Js,hc,yH]at he;rw[yH]at hg;obtain⟨c',h1,h2⟩:=zbc.1 he.symm;have:=List.append_cancel_left h2;injection this with h3
  subst h3;exact(hg _ h1).1
attribute [local irreducible] iM fM dU jl oF
section
variable {w:Wd}
theorem agt {l:List bL} (hc:aJ w vc aM 7 cols) (hl:aJ w vl aN 3 l) (hr:aJ w vr ah 3 r) (hf:jA r) (hx: ∀x∈l,fits x.n) (hT:ny w):
    Rk Tryz.prog 71 [vc,vl,vr] w (.tuple #[agg (ah (mR cols l r).1),I (mR cols l r).2]):=by
  have Pg:=hc;have Fw:=hl;have hrr:=hr;obtain⟨A,m,rfl,⟨hm,nX⟩,hA⟩:=hc;obtain⟨C,n,rfl,⟨hn,hn'⟩,hC⟩:=hl;obtain⟨D,q,rfl,⟨hq,hq'⟩,hD⟩:=hr;have H:=Sep.aH w;obtain⟨res,ak⟩: ∃res,res=mR cols l r:=⟨_,rfl⟩;rw[<-ak];unfold mR at ak;refine AJ Tryz.func71 ?_;refine Az (λb6 w2 H2 k1=>?_);refine Kz (MN (Pg.keep H2.kept) (Fw.keep H2.kept) hx (hT.keep H2.kept)) (λw7 H7 k6=>?_);refine Az (λb8 wa Ha ka=>?_);refine Tz (λwb Hb=>?_);refine Cz (λIe=>?_) (λIe=>?_)
  . have bX:res=(cell0,(iM cols l).2):=by rw[ak,zac Ie]
    refine Sr (Vb (ah cell0) ?_);refine Mv ?_;refine Tz (λwc Hc=>?_);refine V1 ?_;exact⟨_,bF Hc,by rw[bX];rfl,Hc.kept⟩
  have aiX:(iM cols l).2=0:=by simpa using Ie
  obtain⟨h64,t,iw,htt⟩:=Wo aiX;rw[zaa (by simpa using aiX)]at ak;refine Kz (FP (Pg.keep Hb.kept) (hrr.keep Hb.kept) hf (hT.keep Hb.kept)) (λwd Hd kb=>?_);refine Cz (λIf=>?_) (λIf=>?_)
  . have bX:res=(cell0,fM cols r):=by rw[ak,zac If]
    refine Sr (Vb (ah cell0) ?_);refine Mv ?_;refine Tz (λwe He=>?_);refine V1 ?_;exact⟨_,bF He,by rw[bX];rfl,He.kept⟩
  have tV:fM cols r=0:=by simpa using If
  rw[zaa (by simpa using tV)]at ak;obtain⟨hlen,_⟩:=abt tV;refine Az (λb11 wf Hf kc=>?_);refine V3 ?_;have Hg:=Sep.iW ((Hf.aO.aF).firsts (l:=[_,_])) 47 3 ah;refine aI (λx:Nat×List aC×Value=>[(0,.slice A cols.length m),(2,.slice D r.length q),(6,.pointer (some ⟨b6,0,none⟩)),(11,.pointer (some ⟨b11,0,none⟩)),(35,.slice C l.length n),(36,I l.length),(37,I x.1)]) (λx w'=>(x.1<=l.length/\(∃ts,Typed ts x.2.1/\runT cols ts (l.drop x.1)=some [t])/\x.2.1.length<=x.1/\Cu cols r x.2.1 (l.drop x.1)=Cu cols r [] l)/\Sep w noB [aU 47 3 ah x.2.2 x.2.1,blk b11 [x.2.2] 189,blk b6 (ah cell0) 47] w') (λx _=>l.length-x.1) (0,[],.slice none 0 0) tR ⟨⟨zai _,⟨[],Typed.nil,iw⟩,zbi _,rfl⟩,Hg⟩ (λx τ wg hI=>?_);obtain⟨i,st,v0⟩:=x;obtain⟨⟨hi,⟨ts,hTy,hts⟩,YS,dK⟩,Hg⟩:=hI;dsimp only at hi hTy hts YS dK Hg;obtain⟨B,cb,rfl,Pv,hB⟩:=Sep.bH Hg At0;refine Lp ?_;refine Cz (λIg=>?_) (λIg=>?_)
  . have aX:i<l.length:=oM
    obtain⟨x,pG⟩:=get_some aX
    have hdr:l.drop i=x::l.drop (i+1):=by
      rw[zbn aX];rw[zab aX]at pG;injection pG with pG;rw[pG]
    rw[hdr,runT]at hts;rw[hdr,Cu,Js]at dK;obtain⟨ts',tu,afP⟩:=zdr.1 hts;have hfx:=hx x (zag pG);obtain⟨YX,Qj,hg⟩:=KE tV hf hfx hTy tu;obtain⟨jH,anA⟩:=QA YX;have hk2:=Qz x.kind;refine Az (λb13 wh Hh kd=>?_);refine Tz (λwi Hi=>?_);refine Kz (abZ x.kind) (λwj Hj ke=>?_);obtain⟨F0,eO,gQ,aK⟩:=Hj.focus At2;refine aL (TH eO Qj Pv oM) rfl rfl (λv' wk hv=>?_);obtain⟨rfl,cK,F1,qD,hs⟩:=hv;have Hk:=aK _ F1 _ cK qD hs;have Bj:(st.take (st.length-dH x.kind)).length=st.length-dH x.kind:=by rw[zah];omega
    refine Cz (λIh=>?_) (λIh=>?_)
    . have zF: ¬dH x.kind=0:=oM
      have hk7:7<=x.kind:=by
        refine Classical.byContradiction λh=>zF (uq.2 oM)
      obtain⟨a,ha⟩:=get_some (l:=st) (i:=st.length-dH x.kind) oM;obtain⟨b,hb⟩:=get_some (l:=st) (i:=st.length-1) oM;obtain⟨ta,Zh⟩:=get_some (l:=ts) (i:=st.length-dH x.kind) (by have:=hTy.1;omega);obtain⟨tb,VA⟩:=get_some (l:=ts) (i:=st.length-1) (by have:=hTy.1;omega);have oa:=hTy.2 _ ta a Zh ha;have ob:=hTy.2 _ tb b VA hb;have YT:resE cols r st x=jl x.kind a b:=by unfold resE;rw[zaa zF,jy ha,jy hb]
      have hs2:=Wu (d:=cell0) hk7 Qj;rw[jy ha,jy hb]at hs2;refine V3 ?_;refine aL (agr (ML (dP Hk At1) Pv (Sep.ajS Hk At1) Qj) hs2 hk7 anA oa.2 ob.2) rfl rfl (λv' wl hv=>?_);obtain⟨⟨cm,rfl,hcm⟩,cK⟩:=hv;have Hl:=Hk.keep cK;refine Az (λb16 wm Hm kf=>?_);refine Tz (λwn Hn=>?_);refine O3 ?_;refine Qn (Cd rfl (λIi=>?_) (λIi=>?_))
      . have mE:jl x.kind a b=none:=by
          cases h:jl x.kind a b with
          | none=>rfl
          | some y=>rw[h]at Ii;cases Ii
        rw[YT,mE]at dK;rw[<-dK]at ak;have bX:res=(cell0,50):=ak;refine Sr (Vb (ah cell0) ?_);refine Tz (λwo Ho=>?_);refine V1 ?_;exact⟨_,bF Ho,by rw[bX];rfl,Ho.kept⟩
      obtain⟨y,hy⟩: ∃y,jl x.kind a b=some y:=by
        cases h:jl x.kind a b with
        | none=>rw[h]at Ii;cases Ii
        | some y=>exact⟨y,rfl⟩
      have hcy:=hcm y hy;subst hcy;have Qi:resE cols r st x=some cm:=by rw[YT,hy]
      refine V1 ?_;refine Bs Hn ([cm].flatMap ah) (λbs wp Hp kg=>?_);obtain⟨F0,eO,gQ,aK⟩:=Hp.focus At4;have hRc:=(dP Hp At3).cut (st.length-dH x.kind);have AZ:aJ _ (.slice (some ⟨bs,0,none⟩) 1 1) ah 3 [cm]:=⟨some ⟨bs,0,none⟩,1,rfl,⟨sM,oM⟩,Sep.lV Hp At0 rfl⟩;refine aL (xK (l:=st.take (st.length-dH x.kind)) (by rw[Bj];exact eO) hRc AZ sM (by simp;omega)) rfl rfl (λv' wq hv=>?_);obtain⟨v2,rfl,_,cK,F1,qD,hs⟩:=hv;have Hq:=((aK _ F1 _ cK qD hs).gu).bE;refine V2 ?_;exact aj (i+1,st.take (st.length-dH x.kind)++[cm],v2) tR ⟨⟨dO,⟨ts',hg _ Qi,afP⟩,by dsimp only;rw[zad,Bj];simp;omega,by rw[Qi]at dK;exact dK⟩,(Hq.lu.aF.aO).firsts (l:=[_,_,_])⟩ dO
    have zF:dH x.kind=0:=oM;have YT:resE cols r st x=some (xg cols r x):=zac zF;have hk6:x.kind<=6:=by have:=uq.1 zF;omega
    refine Cz (λIj=>?_) (λIj=>?_)
    . obtain⟨ci,hci⟩:=Qx tu Ij
      have arF:=G6 hci;obtain⟨c0,hc0⟩:=get_some (l:=r) (i:=ci) oM;have Fx:xg cols r x=c0:=by unfold xg;rw[zac Ij,hci,zdg,jy hc0]
      have Qi:resE cols r st x=some c0:=by rw[YT,Fx]
      refine Kz (find_ok x.n (Pg.keep Hk.kept)) (λwr Hr kh=>?_);rw[hci,show zR (some ci)=((ci:Nat):Int)from rfl];refine Vv (Gives.fA rfl rfl hD (fI hc0)) (Vv (Gives.iA rfl Hr hD hc0) ?_);refine Bs Hr ([c0].flatMap ah) (λbs ws Hs ki=>?_);obtain⟨F0,eO,gQ,aK⟩:=Hs.focus At3;have hRc:=(dP Hs At2).cut (st.length-dH x.kind);have AZ:aJ _ (.slice (some ⟨bs,0,none⟩) 1 1) ah 3 [c0]:=⟨some ⟨bs,0,none⟩,1,rfl,⟨sM,oM⟩,Sep.lV Hs At0 rfl⟩;refine aL (xK (l:=st.take (st.length-dH x.kind)) (by rw[Bj];exact eO) hRc AZ sM (by simp;omega)) rfl rfl (λv' wt hv=>?_);obtain⟨v2,rfl,_,cK,F1,qD,hs⟩:=hv;have Ht:=((aK _ F1 _ cK qD hs).aS).bE;refine V2 ?_;exact aj (i+1,st.take (st.length-dH x.kind)++[c0],v2) tR ⟨⟨dO,⟨ts',hg _ Qi,afP⟩,by dsimp only;rw[zad,Bj];simp;omega,by rw[Qi]at dK;exact dK⟩,(Ht.jC.aF.aO).firsts (l:=[_,_,_])⟩ dO
    refine Cz (λIk=>?_) (λIk=>?_)
    . have Fx:xg cols r x=bK:=by unfold xg;rw[zaa oM,zac Ik]
      have Qi:resE cols r st x=some bK:=by rw[YT,Fx]
      refine V0 ?_;refine Vb (ah bK) ?_;refine Bs Hk ([bK].flatMap ah) (λbs wu Hu kj=>?_);obtain⟨F0,eO,gQ,aK⟩:=Hu.focus At3;have hRc:=(dP Hu At2).cut (st.length-dH x.kind);have AZ:aJ _ (.slice (some ⟨bs,0,none⟩) 1 1) ah 3 [bK]:=⟨some ⟨bs,0,none⟩,1,rfl,⟨sM,oM⟩,Sep.lV Hu At0 rfl⟩;refine aL (xK (l:=st.take (st.length-dH x.kind)) (by rw[Bj];exact eO) hRc AZ sM (by simp;omega)) rfl rfl (λv' wv hv=>?_);obtain⟨v2,rfl,_,cK,F1,qD,hs⟩:=hv;have Hv:=((aK _ F1 _ cK qD hs).aS).bE;refine V2 ?_;exact aj (i+1,st.take (st.length-dH x.kind)++[bK],v2) tR ⟨⟨dO,⟨ts',hg _ Qi,afP⟩,by dsimp only;rw[zad,Bj];simp;omega,by rw[Qi]at dK;exact dK⟩,(Hv.jC.aF.aO).firsts (l:=[_,_,_])⟩ dO
    have Fx:xg cols r x=⟨false,x.n,x.s⟩:=by unfold xg;rw[zaa oM,zaa oM]
    have Qi:resE cols r st x=some ⟨false,x.n,x.s⟩:=by rw[YT,Fx]
    refine V4 ?_;refine Vb (ah ⟨false,x.n,x.s⟩) ?_;refine Bs Hk ([(⟨false,x.n,x.s⟩:aC)].flatMap ah) (λbs ww Hw kk=>?_);obtain⟨F0,eO,gQ,aK⟩:=Hw.focus At3;have hRc:=(dP Hw At2).cut (st.length-dH x.kind);have AZ:aJ _ (.slice (some ⟨bs,0,none⟩) 1 1) ah 3 [(⟨false,x.n,x.s⟩:aC)]:=⟨some ⟨bs,0,none⟩,1,rfl,⟨sM,oM⟩,Sep.lV Hw At0 rfl⟩;refine aL (xK (l:=st.take (st.length-dH x.kind)) (by rw[Bj];exact eO) hRc AZ sM (by simp;omega)) rfl rfl (λv' wx hv=>?_);obtain⟨v2,rfl,_,cK,F1,qD,hs⟩:=hv;have Hx:=((aK _ F1 _ cK qD hs).aS).bE;refine V2 ?_;exact aj (i+1,st.take (st.length-dH x.kind)++[⟨false,x.n,x.s⟩],v2) tR ⟨⟨dO,⟨ts',hg _ Qi,afP⟩,by dsimp only;rw[zad,Bj];simp;omega,by rw[Qi]at dK;exact dK⟩,(Hx.jC.aF.aO).firsts (l:=[_,_,_])⟩ dO
  have jG:i=l.length:=oM;rw[jG,zdz,runT]at hts;rw[jG,zdz,Cu]at dK;rw[<-dK]at ak;have anv:ts=[t]:=by injection hts
  have h1:st.length=1:=by rw[<-hTy.1,anv];rfl
  obtain⟨c,Tq⟩:=zfo.1 h1;have hg0:st[0]? =some c:=by rw[Tq];rfl
  have bX:res=(c,0):=by rw[ak,Tq];rfl
  refine V2 ?_;refine Vv (Gives.fA (i:=0) rfl rfl hB oM) (Vv (Gives.pF (i:=0) rfl hB hg0) ?_);refine Tz (λwy Hy=>?_);refine V1 ?_;exact⟨_,bF Hy,by rw[bX];rfl,Hy.kept⟩
end
end
variable {w:Wd}
end Go.Proofs.Mw
