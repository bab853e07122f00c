/-
 The program's Type,walked.
-/
import Derived.Test.YtjcgliljofbopaaGreatDoorNv11
import Derived.Lib.RowBridge
set_option linter.all false
set_option maxRecDepth 4000
namespace Go.Proofs.Mw
open Go.Lib Go.Proofs.Tryz
variable {x:bI} {k:Int} {cols:List bY} {vc vl:Value}
attribute [local irreducible] FW FL FG FGn jK jO fI lU Qfn Gives
section
def abb (K:Nat) (A:OA) (n c k:Nat):Value:=if k<=n then .slice (if c=n-k then A else A.map (·.add ((n-k)*K))) k (c-(n-k))else .slice none 0 0
def leftV (A:OA) (n c k:Nat):Value:=if k<=n then .slice A (n-k) (n-k)else .slice A n c
def PZ (k:Int):dA k<=2:=by unfold dA;(repeat' split)<;>omega
def P5 (h:dP x=true):1<=x.kind/\x.kind<=18:=by
 unfold dP at h
 repeat' split at h
 all_goals first | omega | (have:=zbd h;omega)
def tN:dA k=0↔k<7:=by
 unfold dA
 split
 .simp[*]
 split<;>simp<;>omega
def Vm {α:Type} {st:List α} {d:α} (h7:7<=k) (hk:dA k<=st.length):AY k (st.drop (st.length-dA k)) (st.getD (st.length-dA k) d) (st.getD (st.length-1) d):=by
 unfold dA at hk ⊢;rw[zab oM]at hk |-
 by_cases h1:k=10\/k=15\/k=16\/k=18
 .rw[zac h1]at hk |-
  left
  refine⟨?_,rfl,h1⟩;have aS:st.length-1<st.length:=oM;rw[zbn aS,zbv oM,zax,zaa aS];rfl
 rw[zab h1]at hk |-
 right
 refine⟨?_,oM⟩;have aS:st.length-2<st.length:=oM;have KW:st.length-2+1<st.length:=oM;have e:st.length-1=st.length-2+1:=oM;rw[e,zbn aS,zbn KW,zbv oM,zax,zaa aS,zax,zaa KW];rfl
def OW (cols:List bY) (st:List bM) (x:bI):Option bM:=
 if dA x.kind=0 then qL cols x else vG x.kind (st.getD (st.length-dA x.kind) gT) (st.getD (st.length-1) gT)
def YN {st:List bM} (h1:dP x=true) (h2:dA x.kind<=st.length):stepT cols st x=(OW cols st x).map λt=>st.take (st.length-dA x.kind)++[t]:=by
 unfold stepT OW;dsimp only;rw[zab (by rw[h1];simp;omega)]
def GR {st:List bM} (h:dP x=false\/st.length<dA x.kind):stepT cols st x=none:=by
 unfold stepT;dsimp only;rw[zac h]
def Sep.aiR {α:Type} {enc:α->LV} {k e n c:Nat} {l:List α} {A:OA} {w w0:Wd} {S:NP} {rs:List HP} {put:HP->List HP} (H:Sep w0 S rs w) (hat:At rs (aY e k enc (.slice A n c) l) put):c<=9223372036854775807:=by
 obtain⟨F,hp,_,_⟩:=H.focus hat
 rcases hp.1.2 with⟨hv,h0⟩ | ⟨g,cap,cur,hv,_,hh,rG,hmax,_⟩
 .injection hv with _ _ h;omega
 injection hv with _ _ h;unfold maxLen at hmax;omega
def Mf {α:Type} {enc:α->LV} {k:Nat} [hk:je enc k] {w:Wd} {A:OA} {l:List α} {c j:Nat} (h:Rd w A enc k l) (hc:l.length<=c) (hc2:c<=9223372036854775807) (hj:j<=l.length):aJ w (.slice (if c=l.length-j then A else A.map (·.add ((l.length-j)*k))) j (c-(l.length-j))) enc k (l.drop (l.length-j)):=by
 refine⟨if c=l.length-j then A else A.map (·.add ((l.length-j)*k)),c-(l.length-j),?_,⟨?_,?_⟩,h.aon (l.length-j) hc⟩
 .rw[zbo,show l.length-(l.length-j)=j from oM]
 .rw[zbo];omega
 omega
section
variable {w:Wd}
def YO {b E n c k:Nat} {A:OA} {F:NP} {f:FuncId} (hp:(blk b [.slice A n c] E).ok F w) (hk:k<=1000000)
    (EH:k<=n->aR prog f [.pointer (some ⟨b,0,none⟩),I k] w λv w'=>v=.tuple #[.slice (if c=n-k then A else A.map (·.add ((n-k)*2))) k (c-(n-k)),.bool true]/\Turn F (blk b [.slice A (n-k) (n-k)] E) w w')
    (l9:n<k->aR prog f [.pointer (some ⟨b,0,none⟩),I k] w λv w'=>v=.tuple #[.slice none 0 0,.bool false]/\Turn F (blk b [.slice A n c] E) w w'):
    aR prog f [.pointer (some ⟨b,0,none⟩),I k] w λv w'=>v=.tuple #[abb 2 A n c k,.bool (decide (k<=n))]/\Turn F (blk b [leftV A n c k] E) w w':=by
  by_cases h:k<=n
  . rw[abb,leftV,zac h,zac h,zap h];exact EH h
  rw[abb,leftV,zab h,zab h,zal h];exact l9 oM
attribute [local irreducible] dP nZ qL vG
theorem Mg {l:List bI} (hc:aJ w vc aP 7 cols) (hl:aJ w vl aM 3 l) (hx: ∀x∈l,fits x.n) (hT:mX w):Rk prog 47 [vc,vl] w (.tuple #[agg (aD (iJ cols l).1),I (iJ cols l).2]):=by
  have OM:=hc;obtain⟨A,m,rfl,⟨hm,om⟩,hA⟩:=hc;obtain⟨C,n,rfl,⟨hn,hn'⟩,hC⟩:=hl;have H:=Sep.aF w;obtain⟨res,ak⟩: ∃res,res=iJ cols l:=⟨_,rfl⟩;rw[<-ak];unfold iJ at ak;refine sQ func47 ?_;refine Az (λb4 w2 H2 k1=>?_);refine Cz (λYz=>?_) (λYz=>?_)
  . rw[zac oM]at ak
    refine Sr (Vb (aD gT) ?_);refine Tz (λwa Ha=>?_);refine Zb1 ?_;exact⟨_,bE Ha,by rw[ak];rfl,Ha.kept⟩
  rw[zab oM]at ak;refine Az (λb6 wb Hb ka=>?_);refine Zb3 ?_;have Hc:=Sep.iW Hb 65 2 aD;refine aI (λx:Nat×List bM×Value=>[(0,.slice A cols.length m),(4,.pointer (some ⟨b4,0,none⟩)),(6,.pointer (some ⟨b6,0,none⟩)),(16,.slice C l.length n),(17,I l.length),(18,I x.1)]) (λx w'=>(x.1<=l.length/\x.2.1.length<=x.1/\runT cols x.2.1 (l.drop x.1)=runT cols [] l)/\Sep w noB [aY 65 2 aD x.2.2 x.2.1,blk b6 [x.2.2] 157,blk b4 (aD gT) 65] w') (λx _=>l.length-x.1) (0,[],.slice none 0 0) tR ⟨⟨zak _,zbj _,rfl⟩,Hc⟩ (λx τ wc hI=>?_);obtain⟨i,st,v0⟩:=x;obtain⟨⟨hi,X9,dJ⟩,Hc⟩:=hI;dsimp only at hi X9 dJ Hc;obtain⟨B,cb,rfl,OO,hB⟩:=Sep.bJ Hc At0;refine Lp ?_;refine Cz (λIe=>?_) (λIe=>?_)
  . have aS:i<l.length:=oM
    obtain⟨x,oZ⟩:=get_some aS
    have hdr:l.drop i=x::l.drop (i+1):=by
      rw[zbn aS];rw[zaa aS]at oZ;injection oZ with oZ;rw[oZ]
    rw[hdr,runT]at dJ;have hfx:=hx x (zag oZ);have hk2:=PZ x.kind;refine Az (λb8 wd Hd kb=>?_);refine Tz (λwe He=>?_);refine Kz (aa7 x.kind) (λwf Hf kc=>?_);obtain⟨F0,eD,gV,aK⟩:=Hf.focus At2;refine aL (YO eD oM (λh=>RV eD h OO oM) (λh=>Mc eD h oM)) rfl rfl (λv' wg hv=>?_);obtain⟨rfl,bZ,F1,hq,hs⟩:=hv;have Hg:=aK _ F1 _ bZ hq hs;refine Sz (λSa=>?_) (λSa=>?_)
    . rw[GR (.inr oM)]at dJ
      rw[<-dJ]at ak;have bT:res=(gT,220):=ak;refine Zb1 ?_;refine Vb (aD gT) ?_;refine Tz (λwh Hh=>?_);refine Zb1 ?_;exact⟨_,bE Hh,by rw[bT];rfl,Hh.kept⟩
    have Px:dA x.kind<=st.length:=oM;rw[abb,zac Px];rw[leftV,zac Px]at Hg;refine Kz (YM x hfx (hT.keep Hg.kept)) (λwi Hi kd=>?_);refine Za2 ?_;refine Qn (Cd rfl (λIf=>?_) (λIf=>?_))
    . rw[GR (.inl (by have h:=If;revert h;cases dP x<;>simp))]at dJ
      rw[<-dJ]at ak;have bT:res=(gT,220):=ak;refine Sr (Vb (aD gT) ?_);refine Tz (λwj Hj=>?_);refine Zb1 ?_;exact⟨_,bE Hj,by rw[bT];rfl,Hj.kept⟩
    have Ye:dP x=true:=by have h:=If;revert h;cases dP x<;>simp
    obtain⟨lI,amv⟩:=P5 Ye;rw[YN Ye Px]at dJ;refine Az (λb11 wk Hk ke=>?_);refine Qn (dD (λtp:bM=>[(0,.slice A cols.length m),(4,.pointer (some ⟨b4,0,none⟩)),(6,.pointer (some ⟨b6,0,none⟩)),(8,.pointer (some ⟨b8,0,none⟩)),(10,.bool (OW cols st x).isSome),(11,.pointer (some ⟨b11,0,none⟩)),(16,.slice C l.length n),(17,I l.length),(18,I i)]) (λtp w'=>(∀y,OW cols st x=some y->tp=y)/\Sep w noB [blk b11 (aD tp) 65,blk b8 (aM x) 97,aY 65 2 aD (.slice B st.length cb) st,blk b6 [.slice B (st.length-dA x.kind) (st.length-dA x.kind)] 157,blk b4 (aD gT) 65] w') ?_ ?_)
    . refine Cz (λIg=>?_) (λIg=>?_)
      . have y8:dA x.kind=0:=oM
        have hrt:OW cols st x=qL cols x:=zac y8;have hk6:x.kind<=6:=by have:=tN.1 y8;omega
        refine Kz (alv x (OM.keep Hk.kept) lI hk6) (λwl Hl kf=>?_);refine Tz (λwm Hm=>?_);refine Zb1 ?_;exact au ((qL cols x).getD gT) ⟨rfl,rfl,rfl,rfl,by rw[hrt];rfl,rfl,rfl,rfl,rfl,trivial⟩ ⟨λy hy=>by rw[hrt]at hy;rw[hy];rfl,Hm⟩
      have y8: ¬dA x.kind=0:=oM;have hrt:OW cols st x=vG x.kind (st.getD (st.length-dA x.kind) gT) (st.getD (st.length-1) gT):=zab y8
      have hk7:7<=x.kind:=by
        refine Classical.byContradiction λh=>y8 (tN.2 oM)
      refine Zb3 ?_;refine aL (afr (Mf (eX Hk At2) OO (Sep.aiR Hk At2) Px) (Vm (d:=gT) hk7 Px) hk7 amv) rfl rfl (λv' wn hv=>?_);obtain⟨⟨tp,rfl,htp⟩,bZ⟩:=hv;have Hn:=Hk.keep bZ;refine Tz (λwo Ho=>?_);refine Zb1 ?_;exact au tp ⟨rfl,rfl,rfl,rfl,by rw[hrt];rfl,rfl,rfl,rfl,rfl,trivial⟩ ⟨λy hy=>by rw[hrt]at hy;exact htp y hy,Ho⟩
    rintro tp τ wp ⟨htp,Hp⟩;refine Lp ?_;refine Za2 ?_;refine Qn (Cd rfl (λIh=>?_) (λIh=>?_))
    . have l9:OW cols st x=none:=by
        cases h:OW cols st x with
        | none=>rfl
        | some y=>rw[h]at Ih;cases Ih
      rw[l9]at dJ;rw[<-dJ]at ak;have bT:res=(gT,220):=ak;refine Sr (Vb (aD gT) ?_);refine Tz (λwq Hq=>?_);refine Zb1 ?_;exact⟨_,bE Hq,by rw[bT];rfl,Hq.kept⟩
    obtain⟨y,hy⟩: ∃y,OW cols st x=some y:=by
      cases h:OW cols st x with
      | none=>rw[h]at Ih;cases Ih
      | some y=>exact⟨y,rfl⟩
    have hty:=htp y hy;subst hty;rw[hy]at dJ;refine Zb1 ?_;refine Bs Hp ([tp].flatMap aD) (λbs wr Hr kg=>?_);obtain⟨F0,eD,gV,aK⟩:=Hr.focus At4;have AJ:(st.take (st.length-dA x.kind)).length=st.length-dA x.kind:=by rw[zah];omega
    have hRc:=(eX Hr At3).cut (st.length-dA x.kind);have Ag:aJ _ (.slice (some ⟨bs,0,none⟩) 1 1) aD 2 [tp]:=⟨some ⟨bs,0,none⟩,1,rfl,⟨sM,oM⟩,Sep.lK Hr At0 rfl⟩;refine aL (Vi (l:=st.take (st.length-dA x.kind)) (by rw[AJ];exact eD) hRc Ag sM (by simp;omega)) rfl rfl (λv' ws hv=>?_);obtain⟨v2,rfl,_,bZ,F1,hq,hs⟩:=hv;have Hs:=((aK _ F1 _ bZ hq hs).gG).bL;refine Zb2 ?_;exact aj (i+1,st.take (st.length-dA x.kind)++[tp],v2) tR ⟨⟨dO,by dsimp only;rw[zad,AJ];simp;omega,dJ⟩,(Hs.jZ.aG.aN).firsts (l:=[_,_,_])⟩ dO
  have jF:i=l.length:=oM;rw[jF,zef,runT]at dJ;rw[<-dJ]at ak;refine Cz (λIi=>?_) (λIi=>?_)
  . have bT:res=(gT,220):=by
      rw[ak]
      match st,Ii with
      | [],_=>rfl
      | [t],h=>exact zar rfl h
      | t::u::r,_=>rfl
    refine Sr (Vb (aD gT) ?_);refine Tz (λwt Ht=>?_);refine Zb1 ?_;exact⟨_,bE Ht,by rw[bT];rfl,Ht.kept⟩
  obtain⟨t,ht⟩: ∃t,st=[t]:=zfo.1 oM;have hg0:st[0]? =some t:=by rw[ht];rfl
  have bT:res=(t,0):=by rw[ak,ht]
  refine Zb2 ?_;refine Vv (Gives.fF (i:=0) rfl rfl hB oM) (Vv (Gives.oW (i:=0) rfl hB hg0) ?_);refine Tz (λwu Hu=>?_);refine Zb1 ?_;exact⟨_,bE Hu,by rw[bT];rfl,Hu.kept⟩
end
end
variable {a b:aC} {l:List aC}
section
def vP (a b:Int):Int:=if a<b then -1 else if b<a then 1 else 0
def orI (l:List Int):Int:=(l.find? λx=>decide (x≠0)).getD 0
def aly (a b:aC) (h:a.null=b.null):orI [vP a.n b.n,compareBytes a.s b.s]=nk a b:=by
 unfold orI vP nk;rw[zac h]
 by_cases h1:a.n<b.n
 .rw[zac h1,zac h1];rfl
 rw[zab h1,zab h1]
 by_cases h2:b.n<a.n
 .rw[zac h2,zac h2];rfl
 rw[zab h2,zab h2]
 rcases JJ a.s b.s with e | e | e<;>rw[e]<;>rfl
def CF {a b:Int} (h0:a≠0) (ha:fits a) (hb:fits b):(IntKind.i64.wrap ((IntKind.i64.wrap (a*b)).tdiv a)≠b\/(a= -1/\b= -9223372036854775808))↔¬aW (a*b)=true:=by
 obtain⟨UH,UW⟩:=ha;obtain⟨EL,hb2⟩:=hb
 by_cases hm:a= -1
 .subst hm
  have e:(-1:Int)*b= -b:=oM;rw[e];have hf:aW (-b)=decide (b≠ -9223372036854775808):=by unfold aW;rw[zbf];omega
  rw[hf]
  by_cases akc:b= -9223372036854775808
  .subst akc;decide
  have e2:IntKind.i64.wrap (-b)= -b:=wrap64 oM;have e3:(-b).tdiv (-1)=b:=by rw[Int.tdiv_neg,Int.tdiv_one];omega
  rw[e2,e3,wrap64 ⟨EL,hb2⟩];simp[akc]
 have hq:=X3 (n:=IntKind.i64.wrap (a*b)) (by rw[IntKind.wrap_i64];omega) h0 hm;rw[wrap64 hq];have:=RF (a:=b) (b:=a) h0 ⟨UH,UW⟩;rw[Int.mul_comm b a]at this;rw[<-this];constructor
 .rintro(h | h)
  .exact h
  exact zar h.1 hm
 exact .inl
section
variable {w:Wd}
def dR (b:Bool):Rk prog 140 [.bool b] w (agg (ah (gW b))):=by
 have H:=Sep.aF w;refine oV func140 ?_;refine Az (λb1 _ _ _=>?_);refine Za1 ?_;refine Qn (Cd rfl (λk=>?_) (λk=>?_))
 .have hb:=k
  refine Sr (Vb (ah (gW true)) ?_);refine Tz (λ_ S=>?_);refine Zb0 ?_;exact⟨_,fB S,by rw[show b=true by simpa using hb];rfl,S.kept⟩
 have hb:=k;refine Zb0 ?_;refine Vb (ah (gW false)) ?_;refine Tz (λ_ S=>?_);refine Zb0 ?_;exact⟨_,fB S,by rw[show b=false by simpa using hb];rfl,S.kept⟩
def Vp (n:Int):aR prog 264 [I n] w λv w'=>v=.bool false/\w=w':=by
 have H:=Sep.aF w;refine cK func264 ?_;refine Zb5 ?_;exact⟨zaw Value.bool sM,rfl⟩
def aiS (a b:Int):aR prog 194 [I a,I b] w λv w'=>v=I (vP a b)/\w=w':=by
 have H:=Sep.aF w;refine bQ func194 ?_;refine Zb2 ?_;refine eB (Vp a) (h:=?_);refine Zb2 ?_;refine eB (Vp b) (h:=?_);refine Za2 ?_;refine Qn (Cd rfl (λk=>?_) (λk=>?_))
 .cases k
 refine Za1 ?_;refine Qn (Cd rfl (λk=>?_) (λk=>?_))
 .cases k
 refine Cz (λk=>?_) (λk=>?_)
 .have h1:=k
  refine Zb1 ?_;exact⟨by unfold vP;rw[zac h1];rfl,rfl⟩
 have h1:=k;refine Cz (λk=>?_) (λk=>?_)
 .have h2:=k
  refine Zb1 ?_;exact⟨by unfold vP;rw[zab h1,zac oM];rfl,rfl⟩
 have h2:=k;refine Zb1 ?_;exact⟨by unfold vP;rw[zab h1,zab oM];rfl,rfl⟩
def alz {l:List Int} {v:Value} (hl:aJ w v intCells 1 l):Rk prog 193 [v] w (I (orI l)):=by
 obtain⟨A,m,rfl,⟨hm,om⟩,hA⟩:=hl;have H:=Sep.aF w;refine cK func193 ?_;refine Zb5 ?_;refine aI (λi:Nat=>[(3,I 0),(6,.slice A l.length m),(7,I l.length),(8,I i)]) (λi w'=>(i<=l.length/\orI (l.drop i)=orI l)/\Sep w noB [] w') (λi _=>l.length-i) 0 tR ⟨⟨zak _,rfl⟩,H⟩ (λi τ _ hI=>?_);obtain⟨⟨hi,dJ⟩,k⟩:=hI;refine Lp ?_;refine Cz (λS=>?_) (λS=>?_)
 .have aS:i<l.length:=oM
  obtain⟨y,hy⟩:=get_some aS
  have hdr:l.drop i=y::l.drop (i+1):=by
   rw[zbn aS];rw[zaa aS]at hy;injection hy with hy;rw[hy]
  rw[hdr]at dJ;refine Cz (λS=>?_) (λS=>?_)
  .have bT:orI l=y:=by rw[<-dJ];unfold orI;rw[zch,zap S];rfl
   refine Zb2 ?_;exact⟨by rw[bT];rfl,k.kept⟩
  have UK:orI (l.drop (i+1))=orI l:=by rw[<-dJ];unfold orI;rw[zch,zal S]
  refine Zb2 ?_;exact aj (i+1) tR ⟨⟨oM,UK⟩,k⟩ oM
 have jF:i=l.length:=oM;rw[jF,zef]at dJ;refine Zb2 ?_;exact⟨by rw[<-dJ];rfl,k.kept⟩
def afu (a b:Int) (ha:fits a) (hb:fits b):aR prog 196 [I a,I b] w λv w'=>(∃c,v=.tuple #[I c,.bool (aW (a*b))]/\(aW (a*b)=true->c=a*b))/\Kept noB w w':=by
 have H:=Sep.aF w;refine bQ func196 ?_;refine Zb4 ?_;refine Vv (Gives.aok (c:=IntKind.i64.wrap (a*b)) rfl rfl rfl) (Sz (λk=>?_) (λk=>?_))
 .have h0:a≠0:=oM
  refine Zb2 ?_;refine Vv (Gives.aol (c:=IntKind.i64.wrap ((IntKind.i64.wrap (a*b)).tdiv a)) rfl rfl oM rfl) (Sz (λk=>?_) (λk=>?_))
  .have hA:=k
   have l9:aW (a*b)=false:=by simpa using (CF h0 ha hb).1 (.inl hA)
   refine Zb4 ?_;exact⟨⟨0,by rw[l9];rfl,λh=>by rw[l9]at h;cases h⟩,H.kept⟩
  have hA:=k;refine Sz (λk=>?_) (λk=>?_)
  .have hB:=k
   refine Cz (λS=>?_) (λS=>?_)
   .have l9:aW (a*b)=false:=by simpa using (CF h0 ha hb).1 (.inr ⟨hB,S⟩)
    refine Zb2 ?_;exact⟨⟨0,by rw[l9];rfl,λh=>by rw[l9]at h;cases h⟩,H.kept⟩
   have EH:aW (a*b)=true:=Classical.byContradiction λh=>by
    rcases (CF h0 ha hb).2 h with h1 | h1
    .exact hA h1
    exact S h1.2
   refine Zb3 ?_;exact⟨⟨IntKind.i64.wrap (a*b),by rw[EH];rfl,λh=>wrap64 (zbd h)⟩,H.kept⟩
  have hB:=k
  have EH:aW (a*b)=true:=Classical.byContradiction λh=>by
   rcases (CF h0 ha hb).2 h with h1 | h1
   .exact hA h1
   exact hB h1.1
  refine Zb6 ?_;exact⟨⟨IntKind.i64.wrap (a*b),by rw[EH];rfl,λh=>wrap64 (zbd h)⟩,H.kept⟩
 have h0:a=0:=oM;have EH:aW (a*b)=true:=by rw[h0,Int.zero_mul];rfl
 refine Zb4 ?_;exact⟨⟨IntKind.i64.wrap (a*b),by rw[EH];rfl,λh=>wrap64 (zbd h)⟩,H.kept⟩
def JY (k a b:Int):Int:=if k=7 then a+b else if k=8 then a-b else if k=9 then a*b else -a
def P6 (k a b:Int) (ha:fits a) (hb:fits b):aR prog 142 [I k,I a,I b] w λv w'=>(∃c,v=.tuple #[I c,.bool (aW (JY k a b))]/\(aW (JY k a b)=true->c=JY k a b))/\Kept noB w w':=by
 have H:=Sep.aF w;have YA:=ha;have Yf:=hb;obtain⟨UH,UW⟩:=ha;obtain⟨EL,hb2⟩:=hb;obtain⟨res,ak⟩: ∃res,res=JY k a b:=⟨_,rfl⟩;rw[<-ak];unfold JY at ak;refine AP func142 ?_;refine Cz (λS=>?_) (λS=>?_)
 .rw[zac S]at ak
  refine Zb2 ?_;refine Vv (Gives.aaz (c:=IntKind.i64.wrap (a+b)) rfl rfl rfl) (aew ?_);exact⟨⟨_,zaw (λb=>Value.tuple #[I _,.bool b]) (by rw[ak];unfold aW;rw[zdt,beq_iff_eq,zbf,decide_eq_true_eq,IntKind.wrap_i64];omega),λh=>by have:=zbd h;rw[ak]at this ⊢;exact wrap64 this⟩,H.kept⟩
 rw[zab S]at ak;refine Cz (λS=>?_) (λS=>?_)
 .rw[zac S]at ak
  refine Zb2 ?_;refine Vv (Gives.amk (c:=IntKind.i64.wrap (a-b)) rfl rfl rfl) (aew ?_);exact⟨⟨_,zaw (λb=>Value.tuple #[I _,.bool b]) (by rw[ak];unfold aW;rw[zdt,beq_iff_eq,zbf,decide_eq_true_eq,IntKind.wrap_i64];omega),λh=>by have:=zbd h;rw[ak]at this ⊢;exact wrap64 this⟩,H.kept⟩
 rw[zab S]at ak;refine Cz (λS=>?_) (λS=>?_)
 .rw[zac S]at ak
  refine Zb2 ?_;refine aL (afu a b YA Yf) rfl rfl (λv' _ hv=>?_);obtain⟨⟨cp,rfl,YB⟩,bZ⟩:=hv;have d:=H.keep bZ;refine Zb4 ?_;exact⟨⟨cp,by rw[ak];rfl,λh=>by rw[ak]at h ⊢;exact YB h⟩,d.kept⟩
 rw[zab S]at ak;refine Zb1 ?_;refine Vv (Gives.aj4 (c:=IntKind.i64.wrap (0-a)) rfl rfl) (Zb4 ?_);exact⟨⟨_,zaw (λb=>Value.tuple #[I (IntKind.i64.wrap (0-a)),.bool b]) (by rw[ak];unfold aW;rw[zbf];omega),λh=>by have:=zbd h;rw[ak]at this ⊢;rw[wrap64 oM];omega⟩,H.kept⟩
end
attribute [local irreducible] gW
section
variable {w:Wd}
def rR (a b:aC):Rk prog 141 [agg (ah a),agg (ah b)] w (I (nk a b)):=by
 have H:=Sep.aF w;refine bQ func141 ?_;refine Sr (bB H (cs:=ah a) rfl (h:=λb0 _ k _=>?_));refine bB k (cs:=ah b) rfl (h:=λb1 _ k _=>?_);refine Cz (λS=>?_) (λS=>?_)
 .have hn:=S
  refine Dz (λc _ d=>?_);refine Zb4 ?_;refine Gp c 5 rfl rfl (λ_=>(Gives.xL rfl)) (Zb3 ?_);refine Le c 4 [(8,false),(7,true),(6,false),(5,true)] d (aiS a.n b.n) (h:=λ_ d=>⟨sL,?_⟩);refine Le c 9 _ d (j6 (Tryz.strings_Compare ⟨a.s.toArray⟩ ⟨b.s.toArray⟩ _)) (h:=λ_ d=>⟨sT,?_⟩);refine Gz c 10 _ d ([vP a.n b.n,compareBytes a.s b.s].flatMap intCells) (h:=λbs _ d=>⟨sT,?_⟩);have tq:aJ _ (.slice (some ⟨bs,0,none⟩) 2 2) intCells 1 [vP a.n b.n,compareBytes a.s b.s]:=⟨some ⟨bs,0,none⟩,2,rfl,⟨sM,oM⟩,Sep.lK d At0 rfl⟩;refine dB c 11 _ d (alz tq) (h:=λ_ d _=>⟨sT,?_⟩);refine Zb1 ?_;exact⟨by rw[<-aly a b hn];rfl,d.kept⟩
 have hn:=S;refine Za3 ?_;refine Qn (Cd rfl (λd=>?_) (λd=>?_))
 .have hna:=d
  refine Zb1 ?_;exact⟨by unfold nk;rw[zab hn,zac hna];rfl,k.kept⟩
 have hna:=d;refine Zb1 ?_;exact⟨by unfold nk;rw[zab hn,zab (by rw[hna];simp)];rfl,k.kept⟩
def yA {b:Nat} {E:Td} (c:aC) (hb:w.heap[b]? =some (.cells #[vl] E (0,0))) (hl:aJ w vl ah 3 l):Rk prog 191 [agg (ah c),.pointer (some ⟨b,0,none⟩)] w (.bool (l.any λy=>decide (c=y))):=by
 have H:=Sep.aF w;refine bQ func191 ?_;refine Sr (bB H (cs:=ah c) rfl (h:=λb0 _ k _=>?_));refine Zb1 ?_;refine dM (cs:=[vl]) (k.kept.get hb id) (h:=?_);refine Kz (Vd c (hl.keep k.kept)) (λ_ k _=>?_);refine Zb1 ?_;exact⟨rfl,k.kept⟩
def E9 (hs:AY k l a b) (c:aC):(l.any λy=>decide (c=y))=decide (a=c\/b=c):=by
 rw[hs.any];rw[zdt,Bool.or_eq_true,decide_eq_true_eq,decide_eq_true_eq,decide_eq_true_eq];exact⟨λh=>h.imp Eq.symm Eq.symm,λh=>h.imp Eq.symm Eq.symm⟩
theorem GU (hl:aJ w vl ah 3 l) (hs:AY k l a b):Rk prog 139 [I k,vl] w (agg (ah (vH k a b))):=by
 have EM:=hl;obtain⟨A,m,rfl,⟨hm,om⟩,hA⟩:=hl;have H:=Sep.aF w;obtain⟨hga,_,Gx⟩:=hs.get;obtain⟨res,ak⟩: ∃res,res=vH k a b:=⟨_,rfl⟩;rw[<-ak];unfold vH at ak;refine sQ func139 ?_;refine Sr (bB H (cs:=[.slice A l.length m]) rfl (h:=λb0 _ _ _=>?_));refine Az (λb1 _ S _=>?_);refine Sz (λc=>?_) (λc=>?_)
 .have amw:k=13:=c
  refine Kz (dR _) (λ_ d _=>?_);refine On ?_;have D6:=d.obj At1;refine eP (fs:=[]) (cs:=[.pointer (some ⟨b0,0,none⟩)]) (vals:=[_]) rfl (yA (gW false) D6 (EM.keep d.kept)) rfl rfl (λv' _ hv=>?_);obtain⟨rfl,bZ⟩:=hv;have e:=d.keep bZ;rw[E9 hs];refine Cz (λd=>?_) (λd=>?_)
  .rw[zac ⟨amw,d⟩]at ak
   refine Sk (dQ (zaw Value.bool (zap d)) ?_);refine Kz (dR _) (λ_ _ _=>?_);refine Tz (λ_ f=>?_);refine Zb0 ?_;exact⟨_,fB f,by rw[ak,show decide (k=14)=false from zal oM];rfl,f.kept⟩
  rw[zab (λh=>d h.2),zab (λh=>oM)]at ak;refine Sz (λf=>?_) (λf=>?_)
  .exact zar f oM
  refine Zb3 ?_;refine Vb (ah bF) ?_;have D6:=e.obj At1;refine eP (fs:=[]) (cs:=[.pointer (some ⟨b0,0,none⟩)]) (vals:=[_]) rfl (yA bF D6 (EM.keep e.kept)) rfl rfl (λv' _ hv=>?_);obtain⟨rfl,bZ⟩:=hv;have f:=e.keep bZ;rw[E9 hs];refine Am ?_;refine Cz (λf=>?_) (λf=>?_)
  .rw[zac f]at ak
   refine Sr (Vb (ah bF) ?_);refine Tz (λ_ e=>?_);refine Zb0 ?_;exact⟨_,fB e,by rw[ak];rfl,e.kept⟩
  rw[zab f]at ak;refine Cz (λe=>?_) (λe=>?_)
  .rw[zac e]at ak
   refine Dz (λf _ d=>?_);refine Zb3 ?_;refine dB f 3 [(2,false),(1,true),(0,false)] d (dR _) (h:=λ_ d _=>⟨(bK rfl kR (Gives.iH (i:=0) rfl d hA hga) rfl (av (iI d (h:=eu)))),?_⟩);refine Gp f 4 rfl rfl (λ_=>(Gives.aer (enc:=ah) _ _ rfl rfl)) (dB f 5 _ d (dR _) (h:=λ_ d _=>⟨sT,?_⟩));refine bN f 6 _ d (h:=λ_ d=>⟨sT,?_⟩);refine Zb0 ?_;exact⟨_,fB d,by rw[ak];rfl,d.kept⟩
  rw[zab e]at ak;refine Kz (dR _) (λ_ _ _=>?_);refine Tz (λ_ d=>?_);refine Zb0 ?_;exact⟨_,fB d,by rw[ak];rfl,d.kept⟩
 have amw: ¬k=13:=c;rw[zab (λh=>amw h.1)]at ak;refine Sz (λd=>?_) (λd=>?_)
 .have amx:k=14:=d
  refine Kz (dR _) (λ_ c _=>?_);refine On ?_;have D6:=c.obj At1;refine eP (fs:=[]) (cs:=[.pointer (some ⟨b0,0,none⟩)]) (vals:=[_]) rfl (yA (gW true) D6 (EM.keep c.kept)) rfl rfl (λv' _ hv=>?_);obtain⟨rfl,bZ⟩:=hv;have e:=c.keep bZ;rw[E9 hs];refine Cz (λc=>?_) (λc=>?_)
  .rw[zac ⟨amx,c⟩]at ak
   refine Kz (dR _) (λ_ _ _=>?_);refine Tz (λ_ f=>?_);refine Zb0 ?_;exact⟨_,fB f,by rw[ak,show decide (k=14)=true from zap oM];rfl,f.kept⟩
  rw[zab (λh=>c h.2)]at ak;refine Zb1 ?_;refine Vb (ah bF) ?_;have D6:=e.obj At1;refine eP (fs:=[]) (cs:=[.pointer (some ⟨b0,0,none⟩)]) (vals:=[_]) rfl (yA bF D6 (EM.keep e.kept)) rfl rfl (λv' _ hv=>?_);obtain⟨rfl,bZ⟩:=hv;have f:=e.keep bZ;rw[E9 hs];refine Am ?_;refine Cz (λf=>?_) (λf=>?_)
  .rw[zac f]at ak
   refine Sr (Vb (ah bF) ?_);refine Tz (λ_ e=>?_);refine Zb0 ?_;exact⟨_,fB e,by rw[ak];rfl,e.kept⟩
  rw[zab f]at ak;refine Cz (λe=>?_) (λe=>?_)
  .rw[zac e]at ak
   refine Dz (λf _ c=>?_);refine Zb3 ?_;refine dB f 3 [(2,false),(1,true),(0,false)] c (dR _) (h:=λ_ c _=>⟨(bK rfl kR (Gives.iH (i:=0) rfl c hA hga) rfl (av (iI c (h:=eu)))),?_⟩);refine Gp f 4 rfl rfl (λ_=>(Gives.aer (enc:=ah) _ _ rfl rfl)) (dB f 5 _ c (dR _) (h:=λ_ c _=>⟨sT,?_⟩));refine bN f 6 _ c (h:=λ_ c=>⟨sT,?_⟩);refine Zb0 ?_;exact⟨_,fB c,by rw[ak];rfl,c.kept⟩
  rw[zab e]at ak;refine Kz (dR _) (λ_ _ _=>?_);refine Tz (λ_ c=>?_);refine Zb0 ?_;exact⟨_,fB c,by rw[ak];rfl,c.kept⟩
 have amx: ¬k=14:=d;rw[zab (λh=>amx h.1)]at ak;refine Zb3 ?_;refine Vb (ah bF) ?_;have D6:=S.obj At1;refine eP (fs:=[]) (cs:=[.pointer (some ⟨b0,0,none⟩)]) (vals:=[_]) rfl (yA bF D6 (EM.keep S.kept)) rfl rfl (λv' _ hv=>?_);obtain⟨rfl,bZ⟩:=hv;have c:=S.keep bZ;rw[E9 hs];refine Am ?_;refine Cz (λc=>?_) (λc=>?_)
 .rw[zac c]at ak
  refine Sr (Vb (ah bF) ?_);refine Tz (λ_ S=>?_);refine Zb0 ?_;exact⟨_,fB S,by rw[ak];rfl,S.kept⟩
 rw[zab c]at ak;refine Cz (λS=>?_) (λS=>?_)
 .rw[zac S]at ak
  refine Dz (λc _ d=>?_);refine Zb3 ?_;refine dB c 3 [(2,false),(1,true),(0,false)] d (dR _) (h:=λ_ d _=>⟨(bK rfl kR (Gives.iH (i:=0) rfl d hA hga) rfl (av (iI d (h:=eu)))),?_⟩);refine Gp c 4 rfl rfl (λ_=>(Gives.aer (enc:=ah) _ _ rfl rfl)) (dB c 5 _ d (dR _) (h:=λ_ d _=>⟨sT,?_⟩));refine bN c 6 _ d (h:=λ_ d=>⟨sT,?_⟩);refine Zb0 ?_;exact⟨_,fB d,by rw[ak];rfl,d.kept⟩
 rw[zab S]at ak;refine Kz (dR _) (λ_ _ _=>?_);refine Tz (λ_ d=>?_);refine Zb0 ?_;exact⟨_,fB d,by rw[ak];rfl,d.kept⟩
end
end
section
attribute [local irreducible] gW nk vH
def acI (h7:7<=k) (h18:k<=18) (h1: ¬(k=13\/k=14\/k=15)) (h2: ¬k=16) (h3: ¬k=17) (h4: ¬(a.null=true\/b.null=true)) (h5: ¬k=11) (h6: ¬k=12) (h8: ¬k=18):jl k a b=Du (JY k a.n b.n):=by
 unfold jl Du JY;rw[zab h1,zab h2,zab h3,zab h4,zab h5,zab h6,zab h8]
def m39 {p:Prop} (h:p:=by
 rw[ak]
 first
 | (rw[zac oM];refine zaw (λx=>some (gW x)) ?_;first | exact zap oM | exact zal oM | exact zbf.2 oM)
 | (rw[zab oM,zac oM];refine zaw (λx=>some (gW x)) ?_;first | exact zap oM | exact zal oM | exact zbf.2 oM)):p:=h
section
variable {w:Wd}
theorem afv (hl:aJ w vl ah 3 l) (hs:AY k l a b) (h7:7<=k) (h18:k<=18) (ha:fits a.n) (hb:fits b.n):aR Tryz.prog 93 [I k,vl] w λv w'=>(∃c,v=.tuple #[agg (ah c),.bool (jl k a b).isSome]/\∀y,jl k a b=some y->c=y)/\Kept noB w w':=by
 have EM:=hl;obtain⟨A,m,rfl,⟨hm,om⟩,hA⟩:=hl;have H:=Sep.aF w;obtain⟨hga,hgb,Gx⟩:=hs.get;have hl2:l.length<=2:=by rcases hs with⟨rfl,_⟩ | ⟨rfl,_⟩<;>simp
 obtain⟨res,Yg⟩: ∃res,res=jl k a b:=⟨_,rfl⟩;rw[<-Yg];have ak:=Yg;unfold jl at ak;refine sQ Tryz.func93 ?_;refine Az (λb4 _ _ _=>?_);refine Am ?_;refine Qn (dD (λz:Nat×Nat=>[(0,I k),(1,.slice A l.length m),(4,.pointer (some ⟨b4,0,none⟩)),(6,.pointer (some ⟨z.1,0,none⟩)),(7,.pointer (some ⟨z.2,0,none⟩))]) (λz w'=>Sep w noB [blk z.2 (ah b) 41,blk z.1 (ah a) 41,blk b4 (ah cell0) 41] w') ?_ ?_)
 .refine Dz (λS _ d=>?_)
  refine Zb1 ?_;refine Gp S 1 rfl rfl (λ_=>(Gives.fF (i:=0) rfl rfl hA Gx)) (GS (Gt rfl (Gives.iH (i:=0) rfl d hA hga) ?_));refine Zb3 ?_;refine Gc S 6 ((l.length-1:Nat):Int) ?_;refine Zb1 ?_;refine GS (Gt rfl (Gives.iH (i:=l.length-1) rfl d hA hgb) ?_);refine j4 S (e1:=9) (e2:=10) kR ?_ ?_
  .refine lM S 9 [(8,false),(7,true),(6,true),(5,true),(4,true),(3,true),(2,false),(1,true),(0,true)] d (h:=λb6 _ e=>⟨(bK rfl kR (Gives.iH (i:=l.length-1) rfl e hA hgb) rfl (av (av (av (av (av ((bK rfl kR (Gives.iH (i:=0) rfl e hA hga) rfl (av (av (eu))))))))))),?_⟩)
   refine tZ S 10 [(8,false),(7,true),(6,true),(5,true),(4,true),(3,true),(2,false),(1,true),(0,true)] e (h:=λb7 _ e=>⟨(bK rfl kR (Gives.iH (i:=l.length-1) rfl e hA hgb) rfl (av (av (av (av (av ((bK rfl kR (Gives.iH (i:=0) rfl e hA hga) rfl (av (av (eu))))))))))),?_⟩);refine bN S 11 [(8,false),(7,true),(6,true),(5,true),(4,true),(3,true)] e (h:=λ_ e=>⟨(bK rfl kR (Gives.iH (i:=l.length-1) rfl e hA hgb) rfl (av (av (av (av (av (eu))))))),?_⟩);refine bN S 12 _ e (h:=λ_ e=>⟨sT,?_⟩);refine Zb0 ?_;exact au (b6,b7) tR e
  refine lM S 10 [(8,false),(7,true),(6,true),(5,true),(4,true),(3,true),(2,false),(1,true),(0,true)] d (h:=λb7 _ e=>⟨(bK rfl kR (Gives.iH (i:=l.length-1) rfl e hA hgb) rfl (av (av (av (av (av ((bK rfl kR (Gives.iH (i:=0) rfl e hA hga) rfl (av (av (eu))))))))))),?_⟩);refine tZ S 9 [(8,false),(7,true),(6,true),(5,true),(4,true),(3,true),(2,false),(1,true),(0,true)] e (h:=λb6 _ e=>⟨(bK rfl kR (Gives.iH (i:=l.length-1) rfl e hA hgb) rfl (av (av (av (av (av ((bK rfl kR (Gives.iH (i:=0) rfl e hA hga) rfl (av (av (eu))))))))))),?_⟩);refine bN S 11 [(8,false),(7,true),(6,true),(5,true),(4,true),(3,true)] e (h:=λ_ e=>⟨(bK rfl kR (Gives.iH (i:=l.length-1) rfl e hA hgb) rfl (av (av (av (av (av (eu))))))),?_⟩);refine bN S 12 _ e (h:=λ_ e=>⟨sT,?_⟩);refine Zb0 ?_;exact au (b6,b7) tR e.aG
 rintro⟨b6,b7⟩ τ e e;dsimp only at e;refine Lp ?_;refine Sz (λS=>?_) (λS=>?_)
 .refine Kz (GU (EM.keep e.kept) hs) (λ_ _ _=>?_)
  refine Tz (λ_ S=>?_);refine Zb1 ?_;exact⟨_,bE S,dK (by rw[ak,zac oM]),S.kept⟩
 refine Sz (λS=>?_) (λS=>?_)
 .refine Kz (GU (EM.keep e.kept) hs) (λ_ _ _=>?_)
  refine Tz (λ_ S=>?_);refine Zb1 ?_;exact⟨_,bE S,dK (by rw[ak,zac oM]),S.kept⟩
 refine Cz (λS=>?_) (λS=>?_)
 .refine Kz (GU (EM.keep e.kept) hs) (λ_ _ _=>?_)
  refine Tz (λ_ S=>?_);refine Zb1 ?_;exact⟨_,bE S,dK (by rw[ak,zac oM]),S.kept⟩
 refine Cz (λS=>?_) (λS=>?_)
 .refine Kz (dR _) (λ_ _ _=>?_)
  refine Tz (λ_ S=>?_);refine Zb1 ?_;exact⟨_,bE S,dK (by rw[ak,zab oM,zac oM]),S.kept⟩
 refine Sz (λS=>?_) (λS=>?_)
 .refine Za4 ?_
  refine Qn (Cd rfl (λS=>?_) (λS=>?_))
  .have Lj:=S
   refine Tz (λ_ d=>?_);refine Zb1 ?_;exact⟨_,bE d,dK (by rw[ak,zab oM,zab oM,zac oM,zac Lj]),d.kept⟩
  have Lj:=S;refine Cz (λd=>?_) (λd=>?_)
  .refine Tz (λ_ d=>?_)
   refine Zb1 ?_;exact⟨_,bE d,dK (by rw[ak,zab oM,zab oM,zac oM,zab (by simp[Lj])]),d.kept⟩
  refine Zb3 ?_;refine dH (t:=55) rfl (λd=>?_) (λd=>?_)
  .refine Zb2 ?_
   refine Vb (ah bF) ?_;refine Tz (λ_ _=>?_);refine Zb1 ?_
   (exfalso;omega)
  refine Za4 ?_;refine Qn (Cd rfl (λd=>?_) (λd=>?_))
  .refine Sr (Vb (ah bF) ?_)
   refine Tz (λ_ _=>?_);refine Zb1 ?_
   (exfalso;omega)
  have tu: ¬(a.null=true\/b.null=true):=by simp[*]
  rw[zab oM,zab oM,zab oM,zab tu]at ak;refine Sz (λd=>?_) (λd=>?_)
  .refine Kz (rR a b) (λ_ _ _=>?_)
   refine Sz (λd=>?_) (λd=>?_)
   .refine Sz (λd=>?_) (λd=>?_)
    .refine Kz (dR _) (λ_ _ _=>?_)
     refine Tz (λ_ _=>?_);refine Zb1 ?_
     (exfalso;omega)
    refine Sz (λd=>?_) (λd=>?_)
    .refine Kz (dR _) (λ_ _ _=>?_)
     refine Tz (λ_ _=>?_);refine Zb1 ?_
     (exfalso;omega)
    refine Kz (dR _) (λ_ _ _=>?_);refine Tz (λ_ _=>?_);refine Zb1 ?_
    (exfalso;omega)
   refine Sz (λd=>?_) (λd=>?_)
   .refine Kz (dR _) (λ_ _ _=>?_)
    refine Tz (λ_ _=>?_);refine Zb1 ?_
    (exfalso;omega)
   refine Kz (dR _) (λ_ _ _=>?_);refine Tz (λ_ _=>?_);refine Zb1 ?_
   (exfalso;omega)
  refine Cz (λd=>?_) (λd=>?_)
  .refine Kz (rR a b) (λ_ _ _=>?_)
   refine Sz (λd=>?_) (λd=>?_)
   .refine Sz (λd=>?_) (λd=>?_)
    .refine Kz (dR _) (λ_ _ _=>?_)
     refine Tz (λ_ _=>?_);refine Zb1 ?_
     (exfalso;omega)
    refine Sz (λd=>?_) (λd=>?_)
    .refine Kz (dR _) (λ_ _ _=>?_)
     refine Tz (λ_ _=>?_);refine Zb1 ?_
     (exfalso;omega)
    refine Kz (dR _) (λ_ _ _=>?_);refine Tz (λ_ _=>?_);refine Zb1 ?_
    (exfalso;omega)
   refine Sz (λd=>?_) (λd=>?_)
   .refine Kz (dR _) (λ_ _ _=>?_)
    refine Tz (λ_ _=>?_);refine Zb1 ?_
    (exfalso;omega)
   refine Kz (dR _) (λ_ _ _=>?_);refine Tz (λ_ _=>?_);refine Zb1 ?_
   (exfalso;omega)
  refine Cz (λd=>?_) (λd=>?_)
  .refine Zb3 ?_
   refine Vb (ah ⟨false,(a.s.length:Int),[]⟩) ?_;refine Tz (λ_ _=>?_);refine Zb1 ?_
   (exfalso;omega)
  refine Zb5 ?_;refine aL (P6 k a.n b.n ha hb) rfl rfl (λv' _ hv=>?_);obtain⟨⟨cp,rfl,YB⟩,bZ⟩:=hv;have d:=e.keep bZ;refine Zb6 ?_;refine Vb (ah ⟨false,cp,[]⟩) ?_;refine Mv ?_;refine Tz (λ_ _=>?_);refine Zb1 ?_
  (exfalso;omega)
 refine Cz (λd=>?_) (λd=>?_)
 .refine Tz (λ_ _=>?_)
  refine Zb1 ?_
  (exfalso;omega)
 refine Zb3 ?_;refine dH (t:=55) rfl (λd=>?_) (λd=>?_)
 .refine Zb2 ?_
  refine Vb (ah bF) ?_;refine Tz (λ_ d=>?_);refine Zb1 ?_;exact⟨_,bE d,dK (by rw[ak,zab oM,zab oM,zab oM,zac (by simp[*])]),d.kept⟩
 refine Za4 ?_;refine Qn (Cd rfl (λd=>?_) (λd=>?_))
 .refine Sr (Vb (ah bF) ?_)
  refine Tz (λ_ d=>?_);refine Zb1 ?_;exact⟨_,bE d,dK (by rw[ak,zab oM,zab oM,zab oM,zac (by simp[*])]),d.kept⟩
 have tu: ¬(a.null=true\/b.null=true):=by simp[*]
 rw[zab oM,zab oM,zab oM,zab tu]at ak;refine Sz (λd=>?_) (λd=>?_)
 .refine Kz (rR a b) (λ_ _ _=>?_)
  refine Sz (λd=>?_) (λd=>?_)
  .refine Sz (λd=>?_) (λd=>?_)
   .refine Kz (dR _) (λ_ _ _=>?_)
    refine Tz (λ_ d=>?_);refine Zb1 ?_;exact⟨_,bE d,dK m39,d.kept⟩
   refine Sz (λd=>?_) (λd=>?_)
   .refine Kz (dR _) (λ_ _ _=>?_)
    refine Tz (λ_ _=>?_);refine Zb1 ?_
    (exfalso;omega)
   refine Kz (dR _) (λ_ _ _=>?_);refine Tz (λ_ _=>?_);refine Zb1 ?_
   (exfalso;omega)
  refine Sz (λd=>?_) (λd=>?_)
  .refine Kz (dR _) (λ_ _ _=>?_)
   refine Tz (λ_ d=>?_);refine Zb1 ?_;exact⟨_,bE d,dK m39,d.kept⟩
  refine Kz (dR _) (λ_ _ _=>?_);refine Tz (λ_ d=>?_);refine Zb1 ?_;exact⟨_,bE d,dK m39,d.kept⟩
 refine Cz (λd=>?_) (λd=>?_)
 .refine Kz (rR a b) (λ_ _ _=>?_)
  refine Sz (λd=>?_) (λd=>?_)
  .refine Sz (λd=>?_) (λd=>?_)
   .refine Kz (dR _) (λ_ _ _=>?_)
    refine Tz (λ_ _=>?_);refine Zb1 ?_
    (exfalso;omega)
   refine Sz (λd=>?_) (λd=>?_)
   .refine Kz (dR _) (λ_ _ _=>?_)
    refine Tz (λ_ _=>?_);refine Zb1 ?_
    (exfalso;omega)
   refine Kz (dR _) (λ_ _ _=>?_);refine Tz (λ_ d=>?_);refine Zb1 ?_;exact⟨_,bE d,dK m39,d.kept⟩
  refine Sz (λd=>?_) (λd=>?_)
  .refine Kz (dR _) (λ_ _ _=>?_)
   refine Tz (λ_ d=>?_);refine Zb1 ?_;exact⟨_,bE d,dK m39,d.kept⟩
  refine Kz (dR _) (λ_ _ _=>?_);refine Tz (λ_ d=>?_);refine Zb1 ?_;exact⟨_,bE d,dK m39,d.kept⟩
 refine Cz (λd=>?_) (λd=>?_)
 .refine Zb3 ?_
  refine Vb (ah ⟨false,(a.s.length:Int),[]⟩) ?_;refine Tz (λ_ d=>?_);refine Zb1 ?_;exact⟨_,bE d,dK (by rw[ak,zab oM,zab oM,zac oM]),d.kept⟩
 refine Zb5 ?_;refine aL (P6 k a.n b.n ha hb) rfl rfl (λv' _ hv=>?_);obtain⟨⟨cp,rfl,YB⟩,bZ⟩:=hv;have d:=e.keep bZ;refine Zb6 ?_;refine Vb (ah ⟨false,cp,[]⟩) ?_;refine Mv ?_;refine Tz (λ_ d=>?_);refine Zb1 ?_;exact⟨_,bE d,fZ (n:=JY k a.n b.n) (by rw[Yg];exact acI h7 h18 oM oM oM tu oM oM oM) rfl YB,d.kept⟩
end
end
variable {r:List aC} {vr:Value}
section
attribute [local irreducible] gJ
section
variable {w:Wd}
def acJ {b i:Nat} {E:Td} {a:bY} (c:aC) (hb:w.heap[b]? =some (.cells #[vc] E (0,0))) (hc:aJ w vc aP 7 cols) (ha:cols[i]? =some a) (hf:fits c.n) (hT:mX w):Rk prog 97 [I i,agg (ah c),.pointer (some ⟨b,0,none⟩)] w (I (gJ a.type c)):=by
 obtain⟨A,m,rfl,⟨hm,om⟩,hA⟩:=hc;have H:=Sep.aF w;have aS:=fO ha;refine AP func97 ?_;refine Sr (bB H (cs:=ah c) rfl (h:=λb0 _ _ _=>?_));refine Dz (λk _ S=>?_);refine G0 (Gt rfl (Gives.mW (cs:=[.slice A cols.length m]) rfl (S.kept.get hb id) rfl) ?_);refine Zb3 ?_;refine GS (Gt rfl (Gives.EB (us:=aD a.type) rfl S hA ha rfl rfl) ?_);refine Zb1 ?_;refine dB k 6 _ S (tL a.type c hf (hT.keep S.kept)) (h:=λ_ S _=>⟨sT,?_⟩);refine Zb1 ?_;exact⟨rfl,S.kept⟩
def afw {f:FuncId} {fs cs:LV} (hr:aJ w vr ah 3 r) (hlen:cols.length=r.length)
    (qP: ∀(i:Nat) a c w',cols[i]? =some a->r[i]? =some c->Kept noB w w'->aR prog f (fs++[I i,agg (ah c)]++cs) w' λv w''=>v=I (gJ a.type c)/\Kept noB w' w'') (EG:qm prog f:=by exact eT):
    Rk prog 96 [vr,.func (.func f) fs.toArray cs.toArray] w (I (qN cols r 0)):=by
  obtain⟨A,m,rfl,⟨hm,om⟩,hA⟩:=hr;have H:=Sep.aF w;refine bQ func96 ?_;refine Zb4 ?_;refine aI (λi:Nat=>[(1,.func (.func f) fs.toArray cs.toArray),(8,.slice A r.length m),(9,I r.length),(10,I i)]) (λi w'=>(i<=r.length/\qN cols r i=qN cols r 0)/\Sep w noB [] w') (λi _=>r.length-i) 0 tR ⟨⟨zak _,rfl⟩,H⟩ (λi τ _ hI=>?_);obtain⟨⟨hi,dJ⟩,k⟩:=hI;refine Lp ?_;refine Cz (λS=>?_) (λS=>?_)
  . have aS:i<r.length:=oM
    obtain⟨c,hcg⟩:=get_some aS;obtain⟨a,ha⟩:=get_some (l:=cols) (i:=i) oM;rw[xJ ha hcg]at dJ;refine Az (λb6 _ _ _=>?_);refine Am ?_;refine Tz (λ_ S=>?_);refine Zb3 ?_;refine eP (fs:=fs) (cs:=cs) (vals:=[I i,agg (ah c)]) rfl (qP i a c _ ha hcg S.kept) rfl rfl (λv' _ hv=>?_);obtain⟨rfl,bZ⟩:=hv;have b:=S.keep bZ;refine Cz (λS=>?_) (λS=>?_)
    . rw[zac S]at dJ
      refine Zb2 ?_;exact⟨by rw[<-dJ];rfl,b.kept⟩
    rw[zab S]at dJ;refine Zb2 ?_;exact aj (i+1) tR ⟨⟨oM,dJ⟩,b.bH⟩ oM
  rw[EC oM]at dJ;refine Zb1 ?_;exact⟨by rw[<-dJ];rfl,k.kept⟩
def Fb (hc:aJ w vc aP 7 cols) (hr:aJ w vr ah 3 r) (hf:jw r) (hT:mX w):Rk prog 58 [vc,vr] w (I (fH cols r)):=by
 have OM:=hc;have hrr:=hr;obtain⟨A,m,rfl,⟨hm,om⟩,hA⟩:=hc;obtain⟨C,n,rfl,⟨hn,hn'⟩,hC⟩:=hr;have H:=Sep.aF w;refine bQ func58 ?_;refine Sr (bB H (cs:=[.slice A cols.length m]) rfl (h:=λb0 _ k _=>?_));refine Cz (λS=>?_) (λS=>?_)
 .have iN:=S
  refine Zb1 ?_;exact⟨by unfold fH;rw[zac oM];rfl,k.kept⟩
 have hlen:cols.length=r.length:=oM;refine Zb2 ?_;have D6:=k.obj At0;refine Kz (afw (f:=97) (fs:=[]) (cs:=[.pointer (some ⟨b0,0,none⟩)]) (hrr.keep k.kept) hlen (λi a c w' ha hcg hk=>acJ c (hk.get D6 id) ((OM.keep k.kept).keep hk) ha (hf c (zag hcg)) ((hT.keep k.kept).keep hk))) (λ_ S _=>?_);refine Zb1 ?_;exact⟨by rw[Cb hlen];rfl,S.kept⟩
end
end
section
def resE (cols:List bY) (r:List aC) (st:List aC) (x:bI):Option aC:=
 if dA x.kind=0 then some (vK cols r x)else jl x.kind (st.getD (st.length-dA x.kind) cell0) (st.getD (st.length-1) cell0)
def GV (cols:List bY) (r:List aC) (st:List aC) (x:bI):abX cols r st x=(resE cols r st x).map λc=>st.take (st.length-dA x.kind)++[c]:=rfl
def JZ {ts ts':List bM} {st:List aC} (hr:fH cols r=0) (hf:jw r) (hx:fits x.n) (hT:Typed ts st) (hs:stepT cols ts x=some ts'):
    dP x=true/\dA x.kind<=st.length/\∀c,resE cols r st x=some c->Typed ts' (st.take (st.length-dA x.kind)++[c]):=by
  have hm:dP x=true:=by
    cases h:dP x with
    | true=>rfl
    | false=>rw[Cc (.inl h)]at hs;cases hs
  have xY:=Dk hm
  have rG:dA x.kind<=st.length:=by
    rw[<-hT.1];refine Classical.byContradiction λh=>?_;rw[GR (.inr oM)]at hs;cases hs
  obtain⟨he,hg⟩:=Ox hr hf hx hT hs;refine⟨hm,rG,λc hc=>?_⟩;rw[GV,hc,xY]at he;rw[xY]at hg;obtain⟨c',h1,h2⟩:=zbc.1 he.symm;have:=List.append_cancel_left h2;injection this with h3
  subst h3;exact(hg _ h1).1
attribute [local irreducible] iJ fH dP jl og
section
variable {w:Wd}
theorem afx {l:List bI} (hc:aJ w vc aP 7 cols) (hl:aJ w vl aM 3 l) (hr:aJ w vr ah 3 r) (hf:jw r) (hx: ∀x∈l,fits x.n) (hT:mX w):
    Rk Tryz.prog 55 [vc,vl,vr] w (.tuple #[agg (ah (mJ cols l r).1),I (mJ cols l r).2]):=by
  have OM:=hc;have EM:=hl;have hrr:=hr;obtain⟨A,m,rfl,⟨hm,om⟩,hA⟩:=hc;obtain⟨C,n,rfl,⟨hn,hn'⟩,hC⟩:=hl;obtain⟨D,q,rfl,⟨hq,hq'⟩,hD⟩:=hr;have H:=Sep.aF w;obtain⟨res,ak⟩: ∃res,res=mJ cols l r:=⟨_,rfl⟩;rw[<-ak];unfold mJ at ak;refine zX Tryz.func55 ?_;refine Az (λb6 w2 H2 k1=>?_);refine Kz (Mg (OM.keep H2.kept) (EM.keep H2.kept) hx (hT.keep H2.kept)) (λw7 H7 k6=>?_);refine Az (λb8 wa Ha ka=>?_);refine Tz (λwb Hb=>?_);refine Cz (λIe=>?_) (λIe=>?_)
  . have bT:res=(cell0,(iJ cols l).2):=by rw[ak,zac Ie]
    refine Sr (Vb (ah cell0) ?_);refine Mv ?_;refine Tz (λwc Hc=>?_);refine Zb1 ?_;exact⟨_,bE Hc,by rw[bT];rfl,Hc.kept⟩
  have ahV:(iJ cols l).2=0:=by simpa using Ie
  obtain⟨h64,t,iq,htt⟩:=Vg ahV;rw[zab (by simpa using ahV)]at ak;refine Kz (Fb (OM.keep Hb.kept) (hrr.keep Hb.kept) hf (hT.keep Hb.kept)) (λwd Hd kb=>?_);refine Cz (λIf=>?_) (λIf=>?_)
  . have bT:res=(cell0,fH cols r):=by rw[ak,zac If]
    refine Sr (Vb (ah cell0) ?_);refine Mv ?_;refine Tz (λwe He=>?_);refine Zb1 ?_;exact⟨_,bE He,by rw[bT];rfl,He.kept⟩
  have tq:fH cols r=0:=by simpa using If
  rw[zab (by simpa using tq)]at ak;obtain⟨hlen,_⟩:=aaC tq;refine Az (λb11 wf Hf kc=>?_);refine Zb3 ?_;have Hg:=Sep.iW ((Hf.aN.aG).firsts (l:=[_,_])) 41 3 ah;refine aI (λx:Nat×List aC×Value=>[(0,.slice A cols.length m),(2,.slice D r.length q),(6,.pointer (some ⟨b6,0,none⟩)),(11,.pointer (some ⟨b11,0,none⟩)),(35,.slice C l.length n),(36,I l.length),(37,I x.1)]) (λx w'=>(x.1<=l.length/\(∃ts,Typed ts x.2.1/\runT cols ts (l.drop x.1)=some [t])/\x.2.1.length<=x.1/\BP cols r x.2.1 (l.drop x.1)=BP cols r [] l)/\Sep w noB [aY 41 3 ah x.2.2 x.2.1,blk b11 [x.2.2] 172,blk b6 (ah cell0) 41] w') (λx _=>l.length-x.1) (0,[],.slice none 0 0) tR ⟨⟨zak _,⟨[],Typed.nil,iq⟩,zbj _,rfl⟩,Hg⟩ (λx τ wg hI=>?_);obtain⟨i,st,v0⟩:=x;obtain⟨⟨hi,⟨ts,hTy,hts⟩,X9,dJ⟩,Hg⟩:=hI;dsimp only at hi hTy hts X9 dJ Hg;obtain⟨B,cb,rfl,OO,hB⟩:=Sep.bJ Hg At0;refine Lp ?_;refine Cz (λIg=>?_) (λIg=>?_)
  . have aS:i<l.length:=oM
    obtain⟨x,oZ⟩:=get_some aS
    have hdr:l.drop i=x::l.drop (i+1):=by
      rw[zbn aS];rw[zaa aS]at oZ;injection oZ with oZ;rw[oZ]
    rw[hdr,runT]at hts;rw[hdr,BP,GV]at dJ;obtain⟨ts',sI,aeW⟩:=zdp.1 hts;have hfx:=hx x (zag oZ);obtain⟨Ye,Px,hg⟩:=JZ tq hf hfx hTy sI;obtain⟨lI,amv⟩:=P5 Ye;have hk2:=PZ x.kind;refine Az (λb13 wh Hh kd=>?_);refine Tz (λwi Hi=>?_);refine Kz (aa7 x.kind) (λwj Hj ke=>?_);obtain⟨F0,eD,gV,aK⟩:=Hj.focus At2;refine aL (RX eD Px OO oM) rfl rfl (λv' wk hv=>?_);obtain⟨rfl,bZ,F1,p8,hs⟩:=hv;have Hk:=aK _ F1 _ bZ p8 hs;have AJ:(st.take (st.length-dA x.kind)).length=st.length-dA x.kind:=by rw[zah];omega
    refine Cz (λIh=>?_) (λIh=>?_)
    . have y8: ¬dA x.kind=0:=oM
      have hk7:7<=x.kind:=by
        refine Classical.byContradiction λh=>y8 (tN.2 oM)
      obtain⟨a,ha⟩:=get_some (l:=st) (i:=st.length-dA x.kind) oM;obtain⟨b,hb⟩:=get_some (l:=st) (i:=st.length-1) oM;obtain⟨ta,Yx⟩:=get_some (l:=ts) (i:=st.length-dA x.kind) (by have:=hTy.1;omega);obtain⟨tb,UY⟩:=get_some (l:=ts) (i:=st.length-1) (by have:=hTy.1;omega);have oa:=hTy.2 _ ta a Yx ha;have ob:=hTy.2 _ tb b UY hb;have Ya:resE cols r st x=jl x.kind a b:=by unfold resE;rw[zab y8,jr ha,jr hb]
      have hs2:=Vm (d:=cell0) hk7 Px;rw[jr ha,jr hb]at hs2;refine Zb3 ?_;refine aL (afv (Mf (eX Hk At1) OO (Sep.aiR Hk At1) Px) hs2 hk7 amv oa.2 ob.2) rfl rfl (λv' wl hv=>?_);obtain⟨⟨cm,rfl,hcm⟩,bZ⟩:=hv;have Hl:=Hk.keep bZ;refine Az (λb16 wm Hm kf=>?_);refine Tz (λwn Hn=>?_);refine Za3 ?_;refine Qn (Cd rfl (λIi=>?_) (λIi=>?_))
      . have l9:jl x.kind a b=none:=by
          cases h:jl x.kind a b with
          | none=>rfl
          | some y=>rw[h]at Ii;cases Ii
        rw[Ya,l9]at dJ;rw[<-dJ]at ak;have bT:res=(cell0,50):=ak;refine Sr (Vb (ah cell0) ?_);refine Tz (λwo Ho=>?_);refine Zb1 ?_;exact⟨_,bE Ho,by rw[bT];rfl,Ho.kept⟩
      obtain⟨y,hy⟩: ∃y,jl x.kind a b=some y:=by
        cases h:jl x.kind a b with
        | none=>rw[h]at Ii;cases Ii
        | some y=>exact⟨y,rfl⟩
      have hcy:=hcm y hy;subst hcy;have Pw:resE cols r st x=some cm:=by rw[Ya,hy]
      refine Zb1 ?_;refine Bs Hn ([cm].flatMap ah) (λbs wp Hp kg=>?_);obtain⟨F0,eD,gV,aK⟩:=Hp.focus At4;have hRc:=(eX Hp At3).cut (st.length-dA x.kind);have Ag:aJ _ (.slice (some ⟨bs,0,none⟩) 1 1) ah 3 [cm]:=⟨some ⟨bs,0,none⟩,1,rfl,⟨sM,oM⟩,Sep.lK Hp At0 rfl⟩;refine aL (vY (l:=st.take (st.length-dA x.kind)) (by rw[AJ];exact eD) hRc Ag sM (by simp;omega)) rfl rfl (λv' wq hv=>?_);obtain⟨v2,rfl,_,bZ,F1,p8,hs⟩:=hv;have Hq:=((aK _ F1 _ bZ p8 hs).gG).bL;refine Zb2 ?_;exact aj (i+1,st.take (st.length-dA x.kind)++[cm],v2) tR ⟨⟨dO,⟨ts',hg _ Pw,aeW⟩,by dsimp only;rw[zad,AJ];simp;omega,by rw[Pw]at dJ;exact dJ⟩,(Hq.jZ.aG.aN).firsts (l:=[_,_,_])⟩ dO
    have y8:dA x.kind=0:=oM;have Ya:resE cols r st x=some (vK cols r x):=zac y8;have hk6:x.kind<=6:=by have:=tN.1 y8;omega
    refine Cz (λIj=>?_) (λIj=>?_)
    . obtain⟨ci,hci⟩:=PX sI Ij
      have aqs:=Gi hci;obtain⟨c0,hc0⟩:=get_some (l:=r) (i:=ci) oM;have Dl:vK cols r x=c0:=by unfold vK;rw[zac Ij,hci,zde,jr hc0]
      have Pw:resE cols r st x=some c0:=by rw[Ya,Dl]
      refine Kz (find_ok x.n (OM.keep Hk.kept)) (λwr Hr kh=>?_);rw[hci,show zq (some ci)=((ci:Nat):Int)from rfl];refine Vv (Gives.fF rfl rfl hD (fO hc0)) (Vv (Gives.iH rfl Hr hD hc0) ?_);refine Bs Hr ([c0].flatMap ah) (λbs ws Hs ki=>?_);obtain⟨F0,eD,gV,aK⟩:=Hs.focus At3;have hRc:=(eX Hs At2).cut (st.length-dA x.kind);have Ag:aJ _ (.slice (some ⟨bs,0,none⟩) 1 1) ah 3 [c0]:=⟨some ⟨bs,0,none⟩,1,rfl,⟨sM,oM⟩,Sep.lK Hs At0 rfl⟩;refine aL (vY (l:=st.take (st.length-dA x.kind)) (by rw[AJ];exact eD) hRc Ag sM (by simp;omega)) rfl rfl (λv' wt hv=>?_);obtain⟨v2,rfl,_,bZ,F1,p8,hs⟩:=hv;have Ht:=((aK _ F1 _ bZ p8 hs).aX).bL;refine Zb2 ?_;exact aj (i+1,st.take (st.length-dA x.kind)++[c0],v2) tR ⟨⟨dO,⟨ts',hg _ Pw,aeW⟩,by dsimp only;rw[zad,AJ];simp;omega,by rw[Pw]at dJ;exact dJ⟩,(Ht.jY.aG.aN).firsts (l:=[_,_,_])⟩ dO
    refine Cz (λIk=>?_) (λIk=>?_)
    . have Dl:vK cols r x=bF:=by unfold vK;rw[zab oM,zac Ik]
      have Pw:resE cols r st x=some bF:=by rw[Ya,Dl]
      refine Zb0 ?_;refine Vb (ah bF) ?_;refine Bs Hk ([bF].flatMap ah) (λbs wu Hu kj=>?_);obtain⟨F0,eD,gV,aK⟩:=Hu.focus At3;have hRc:=(eX Hu At2).cut (st.length-dA x.kind);have Ag:aJ _ (.slice (some ⟨bs,0,none⟩) 1 1) ah 3 [bF]:=⟨some ⟨bs,0,none⟩,1,rfl,⟨sM,oM⟩,Sep.lK Hu At0 rfl⟩;refine aL (vY (l:=st.take (st.length-dA x.kind)) (by rw[AJ];exact eD) hRc Ag sM (by simp;omega)) rfl rfl (λv' wv hv=>?_);obtain⟨v2,rfl,_,bZ,F1,p8,hs⟩:=hv;have Hv:=((aK _ F1 _ bZ p8 hs).aX).bL;refine Zb2 ?_;exact aj (i+1,st.take (st.length-dA x.kind)++[bF],v2) tR ⟨⟨dO,⟨ts',hg _ Pw,aeW⟩,by dsimp only;rw[zad,AJ];simp;omega,by rw[Pw]at dJ;exact dJ⟩,(Hv.jY.aG.aN).firsts (l:=[_,_,_])⟩ dO
    have Dl:vK cols r x=⟨false,x.n,x.s⟩:=by unfold vK;rw[zab oM,zab oM]
    have Pw:resE cols r st x=some ⟨false,x.n,x.s⟩:=by rw[Ya,Dl]
    refine Zb4 ?_;refine Vb (ah ⟨false,x.n,x.s⟩) ?_;refine Bs Hk ([(⟨false,x.n,x.s⟩:aC)].flatMap ah) (λbs ww Hw kk=>?_);obtain⟨F0,eD,gV,aK⟩:=Hw.focus At3;have hRc:=(eX Hw At2).cut (st.length-dA x.kind);have Ag:aJ _ (.slice (some ⟨bs,0,none⟩) 1 1) ah 3 [(⟨false,x.n,x.s⟩:aC)]:=⟨some ⟨bs,0,none⟩,1,rfl,⟨sM,oM⟩,Sep.lK Hw At0 rfl⟩;refine aL (vY (l:=st.take (st.length-dA x.kind)) (by rw[AJ];exact eD) hRc Ag sM (by simp;omega)) rfl rfl (λv' wx hv=>?_);obtain⟨v2,rfl,_,bZ,F1,p8,hs⟩:=hv;have Hx:=((aK _ F1 _ bZ p8 hs).aX).bL;refine Zb2 ?_;exact aj (i+1,st.take (st.length-dA x.kind)++[⟨false,x.n,x.s⟩],v2) tR ⟨⟨dO,⟨ts',hg _ Pw,aeW⟩,by dsimp only;rw[zad,AJ];simp;omega,by rw[Pw]at dJ;exact dJ⟩,(Hx.jY.aG.aN).firsts (l:=[_,_,_])⟩ dO
  have jF:i=l.length:=oM;rw[jF,zef,runT]at hts;rw[jF,zef,BP]at dJ;rw[<-dJ]at ak;have amr:ts=[t]:=by injection hts
  have h1:st.length=1:=by rw[<-hTy.1,amr];rfl
  obtain⟨c,OP⟩:=zfo.1 h1;have hg0:st[0]? =some c:=by rw[OP];rfl
  have bT:res=(c,0):=by rw[ak,OP];rfl
  refine Zb2 ?_;refine Vv (Gives.fF (i:=0) rfl rfl hB oM) (Vv (Gives.oW (i:=0) rfl hB hg0) ?_);refine Tz (λwy Hy=>?_);refine Zb1 ?_;exact⟨_,bE Hy,by rw[bT];rfl,Hy.kept⟩
end
end
/-! A row that is sorted,then rid of what comes twice. -/
variable {w:Wd}
end Go.Proofs.Mw
