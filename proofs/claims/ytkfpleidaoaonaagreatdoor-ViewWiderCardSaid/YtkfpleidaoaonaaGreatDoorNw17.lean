/-
 Items put behind one another,added;walked.
-/
import Derived.Test.YtkfpleidaoaonaaGreatDoorNw1
import Derived.Test.YtkfpleidaoaonaaGreatDoorNw3
import Derived.Test.YtkfpleidaoaonaaGreatDoorNw16
import Derived.Test.YtkfpleidaoaonaaGreatDoorNw13
import Derived.WideLaws
import Derived.Test.YtkfpleidaoaonaaGreatDoorNw12
import Derived.Test.YtkfpleidaoaonaaGreatDoorNw9
set_option linter.unusedVariables false
set_option linter.unusedSimpArgs false
namespace Go.Proofs.YtkfpleidaoaonaaGreatDoor
open Go Go.Mw Go.Lib Go.Proofs.Tryz
set_option maxRecDepth 4000
attribute [local irreducible] FW FL FG FGn fZ gG cO gW Qfn Gives
def BJ (a b:List aH):List aH×Int:=if lU a=true/\lU b=true then adg a b else([],2)
theorem YZ {a b:List aH} (ha:isZ a) (hb:isZ b):BJ a b=adg a b:=zac ⟨E9 ha,E9 hb⟩
section
variable {w:Wd}
theorem aaw {L:List Qq} {v:Value} (hL:aQ w v agN 1 L) (hR: ∀x∈L,Mw.Rd w x.1 aG 2 x.2.2) (h1: ∀x∈L,∀u∈x.2.2.flatMap aG,u.oneCell'=true) (hn:(L.flatMap (·.2.2)).length<=5000) (hLn:L.length<=1000):
    aY prog 63 [v] w λu w'=>∃x:Value,u=x/\True/\Turn noB (bJ 82 2 aG x (L.flatMap (·.2.2))) w w':=by
  obtain⟨A,c,rfl,⟨hc,hc'⟩,hA⟩:=hL;have H:=Sep.aJ w;refine dI func63 rfl rfl rfl rfl ?_;refine Zb5 ?_;refine aR (λi:Nat=>[(0,.slice A L.length c),(3,I ((L.take i).flatMap (·.2.2)).length),(9,.slice A L.length c),(10,I L.length),(11,I i)]) (λi w'=>i<=L.length/\Mw.Sep w noB [] w') (λi _=>L.length-i) 0 tR ⟨zaq _,H⟩ (λi τ _ hI=>?_);obtain⟨hi,k⟩:=hI
  try simp only[cK,like,aS,bK]
  refine Za1 ?_;refine Qn (dW (Cp rfl (λS=>?_) (λS=>?_)))
  . have bH:i<L.length:=oM
    obtain⟨x,hx⟩:=get_some bH;obtain⟨X,cx,rx⟩:=x;have VW:=NJ hx;have q9:=YX (l:=L) (i+1);rw[VW,zad]at q9;dsimp only at q9;refine Zb0 ?_;refine Vv (Gives.jJ rfl rfl hA bH) (Vv (Gives.jc (v:=.slice X rx.length cx) (f:=0) rfl k hA hx rfl) ?_);refine Zb4 ?_;refine Vc ((((L.take i).flatMap (·.2.2)).length+rx.length:Nat):Int) ?_;refine Za3 ?_;refine Qn (Cp rfl (λS=>?_) (λS=>?_))
    . omega
    refine Zb0 ?_;refine Vc ((i+1:Nat):Int) ?_;refine Zb1 ?_;exact aj (i+1) ⟨rfl,by rw[VW,zad];rfl,rfl,rfl,rfl,trivial⟩ ⟨oM,k⟩ oM
  have oQ:i=L.length:=oM;rw[oQ,zbo];refine Zb1 ?_;refine dn k (adK (L.flatMap (·.2.2)).length oM) (h:=λg _ _ S _=>?_);obtain⟨G,cG,rfl,_,_⟩:=Sep.dQ S At0;refine Zb4 ?_;refine aR (λx:(OA×Nat)×Nat=>[(0,.slice A L.length c),(6,.slice x.1.1 ((L.take x.2).flatMap (·.2.2)).length x.1.2),(25,.slice A L.length c),(26,I L.length),(27,I x.2)]) (λx w'=>x.2<=L.length/\Mw.Sep w noB [bJ 82 2 aG (.slice x.1.1 ((L.take x.2).flatMap (·.2.2)).length x.1.2) ((L.take x.2).flatMap (·.2.2))] w') (λx _=>L.length-x.2) ((G,cG),0) tR ⟨zaq _,S⟩ (λx τ _ hI=>?_);obtain⟨⟨R,cR⟩,i⟩:=x;obtain⟨hi,S⟩:=hI;dsimp only at hi S
  try simp only[cK,like,aS]
  refine Za1 ?_;refine Qn (dW (Cp rfl (λk=>?_) (λk=>?_)))
  . have bH:i<L.length:=oM
    obtain⟨x,hx⟩:=get_some bH;obtain⟨X,cx,rx⟩:=x;have VW:=NJ hx;have q9:=YX (l:=L) (i+1);rw[VW,zad]at q9;dsimp only at q9 VW;have hRx:=hR _ (zam hx);have h1x:=h1 _ (zam hx);dsimp only at hRx h1x;refine Zb0 ?_;refine Vv (Gives.jJ rfl rfl hA bH) (Vv (Gives.jc (v:=.slice X rx.length cx) (f:=0) rfl S hA hx rfl) ?_);refine Zb3 ?_;refine oO S At0 (hRx.keep S.kept) (by unfold maxLen;omega) oM h1x (h:=?_);intro v9 k k;rw[<-VW]at k;obtain⟨R2,cR2,rfl,_,_⟩:=Sep.dQ k At0;refine Zb1 ?_;refine Vc ((i+1:Nat):Int) ?_;refine Zb1 ?_;exact aj ((R2,cR2),i+1) tR ⟨dO,k⟩ dO
  have oQ:i=L.length:=oM;rw[oQ,zbo]at S;refine Zb2 ?_;exact⟨.slice R (L.flatMap (·.2.2)).length cR,by rw[oQ,zbo];rfl,trivial,S.turn⟩
theorem NK {a b:List aH} {va vb:Value} (ha:eT w va a) (hb:eT w vb b) (hal:a.length<=500) (hbl:b.length<=500) (haf: ∀o∈a,fits o.w) (hbf: ∀o∈b,fits o.w) (har: ∀o∈a,o.row.length<=1000) (hbr: ∀o∈b,o.row.length<=1000):
    aY prog 30 [va,vb] w λu w'=>∃x:Value×List Held,u=.tuple #[x.1,I (BJ a b).2]/\x.2.map (·.2)=(BJ a b).1/\Turn noB (eU x.1 x.2) w w':=by
  have H:=Sep.aJ w;have ha0:=ha;have Ew:=hb;obtain⟨r,hr,iI⟩:=ha;obtain⟨s,hs,Rz⟩:=hb;have Yz:=hr;have k:=hs;obtain⟨A,c,rfl,⟨hc,hc'⟩,hA⟩:=hr;obtain⟨B,d,rfl,⟨hd,hd'⟩,hB⟩:=hs;have BD:=iI.len;have hsl:=Rz.len;refine dF func30 rfl rfl rfl rfl ?_;refine Zb3 ?_;refine aD H (NI (ha0.keep H.kept) oM) (h:=λ_ k _=>?_);refine Zb2 ?_;refine aF (t:=9) rfl (λS=>?_) (λS=>?_)
  . refine Zb3 ?_
    have hk: ¬(lU a=true/\lU b=true):=λh=>by
      have h1:=h.1;have h2:=h.2;simp[h1,h2]at *
    exact⟨(.slice none 0 0,[]),by unfold BJ;rw[zab hk];rfl,by unfold BJ;rw[zab hk];rfl,(Sep.jM (dN k) 82 2).bD.first.turn⟩
  refine Zb1 ?_;refine aD k (NI (Ew.keep k.kept) oM) (h:=λ_ S _=>?_);refine Za2 ?_;refine Qn (Cp rfl (λk=>?_) (λk=>?_))
  . refine Zb2 ?_
    have hk: ¬(lU a=true/\lU b=true):=λh=>by
      have h1:=h.1;have h2:=h.2;simp[h1,h2]at *
    exact⟨(.slice none 0 0,[]),by unfold BJ;rw[zab hk];rfl,by unfold BJ;rw[zab hk];rfl,(Sep.jM (dN S) 82 2).bD.first.turn⟩
  refine Zb2 ?_;refine Bs S ([((A,c,r):Qq),(B,d,s)].flatMap agN) (λbs _ k _=>?_);have Ak:=Kv (enc:=agN) (l:=[((A,c,r):Qq),(B,d,s)]) k At0 rfl (by show 2<=100000;decide);have JA:([((A,c,r):Qq),(B,d,s)]).flatMap (·.2.2)=r++s:=sM;refine dn k (aaw Ak (λx hx=>?_) (λx hx=>?_) (by rw[JA,zad];omega) (by show 2<=1000;decide)) (h:=λy _ _ S _=>?_)
  . rcases zan.1 hx with e | e
    . rw[e];exact hA.keep k.kept
    rw[zar]at e;rw[e];exact hB.keep k.kept
  . rcases zan.1 hx with e | e
    . rw[e];exact Qr iI
    rw[zar]at e;rw[e];exact Qr Rz
  rw[JA]at S;have hin:eT _ y (a++b):=⟨_,mY S At0,(iI.app Rz).keep S.kept⟩;refine dn S (DU hin (by rw[zad];omega) (λo ho=>(zbi.1 ho).elim (haf o) (hbf o)) (λo ho=>(zbi.1 ho).elim (har o) (hbr o))) (h:=λz _ hz S _=>?_);refine Zb4 ?_
  have hk:lU a=true/\lU b=true:=by
    refine⟨Decidable.of_not_not λh=>?_,Decidable.of_not_not λh=>?_⟩
    . simp[h]at *
    simp[h]at *
  exact⟨z,by unfold BJ;rw[zac hk];rfl,by unfold BJ;rw[zac hk];exact hz,S.first.turn⟩
end
def fA (cols:List bF) (r:List ay):List j4->List ay×Int
 | []=>([],0)
 | o::l=>if(lN cols o.steps r).2≠0 then([],(lN cols o.steps r).2)else if(fA cols r l).2≠0 then([],(fA cols r l).2)else((lN cols o.steps r).1::(fA cols r l).1,0)
def BS (cols:List bF) (wh:List aZ) (r:List ay):ay×Int:=if wh=[]then(⟨false,1,[]⟩,0)else lN cols wh r
def iG (cols:List bF) (p:aW) (r:List ay):List ay×Bool×Int:=
 if dY cols r≠0 then([],false,dY cols r)
 else if(BS cols p.wh r).2≠0\/(BS cols p.wh r).1.null=true\/(BS cols p.wh r).1.n=0 then([],false,(BS cols p.wh r).2)
 else if(fA cols r p.cols).2≠0 then([],false,(fA cols r p.cols).2)
 else((fA cols r p.cols).1,true,0)
def dD (cols:List bF) (p:aW):List aH->List aH×Int
 | []=>([],0)
 | x::l=>
  if(iG cols p x.row).2.2≠0 then([],(iG cols p x.row).2.2)
  else if(dD cols p l).2≠0 then([],(dD cols p l).2)
  else if(iG cols p x.row).2.1=true then(⟨(iG cols p x.row).1,x.w⟩::(dD cols p l).1,0)else((dD cols p l).1,0)
def fP (cols:List bF) (p:aW) (T l:List aH):List aH×Int:=
 if(dD cols p l).2≠0 then([],(dD cols p l).2)else nQ p.group p.cols.length T (dD cols p l).1
def fH (cols:List bF) (p:aW) (T l:List aH):List aH:=if(fP cols p T l).2=0 then T++(dD cols p l).1 else T
def iq (cols:List bF) (p:aW) (l:List aH):List aH×Int:=
 if(dB cols p).2≠0 then([],(dB cols p).2)else if(fP cols p [] l).2≠0 then([],(fP cols p [] l).2)else((gB p.group p.cols.length (fH cols p [] l)).1,0)
section
variable {cols:List bF} {p:aW}
theorem Qs {a b:List aH} (ha:(dD cols p a).2=0) (hb:(dD cols p b).2=0):dD cols p (a++b)=((dD cols p a).1++(dD cols p b).1,0):=by
 induction a with
 | nil=>rw[zcb];exact Prod.ext rfl hb
 | cons x a ih=>
  rw[dD]at ha;rw[zbx,dD,dD]
  split at ha
  .rename_i h;exact zap ha h
  rename_i h1;rw[zab h1,zab h1]
  split at ha
  .rename_i h;exact zap ha h
  rename_i h2;rw[zab h2,ih (zca.1 h2),zab (not_not_intro rfl)]
  split<;>rfl
theorem DW {T l:List aH} (h:(fP cols p T l).2=0):(dD cols p l).2=0/\fP cols p T l=nQ p.group p.cols.length T (dD cols p l).1:=by
 unfold fP at h |-
 split at h
 .rename_i h1;exact zap h h1
 rename_i h1;rw[zab h1];exact⟨zca.1 h1,rfl⟩
theorem GD {T l:List aH} (hT:(gB p.group p.cols.length T).2=0):(gB p.group p.cols.length (fH cols p T l)).2=0:=by
 unfold fH
 split
 .rename_i h
  obtain⟨_,e⟩:=DW h;rw[e]at h;exact Nw h
 exact hT
theorem adL {T l:List aH} (hT:(gB p.group p.cols.length T).2=0) (h:(fP cols p T l).2=0) (r:List ay):wtL (fP cols p T l).1 r=wtL (gB p.group p.cols.length (fH cols p T l)).1 r-wtL (gB p.group p.cols.length T).1 r:=by
 obtain⟨_,e⟩:=DW h;unfold fH;rw[zac h];rw[e]at h ⊢;exact agx hT h r
/-! The pieces of the stage's theorem:all that were put in,all that were answered. -/
structure TB where
 T:List aH
 all:List aH
 outs:List aH
def Qt (cols:List bF) (p:aW) (s:TB) (l:List aH):TB:=
 if(fP cols p s.T l).2=0 then⟨fH cols p s.T l,s.all++l,s.outs++(fP cols p s.T l).1⟩else s
def goodRun (cols:List bF) (p:aW) (s:TB):Prop:=
 (dD cols p s.all).2=0/\s.T=(dD cols p s.all).1/\(gB p.group p.cols.length s.T).2=0/\∀r,wtL s.outs r=wtL (gB p.group p.cols.length s.T).1 r
theorem adM {s:TB} {l:List aH} (h:goodRun cols p s):goodRun cols p (Qt cols p s l):=by
 obtain⟨h1,h2,h3,h4⟩:=h;unfold Qt
 split
 .rename_i ha
  obtain⟨hi,_⟩:=DW ha;have hap:=Qs h1 hi;have hb:fH cols p s.T l=s.T++(dD cols p l).1:=zac ha;refine⟨by dsimp only;rw[hap],by dsimp only;rw[hap,hb,h2],GD h3,λr=>?_⟩;dsimp only;rw[iD,h4,adL h3 ha];omega
 exact⟨h1,h2,h3,h4⟩
/-! Items that are there and then not. -/
end
theorem WQ {cols cols':List bF} {x:aZ} (hk:x.kind≠1):je cols x=je cols' x:=by
 unfold je;rw[zab hk,zab hk]
theorem aax {cols cols':List bF} {x:aZ} {st:List bN} (h:x.kind=1->je cols x=je cols' x):stepT cols st x=stepT cols' st x:=by
 have e:je cols x=je cols' x:=by
  by_cases hk:x.kind=1
  .exact h hk
  exact WQ hk
 unfold stepT;rw[e]
theorem TD {cols cols':List bF}: ∀{l:List aZ} {st:List bN},(∀x∈l,x.kind=1->je cols x=je cols' x)->runT cols st l=runT cols' st l
 | [],_,_=>rfl
 | x::l,st,h=>by
  rw[runT,runT,aax (h x zae)];cases stepT cols' st x with
  | none=>rfl
  | some s=>exact TD λy hy=>h y (zag _ hy)
theorem AP {cols cols':List bF} {l:List aZ} (h: ∀x∈l,x.kind=1->je cols x=je cols' x):iA cols l=iA cols' l:=by
 unfold iA;rw[TD h]
theorem NM {cols cols':List bF} {g:Int}: ∀{l:List j4} {i:Nat} {acc:List bF},(∀o∈l,iA cols o.steps=iA cols' o.steps)->zi cols g i l acc=zi cols' g i l acc
 | [],_,_,_=>rfl
 | o::l,i,acc,h=>by
  have ih:=λacc=>NM (g:=g) (i:=i+1) (acc:=acc) λx hx=>h x (zag _ hx);rw[zi,zi,h o zae];simp only[ih]
theorem KD {cols cols':List bF} {p:aW} (h: ∀x∈p.wh++p.cols.flatMap (·.steps),x.kind=1->je cols x=je cols' x):dB cols p=dB cols' p:=by
 have h1:iA cols p.wh=iA cols' p.wh:=AP λx hx=>h x (zcd _ hx);have h2: ∀o∈p.cols,iA cols o.steps=iA cols' o.steps:=λo ho=>AP λx hx=>h x (zce _ (zcz.2 ⟨o,ho,hx⟩));unfold dB;rw[h1,NM h2]
theorem TF {cols:List bF} {x:aZ} (hx1:x.kind=1) (hm:je cols x=none): ∀{l:List aZ} {st:List bN},x∈l->runT cols st l=none
  | y::l,st,hx=>by
    rw[runT]
    rcases zan.1 hx with rfl | hx
    . have :stepT cols st x=none:=by
        unfold stepT;have hk:dz x.kind=0:=by rw[hx1];rfl
        dsimp only;rw[hk]
        split
        . rfl
        rw[zac rfl,hm];rfl
      rw[this];rfl
    cases stepT cols st y with
    | none=>rfl
    | some s=>exact TF hx1 hm hx
theorem NQ {cols:List bF} {r:List ay}:dY cols r=0↔cols.length=r.length/\∀q∈cols.zip r,eF q.1.type q.2=0:=by
 unfold dY
 by_cases hl:cols.length=r.length
 .rw[zab (not_not_intro hl)]
  cases hf:((cols.zip r).map λp=>eF p.1.type p.2).find? (λe=>decide (e≠0))with
  | none=>
   refine⟨λ_=>⟨hl,λq hq=>?_⟩,λ_=>rfl⟩;have:=zen.1 hf _ (zdu hq);simpa using this
  | some e=>
   have he:e≠0:=by simpa using List.find?_some hf
   obtain⟨q,hq,rfl⟩:=zat.1 (zdv hf);exact⟨λh=>zap h he,λh=>zap (h.2 q hq) he⟩
 rw[zac hl];exact⟨λh=>zap h dC,λh=>zap h.1 hl⟩
/-! Columns of int64 in the place of int32. -/
def DX (t:bN):bN:=if t.kind=2 then⟨3,t.null⟩else t
def nY (c:bF):bF:=⟨c.id,c.name,DX c.type,c.dflt⟩
theorem NR (cols:List bF) (id:Int):lC (cols.map nY) id=lC cols id:=by
 unfold lC;rw[List.findIdx?_map];rfl
theorem adN (t:bN):nC (DX t)=nC t:=by
 unfold DX
 split
 .rename_i h;unfold nC;rw[h];rfl
 rfl
theorem MP (cols:List bF) (i:Nat):((cols.map nY).getD i ⟨0,[],jF,cell0⟩).type=DX (cols.getD i ⟨0,[],jF,cell0⟩).type:=by
 rw[zak,zak,zcr];cases cols[i]? <;>rfl
theorem NS (cols:List bF) (x:aZ):je (cols.map nY) x=je cols x:=by
 unfold je
 split
 .rw[NR]
  cases lC cols x.n with
  | none=>rfl
  | some i=>
   dsimp only;rw[MP,adN]
   split
   .rfl
   congr 1
   unfold DX
   by_cases h:(cols.getD i ⟨0,[],jF,cell0⟩).type.kind=2
   .rw[zac h];exact zab (show ¬(3:Int)=2 from dC)
   rw[zab h,zab h]
 rfl
theorem WR {t:bN} {c:ay} (h:eF t c=0):eF (DX t) c=0:=by
 unfold DX
 split
 .rename_i hk
  unfold eF at h ⊢;have hm:nC t=true:=by unfold nC;rw[hk];decide
  rw[hm,zab dC]at h;rw[zab (show ¬nC ⟨3,t.null⟩=false from λe=>zap (show true=false from e) dC)]
  split at h
  .rename_i hn;rw[zac hn];exact h
  rename_i hn;rw[zab hn];rw[hk]at h
  split at h
  .rename_i hi
   unfold isC at hi;rw[zab dC,zac rfl,decide_eq_true_iff]at hi;rw[zac (show isC 3 c=true by unfold isC;rw[zab dC,zab dC,zac rfl];exact zbj hi.1)]
  exact zap h dC
 exact h
theorem BU {cols:List bF} {r:List ay} (h:dY cols r=0):dY (cols.map nY) r=0:=by
 obtain⟨h1,h2⟩:=NQ.1 h;refine NQ.2 ⟨by rw[zaf];exact h1,λq hq=>?_⟩;rw[List.zip_map_left]at hq;obtain⟨q',hq',rfl⟩:=zat.1 hq;exact WR (h2 q' hq')
theorem TG (cols:List bF) (r:List ay): ∀(l:List aZ) (st:List ay),zS (cols.map nY) r st l=zS cols r st l
 | [],_=>rfl
 | x::l,st=>by
  rw[zS,zS];have e:Cn (cols.map nY) r st x=Cn cols r st x:=by unfold Cn;rw[NR]
  rw[e];exact zbb _ (funext λst=>TG cols r l st)
theorem aay (cols:List bF) (l:List aZ):iA (cols.map nY) l=iA cols l:=AP λx _ _=>NS cols x
theorem NT {cols:List bF} {r:List ay} (h:dY cols r=0) (l:List aZ):lN (cols.map nY) l r=lN cols l r:=by
 unfold lN;rw[aay,BU h,h,TG]
theorem TH (cols:List bF) (p:aW):dB (cols.map nY) p=dB cols p:=KD λx _ _=>NS cols x
theorem KE {cols:List bF} {r:List ay} (h:dY cols r=0): ∀l:List j4,fA (cols.map nY) r l=fA cols r l
 | []=>rfl
 | o::l=>by rw[fA,fA,NT h,KE h l]
theorem aaz {cols:List bF} {p:aW} {r:List ay} (h:dY cols r=0):iG (cols.map nY) p r=iG cols p r:=by
 unfold iG BS;rw[BU h,h,NT h,KE h]
theorem adO {cols:List bF} {p:aW} {r:List ay} (h:(iG cols p r).2.2=0):dY cols r=0:=by
 unfold iG at h
 split at h
 .rename_i h1;exact zap h h1
 rename_i h1;exact zca.1 h1
theorem KF {cols:List bF} {p:aW}: ∀{l:List aH},(dD cols p l).2=0->dD (cols.map nY) p l=dD cols p l
 | [],_=>rfl
 | x::l,h=>by
  rw[dD]at h
  split at h
  .rename_i h1;exact zap h h1
  rename_i h1;have h1:=zca.1 h1
  split at h
  .rename_i h2;exact zap h h2
  rename_i h2;rw[dD,dD,aaz (adO h1),KF (zca.1 h2)]
theorem TI {cols:List bF} {p:aW} {l:List aH} (h:(iq cols p l).2=0):iq (cols.map nY) p l=iq cols p l:=by
 have h0:=h;unfold iq at h
 split at h
 .rename_i h1;exact zap h h1
 rename_i h1
 split at h
 .rename_i h2;exact zap h h2
 rename_i h2;have hi:=(DW (zca.1 h2)).1;unfold iq fH fP;rw[TH,KF hi]
/-! A column that is not used,behind the others. -/
theorem NU {cols:List bF} {c:bF} {id:Int} (h:c.id≠id):lC (cols++[c]) id=lC cols id:=by
 unfold lC;rw[List.findIdx?_append];cases List.findIdx? (λc=>decide (c.id=id)) cols with
 | some i=>rfl
 | none=>
  rw[zgc,zas h];rfl
theorem TJ {cols:List bF} {id:Int} {i:Nat} (h:lC cols id=some i):i<cols.length:=(zct.1 h).1
theorem NV {cols:List bF} {c:bF} {x:aZ} (h:x.kind=1->c.id≠x.n):je (cols++[c]) x=je cols x:=by
 unfold je
 split
 .rename_i hk
  rw[NU (h hk)];cases hf:lC cols x.n with
  | none=>rfl
  | some i=>
   have bH:=TJ hf;dsimp only;rw[zak,zbz bH,<-zak]
 rfl
theorem TK {α β:Type} {a:α} {b:β}: ∀{l:List α} {m:List β},l.length=m.length->(l++[a]).zip (m++[b])=l.zip m++[(a,b)]
 | [],[],_=>rfl
 | [],_::_,h=>by simp at h
 | _::_,[],h=>by simp at h
 | x::l,y::m,h=>by
  rw[zbx,zbx,List.zip_cons_cons,List.zip_cons_cons,TK (by simpa using h)];rfl
theorem BX {cols:List bF} {c:bF} {r:List ay} {x:ay} (hl:cols.length=r.length) (h:eF c.type x=0):dY (cols++[c]) (r++[x])=dY cols r:=by
 unfold dY;rw[zab (by rw[zad,zad,hl];exact not_not_intro rfl),zab (not_not_intro hl),TK hl,zau,List.find?_append];cases List.find? (λe=>decide (e≠0)) ((cols.zip r).map λp=>eF p.1.type p.2)with
 | some e=>rfl
 | none=>simp[h]
theorem TL {cols:List bF} {c:bF} {r:List ay} {x:ay} (hl:cols.length=r.length): ∀(l:List aZ) (st:List ay),(∀y∈l,y.kind=1->c.id≠y.n/\(lC cols y.n).isSome=true)->zS (cols++[c]) (r++[x]) st l=zS cols r st l
 | [],_,_=>rfl
 | y::l,st,h=>by
  rw[zS,zS]
  have e:Cn (cols++[c]) (r++[x]) st y=Cn cols r st y:=by
   unfold Cn
   by_cases hk:y.kind=1
   .obtain⟨h1,h2⟩:=h y zae hk
    obtain⟨i,hi⟩:=zes.1 h2;have bH:=TJ hi;rw[NU h1,hi];dsimp only[Option.getD_some];rw[zak,zbz oM,<-zak]
   dsimp only;rw[zab hk,zab hk]
  rw[e];exact zbb _ (funext λst=>TL hl l st λz hz=>h z (zag _ hz))
theorem adP {cols:List bF} {l:List aZ} (h:(iA cols l).2=0): ∀y∈l,y.kind=1->(lC cols y.n).isSome=true:=λy hy hk=>by
 cases hf:lC cols y.n with
 | some i=>rfl
 | none=>
  exfalso;have hm:je cols y=none:=by unfold je;rw[zac hk,hf]
  have:=TF hk hm (st:=[]) hy;unfold iA at h
  split at h
  .exact zap h dC
  rw[this]at h;exact zap h dC
theorem NW {cols:List bF} {c:bF} {r:List ay} {x:ay} {l:List aZ} (hl:cols.length=r.length) (hc:eF c.type x=0) (hu: ∀y∈l,y.kind=1->c.id≠y.n):lN (cols++[c]) l (r++[x])=lN cols l r:=by
 have ht:iA (cols++[c]) l=iA cols l:=AP λy hy hk=>NV λ_=>hu y hy hk;unfold lN;rw[ht,BX hl hc]
 by_cases h0:(iA cols l).2=0
 .rw[TL hl l [] λy hy hk=>⟨hu y hy hk,adP h0 y hy hk⟩]
 rw[zac h0,zac h0]
theorem KG {cols:List bF} {c:bF} {r:List ay} {x:ay} (hl:cols.length=r.length) (hc:eF c.type x=0): ∀{l:List j4},(∀o∈l,∀y∈o.steps,y.kind=1->c.id≠y.n)->fA (cols++[c]) (r++[x]) l=fA cols r l
 | [],_=>rfl
 | o::l,h=>by rw[fA,fA,NW hl hc (h o zae),KG hl hc λu hu=>h u (zag _ hu)]
theorem aaA {cols:List bF} {c:bF} {p:aW} {r:List ay} {x:ay} (hl:cols.length=r.length) (hc:eF c.type x=0) (hu: ∀y∈p.wh++p.cols.flatMap (·.steps),y.kind=1->c.id≠y.n):iG (cols++[c]) p (r++[x])=iG cols p r:=by
 unfold iG BS;rw[BX hl hc,NW hl hc λy hy=>hu y (zcd _ hy),KG hl hc λo ho y hy=>hu y (zce _ (zcz.2 ⟨o,ho,hy⟩))]
section
variable {cols:List bF} {p:aW}
end
def rQ (l:List aH) (es:List ay):List aH:=List.zipWith (λx e=>⟨x.row++[e],x.w⟩) l es
theorem KH {cols:List bF} {c:bF} {p:aW} (hu: ∀y∈p.wh++p.cols.flatMap (·.steps),y.kind=1->c.id≠y.n): ∀{l:List aH} {es:List ay},(∀x∈l,cols.length=x.row.length)->(∀e∈es,eF c.type e=0)->l.length=es.length->dD (cols++[c]) p (rQ l es)=dD cols p l
 | [],[],_,_,_=>rfl
 | x::l,e::es,hl,he,hn=>by
  have ih:=KH hu (l:=l) (es:=es) (λy hy=>hl y (zag _ hy)) (λy hy=>he y (zag _ hy)) (Nat.succ.inj hn);have hm:=aaA (p:=p) (hl x zae) (he e zae) hu;show dD (cols++[c]) p (⟨x.row++[e],x.w⟩::rQ l es)=_
  rw[dD,dD,ih,hm]
theorem WS {cols:List bF} {c:bF} {p:aW} (hu: ∀y∈p.wh++p.cols.flatMap (·.steps),y.kind=1->c.id≠y.n):dB (cols++[c]) p=dB cols p:=
 KD λx hx _=>NV (hu x hx)
theorem TM {cols:List bF} {c:bF} {p:aW} {l:List aH} {es:List ay} (hu: ∀y∈p.wh++p.cols.flatMap (·.steps),y.kind=1->c.id≠y.n) (hl: ∀x∈l,cols.length=x.row.length) (he: ∀e∈es,eF c.type e=0) (hn:l.length=es.length):
    iq (cols++[c]) p (rQ l es)=iq cols p l:=by
  unfold iq fH fP;rw[WS hu,KH hu hl he hn]
theorem KI (r:List ay): ∀ks:List (List ay),(MJ r ks).length<=ks.length+1
 | []=>zbk _
 | k::ks=>by
  have:=KI r ks;rw[MJ]
  split
  .exact zbk _
  split
  .exact Nat.le_succ _
  simp only[zal];omega
theorem NY: ∀l:List aH,(sO l).length<=l.length
 | []=>zbk _
 | x::l=>by
  have h1:=NY l;have h2:=KI x.row (sO l);rw[sO,zal];omega
theorem DY (l:List aH):(cZ l).1.length<=l.length:=by
 unfold cZ
 split
 .unfold Jq
  rw[zaf];exact zcl (zep _ _) (NY l)
 exact zaq _
theorem Fb {l:List aH} {o:aH} (h:o∈(cZ l).1): ∃x∈l,x.row=o.row:=by
 unfold cZ at h
 split at h
 .exact vK.1 (ES.1 h).1
 exact zap h zao
def KJ (T m:List aH):(List aH×Int)×List aH:=
 if(cZ m).2≠0 then(([],(cZ m).2),T)else if(BJ T (cZ m).1).2≠0 then(([],(BJ T (cZ m).1).2),T)else(((cZ m).1,0),(BJ T (cZ m).1).1)
section
variable {w:Wd} {F:NP}
theorem TN {bp:Nat} {tv v:Value} {T m:List aH} (hp:(star (blk bp [tv] 106) (zu tv T)).ok F w) (hm: ∀w1,Kept F w w1->eT w1 v m) (hTl:T.length<=500) (Bz:m.length<=500) (hTf: ∀o∈T,fits o.w) (hmf: ∀o∈m,fits o.w) (hTr: ∀o∈T,o.row.length<=1000) (hmr: ∀o∈m,o.row.length<=1000):
    aY prog 388 [av bp,v] w λu w'=>∃x:(Value×List Held)×Value,u=.tuple #[x.1.1,I (KJ T m).1.2]/\x.1.2.map (·.2)=(KJ T m).1.1/\Turn F (star (eU x.1.1 x.1.2) (star (blk bp [x.2] 106) (zu x.2 (KJ T m).2))) w w':=by
  have H:=(Sep.bW hp).bR;refine dF func388 rfl rfl rfl rfl ?_;refine Zb3 ?_;refine dn H (DU (hm _ H.kept) oM hmf hmr) (h:=λx _ hx k _=>?_);obtain⟨xv,L⟩:=x;dsimp only at hx k ⊢;refine Za7 ?_;refine Qn (Cp rfl (λS=>?_) (λS=>?_))
  . have jO:KJ T m=(([],(cZ m).2),T):=by unfold KJ;rw[zac S]
    refine Zb3 ?_;exact⟨((.slice none 0 0,[]),tv),by rw[jO];rfl,by rw[jO];rfl,by rw[jO];exact(Sep.jM (dN k.dA.bD) 82 2).bD.bD.turn⟩
  have yX:(cZ m).2=0:=Decidable.of_not_not S;have hZ:isZ (cZ m).1:=vM;have hdl:=DY m;refine Zb5 ?_;have hT0:eT _ tv T:=Sep.sees k At2;have hX0:=jw k At0;rw[hx]at hX0;refine dn k (NK hT0 hX0 hTl oM hTf (λo ho=>by have h:=zba (hZ.2.2 o ho);unfold fits;omega) hTr (λo ho=>by obtain⟨q,hq,e⟩:=Fb ho;rw[<-e];exact hmr q hq)) (h:=λy _ hy S _=>?_);obtain⟨yv,Ly⟩:=y;dsimp only at hy S ⊢;obtain⟨Y,cy,rfl,_,_⟩:=Sep.dQ S.bR At0;refine Za7 ?_;refine Qn (Cp rfl (λk=>?_) (λk=>?_))
  . have jO:KJ T m=(([],(BJ T (cZ m).1).2),T):=by unfold KJ;rw[zab (λh=>h yX),zac k]
    refine Zb3 ?_;exact⟨((.slice none 0 0,[]),tv),by rw[jO];rfl,by rw[jO];rfl,by rw[jO];exact(Sep.jM (dN S.dA.dA.bD) 82 2).bD.bD.turn⟩
  have ha0:(BJ T (cZ m).1).2=0:=Decidable.of_not_not k;have jO:KJ T m=(((cZ m).1,0),(BJ T (cZ m).1).1):=by unfold KJ;rw[zab (λh=>h yX),zab k]
  refine Zb4 ?_;refine bB S (h:=λ_ k=>?_);refine Zb3 ?_;have h1:=MK k At0;rw[hy]at h1;exact⟨((xv,L),_),by rw[jO];rfl,by rw[jO];exact hx,by rw[jO];exact(h1.aU.bD.aL.bD.first.turn)⟩
theorem adQ {l:List aH} {v:Value} (hl:eT w v l) (hn:l.length<=1000) (uS: ∀o∈l,o.row.length<=1000):aY prog 390 [v] w λu w'=>∃x:Value×List Held,u=x.1/\x.2.map (·.2)=l/\Turn noB (eU x.1 x.2) w w':=by
 obtain⟨r,hr,iI⟩:=hl;obtain⟨A,m,rfl,⟨hm,qX⟩,hA⟩:=hr;have BD:=iI.len;have H:=Sep.aJ w;refine dI func390 rfl rfl rfl rfl ?_;refine Zb4 ?_;refine aR (λx:(OA×Nat)×List Held×Nat=>[(2,.slice x.1.1 (eu x.2.1).length x.1.2),(5,.slice A r.length m),(6,I r.length),(7,I x.2.2)]) (λx w'=>(x.2.2<=r.length/\x.2.1.map (·.2)=l.take x.2.2)/\Mw.Sep w noB [bJ 82 2 aG (.slice x.1.1 (eu x.2.1).length x.1.2) (eu x.2.1),xu 52 3 ah (·.1) (λb:Held=>b.2.row) x.2.1] w') (λx _=>r.length-x.2.2) ((none,0),[],0) tR ⟨⟨zaq _,rfl⟩,Sep.jM (dN H) 82 2⟩ (λx τ _ hI=>?_);obtain⟨⟨R,cR⟩,L,i⟩:=x;obtain⟨⟨hi,hL⟩,k⟩:=hI;dsimp only at hi hL k
 try simp only[cK,like,aS,bK]
 refine Za1 ?_;refine Qn (dW (Cp rfl (λS=>?_) (λS=>?_)))
 .have bH:i<r.length:=oM
  obtain⟨o,ho⟩:=get_some (l:=l) (show i<l.length from oM);have hom:=zam ho;obtain⟨vo,Ry,VZ⟩:=iI.get ho;have aj2:=VZ;obtain⟨Vo,co,rfl,_,_⟩:=VZ;have hLr:(eu L).length=L.length:=zaf _
  have hLn:L.length<=i:=by
   have h1:=zbb List.length hL;rw[zaf,zaj]at h1;omega
  refine Zb2 ?_;refine aO k (h:=λb4 _ S _=>?_);refine ak S (h:=λ_ _=>?_);refine Qn (Ds (λS _ a=>?_));refine Zb3 ?_;refine Gp S 4 rfl rfl (λ_=>(Gives.uU rfl)) (Zb1 ?_);refine fV S 3 [(5,false),(4,true),(0,true)] a (oZ (aj2.keep a.kept) (uS o hom)) (h:=λy _ _ a _=>?_);obtain⟨Y,cy,rfl,_,_⟩:=Sep.dQ a At0;refine⟨sL,?_⟩;refine Gb S 6 (aG (.slice Y o.row.length cy,o.w)) ?_;refine Gz S 7 _ a ([(Value.slice Y o.row.length cy,o.w)].flatMap aG) (h:=λbs _ a=>⟨sT,?_⟩);refine jP S 8 _ a (news:=[(Value.slice Y o.row.length cy,o.w)]) At2 (by unfold maxLen;simp only[zah];omega) (by simp only[zah];omega) (λu hu=>zbf.1 (show([(Value.slice Y o.row.length cy,o.w)].flatMap aG).all Value.oneCell'=true from rfl) u hu) (h:=λv9 _ a=>?_);obtain⟨R2,cR2,rfl,_,_⟩:=Sep.dQ a At2
  have ZH:eu L++[(Value.slice Y o.row.length cy,o.w)]=eu (L++[(Value.slice Y o.row.length cy,o)]):=by
   unfold eu;rw[zau];rfl
  have Ey:(L++[(Value.slice Y o.row.length cy,o)]).map (·.2)=l.take (i+1):=by rw[zau,hL,zbd,ho];rfl
  refine⟨sT,?_⟩;refine Ja S 9 _ (h:=⟨sT,?_⟩);refine Zb0 ?_;refine Vc ((i+1:Nat):Int) ?_;refine Zb1 ?_;have ZG:=(jV (x:=.slice Y o.row.length cy) (o:=o) (a.aL.dA.aU.aL)).aL;rw[ZH]at ZG;exact aj ((R2,cR2),L++[(Value.slice Y o.row.length cy,o)],i+1) ⟨by rw[<-ZH];rfl,rfl,rfl,rfl,trivial⟩ ⟨⟨dO,Ey⟩,ZG⟩ dO
 have oQ:l.take i=l:=zax oM;refine Zb2 ?_;exact⟨(_,L),rfl,by dsimp only;rw[hL,oQ],k.bD.turn⟩
end
abbrev GH (L:List Held):HP:=xu 52 3 ah (·.1) (λb:Held=>b.2.row) L
theorem TP {w0 w:Wd} {S:NP} {rs:List HP} {put:HP->List HP} {L:List Held} (H:Mw.Sep w0 S rs w) (hat:At rs (GH L) put):fK w (eu L) (L.map (·.2)):=by
 obtain⟨F,hp,_,_⟩:=H.focus hat;exact zw hp
section
variable {w:Wd}
end
section
variable {w:Wd}
end
end Go.Proofs.YtkfpleidaoaonaaGreatDoor
namespace Go.Mw
open Go.RowKit
class IsIface (P:Program) (t:Td):Prop where
 und:P.underlying t=some (.interface (P.methodsAt t))
def IsNil (a:Value) (b:Bool):Prop:=(b=true/\a=.nilIface)\/(b=false/\∃t p,a=.iface t p)
section
variable {P:Program} {w w0:Wd} {ρ:Od->Value} {ty:Td} {x:Od} {S:NP} {rs:List HP} {put:HP->List HP}
theorem Gives.Qu {T U:Td} [h:IsIface P T] {a:Value} {b:Bool} (ha:IsNil a b) (hx:ρ x=a) (hy:ρ (.const .nilIface)=.nilIface):Gives P ρ (.binOp .eql T x (.const .nilIface) U) ty w (.bool b) w:=by
 intro _ _ _ _
 rcases ha with⟨rfl,rfl⟩ | ⟨rfl,t,p,rfl⟩
 .have hg:(eqGuard .eql T x (.const .nilIface) .nilIface .nilIface).run P w=.ok () w:=by cases x<;>rfl
  simp only[execOp,hx,hy,zbh,hg,zai,run_eql_nil_nil w T h.und,zbm]
 have hg:(eqGuard .eql T x (.const .nilIface) (.iface t p) .nilIface).run P w=.ok () w:=rfl;simp only[execOp,hx,hy,zbh,hg,zai,run_eql_held_nil w T t p h.und,zbm]
theorem MQ {T k e:Td} [hm:IsMap P T k e] {b n:Nat} {f:ByteArray->Option Value} (H:Sep w0 S rs w) (hat:At rs (zk b f n) put) (hx:ρ x=.map (some b)):
    Gives P ρ (.call {callee:=.builtin .len,args:= #[x],argTypes:= #[T]}) ty w (.int .i64 n) w:=by
  obtain⟨es,c,hb,hk,_⟩:=H.ada hat;intro _ _ _ _;simp[execOp,resolve,invoke,builtin,hx,Builtin.len_,run_underlying hm.und,goInt,iN hb,hk.2]
end
section
variable {P:Program} {r:Option Nat} {n:Nat} {ops:AO} {Q:Post} {rest:LO} {σ:St} {w w0:Wd} {S:NP} {rs:List HP} {put:HP->List HP} {ty:Td} {pos:String} {after:Array Edge}
theorem MR {x y z:Od} {T k el:Td} [hm:IsMap P T k el] [hk:j3 P k] {b c:Nat} {f:ByteArray->Option Value} {i:ByteArray} {v:Value} (H:Sep w0 S rs w) (hat:At rs (zk b f c) put)
    (hx:evF σ x=.map (some b)) (hy:evF σ y=.string i) (hz:evF σ z=v) (h: ∀w',Sep w0 S (put (zk b (λk=>if k=i then some v else f k) (if f i=none then c+1 else c))) w'->FL P r n ops Q rest σ w'):
    FL P r n ops Q (⟨none,.mapUpdate T x y z,ty,pos,after,none⟩::rest) σ w:=by
  obtain⟨w',ha,hs⟩:=Jp (P:=P) (ty:=ty) (T:=T) H hat hx hy hz;exact EI ha rfl (h w' hs)
end
structure Had (ns:List (L8)) (f:ByteArray->Option Value) (n:Nat):Prop where
 le:n<=ns.length
 nd:n=ns.length↔ns.Nodup
 val: ∀x,∃c:Nat,c<=ns.length/\(f x).getD (.int .i64 0)=.int .i64 (c:Int)
 mem: ∀x:L8,f ⟨x.toArray⟩=none↔x∉ns
theorem Had.nil:Had [] (λ_=>none) 0:=⟨zbk _,sM,λx=>⟨0,zbk _,rfl⟩,λx=>sM⟩
theorem Had.push {ns:List (L8)} {f:ByteArray->Option Value} {n:Nat} (h:Had ns f n) (x:L8) {c:Nat} (hc:c<=ns.length):
    Had (ns++[x]) (λk=>if k=⟨x.toArray⟩then some (.int .i64 ((c+1:Nat):Int))else f k) (if f ⟨x.toArray⟩=none then n+1 else n):=by
  have hl:(ns++[x]).length=ns.length+1:=sM
  have hnd:(ns++[x]).Nodup↔ns.Nodup/\x∉ns:=by
    rw[zei];constructor
    . rintro⟨h1,_,h3⟩
      exact⟨h1,λhx=>h3 x hx x sM rfl⟩
    rintro⟨h1,h2⟩;exact⟨h1,sM,λa ha b hb e=>by rw[zar]at hb;subst hb;subst e;exact h2 ha⟩
  have q9:=h.le;refine⟨?_,?_,λk=>?_,λk=>?_⟩
  . rw[hl];split<;>omega
  . rw[hl,hnd,<-h.mem x]
    by_cases e:f ⟨x.toArray⟩=none
    . rw[zac e,<-h.nd]
      exact⟨λh1=>⟨oM,e⟩,λh1=>by have:=h1.1;omega⟩
    rw[zab e];exact⟨λh1=>oM,λh1=>zap h1.2 e⟩
  . by_cases e:k=⟨x.toArray⟩
    . exact⟨c+1,by rw[hl];omega,by rw[zac e];rfl⟩
    obtain⟨d,h1,h2⟩:=h.val k;exact⟨d,by rw[hl];omega,by rw[zab e];exact h2⟩
  by_cases e:k=x
  . subst e
    rw[zac rfl];simp
  rw[zab (λhe=>e (by injection he with he;injection he)),h.mem k];simp[e]
end Go.Mw
namespace Go.Proofs.YtkfpleidaoaonaaGreatDoor
open Go Go.Mw Go.Lib Go.Proofs.Tryz
set_option maxRecDepth 4000
attribute [local irreducible] FW FL FG FGn fZ gG cO gW Qfn Gives
def nameSet:L8:=[97,98,99,100,101,102,103,104,105,106,107,108,109,110,111,112,113,114,115,116,117,118,119,120,121,122,48,49,50,51,52,53,54,55,56,57,95]
theorem TQ (c:UInt8):nameSet.contains c=uD c:=by
 have key: ∀n:Fin 256,nameSet.contains (UInt8.ofNat n.val)=uD (UInt8.ofNat n.val):=by decide+kernel
 have:=key ⟨c.toNat,c.toNat_lt⟩;simpa using this
theorem dropWhile_nil {α:Type} {p:α->Bool}: ∀{l:List α},l.dropWhile p=[]↔∀x∈l,p x=true
 | []=>sM
 | x::l=>by
  have ih:=dropWhile_nil (p:=p) (l:=l)
  by_cases h:p x=true
  .rw[List.dropWhile_cons_of_pos h,ih]
   simp[h]
  rw[List.dropWhile_cons_of_neg h];simp[h]
def aaB (r:Nat):Bool:=decide ((r<97\/122<r)/\(r<48\/57<r)/\r≠95)
theorem aaC (c:UInt8):uD c=true->c.toNat<128/\aaB c.toNat=false:=by
 intro h;unfold uD aaf tX at h;simp only[Bool.or_eq_true,decide_eq_true_eq]at h;have h95:c=95->c.toNat=95:=λe=>by rw[e];rfl
 have hc:(97<=c.toNat/\c.toNat<=122)\/c.toNat=95\/(48<=c.toNat/\c.toNat<=57):=by
  rcases h with(h | h) | h
  .exact .inl h
  .exact .inr (.inl (h95 h))
  exact .inr (.inr h)
 exact⟨oM,zas oM⟩
section
variable {w:Wd}
theorem aje (r:Nat):aY prog 178 [I32 r] w λv w'=>v=.bool (aaB r)/\w=w':=by
 unfold aaB;refine dI func178 rfl rfl rfl rfl ?_;refine Zb4 ?_;refine aF (t:=5) rfl (λH=>?_) (λH=>?_)
 .refine Zb5 ?_
  refine aF (t:=12) rfl (λH=>?_) (λH=>?_)
  .refine Zb7 ?_
   exact⟨by first | exact zbb Value.bool (Eq.symm (zas oM)) | exact zbb Value.bool (Eq.symm (zbj oM)) | exact zbb Value.bool (zbg.2 oM),rfl⟩
  refine Zb5 ?_;refine aF (t:=17) rfl (λH=>?_) (λH=>?_)
  .refine Zb4 ?_
   exact⟨by first | exact zbb Value.bool (Eq.symm (zas oM)) | exact zbb Value.bool (Eq.symm (zbj oM)) | exact zbb Value.bool (zbg.2 oM),rfl⟩
  refine Zb2 ?_;exact⟨by first | exact zbb Value.bool (Eq.symm (zas oM)) | exact zbb Value.bool (Eq.symm (zbj oM)) | exact zbb Value.bool (zbg.2 oM),rfl⟩
 refine Zb4 ?_;refine aF (t:=9) rfl (λH=>?_) (λH=>?_)
 .refine Zb3 ?_
  refine aF (t:=12) rfl (λH=>?_) (λH=>?_)
  .refine Zb7 ?_
   exact⟨by first | exact zbb Value.bool (Eq.symm (zas oM)) | exact zbb Value.bool (Eq.symm (zbj oM)) | exact zbb Value.bool (zbg.2 oM),rfl⟩
  refine Zb5 ?_;refine aF (t:=17) rfl (λH=>?_) (λH=>?_)
  .refine Zb4 ?_
   exact⟨by first | exact zbb Value.bool (Eq.symm (zas oM)) | exact zbb Value.bool (Eq.symm (zbj oM)) | exact zbb Value.bool (zbg.2 oM),rfl⟩
  refine Zb2 ?_;exact⟨by first | exact zbb Value.bool (Eq.symm (zas oM)) | exact zbb Value.bool (Eq.symm (zbj oM)) | exact zbb Value.bool (zbg.2 oM),rfl⟩
 refine Zb4 ?_;exact⟨by first | exact zbb Value.bool (Eq.symm (zas oM)) | exact zbb Value.bool (Eq.symm (zbj oM)) | exact zbb Value.bool (zbg.2 oM),rfl⟩
theorem NZ {p:Bool} {b:Nat} (c:UInt8) (hc:w.cell? ⟨b,c.toNat,none⟩=some (.bool p)):aY prog 318 [av b,.int .u8 c.toNat] w λv w'=>v=.bool p/\w=w':=
 jQ (Tryz.asciiSet_contains b c p w hc)
theorem TR {p:UInt8->Bool} {b:Nat} (s:L8) (xE: ∀c:UInt8,w.cell? ⟨b,c.toNat,none⟩=some (.bool (p c))):Rk prog 239 [str s,av b] w (str (s.dropWhile p)):=by
 have H:=Sep.aJ w;refine dF func239 rfl rfl rfl rfl ?_;refine Zb1 ?_;refine aR (λt:L8=>[(0,str t),(1,av b)]) (λt w'=>t.dropWhile p=s.dropWhile p/\Sep w noB [] w') (λt _=>t.length) s tR ⟨rfl,H⟩ (λt τ _ hI=>?_);obtain⟨ht,k⟩:=hI
 try simp only[cK,like,aS,bK]
 refine Za3 ?_;refine Qn (Cp rfl (λS=>?_) (λS=>?_))
 .obtain⟨c,r,rfl⟩: ∃c r,t=c::r:=zeu oM
  refine Zb2 ?_;refine Vv (Gives.yV (l:=c::r) (i:=0) rfl rfl sM) ?_;refine eY (NZ c (k.kept.cell (xE c) id)) (h:=?_);refine Vv (Gives.not rfl) (Qn ?_);refine Cd rfl (λS=>?_) (λS=>?_)
  .have hp:p c=false:=by simpa using S
   refine Zb2 ?_;exact⟨by rw[<-ht,List.dropWhile_cons_of_neg (by rw[hp];decide)];rfl,k.kept⟩
  have hp:p c=true:=by simpa using S
  refine Zb1 ?_;refine Vv (Gives.oJ (l:=c::r) (i:=1) rfl rfl sM) ?_;refine Zb1 ?_;exact aj r tR ⟨by rw[<-ht,List.dropWhile_cons_of_pos hp],k⟩ sM
 have he:t=[]:=zbe oM;subst he;refine Zb2 ?_;exact⟨by rw[<-ht];rfl,k.kept⟩
theorem Qv {p:UInt8->Bool} {b:Nat} (s:L8) (xE: ∀c:UInt8,w.cell? ⟨b,c.toNat,none⟩=some (.bool (p c))) (hl:s.length<=1000000):aY prog 240 [str s,av b] w λv w'=>(∃n,v=str (s.take n)/\n<=s.length/\(∀(j:Nat) c,n<=j->s[j]? =some c->p c=true)/\∀m,n=m+1->∃c,s[m]? =some c/\p c=false)/\Kept noB w w':=by
 have H:=Sep.aJ w;refine dF func240 rfl rfl rfl rfl ?_;refine Zb1 ?_;refine aR (λn:Nat=>[(0,str (s.take n)),(1,av b)]) (λn w'=>(n<=s.length/\∀(j:Nat) c,n<=j->s[j]? =some c->p c=true)/\Sep w noB [] w') (λn _=>n) s.length ⟨by rw[zbo];rfl,rfl,trivial⟩ ⟨⟨zbk _,λj c hj hc=>zap (gN hc) oM⟩,H⟩ (λn τ _ hI=>?_);obtain⟨⟨hn,jN⟩,S⟩:=hI;have Ml:(s.take n).length=n:=by rw[zaj];omega
 try simp only[cK,like,aS,bK]
 refine Za3 ?_;refine Qn (Cp rfl (λI=>?_) (λI=>?_))
 .obtain⟨m,rfl⟩: ∃m,n=m+1:=⟨n-1,oM⟩
  obtain⟨c,hc⟩:=get_some (l:=s) (i:=m) oM;have hcd:(s.take (m+1)).getD m 0=c:=mO (by rw[zck,zac oM];exact hc);have htt:(s.take (m+1)).take m=s.take m:=by rw[List.take_take,zcv oM]
  refine Zb4 ?_;refine Vc (m:Int) ?_;refine Vv (Gives.yV (i:=m) rfl rfl oM) ?_;rw[hcd];refine eY (NZ c (S.kept.cell (xE c) id)) (h:=?_);refine Vv (Gives.not rfl) (Qn ?_);refine Cd rfl (λI=>?_) (λI=>?_)
  .have hp:p c=false:=by simpa using I
   refine Zb2 ?_;exact⟨⟨m+1,rfl,hn,jN,λk hk=>⟨c,by rw[show k=m from oM];exact hc,hp⟩⟩,S.kept⟩
  have hp:p c=true:=by simpa using I
  refine Zb3 ?_;refine Vc (m:Int) ?_;refine Vv (Gives.pR (i:=m) rfl rfl oM) ?_;rw[htt];refine Zb1 ?_;exact aj m tR ⟨⟨oM,λj d hj hd=>by
  by_cases e:j=m
  .subst e;rw[hc]at hd;injection hd with hd;rw[<-hd];exact hp
  exact jN j d oM hd⟩,S⟩ oM
 have yX:n=0:=oM;refine Zb2 ?_;exact⟨⟨n,rfl,hn,jN,λm hm=>oM⟩,S.kept⟩
theorem WT (l:L8) (hl:l.length<=1000) (h: ∀c∈l,c.toNat<128):Rk prog 238 [str l] w (.tuple #[.agg (setCells l),.bool true]):=
 Calls.mono (Tryz.strings_makeASCIISet (λ_=>kR) ⟨l.toArray⟩ w (by show l.toArray.size<_;rw[zfk];omega) λj b hb=>h b (zam hb)) λe w' he=>by
  obtain⟨rfl,rfl⟩:=he;exact⟨rfl,Kept.alloc _ _⟩
theorem agO (s:L8) (iC:s≠[]) (hl:s.length<=1000000):aY prog 176 [str s,str nameSet] w λv w'=>(∃t,v=str t/\(t=[]↔s.all uD=true))/\Kept noB w w':=by
 have H:=Sep.aJ w;have h37:nameSet.length=37:=rfl;have Rq:(setCells nameSet).toList.length=256:=by rw[zfy,setCells_size]
 have k: ∀u∈(setCells nameSet).toList,u.oneCell'=true:=λu hu=>by
  have:=setCells_one nameSet;rw[Array.all_eq_true_iff_forall_mem]at this;exact this u (by simpa using hu)
 refine dF func176 rfl rfl rfl rfl ?_;refine Zb4 ?_;refine aF (t:=9) rfl (λS=>?_) (λS=>?_)
 .exact zap S iC
 refine Za3 ?_;refine Qn (Cp rfl (λS=>?_) (λS=>?_))
 .exact zap S dC
 refine Zb4 ?_;refine aF (t:=17) rfl (λS=>?_) (λS=>?_)
 .exact zap S dC
 refine Zb2 ?_;refine aD H (WT nameSet dC dC) (h:=λ_ S _=>?_);refine Zb3 ?_;refine aO S (cs:=List.replicate 256 (.bool false)) (h:=λbs _ S _=>?_);refine Oh S (us:=(setCells nameSet).toList) (cs':=(setCells nameSet).toList) rfl (by exact rfl) Rq k At0 (by rw[Rq];decide) (by rw[Rq];simp) (h:=λS k=>?_)
 have xE: ∀c:UInt8,S.cell? ⟨bs,c.toNat,none⟩=some (.bool (uD c)):=λc=>by
  have hb:=k.obj At0;have:=setCells_at nameSet c;rw[TQ]at this;rw[World.cell?,hb];simpa using this
 refine Za2 ?_;refine Qn (Cd rfl (λS=>?_) (λS=>?_))
 .refine Zb1 ?_
  refine aK (Qv (p:=uD) s xE hl) rfl rfl (λv' _ hv=>?_);obtain⟨⟨m,rfl,hm,jN,ap7⟩,bZ⟩:=hv;have I:=k.keep bZ;refine aD I (TR (p:=uD) (s.take m) λc=>bZ.cell (xE c) id) (h:=λ_ I _=>?_);refine Zb1 ?_;exact⟨⟨_,rfl,by
  rw[dropWhile_nil,zbf];constructor
  .intro h c hc
   obtain⟨j,hj⟩:=zdc hc
   by_cases e:m<=j
   .exact jN j c e hj
   exact h c (zam (i:=j) (by rw[zck,zac oM];exact hj))
  intro h c hc;exact h c (zcy hc)⟩,I.kept⟩
 exact aB S
theorem TS {p:Nat->Bool} {l:L8} (h: ∀c∈l,c.toNat<128/\p c.toNat=false): ∀f pos:Nat,Lib.idxFuncFrom p true ⟨l.toArray⟩ f pos= -1
 | 0,_=>rfl
 | f+1,pos=>by
  unfold Lib.idxFuncFrom
  by_cases hp:pos<(⟨l.toArray⟩:ByteArray).size
  .have bH:pos<l.length:=by rw[Mw.size_mk]at hp;exact hp
   obtain⟨h1,h2⟩:=h l[pos] (zfu bH)
   have e:Utf8.decode ⟨l.toArray⟩ pos=(l[pos].toNat,1):=by
    rw[<-Lib.decodeL_drop];show Lib.decodeL (l.drop pos)=_
    rw[zbn bH,Lib.decodeL_ascii _ _ h1]
   rw[zac hp,e,zab (by rw[h2];decide)];exact TS h f _
  rw[zab hp]
theorem KL (s:L8) (jN:s.all uD=true):Rk prog 177 [str s,.func (.func 178) #[] #[]] w (.bool false):=by
 have hp:PredAt prog 178 #[] encR aaB w:=λW r _=>Calls.mono (aje (w:=W) r) λe w' he=>by
  cases e with
  | returned v=>obtain⟨rfl,rfl⟩:=he;exact⟨rfl,0,rfl⟩
  | _=>exact he.elim
 have:=qA (Tryz.strings_ContainsFunc 178 #[] (qb.run (P:=prog)) aaB ⟨s.toArray⟩ w hp)
 have e:decide (0<=Lib.idxFunc aaB true ⟨s.toArray⟩)=false:=by
  unfold Lib.idxFunc;rw[TS λc hc=>aaC c (zbf.1 jN c hc)]
  decide
 rw[e]at this;exact this
theorem N7 (s:L8):Rk prog 118 [str s] w (.bool (gZ s)):=by
 have H:=Sep.aJ w;obtain⟨res,au⟩: ∃res,res=gZ s:=⟨_,rfl⟩;rw[<-au];refine dI func118 rfl rfl rfl rfl ?_;refine Zb4 ?_;refine aF (t:=5) rfl (λk=>?_) (λk=>?_)
 .have nI:res=false:=by rw[au,k];rfl
  refine Zb6 ?_;exact⟨by rw[nI];rfl,H.kept⟩
 obtain⟨c,r,hcr⟩: ∃c r,s=c::r:=List.exists_cons_of_ne_nil k;have hlen:s.length=r.length+1:=by rw[hcr];rfl
 have hg0:s.getD 0 0=c:=by rw[hcr];rfl
 unfold gZ at au;rw[hg0]at au;refine Zb5 ?_;refine aF (t:=10) rfl (λk=>?_) (λk=>?_)
 .have nI:res=false:=by rw[au,zas oM];rfl
  refine Zb4 ?_;exact⟨by rw[nI];rfl,H.kept⟩
 rw[zbj oM]at au;refine Zb1 ?_;refine Vv (Gives.yV (i:=0) rfl rfl oM) ?_;rw[hg0];refine Zb3 ?_;refine aF (t:=15) rfl (λk=>?_) (λk=>?_)
 .have nI:res=false:=by rw[au,show aaf c=false from zas oM];rfl
  refine Zb2 ?_;exact⟨by rw[nI];rfl,H.kept⟩
 refine Zb1 ?_;refine Vv (Gives.yV (i:=0) rfl rfl oM) ?_;rw[hg0];refine Za2 ?_;refine Qn (Cp rfl (λk=>?_) (λk=>?_))
 .have nI:res=false:=by rw[au,show aaf c=false from zas oM];rfl
  refine Zb1 ?_;exact⟨by rw[nI];rfl,H.kept⟩
 rw[show aaf c=true from zbj oM,zeg,zeg]at au;refine Zb1 ?_;refine aK (agO s (by rw[hcr];simp) oM) rfl rfl (λv' _ hv=>?_);obtain⟨⟨t,rfl,ht⟩,bZ⟩:=hv;have k:=H.keep bZ;refine Zb2 ?_;refine aF (t:=23) rfl (λS=>?_) (λS=>?_)
 .have jN:s.all uD=true:=ht.1 S
  rw[jN]at au;refine Zb1 ?_;refine aD k (KL s jN) (h:=λ_ I _=>?_);refine On (Vv (Gives.not rfl) (Zb2 ?_));exact⟨by rw[au];rfl,I.kept⟩
 have jN:s.all uD=false:=by rw[<-zdg];exact λh=>S (ht.2 h)
 rw[jN]at au;refine Zb2 ?_;exact⟨by rw[au];rfl,k.kept⟩
end
def GI (b:Nat) (l:List bF):HP:=exH λv=>star (blk b [v] 22) (bJ 54 7 aX v l)
instance aic:IsIface prog 183:=⟨kR⟩
section
variable {w:Wd}
theorem adR (t:bN):Rk prog 81 [agg (aM t)] w (agg (ah (YS t))):=by
 have H:=Sep.aJ w;refine tQ func81 rfl rfl rfl rfl ?_;refine Sr (cB H (h:=λb1 _ S _=>?_));refine aO S (h:=λb3 _ S _=>?_);refine Zb1 ?_;refine aD S (yJ t) (h:=λ_ S _=>?_);refine Mv ?_;refine aF (t:=5) rfl (λI=>?_) (λI=>?_)
 .have hmt:nC t=true:=zbj I
  refine Zb3 ?_;refine Vb (ah ⟨t.null,0,[]⟩) ?_;refine ak S (h:=λ_ a=>?_);refine Qn (dX (aN (h:=?_)));exact⟨_,⟨_,_,_,rfl,rfl,pU (cs:=ah ⟨t.null,0,[]⟩) (o:=0) (k:=3) (a.obj At0) (us:=ah ⟨t.null,0,[]⟩) rfl rfl,rfl⟩,by unfold YS;rw[hmt];rfl,a.kept⟩
 have hmt:nC t=false:=zas I;refine Zb1 ?_;refine Vb (ah ⟨false,0,[]⟩) ?_;refine ak S (h:=λ_ a=>?_);refine Qn (dX (aN (h:=?_)));exact⟨_,⟨_,_,_,rfl,rfl,pU (cs:=ah ⟨false,0,[]⟩) (o:=0) (k:=3) (a.obj At0) (us:=ah ⟨false,0,[]⟩) rfl rfl,rfl⟩,by unfold YS;rw[hmt];rfl,a.kept⟩
theorem vR {b:Nat} {F:NP} {acc:List bF} (name:L8) (t:bN) (hp:(GI b acc).ok F w) (hl:acc.length<=1000):
    aY prog 80 [str name,agg (aM t),av b] w λv w'=>v=.tuple #[]/\Turn F (GI b (acc++[EL ((acc.length+1:Nat):Int) name t])) w w':=by
  have k:=Sep.bW hp;unfold GI at k;obtain⟨v0,k⟩:=k.ex0;have H:=k.bR;obtain⟨A,ca,rfl,hca,hA⟩:=Sep.dQ H At1;refine y7 func80 rfl rfl rfl rfl ?_;refine Sr (cB H (cs:=aM t) rfl (h:=λb4 _ _ _=>?_));refine Qn (Ds (λk _ S=>?_));refine Zb3 ?_;refine Gc k 3 ((acc.length+1:Nat):Int) ?_;refine Zb3 ?_;refine gI k 7 [(5,false),(4,true),(3,true),(2,true),(1,false),(0,false)] S (adR t) (h:=λ_ S _=>⟨(dw rfl kR (Gives.JZ rfl (S.obj At0) (us:=aM t) rfl rfl) rfl (aC (aC (aC (iX S (h:=iX S (h:=eZ))))))),?_⟩);refine Gp k 8 rfl rfl (λ_=>Gives.build (out:=aX (EL ((acc.length+1:Nat):Int) name t)) (Fills.one rfl rfl rfl sM rfl (Fills.one rfl rfl rfl sM rfl (Fills.many rfl rfl (zaw rfl) rfl (Fills.many rfl rfl (zaw rfl) rfl Fills.nil))))) (Gz k 9 [(0,false)] S ([EL ((acc.length+1:Nat):Int) name t].flatMap aX) (h:=λbs _ S=>⟨sL,?_⟩));refine jP k 10 _ S (news:=[EL ((acc.length+1:Nat):Int) name t]) At2 (by unfold maxLen;simp;omega) (by simp;omega) (cells_one (λ_=>rfl) _) (h:=λv2 _ S=>?_);obtain⟨A2,c2,rfl,I,hA2⟩:=Sep.dQ S At2;refine⟨sT,?_⟩;refine mM k 11 _ S (h:=λ_ I=>⟨sT,?_⟩);refine Zb0 ?_;exact⟨rfl,(Sep.uq (p:=λv=>star (blk b [v] 22) (bJ 54 7 aX v _)) _ (Sep.bD I.dA)).first.turn⟩
theorem TT {p:aW} {v:Value} (hp:ji w v p) (hn:p.cols.length<=1000000):Rk prog 78 [v] w (.bool (uW p)):=by
 obtain⟨vw,vc,rfl,hw,r,hr,iI⟩:=hp;obtain⟨A,m,rfl,⟨hm,qX⟩,hA⟩:=hr;have BD:=iI.len;have H:=Sep.aJ w;obtain⟨res,au⟩: ∃res,res=uW p:=⟨_,rfl⟩;rw[<-au];unfold uW at au;refine dI func78 rfl rfl rfl rfl ?_;refine Sr (cB H (cs:=[vw,.slice A r.length m,I p.group]) rfl (h:=λb1 _ k _=>?_));refine Zb1 ?_;refine tu k (h:=λb3 _ k _=>?_);have k:=Sep.agu k At0;refine Zb5 ?_;refine aR (λi:Nat=>[(1,av b1),(3,.map (some b3)),(9,.slice A r.length m),(10,I r.length),(11,I i)]) (λi w'=>(i<=r.length/\∀(j:Nat) o,j<i->p.cols[j]? =some o->gZ o.name=true/\¬(0<=p.group/\o.name=mW))/\∃f n,Had ((p.cols.map (·.name)).take i) f n/\Sep w noB [zk b3 f n,blk b1 [vw,.slice A r.length m,I p.group] 26] w') (λi _=>r.length-i) 0 tR ⟨⟨zaq _,λj o hj=>zap hj (zej j)⟩,_,_,Had.nil,k⟩ (λi τ _ hI=>?_);obtain⟨⟨hi,Aj⟩,f,n,aj3,k⟩:=hI
 try simp only[cK,like,aS,bK]
 refine Za1 ?_;refine Qn (dW (Cp rfl (λS=>?_) (λS=>?_)))
 .have bH:i<p.cols.length:=oM
  obtain⟨x,hx,Ga⟩:=iI.at bH;obtain⟨Ax,cx,rfl,_⟩:=id Ga;have xJ:p.cols[i]? =some p.cols[i]:=zaa bH;obtain⟨o,ho⟩: ∃o,o=p.cols[i]:=⟨_,rfl⟩;rw[<-ho]at hx Ga xJ;have htn:(p.cols.map (·.name)).take (i+1)=(p.cols.map (·.name)).take i++[o.name]:=by rw[zbd,zcr,xJ];rfl
  have qZ:o∈p.cols:=zam xJ;refine Zb2 ?_;refine aO k (h:=λb5 _ S _=>?_);refine ak S (h:=λ_ S=>?_);refine Zb3 ?_;obtain⟨c,Rq,hcv⟩:=aj3.val ⟨o.name.toArray⟩;rw[zaj,zaf]at Rq;refine dG (MI (i:=⟨o.name.toArray⟩) S At1 rfl rfl) rfl ?_;rw[hcv];refine Vc ((c+1:Nat):Int) ?_;have afW:=aj3.push o.name (c:=c) (by rw[zaj,zaf];omega);rw[<-htn]at afW;refine MR S At1 rfl rfl rfl (h:=λ_ S=>?_);refine Zb2 ?_;refine aD S (N7 o.name) (h:=λ_ S _=>?_);refine Zb2 ?_;refine gu (t:=24) rfl (λa=>?_) (λa=>?_)
  .have rM: ¬gZ o.name=true:=by simpa using a
   refine Zb2 ?_;refine⟨?_,S.kept⟩
   have nI:p.cols.all (λo=>gZ o.name&& !(decide (0<=p.group)&&decide (o.name=mW)))=false:=by
    rw[<-zdg,zbf];intro h;have h1:=h o qZ;simp_all
   rw[au,nI];simp[eP]
  have ZI:gZ o.name=true:=by simpa using a
  refine Zb4 ?_;refine aF (t:=28) rfl (λa=>?_) (λa=>?_)
  .refine Za5 ?_
   refine Qn (Cp rfl (λa=>?_) (λa=>?_))
   .have ap8:0<=p.group/\o.name=mW:=⟨oM,a⟩
    refine Zb1 ?_;refine⟨?_,S.kept⟩
    have nI:p.cols.all (λo=>gZ o.name&& !(decide (0<=p.group)&&decide (o.name=mW)))=false:=by
     rw[<-zdg,zbf];intro h;have h1:=h o qZ;simp_all
    rw[au,nI];simp[eP]
   have b: ¬(0<=p.group/\o.name=mW):=λh=>a h.2;refine Zb2 ?_;exact aj (i+1) tR ⟨⟨oM,λj y hj hy=>by
   by_cases e:j=i
   .subst e;rw[xJ]at hy;injection hy with hy;rw[<-hy];exact⟨ZI,b⟩
   exact Aj j y oM hy⟩,_,_,afW,S.dA⟩ oM
  have b: ¬(0<=p.group/\o.name=mW):=λh=>oM;refine Zb4 ?_;exact aj (i+1) tR ⟨⟨oM,λj y hj hy=>by
  by_cases e:j=i
  .subst e;rw[xJ]at hy;injection hy with hy;rw[<-hy];exact⟨ZI,b⟩
  exact Aj j y oM hy⟩,_,_,afW,S.dA⟩ oM
 have oQ:i=r.length:=oM
 have jN:p.cols.all (λo=>gZ o.name&& !(decide (0<=p.group)&&decide (o.name=mW)))=true:=by
  rw[zbf];intro o ho;obtain⟨j,hj⟩:=zdc ho;obtain⟨h1,h2⟩:=Aj j o (by have:=gN hj;omega) hj;rw[h1,zeg];cases hg:decide (0<=p.group)<;>cases hc:decide (o.name=mW)<;>simp_all
 rw[jN]at au;have hnd:=aj3.nd;rw[oQ,BD,zax sM]at hnd;rw[zaf]at hnd;have hnr:(n=r.length↔(p.cols.map (·.name)).Nodup):=by rw[BD];exact hnd
 have au:res=decide ((n:Int)=r.length/\1<=r.length/\r.length<=16/\ -1<=p.group/\p.group<=r.length):=by
  rw[au,Bool.and_true,<-Bool.decide_and,BD];refine zbg.2 ⟨λh=>?_,λh=>?_⟩
  .have:=hnr.2 h.2
   omega
  exact⟨oM,hnr.1 oM⟩
 refine Zb5 ?_;refine dG (MQ k At0 rfl) rfl ?_;refine Zb3 ?_;refine aF (t:=42) rfl (λb=>?_) (λb=>?_)
 .refine Zb4 ?_
  refine aF (t:=46) rfl (λb=>?_) (λb=>?_)
  .refine Zb4 ?_
   refine aF (t:=50) rfl (λb=>?_) (λb=>?_)
   .refine Zb5 ?_
    refine aF (t:=55) rfl (λb=>?_) (λb=>?_)
    .refine Zb6 ?_
     exact⟨by rw[au];first | exact zbb Value.bool (Eq.symm (zas oM)) | exact zbb Value.bool (zbg.2 oM),k.kept⟩
    refine Zb2 ?_;exact⟨by rw[au];first | exact zbb Value.bool (Eq.symm (zas oM)) | exact zbb Value.bool (zbg.2 oM),k.kept⟩
   refine Zb4 ?_;exact⟨by rw[au];first | exact zbb Value.bool (Eq.symm (zas oM)) | exact zbb Value.bool (zbg.2 oM),k.kept⟩
  refine Zb6 ?_;exact⟨by rw[au];first | exact zbb Value.bool (Eq.symm (zas oM)) | exact zbb Value.bool (zbg.2 oM),k.kept⟩
 refine Zb8 ?_;exact⟨by rw[au];first | exact zbb Value.bool (Eq.symm (zas oM)) | exact zbb Value.bool (zbg.2 oM),k.kept⟩
end
theorem aaD {p:aW} {u:Int}:u∈Kk p↔u∈qR p.wh\/∃o∈p.cols,u∈qR o.steps:=by
 unfold Kk;rw[sG,sG];constructor
 .rintro⟨x,hx,h1,h2⟩
  rcases zbi.1 hx with hx | hx
  .exact .inl ⟨x,hx,h1,h2⟩
  obtain⟨o,ho,hx⟩:=zcz.1 hx;exact .inr ⟨o,ho,sG.2 ⟨x,hx,h1,h2⟩⟩
 rintro(⟨x,hx,h1,h2⟩ | ⟨o,ho,hu⟩)
 .exact⟨x,zcd _ hx,h1,h2⟩
 obtain⟨x,hx,h1,h2⟩:=sG.1 hu;exact⟨x,zce _ (zcz.2 ⟨o,ho,hx⟩),h1,h2⟩
def j6 (wh:List aZ) (cols:List j4):List Int:=qR wh++cols.flatMap λo=>qR o.steps
theorem Qw (p:aW):Lib.compact ((j6 p.wh p.cols).mergeSort λx y=>decide (x<=y))=Kk p:=by
 have hs:((j6 p.wh p.cols).mergeSort λx y=>decide (x<=y)).Pairwise (· <= ·):=by
  have:=List.pairwise_mergeSort (le:=λx y:Int=>decide (x<=y)) (λa b c h1 h2=>by simp at *;omega) (λa b=>by simp;omega) (j6 p.wh p.cols);exact this.imp λh=>by simpa using h
 obtain⟨h1,h2⟩:=Cy hs;refine Dk h1 (z8 _) λk=>?_;show _↔k∈Kk p
 rw[h2,List.mem_mergeSort,aaD];unfold j6;rw[zbi,zcz]
theorem Fe (l:List aZ):(qR l).length<=l.length:=by
 rw[<-Jh];have h1:=Lib.compact_length_le (((l.filter λx=>decide (x.kind=1)).map λx=>x.n).mergeSort λx y=>decide (x<=y));rw[zfi,zaf]at h1;exact zcl h1 (zep _ _)
theorem WU {wh:List aZ} {m:Nat}: ∀{cols:List j4},(∀o∈cols,o.steps.length<=m)->(j6 wh cols).length<=wh.length+cols.length*m:=by
 intro cols;unfold j6;rw[zad];intro h;have h1:=Fe wh
 have h2:(cols.flatMap λo=>qR o.steps).length<=cols.length*m:=by
  clear h1
  induction cols with
  | nil=>simp
  | cons o l ih=>
   rw[zbc,zad,zal,zds];have h3:=Fe o.steps;have h4:=h o zae;have h5:=ih λx hx=>h x (zag _ hx);omega
 omega
theorem TU (wh:List aZ) (cols:List j4) (o:j4):j6 wh (cols++[o])=j6 wh cols++qR o.steps:=by
 unfold j6;rw[zby];simp
end Go.Proofs.YtkfpleidaoaonaaGreatDoor
