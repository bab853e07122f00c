/-
 What an expression gives is a cell of its type. No program stands here.
-/
import Derived.Test.YtkfpleidaoaonaaGreatDoorNu1
import Derived.Test.YtkfpleidaoaonaaGreatDoorNu6
import Derived.Test.YtkfpleidaoaonaaGreatDoorNu3
import Derived.Test.YtkfpleidaoaonaaGreatDoorShelf
set_option linter.unusedVariables false
set_option linter.unusedSimpArgs false
namespace Go.Proofs.YtkfpleidaoaonaaGreatDoor
open Go Go.Lib
set_option maxRecDepth 4000
def okC (t:dJ) (c:aI):Prop:=gN t c=0
theorem oh {t:dJ} {c:aI}:okC t c↔(qK t=true/\((c.null=true/\t.null=true/\c=dW)\/(c.null=false/\isC t.kind c=true))):=by
 unfold okC gN;cases hm:qK t
 .simp
 cases hn:c.null
 .cases hi:isC t.kind c<;>simp
 by_cases h:t.null=true/\c=dW
 .simp[h]
 simp[h]
theorem YF {t:dJ} (h:qK t=true):1<=t.kind/\t.kind<=5:=zba h
theorem Cc {t:dJ} (h:1<=t.kind/\t.kind<=5):qK t=true:=zbe h
theorem AZ {k:Int} (h:1<=k/\k<=5):okC ⟨k,true⟩ dW:=oh.2 ⟨Cc h,.inl ⟨rfl,rfl,rfl⟩⟩
theorem A8 (n:Bool) (b:Bool):okC ⟨1,n⟩ (jV b):=oh.2 ⟨Cc (show(1:Int)<=1/\(1:Int)<=5 from dC),.inr ⟨by cases b<;>rfl,by cases b<;>rfl⟩⟩
theorem VR (n:Bool) (i:Int):okC ⟨3,n⟩ ⟨false,i,[]⟩:=oh.2 ⟨Cc (show(1:Int)<=3/\(3:Int)<=5 from dC),.inr ⟨rfl,by simp[isC]⟩⟩
theorem Pt {t:dJ} {c:aI} (h:okC t c) (hk:t.kind=1):(c=dW/\t.null=true)\/c=jV false\/c=jV true:=by
 rcases (oh.1 h).2 with⟨_,h2,h3⟩ | ⟨h1,h2⟩
 .exact .inl ⟨h3,h2⟩
 right
 rw[hk]at h2;unfold isC at h2;rw[zac rfl]at h2;obtain⟨h3,h4,h5⟩:=zba h2
 by_cases h0:c.n=0
 .left;exact aI.ext' h1 h0 h3
 right;exact aI.ext' h1 (show c.n=1 from oM) h3
theorem YG {t:dJ} {c:aI} (h:okC t c):c.s.length<=1024:=by
 rcases (oh.1 h).2 with⟨_,_,h3⟩ | ⟨h1,h2⟩
 .rw[h3];simp[dW]
 unfold isC at h2
 repeat' split at h2
 all_goals first
  | (have:=zba h2;omega)
  | (have h3:=zba h2;first | (rw[h3.1];simp) | (rw[h3];simp))
theorem DZ {t:dJ} {c:aI} (h:okC t c) (hn:c.null=true):t.null=true/\c=dW:=by
 rcases (oh.1 h).2 with⟨_,h2,h3⟩ | ⟨h1,h2⟩
 .exact⟨h2,h3⟩
 rw[h1]at hn;cases hn
theorem akm {t t':dJ} {c:aI} (h:okC t c) (hk:t'.kind=t.kind) (hn:t.null=true->t'.null=true):okC t' c:=by
 obtain⟨h1,h2⟩:=oh.1 h;refine oh.2 ⟨Cc (by rw[hk];exact YF h1),?_⟩
 rcases h2 with⟨a,b,d⟩ | ⟨a,b⟩
 .exact .inl ⟨a,hn b,d⟩
 exact .inr ⟨a,by rw[hk];exact b⟩
theorem YH {a b:aI} (h:a.null=b.null):vT a b=0↔a=b:=by
 constructor
 .intro e
  unfold vT at e;rw[zac h]at e
  split at e
  .cases e
  split at e
  .cases e
  exact aI.ext' h oM (YC e)
 rintro rfl;unfold vT;rw[zac rfl,zab (Int.lt_irrefl _),zab (Int.lt_irrefl _),YD]
theorem ahT {k:Int} {ta tb:dJ} {a b:aI} (ha:okC ta a) (hb:okC tb b) (hka:ta.kind=1) (hkb:tb.kind=1) (hk:k=13\/k=14\/k=15):abn k a b=yN k a b:=by
 rcases Pt ha hka with⟨rfl,_⟩ | rfl | rfl<;>rcases Pt hb hkb with⟨rfl,_⟩ | rfl | rfl<;>rcases hk with rfl | rfl | rfl<;>decide
theorem ahU {k:Int} {ta tb:dJ} {a b:aI} (ha:okC ta a) (hb:okC tb b) (hka:ta.kind=1) (hkb:tb.kind=1):okC ⟨1,ta.null||tb.null⟩ (yN k a b):=by
 unfold yN
 repeat' split
 .exact A8 _ _
 .exact A8 _ _
 .rename_i h
  have :(ta.null||tb.null)=true:=by
   rcases h with h | h
   .rw[(DZ ha (by rw[h];rfl)).1];rfl
   rw[(DZ hb (by rw[h];rfl)).1];simp
  rw[this];exact AZ ⟨dC,dC⟩
 .exact A8 _ _
 exact A8 _ _
theorem VT {ta tb:dJ} {a b:aI} (ha:okC ta a) (hb:okC tb b) (h:a.null=true\/b.null=true):(ta.null||tb.null)=true:=by
 rcases h with h | h
 .rw[(DZ ha h).1];rfl
 rw[(DZ hb h).1];simp
theorem ams {ta tb:dJ} {a b:aI} {n:Int} (ha:okC ta a) (hb:okC tb b): ∀c,(if a.null=true\/b.null=true then some dW else Fw n)=some c->okC ⟨3,ta.null||tb.null⟩ c/\fits c.n:=by
 intro c hc
 split at hc
 .rename_i h
  injection hc with hc
  subst hc;rw[VT ha hb h];exact⟨AZ dC,dC,dC⟩
 unfold Fw at hc
 split at hc
 .rename_i hf
  injection hc with hc
  subst hc;have h: -9223372036854775808<=n/\n<=9223372036854775807:=zba hf;exact⟨VR _ _,h⟩
 cases hc
theorem Li (b:Bool):fits (jV b).n:=by cases b<;>exact⟨dC,dC⟩
theorem acP {ta tb:dJ} {a b:aI} {f:Bool} (ha:okC ta a) (hb:okC tb b): ∀c,(if a.null=true\/b.null=true then some dW else some (jV f))=some c->okC ⟨1,ta.null||tb.null⟩ c/\fits c.n:=by
 intro c hc
 split at hc
 .rename_i h
  injection hc with hc
  subst hc;rw[VT ha hb h];exact⟨AZ dC,dC,dC⟩
 injection hc with hc
 subst hc;exact⟨A8 _ _,Li _⟩
theorem abo {k:Int} {a b:aI}:fits (yN k a b).n:=by
 unfold yN
 repeat' split
 all_goals first | exact Li _ | exact⟨dC,dC⟩
theorem abp {k:Int} {ta tb t:dJ} {a b:aI} (hk:7<=k/\k<=18) (ht:FT k ta tb=some t) (ha:okC ta a) (hb:okC tb b) (hfa:fits a.n) (hfb:fits b.n):
    sW k a b=lS k a b/\∀c,lS k a b=some c->okC t c/\fits c.n:=by
  have hc:k=7\/k=8\/k=9\/k=10\/k=11\/k=12\/k=13\/k=14\/k=15\/k=16\/k=17\/k=18:=oM
  have akT: ∀n:Int,sW k a b=(if a.null=true\/b.null=true then some dW else Fw n)->lS k a b=(if a.null=true\/b.null=true then some dW else Fw n)->(if ta.kind=3/\tb.kind=3 then some (⟨3,ta.null||tb.null⟩:dJ)else none)=some t->sW k a b=lS k a b/\∀c,lS k a b=some c->okC t c/\fits c.n:=by
    intro n h1 h2 h3;rw[h1,h2]
    split at h3
    . injection h3 with h3
      subst h3;exact⟨rfl,ams ha hb⟩
    cases h3
  have am8:(k=13\/k=14\/k=15)->(if ta.kind=1/\tb.kind=1 then some (⟨1,ta.null||tb.null⟩:dJ)else none)=some t->sW k a b=lS k a b/\∀c,lS k a b=some c->okC t c/\fits c.n:=by
    intro h1 h3
    split at h3
    . rename_i eB
      injection h3 with h3
      subst h3;have e1:sW k a b=some (abn k a b):=zac h1;have e2:lS k a b=some (yN k a b):=zac h1;rw[e1,e2,ahT ha hb eB.1 eB.2 h1];refine⟨rfl,λc hc=>?_⟩;injection hc with hc
      subst hc;exact⟨ahU ha hb eB.1 eB.2,abo⟩
    cases h3
  rcases hc with rfl | rfl | rfl | rfl | rfl | rfl | rfl | rfl | rfl | rfl | rfl | rfl
  . exact akT (a.n+b.n) (by unfold sW;simp) (by unfold lS Fw;simp) ht
  . exact akT (a.n-b.n) (by unfold sW;simp) (by unfold lS Fw;simp) ht
  . exact akT (a.n*b.n) (by unfold sW;simp) (by unfold lS Fw;simp) ht
  . exact akT (-a.n) (by unfold sW;simp) (by unfold lS Fw;simp) ht
  . have e2:lS 11 a b=(if a.null=true\/b.null=true then some dW else some (jV (decide (vT a b=0)))):=by unfold lS;simp
    have e1:sW 11 a b=(if a.null=true\/b.null=true then some dW else some (jV (decide (a=b)))):=by unfold sW;simp
    have h3:(if ta.kind=tb.kind then some (⟨1,ta.null||tb.null⟩:dJ)else none)=some t:=ht
    split at h3
    . injection h3 with h3
      subst h3;refine⟨?_,by rw[e2];exact acP ha hb⟩;rw[e1,e2]
      split
      . rfl
      rename_i hn;have hz:=YH (a:=a) (b:=b) (by cases h1:a.null<;>cases h2:b.null<;>simp[h1,h2]at hn ⊢);simp only[hz]
    cases h3
  . have e2:lS 12 a b=(if a.null=true\/b.null=true then some dW else some (jV (decide (vT a b<0)))):=by unfold lS;simp
    have e1:sW 12 a b=(if a.null=true\/b.null=true then some dW else some (jV (decide (vT a b<0)))):=by unfold sW;simp
    have h3:(if ta.kind=tb.kind then some (⟨1,ta.null||tb.null⟩:dJ)else none)=some t:=ht
    split at h3
    . injection h3 with h3
      subst h3;exact⟨by rw[e1,e2],by rw[e2];exact acP ha hb⟩
    cases h3
  . exact am8 dC ht
  . exact am8 dC ht
  . exact am8 dC ht
  . have e1:sW 16 a b=some (jV a.null):=by unfold sW;simp
    have e2:lS 16 a b=some (jV a.null):=by unfold lS;simp
    have h3:some (⟨1,false⟩:dJ)=some t:=ht;injection h3 with h3
    subst h3;rw[e1,e2];refine⟨rfl,λc hc=>?_⟩;injection hc with hc
    subst hc;exact⟨A8 _ _,Li _⟩
  . have e1:sW 17 a b=some (if a.null=true then b else a):=by unfold sW;simp
    have e2:lS 17 a b=some (if a.null=true then b else a):=by unfold lS;simp
    have h3:(if ta.kind=tb.kind then some (⟨ta.kind,ta.null&&tb.null⟩:dJ)else none)=some t:=ht
    split at h3
    . rename_i eB
      injection h3 with h3
      subst h3;rw[e1,e2];refine⟨rfl,λc hc=>?_⟩;injection hc with hc
      subst hc
      split
      . rename_i hn
        exact⟨akm hb eB (λh=>by show(ta.null&&tb.null)=true;rw[(DZ ha hn).1,h];rfl),hfb⟩
      rename_i hn;refine⟨oh.2 ⟨Cc (YF (oh.1 ha).1),.inr ?_⟩,hfa⟩
      rcases (oh.1 ha).2 with⟨h1,_⟩ | h2
      . exact zat h1 hn
      exact h2
    cases h3
  have e1:sW 18 a b=(if a.null=true\/b.null=true then some dW else some ⟨false,a.s.length,[]⟩):=by unfold sW;simp
  have e2:lS 18 a b=(if a.null=true\/b.null=true then some dW else some ⟨false,a.s.length,[]⟩):=by unfold lS;simp
  have h3:(if ta.kind=4\/ta.kind=5 then some (⟨3,ta.null||tb.null⟩:dJ)else none)=some t:=ht
  split at h3
  . injection h3 with h3
    subst h3;rw[e1,e2];refine⟨rfl,λc hc=>?_⟩
    split at hc
    . rename_i h
      injection hc with hc
      subst hc;rw[VT ha hb h];exact⟨AZ dC,dC,dC⟩
    injection hc with hc
    subst hc;have:=YG ha;exact⟨VR _ _,by show(-9223372036854775808:Int)<=a.s.length;omega,by show(a.s.length:Int)<=9223372036854775807;omega⟩
  cases h3

open Go.Mw
section
variable {w:Wd}
end
theorem ae0 (s:L8):(yM s).length<=6*s.length+2:=by
 have h:=DV (f:=mo) (k:=6) (λc=>by unfold mo;(repeat' split)<;>simp) s;unfold yM;simp only[zal,zad,zcq];omega
theorem ahV {k:Int} (h:7<=k) (h2:k<=18):nX[(k-7).toNat]? =some (nX.getD (k-7).toNat []):=by
 rw[zau];have :(k-7).toNat<nX.length:=by show _<12;omega
 rw[zaa this];rfl
section
variable {w:Wd}
end
theorem zD {α:Type} {l:List α} {p:α->Bool} {j:Nat} {x:α} (h: ∀(i:Nat) y,i<j->l[i]? =some y->p y=false) (hj:l[j]? =some x) (hp:p x=true):l.findIdx? p=some j:=by
 rw[zdc];obtain⟨h1,h2⟩:=zbd.1 hj;refine⟨h1,by rw[h2];exact hp,λi hi=>?_⟩;rw[h i _ hi (zaa oM)];simp
theorem vI {α:Type} {l:List α} {p:α->Bool} (h: ∀(i:Nat) y,l[i]? =some y->p y=false):l.findIdx? p=none:=by
 rw[zed];intro x hx;obtain⟨i,hi⟩:=zdh hx;exact h i x hi
theorem YI {x:bJ} (h:jM x=true) (hf:fits x.n):(iY x).length<=6146:=(Pg h hf.1 hf.2).1
attribute [local irreducible] jM iY
section
variable {w:Wd}
end
end Go.Proofs.YtkfpleidaoaonaaGreatDoor
namespace Go.Proofs.YtkfpleidaoaonaaGreatDoor
open Go Go.Mw Go.Lib
set_option maxRecDepth 4000
attribute [local irreducible] VN jM iY
section
variable {w:Wd}
end
end Go.Proofs.YtkfpleidaoaonaaGreatDoor
namespace Go.Proofs.YtkfpleidaoaonaaGreatDoor
open Go Go.Mw Go.Lib
set_option maxRecDepth 4000
theorem VU (s:L8) (c:UInt8):s.count c<=s.length:=List.count_le_length
attribute [local irreducible] jM iY d9 readAll
section
variable {w:Wd}
end
end Go.Proofs.YtkfpleidaoaonaaGreatDoor
namespace Go.Proofs.YtkfpleidaoaonaaGreatDoor
open Go Go.Mw Go.Lib Tryz
set_option maxRecDepth 4000
attribute [local irreducible] FW FL FG FGn gu gy dh gH Qfn Gives
def vX {α:Type} (w:Wd) (fv:Value) (enc:α->Value) (p:α->Bool):Prop:=
 ∃f fs cs,fv=.func (.func f) (List.toArray fs) (List.toArray cs)/\bC prog f/\∀x w',Kept noB w w'->aN prog f (fs++[enc x]++cs) w' λv w''=>v=.bool (p x)/\Kept noB w' w''
theorem vX.keep {α:Type} {w w':Wd} {fv:Value} {enc:α->Value} {p:α->Bool} (h:vX w fv enc p) (hk:Kept noB w w'):vX w' fv enc p:=by
 obtain⟨f,fs,cs,h1,h2,h3⟩:=h;exact⟨f,fs,cs,h1,h2,λx w'' hk'=>h3 x w'' (hk.NK hk')⟩
def Fu (o:Option Nat):Int:=match o with | none=> -1 | some i=>i
theorem EU {α:Type} {l:List α} {p:α->Bool}:decide (Fu (l.findIdx? p)≥0)=l.any p:=by
 cases h:l.findIdx? p with
 | none=>
  rw[zed]at h;show decide ((-1:Int)≥0)=_
  rw[eq_comm,show decide ((-1:Int)≥0)=false from rfl,List.any_eq_false];intro x hx;rw[h x hx];simp
 | some i=>
  obtain⟨h1,h2,_⟩:=zdc.1 h;show decide ((i:Int)≥0)=_
  rw[eq_comm,zbe (show(i:Int)≥0 from oM),List.any_eq_true];exact⟨_,zfz h1,h2⟩
section
variable {w:Wd}
theorem YJ {l:List bL} {v fv:Value} {p:bL->Bool} (hl:aM w v aR 7 l) (hp:vX w fv (λx=>agg (aR x)) p):aN prog 200 [v,fv] w λv w'=>v=I (Fu (l.findIdx? p))/\Kept noB w w':=by
 obtain⟨A,m,rfl,⟨hm,qo⟩,hA⟩:=hl;obtain⟨f,fs,cs,rfl,G7,uz⟩:=hp;have H:=Sep.aL w;refine dS func200 rfl rfl rfl rfl ?_;refine Zb4 ?_;refine aP (λi:Nat=>[(0,.slice A l.length m),(1,.func (.func f) fs.toArray cs.toArray),(7,I l.length),(8,I i)]) (λi w'=>(i<=l.length/\∀(j:Nat) y,j<i->l[j]? =some y->p y=false)/\Sep w noB [] w') (λi _=>l.length-i) 0 tR ⟨⟨zak _,λj y hj=>oM⟩,H⟩ (λi τ w6 hI=>?_);obtain⟨⟨hi,Cu⟩,H6⟩:=hI
 try simp only[dA,like,bB,bY]
 refine Za1 ?_;refine Qn (fC (Cp rfl (λy8=>?_) (λy8=>?_)))
 .have bX:i<l.length:=oM
  obtain⟨x,hx⟩:=get_some bX;refine Zb7 ?_;refine fB rfl (uz x _ H6.kept) rfl rfl (λv' wa hv=>?_);obtain⟨rfl,eB⟩:=hv;have Ha:=H6.keep eB;refine Qn (Cd rfl (λIa=>?_) (λIa=>?_))
  .have iq:l.findIdx? p=some i:=zD Cu hx Ia
   refine Zb2 ?_;exact⟨by rw[iq];rfl,Ha.kept⟩
  have Rh:=Ia;refine Zb2 ?_;exact ak (i+1) tR ⟨⟨oM,λj y hj hy=>by
  by_cases e:j=i
  .subst e;rw[hx]at hy;injection hy with hy;rw[<-hy];exact zdm _▸Rh
  exact Cu j y oM hy⟩,Ha⟩ oM
 have qp:i=l.length:=oM;have iq:l.findIdx? p=none:=vI λj y hy=>Cu j y (by have:=jk hy;omega) hy;refine Zb1 ?_;exact⟨by rw[iq];rfl,H6.kept⟩
theorem ae1 {l:List dJ} {v fv:Value} {p:dJ->Bool} (hl:aM w v bD 2 l) (hp:vX w fv (λx=>agg (bD x)) p):aN prog 252 [v,fv] w λv w'=>v=I (Fu (l.findIdx? p))/\Kept noB w w':=by
 obtain⟨A,m,rfl,⟨hm,qo⟩,hA⟩:=hl;obtain⟨f,fs,cs,rfl,G7,uz⟩:=hp;have H:=Sep.aL w;refine dS func252 rfl rfl rfl rfl ?_;refine Zb4 ?_;refine aP (λi:Nat=>[(0,.slice A l.length m),(1,.func (.func f) fs.toArray cs.toArray),(7,I l.length),(8,I i)]) (λi w'=>(i<=l.length/\∀(j:Nat) y,j<i->l[j]? =some y->p y=false)/\Sep w noB [] w') (λi _=>l.length-i) 0 tR ⟨⟨zak _,λj y hj=>oM⟩,H⟩ (λi τ w6 hI=>?_);obtain⟨⟨hi,Cu⟩,H6⟩:=hI
 try simp only[dA,like,bB,bY]
 refine Za1 ?_;refine Qn (fC (Cp rfl (λy8=>?_) (λy8=>?_)))
 .have bX:i<l.length:=oM
  obtain⟨x,hx⟩:=get_some bX;refine Zb7 ?_;refine fB rfl (uz x _ H6.kept) rfl rfl (λv' wa hv=>?_);obtain⟨rfl,eB⟩:=hv;have Ha:=H6.keep eB;refine Qn (Cd rfl (λIa=>?_) (λIa=>?_))
  .have iq:l.findIdx? p=some i:=zD Cu hx Ia
   refine Zb2 ?_;exact⟨by rw[iq];rfl,Ha.kept⟩
  have Rh:=Ia;refine Zb2 ?_;exact ak (i+1) tR ⟨⟨oM,λj y hj hy=>by
  by_cases e:j=i
  .subst e;rw[hx]at hy;injection hy with hy;rw[<-hy];exact zdm _▸Rh
  exact Cu j y oM hy⟩,Ha⟩ oM
 have qp:i=l.length:=oM;have iq:l.findIdx? p=none:=vI λj y hy=>Cu j y (by have:=jk hy;omega) hy;refine Zb1 ?_;exact⟨by rw[iq];rfl,H6.kept⟩
end
section
variable {w:Wd}
theorem D5 {l:List dJ} {v fv:Value} {p:dJ->Bool} (hl:aM w v bD 2 l) (hp:vX w fv (λx=>agg (bD x)) p):aN prog 185 [v,fv] w λv w'=>v=.bool (l.any p)/\Kept noB w w':=by
 have H:=Sep.aL w;refine dS func185 rfl rfl rfl rfl ?_;refine Zb3 ?_;refine aF H (ae1 (hl.keep H.kept) (hp.keep H.kept)) (h:=λw5 H5 k4=>?_);refine Zb2 ?_;exact⟨by rw[<-EU];rfl,H5.kept⟩
theorem ahW {l:List (Int)} {v:Value} (x:Int) (hl:aM w v intCells 1 l):aN prog 253 [v,I x] w λv w'=>v=I (Fu (l.findIdx? λy=>decide (x=y)))/\Kept noB w w':=by
 obtain⟨A,m,rfl,⟨hm,qo⟩,hA⟩:=hl;have H:=Sep.aL w;obtain⟨p,hp⟩: ∃p:Int->Bool,p=λy=>decide (x=y):=⟨_,rfl⟩;rw[<-hp];refine dS func253 rfl rfl rfl rfl ?_;refine Zb4 ?_;refine aP (λi:Nat=>[(0,.slice A l.length m),(1,I x),(7,I l.length),(8,I i)]) (λi w'=>(i<=l.length/\∀(j:Nat) y,j<i->l[j]? =some y->p y=false)/\Sep w noB [] w') (λi _=>l.length-i) 0 tR ⟨⟨zak _,λj y hj=>oM⟩,H⟩ (λi τ w6 hI=>?_);obtain⟨⟨hi,Cu⟩,H6⟩:=hI
 try simp only[dA,like,bB,bY]
 refine Za1 ?_;refine Qn (fC (Cp rfl (λy8=>?_) (λy8=>?_)))
 .have bX:i<l.length:=oM
  obtain⟨y,hy⟩:=get_some bX;refine Za8 ?_;refine Qn (Cp rfl (λIa=>?_) (λIa=>?_))
  .have iq:l.findIdx? p=some i:=zD Cu hy (by rw[hp];simpa using Ia)
   refine Zb2 ?_;exact⟨by rw[iq];rfl,H6.kept⟩
  have Rh:p y=false:=by rw[hp];simpa using Ia
  refine Zb2 ?_;exact ak (i+1) tR ⟨⟨oM,λj z hj hz=>by
  by_cases e:j=i
  .subst e;rw[hy]at hz;injection hz with hz;rw[<-hz];exact Rh
  exact Cu j z oM hz⟩,H6⟩ oM
 have qp:i=l.length:=oM;have iq:l.findIdx? p=none:=vI λj y hy=>Cu j y (by have:=jk hy;omega) hy;refine Zb1 ?_;exact⟨by rw[iq];rfl,H6.kept⟩
theorem ae2 {l:List (L8)} {v:Value} (x:L8) (hl:aM w v iW 1 l):aN prog 306 [v,str x] w λv w'=>v=I (Fu (l.findIdx? λy=>decide (x=y)))/\Kept noB w w':=by
 obtain⟨A,m,rfl,⟨hm,qo⟩,hA⟩:=hl;have H:=Sep.aL w;obtain⟨p,hp⟩: ∃p:L8->Bool,p=λy=>decide (x=y):=⟨_,rfl⟩;rw[<-hp];refine dS func306 rfl rfl rfl rfl ?_;refine Zb4 ?_;refine aP (λi:Nat=>[(0,.slice A l.length m),(1,str x),(7,I l.length),(8,I i)]) (λi w'=>(i<=l.length/\∀(j:Nat) y,j<i->l[j]? =some y->p y=false)/\Sep w noB [] w') (λi _=>l.length-i) 0 tR ⟨⟨zak _,λj y hj=>oM⟩,H⟩ (λi τ w6 hI=>?_);obtain⟨⟨hi,Cu⟩,H6⟩:=hI
 try simp only[dA,like,bB,bY]
 refine Za1 ?_;refine Qn (fC (Cp rfl (λy8=>?_) (λy8=>?_)))
 .have bX:i<l.length:=oM
  obtain⟨y,hy⟩:=get_some bX;refine Za8 ?_;refine Qn (Cp rfl (λIa=>?_) (λIa=>?_))
  .have iq:l.findIdx? p=some i:=zD Cu hy (by rw[hp];simpa using Ia)
   refine Zb2 ?_;exact⟨by rw[iq];rfl,H6.kept⟩
  have Rh:p y=false:=by rw[hp];simpa using Ia
  refine Zb2 ?_;exact ak (i+1) tR ⟨⟨oM,λj z hj hz=>by
  by_cases e:j=i
  .subst e;rw[hy]at hz;injection hz with hz;rw[<-hz];exact Rh
  exact Cu j z oM hz⟩,H6⟩ oM
 have qp:i=l.length:=oM;have iq:l.findIdx? p=none:=vI λj y hy=>Cu j y (by have:=jk hy;omega) hy;refine Zb1 ?_;exact⟨by rw[iq];rfl,H6.kept⟩
theorem ae3 {l:List (aI)} {v:Value} (x:aI) (hl:aM w v aj 3 l):aN prog 339 [v,agg (aj x)] w λv w'=>v=I (Fu (l.findIdx? λy=>decide (x=y)))/\Kept noB w w':=by
 obtain⟨A,m,rfl,⟨hm,qo⟩,hA⟩:=hl;have H:=Sep.aL w;obtain⟨p,hp⟩: ∃p:aI->Bool,p=λy=>decide (x=y):=⟨_,rfl⟩;rw[<-hp];refine dS func339 rfl rfl rfl rfl ?_;refine Sr (dz H (h:=λb1 w2 H2 k1=>?_));refine Zb4 ?_;refine aP (λi:Nat=>[(0,.slice A l.length m),(3,.pointer (some ⟨b1,0,none⟩)),(7,I l.length),(8,I i)]) (λi w'=>(i<=l.length/\∀(j:Nat) y,j<i->l[j]? =some y->p y=false)/\Sep w noB [blk b1 (aj x) 52] w') (λi _=>l.length-i) 0 tR ⟨⟨zak _,λj y hj=>oM⟩,H2⟩ (λi τ w8 hI=>?_);obtain⟨⟨hi,Cu⟩,H8⟩:=hI
 try simp only[dA,like,bB,bY]
 refine Za1 ?_;refine Qn (fC (Cp rfl (λIa=>?_) (λIa=>?_)))
 .have bX:i<l.length:=oM
  obtain⟨y,hy⟩:=get_some bX;refine Zb2 ?_;refine Ds (λSa wa Ha=>?_);refine Zb5 ?_;refine Gp Sa 5 rfl rfl (λ_=>(Gives.aj9 (enc:=aj) _ _ rfl rfl)) (dP Sa kR ?_);refine aU (Cp rfl (λIb=>?_) (λIb=>?_))
  .have iq:l.findIdx? p=some i:=zD Cu hy (by rw[hp];simpa using Ib)
   refine Zb2 ?_;exact⟨by rw[iq];rfl,Ha.kept⟩
  have Rh:p y=false:=by rw[hp];simpa using Ib
  refine Zb2 ?_;exact ak (i+1) tR ⟨⟨oM,λj z hj hz=>by
  by_cases e:j=i
  .subst e;rw[hy]at hz;injection hz with hz;rw[<-hz];exact Rh
  exact Cu j z oM hz⟩,Ha⟩ oM
 have qp:i=l.length:=oM;have iq:l.findIdx? p=none:=vI λj y hy=>Cu j y (by have:=jk hy;omega) hy;refine Zb1 ?_;exact⟨by rw[iq];rfl,H8.kept⟩
theorem abq {l:List (Int)} {v:Value} (x:Int) (hl:aM w v intCells 1 l):aN prog 187 [v,I x] w λv w'=>v=.bool (l.any λy=>decide (x=y))/\Kept noB w w':=by
 have H:=Sep.aL w;refine dS func187 rfl rfl rfl rfl ?_;refine Zb3 ?_;refine aF H (ahW x (hl.keep H.kept)) (h:=λw5 H5 k4=>?_);refine Zb2 ?_;exact⟨by rw[<-EU];rfl,H5.kept⟩
theorem YK {l:List (aI)} {v:Value} (x:aI) (hl:aM w v aj 3 l):aN prog 264 [v,agg (aj x)] w λv w'=>v=.bool (l.any λy=>decide (x=y))/\Kept noB w w':=by
 have H:=Sep.aL w;refine dS func264 rfl rfl rfl rfl ?_;refine Sr (dz H (h:=λb1 w2 H2 k1=>?_));refine Zb3 ?_;refine aF H2 (ae3 x (hl.keep H2.kept)) (h:=λw7 H7 k6=>?_);refine Zb2 ?_;exact⟨by rw[<-EU];rfl,H7.kept⟩
end
end Go.Proofs.YtkfpleidaoaonaaGreatDoor
namespace Go.Mw
open Go.RowKit
section gives
variable {P:Program} {ρ:Od->Value} {ty:Td} {w:Wd} {x y z:Od}
theorem Gives.YL {t e:Td} [ht:dD P t e] {size bytes:Nat} [hc:Cells P e size bytes] {A:OA} {n c h m:Nat} {k j:IntKind} (hx:ρ x=.slice A n c) (hy:ρ y=.int k h) (hz:ρ z=.int j m) (qQ:h<=m) (ZA:m<=c):Gives P ρ (.slice t x none (some y) (some z)) ty w (.slice A h m) w:=λ_ _ _ _=>by
 obtain⟨i,hi,uD⟩:=zbb.1 hc.size;have e1:(0:Int)<=(h:Int)/\(h:Int)<=(m:Int):=oM;have e2:(0:Int)<=(m:Int)/\(m:Int)<=(c:Int):=oM;have e3:A.map (λx:Addr=>x.add 0)=A:=by cases A<;>simp[Addr.add_zero']
 simp[execOp,hx,hy,hz,Instr.sliceAt,run_underlying ht.und,Instr.slice,Instr.sliceBounds,Instr.sliceBound,asIntOf,e1,e2,sizeOf,typeInfo,hi,e3,qQ,ZA]
end gives
end Go.Mw
namespace Go.Proofs.YtkfpleidaoaonaaGreatDoor
open Go Go.Mw Go.Lib
set_option maxRecDepth 4000
attribute [local irreducible] FW FL FG FGn gu gy dh gH Qfn Gives
section
variable {w:Wd}
theorem VW {b E n c k:Nat} {A:OA} {F:NP} (hp:(blk b [.slice A n c] E).ok F w) (hk:k<=n) (hnc:n<=c) (hc:n<=9223372036854775807):
    aN Tryz.prog 121 [.pointer (some ⟨b,0,none⟩),I k] w λv w'=>v=.tuple #[.slice (if c=n-k then A else A.map (·.add ((n-k)*2))) k (c-(n-k)),.bool true]/\Turn F (blk b [.slice A (n-k) (n-k)] E) w w':=by
  have H:=Sep.dZ hp;refine dS Tryz.func121 rfl rfl rfl rfl ?_;refine Zb8 ?_;refine Vc ((n-k:Nat):Int) ?_;refine Za3 ?_;refine Qn (Cp rfl (λIa=>?_) (λIa=>?_))
  . exact zat Ia oM
  refine Zb5 ?_;refine Vv (Gives.sliceFrom rfl rfl oM) ?_;rw[show n-(n-k)=k from oM];refine Zb8 ?_;refine Vv (Gives.YL rfl rfl rfl oM oM) (Zb2 ?_);refine bM H (h:=λwa Ha=>?_);refine Zb3 ?_;exact⟨rfl,Ha.turn⟩
theorem Pv {b E n c k:Nat} {A:OA} {F:NP} (hp:(blk b [.slice A n c] E).ok F w) (hk:n<k) (hk2:k<=1000000):
    aN Tryz.prog 121 [.pointer (some ⟨b,0,none⟩),I k] w λv w'=>v=.tuple #[.slice none 0 0,.bool false]/\Turn F (blk b [.slice A n c] E) w w':=by
  have H:=Sep.dZ hp;refine dS Tryz.func121 rfl rfl rfl rfl ?_;refine aoh ?_;refine Qn (Cp rfl (λIa=>?_) (λIa=>?_))
  . refine Zb2 ?_
    exact⟨rfl,H.turn⟩
  exact zat (show((n:Int)-k)<0 from oM) Ia
theorem YM {b E:Nat} {A:OA} {F:NP} {l news:List dJ} {vn:Value} (hp:(blk b [.slice A l.length l.length] E).ok F w) (hr:Rd w A bD 2 l) (hn:aM w vn bD 2 news) (iF:0<news.length) (hlen:l.length+news.length<=1000000):
    aN Tryz.prog 126 [.pointer (some ⟨b,0,none⟩),vn] w λv w'=>∃x,v=.tuple #[]/\True/\Turn F (star (blk b [x] E) (bW 50 2 bD x (l++news))) w w':=by
  obtain⟨B,m,rfl,⟨hm,qo⟩,hB⟩:=hn;have H:=Sep.dZ hp;refine dS Tryz.func126 rfl rfl rfl rfl ?_;refine Zb6 ?_;refine Pq H hr hB iF (by unfold maxLen;omega) oM (cells_one (λ_=>rfl) _) (h:=?_);intro v2 w8 H8 k7;obtain⟨B2,c2,rfl,hc2,hB2⟩:=Sep.eO H8 At0;refine Zb2 ?_;refine bM H8 (h:=λwa Ha=>?_);refine Zb0 ?_;exact⟨_,rfl,trivial,(Ha.aJ.bI).turn⟩
theorem VX {b E n c k:Nat} {A:OA} {F:NP} (hp:(blk b [.slice A n c] E).ok F w) (hk:k<=n) (hnc:n<=c) (hc:n<=9223372036854775807):
    aN Tryz.prog 138 [.pointer (some ⟨b,0,none⟩),I k] w λv w'=>v=.tuple #[.slice (if c=n-k then A else A.map (·.add ((n-k)*3))) k (c-(n-k)),.bool true]/\Turn F (blk b [.slice A (n-k) (n-k)] E) w w':=by
  have H:=Sep.dZ hp;refine dS Tryz.func138 rfl rfl rfl rfl ?_;refine Zb8 ?_;refine Vc ((n-k:Nat):Int) ?_;refine Za3 ?_;refine Qn (Cp rfl (λIa=>?_) (λIa=>?_))
  . exact zat Ia oM
  refine Zb5 ?_;refine Vv (Gives.sliceFrom rfl rfl oM) ?_;rw[show n-(n-k)=k from oM];refine Zb8 ?_;refine Vv (Gives.YL rfl rfl rfl oM oM) (Zb2 ?_);refine bM H (h:=λwa Ha=>?_);refine Zb3 ?_;exact⟨rfl,Ha.turn⟩
theorem zF {b E:Nat} {A:OA} {F:NP} {l news:List aI} {vn:Value} (hp:(blk b [.slice A l.length l.length] E).ok F w) (hr:Rd w A aj 3 l) (hn:aM w vn aj 3 news) (iF:0<news.length) (hlen:l.length+news.length<=1000000):
    aN Tryz.prog 140 [.pointer (some ⟨b,0,none⟩),vn] w λv w'=>∃x,v=.tuple #[]/\True/\Turn F (star (blk b [x] E) (bW 52 3 aj x (l++news))) w w':=by
  obtain⟨B,m,rfl,⟨hm,qo⟩,hB⟩:=hn;have H:=Sep.dZ hp;refine dS Tryz.func140 rfl rfl rfl rfl ?_;refine Zb6 ?_;refine Pq H hr hB iF (by unfold maxLen;omega) oM (cells_one (λ_=>rfl) _) (h:=?_);intro v2 w8 H8 k7;obtain⟨B2,c2,rfl,hc2,hB2⟩:=Sep.eO H8 At0;refine Zb2 ?_;refine bM H8 (h:=λwa Ha=>?_);refine Zb0 ?_;exact⟨_,rfl,trivial,(Ha.aJ.bI).turn⟩
theorem acQ (k:Int):aN Tryz.prog 122 [I k] w λv w'=>v=I (eY k)/\Kept noB w w':=by
 have H:=Sep.aL w;obtain⟨res,ay⟩: ∃res,res=eY k:=⟨_,rfl⟩;rw[<-ay];unfold eY at ay;refine eP Tryz.func122 rfl rfl rfl rfl ?_;refine Za4 ?_;refine Qn (Cp rfl (λQh=>?_) (λQh=>?_))
 .rw[zac Qh]at ay
  refine Zb1 ?_;exact⟨by rw[ay];rfl,H.kept⟩
 rw[zab Qh]at ay;refine Zb3 ?_;refine aC (t:=9) rfl (λSa=>?_) (λSa=>?_)
 .refine Zb7 ?_
  exact⟨by rw[ay,zac oM];rfl,H.kept⟩
 refine Zb4 ?_;refine aC (t:=13) rfl (λSb=>?_) (λSb=>?_)
 .refine Zb5 ?_
  exact⟨by rw[ay,zac oM];rfl,H.kept⟩
 refine Zb4 ?_;refine aC (t:=17) rfl (λSc=>?_) (λSc=>?_)
 .refine Zb3 ?_
  exact⟨by rw[ay,zac oM];rfl,H.kept⟩
 refine Za4 ?_;refine Qn (Cp rfl (λIa=>?_) (λIa=>?_))
 .refine Zb1 ?_
  exact⟨by rw[ay,zac oM];rfl,H.kept⟩
 rw[zab oM]at ay;refine Zb1 ?_;exact⟨by rw[ay];rfl,H.kept⟩
theorem VY (k:Int):aN Tryz.prog 183 [I k] w λv w'=>v=str (qL k)/\Kept noB w w':=by
 have H:=Sep.aL w;obtain⟨res,ay⟩: ∃res,res=qL k:=⟨_,rfl⟩;rw[<-ay];unfold qL at ay;refine eP Tryz.func183 rfl rfl rfl rfl ?_;refine Za4 ?_;refine Qn (Cp rfl (λQh=>?_) (λQh=>?_))
 .rw[zac Qh]at ay
  refine Zb1 ?_;exact⟨by rw[ay];rfl,H.kept⟩
 rw[zab Qh]at ay;refine Za2 ?_;refine Qn (Cp rfl (λIa=>?_) (λIa=>?_))
 .rw[zac Ia]at ay
  refine Zb1 ?_;exact⟨by rw[ay];rfl,H.kept⟩
 rw[zab Ia]at ay;refine Za2 ?_;refine Qn (Cp rfl (λIb=>?_) (λIb=>?_))
 .rw[zac Ib]at ay
  refine Zb1 ?_;exact⟨by rw[ay];rfl,H.kept⟩
 rw[zab Ib]at ay;refine Za2 ?_;refine Qn (Cp rfl (λIc=>?_) (λIc=>?_))
 .rw[zac Ic]at ay
  refine Zb1 ?_;exact⟨by rw[ay];rfl,H.kept⟩
 rw[zab Ic]at ay;refine Zb1 ?_;exact⟨by rw[ay];rfl,H.kept⟩
theorem Ce (t:dJ):aN Tryz.prog 127 [agg (bD t)] w λv w'=>v=.bool (qK t)/\Kept noB w w':=by
 have H:=Sep.aL w;refine eP Tryz.func127 rfl rfl rfl rfl ?_;refine Sr (dz H (cs:=bD t) rfl (h:=λb0 w2 H2 k0=>?_));refine Zb5 ?_;refine aC (t:=6) rfl (λhs8=>?_) (λhs8=>?_)
 .refine Zb5 ?_
  exact⟨by unfold qK;exact zaw Value.bool (zbj.2 oM),H2.kept⟩
 refine Zb2 ?_;exact⟨by unfold qK;rw[zar oM];rfl,H2.kept⟩
end
end Go.Proofs.YtkfpleidaoaonaaGreatDoor
namespace Go.Mw
open Go.RowKit
section gives
variable {P:Program} {ρ:Od->Value} {ty:Td} {w:Wd}
theorem Gives.Pw {T e:Td} {n size bytes:Nat} [ha:mO P T n e] [hc:Cells P e size bytes] {z:Value} [hz:Zero P T z] {zs:LV} {parts:List (Nat×Od)} {out:LV} (NA:z.cells=zs.toArray) (h:Fills (λi:Nat=>some (i*size,size)) ρ parts zs out):
    Gives P ρ (.build T parts.toArray) ty w (.agg out.toArray) w:=λ_ _ _ _=>by
  obtain⟨i,hi,uD⟩:=zbb.1 hc.size;simp only[Prod.mk.injEq]at uD;have hf:=Nw h;simp only[execOp,Instr.build,zbk,hz.run,zas,run_underlying ha.und,sizeOf,typeInfo,hi,NA,zbn,zcl,uD.1];have hf':Instr.fill (λi=>some (i*size,size)) zs.toArray (List.map (λx=>(x.fst,ρ x.snd)) parts)=some out.toArray:=hf;simp[hi,uD.1,hf']
end gives
end Go.Mw
namespace Go.Proofs.YtkfpleidaoaonaaGreatDoor
open Go Go.Mw Go.Lib
set_option maxRecDepth 4000
attribute [local irreducible] FW FL FG FGn gu gy dh gH Qfn Gives
section
variable {w:Wd}
theorem ahX {b:Nat} {E:Td} (c:bL) (n:Int) (hb:w.heap[b]? =some (.cells #[I n] E (0,0))):aN Tryz.prog 201 [agg (aR c),.pointer (some ⟨b,0,none⟩)] w λv w'=>v=.bool (decide (c.id=n))/\Kept noB w w':=by
 have H:=Sep.aL w;refine dS Tryz.func201 rfl rfl rfl rfl ?_;refine Sr (dz H (cs:=aR c) rfl (h:=λb0 w2 H2 k0=>?_));refine Zb3 ?_;refine ig (cs:=[I n]) (H2.kept.get hb id) (h:=?_);refine Zb2 ?_;exact⟨rfl,H2.kept⟩
theorem find_ok {cols:List bL} {vc:Value} (n:Int) (hc:aM w vc aR 7 cols):aN Tryz.prog 141 [vc,I n] w λv w'=>v=I (Fu (oC cols n))/\Kept noB w w':=by
 have H:=Sep.aL w;refine dS Tryz.func141 rfl rfl rfl rfl ?_;refine Sr (dz H (h:=λb1 w2 H2 k1=>?_));refine Zb3 ?_;have J9:=H2.obj At0;have hpr:vX _ (.func (.func 201) #[] #[.pointer (some ⟨b1,0,none⟩)]) (λc=>agg (aR c)) (λc=>decide (c.id=n)):=⟨201,[],[.pointer (some ⟨b1,0,none⟩)],rfl,inferInstance,λc w'' hk=>ahX c n (hk.get J9 id)⟩;refine aF H2 (YJ (hc.keep H2.kept) hpr) (h:=λw7 H7 k6=>?_);refine Zb1 ?_;exact⟨rfl,H7.kept⟩
attribute [local irreducible] qK
theorem amt {cols:List bL} {vc:Value} (x:bJ) (hc:aM w vc aR 7 cols) (h1:1<=x.kind) (h6:x.kind<=6):aN Tryz.prog 124 [vc,agg (aD x)] w λv w'=>v=.tuple #[agg (bD ((lW cols x).getD ng)),.bool (lW cols x).isSome]/\Kept noB w w':=by
  have Qw:=hc;obtain⟨A,m,rfl,⟨hm,qo⟩,hA⟩:=hc;have H:=Sep.aL w;obtain⟨res,ay⟩: ∃res,res=lW cols x:=⟨_,rfl⟩;rw[<-ay];unfold lW at ay;refine DR Tryz.func124 rfl rfl rfl rfl ?_;refine Sr (dz H (cs:=aD x) rfl (h:=λb0 w2 H2 k0=>?_));refine aW H2 (h:=λb3 w4 H4 k3=>?_);refine Zb1 ?_;refine Vv (Gives.Pw (out:=[I 0,I 0,I 3,I 1,I 4,I 5]) rfl (Fills.one rfl rfl rfl sM rfl (Fills.one rfl rfl rfl sM rfl (Fills.one rfl rfl rfl sM rfl (Fills.one rfl rfl rfl sM rfl Fills.nil))))) (aW H4 (h:=λbk w8 H8 k7=>?_));refine au H8 (h:=λwa Ha=>?_);refine Za4 ?_;refine Qn (Cp rfl (λIa=>?_) (λIa=>?_))
  . rw[zab oM,zab oM,zab oM,zab oM,zab oM]at ay
    refine Zb2 ?_;refine Vb (bD ⟨x.n,true⟩) ?_;refine au Ha (h:=λwb Hb=>?_);refine Am ?_;refine Qn (Rb (aX (h:=?_)));exact⟨_,jh Hb,by rw[ay];rfl,Hb.kept⟩
  refine Za2 ?_;refine Qn (Cp rfl (λIb=>?_) (λIb=>?_))
  . rw[zac Ib]at ay
    refine Zb3 ?_;refine aF Ha (find_ok x.n (Qw.keep Ha.kept)) (h:=λwc Hc ka=>?_);refine Zb4 ?_;refine aC (t:=25) rfl (λSa=>?_) (λSa=>?_)
    . have qR:oC cols x.n=none:=by
        cases hf:oC cols x.n with
        | none=>rfl
        | some i=>
          rw[hf]at Sa;exact zat (show((i:Nat):Int)<0 from Sa) oM
      rw[qR]at ay;refine Zb1 ?_;refine Vb (bD ng) ?_;refine au Hc (h:=λwd Hd=>?_);refine Am ?_;refine Qn (Rs (dF (fG (aX (h:=?_)))));exact⟨_,jh Hd,by rw[ay];rfl,Hd.kept⟩
    obtain⟨i,hf⟩: ∃i,oC cols x.n=some i:=by
      cases hf:oC cols x.n with
      | none=>rw[hf]at Sa;exact zat (show(-1:Int)<0 from dC) Sa
      | some i=>exact⟨i,rfl⟩
    have bX:=VQ hf;obtain⟨c,hcg⟩:=get_some (l:=cols) (i:=i) bX;rw[hf]at ay;dsimp only at ay;rw[qg hcg]at ay;refine Zb2 ?_;rw[show(Fu (oC cols x.n))=((i:Nat):Int) by rw[hf];rfl];refine Vv (Gives.mK rfl rfl hA bX) (Zb1 ?_);refine Vv (Gives.VP (us:=bD c.type) rfl Hc hA hcg rfl rfl) (On ?_);refine aF Hc (Ce c.type) (h:=λwe He kb=>?_);refine Za2 ?_;refine Qn (Cd rfl (λIc=>?_) (λIc=>?_))
    . rw[zac (by first | exact Ic | (have h:=Ic;revert h;cases qK c.type<;>simp))]at ay
      refine Sr (Vb (bD ng) ?_);refine au He (h:=λwf Hf=>?_);refine Am ?_;refine Qn (Rs (dF (fG (aX (h:=?_)))));exact⟨_,jh Hf,by rw[ay];rfl,Hf.kept⟩
    rw[zab (by have h:=Ic;revert h;cases qK c.type<;>simp)]at ay;refine Zb2 ?_;refine Vv (Gives.mK rfl rfl hA bX) (Zb1 ?_);refine Vv (Gives.VP (us:=bD c.type) rfl He hA hcg rfl rfl) (aW He (h:=λb69 wg Hg kc=>?_));refine au Hg (h:=λwh Hh=>?_);refine Za3 ?_;refine Qn (Cp rfl (λId=>?_) (λId=>?_))
    . rw[zac Id]at ay
      refine Zb1 ?_;refine bM Hh (h:=λwi Hi=>?_);refine Zb1 ?_;refine au Hi (h:=λwj Hj=>?_);refine Am ?_;refine Qn (Rb (aX (h:=?_)));exact⟨_,jh Hj,by rw[ay];rfl,Hj.kept⟩
    rw[zab Id]at ay;refine Zb1 ?_;refine au Hh (h:=λwk Hk=>?_);refine Am ?_;refine Qn (Rb (aX (h:=?_)));exact⟨_,jh Hk,by rw[ay];rfl,Hk.kept⟩
  rw[zab Ib]at ay;have ZN:((x.kind.toNat:Nat):Int)=x.kind:=zcw oM
  obtain⟨kk,eB,hg⟩: ∃kk:Int,res=some ⟨kk,false⟩/\[(0:Int),0,3,1,4,5][x.kind.toNat]? =some kk:=by
    rcases (by omega :x.kind=2\/x.kind=3\/x.kind=4\/x.kind=5)with e | e | e | e<;>rw[e]at ay |- <;>exact⟨_,ay,rfl⟩
  have hR:Rd _ (some ⟨bk,0,none⟩) intCells 1 [(0:Int),0,3,1,4,5]:=Sep.qJ Ha At0 rfl;refine Zb2 ?_;refine Vv (Gives.BI (i:=x.kind.toNat) rfl (by rw[ZN];rfl) oM) ?_;refine Vv (Gives.TM (f:=0) (i:=x.kind.toNat) rfl hR hg rfl) (Vb (bD ⟨kk,false⟩) ?_);refine au Ha (h:=λwl Hl=>?_);refine Am ?_;refine Qn (fu (aX (h:=?_)));exact⟨_,jh Hl,by rw[eB];rfl,Hl.kept⟩
end
end Go.Proofs.YtkfpleidaoaonaaGreatDoor
namespace Go.Mw
open Go.RowKit
section
variable {P:Program} {r:Option Nat} {n:Nat} {ops:AO} {Q:Post} {σ:St} {w w0:Wd} {S:NP} {rs:List HP} {ty:Td} {pos:String} {after:Array Edge} {guard:Option (Nat×Bool)} {lv:List Bool} {pd:LNB}
theorem aow {dst:Option Nat} {y:Od} {f:FuncId} {fs cs:LV} {xs:List Od} {ats:Array Td} {vals:LV} {R:Value->Wd->Prop} [he:bC P f] {K:St->Wd->Prop} (hy:evF σ y=.func (.func f) fs.toArray cs.toArray) (hc:aN P f (fs++vals++cs) w R) (hv:xs.map (evF σ)=vals)
    (h: ∀v w',R v w'->K (uV σ dst v) w'):OD P σ w ⟨dst,.call {callee:=.value y,args:=xs.toArray,argTypes:=ats},ty,pos,after,guard⟩ K:=by
  unfold OD
  have e:(execOp (evF σ) ⟨dst,.call {callee:=.value y,args:=xs.toArray,argTypes:=ats},ty,pos,after,guard⟩).run P w=.ok (.enter f (fs++vals++cs).toArray) w:=by
    simp[execOp,resolve,hy,Deferred.ofValue,invoke,hv];rw[<-he.run (fs++(vals++cs)).toArray w]
  rw[e];refine Calls.mono hc λen w'' hr=>?_;cases en with
  | returned v=>exact h v w'' hr
  | _=>exact hr.elim
theorem jc (gT:fT n ops=true) (e:Nat) (pd':LNB) {d:Nat} {y:Od} {f:FuncId} {fs cs:LV} {xs:List Od} {ats:Array Td} {vals:LV} {R:Value->Wd->Prop} [he:bC P f]
    (hy:evF σ y=.func (.func f) fs.toArray cs.toArray) (hc:aN P f (fs++vals++cs) w R)
    (ho:ops[e]? =some ⟨some d,.call {callee:=.value y,args:=xs.toArray,argTypes:=ats},ty,pos,after,guard⟩:=by exact rfl)
    (hw:Region.wanted ⟨some d,.call {callee:=.value y,args:=xs.toArray,argTypes:=ats},ty,pos,after,guard⟩ (eD ops σ)=true:=by kernel_rfl) (hv:xs.map (evF σ)=vals:=by exact rfl) (fq:gY ops lv (pd.map (·.1)) e=true:=by kernel_rfl)
    (rC:pd.filter (λp=> !((above ops e).contains p.1))=pd':=by exact pD) (h: ∀v w',R v w'->mI P ops (upd σ d v) w' pd'/\FG P r n ops Q (lv.set e true) pd' (upd σ d v) w'):FG P r n ops Q lv pd σ w:=
  EA gT ho fq hw pd' rC (aow hy hc hv h)
theorem lN (gT:fT n ops=true) (e:Nat) (pd':LNB) {d:Nat} {y:Od} {f:FuncId} {fs cs:LV} {xs:List Od} {ats:Array Td} {vals:LV} {R:Value->Wd->Prop} [he:bC P f]
    (hy:evF σ y=.func (.func f) fs.toArray cs.toArray) (hc:aN P f (fs++vals++cs) w R)
    (ho:ops[e]? =some ⟨some d,.call {callee:=.value y,args:=xs.toArray,argTypes:=ats},ty,pos,after,guard⟩:=by exact rfl)
    (hw:Region.wanted ⟨some d,.call {callee:=.value y,args:=xs.toArray,argTypes:=ats},ty,pos,after,guard⟩ (eD ops σ)=true:=by kernel_rfl) (hv:xs.map (evF σ)=vals:=by exact rfl) (fq:rR ops lv (pd.map (·.1)) e=true:=by kernel_rfl)
    (rC:pd.filter (λp=> !((above ops e).contains p.1))=pd':=by exact pD) (h: ∀v w',R v w'->mI P ops (upd σ d v) w' pd'/\FG P r n ops Q (lv.set e true) pd' (upd σ d v) w'):tZ P r n ops Q lv pd σ w e:=
  Po gT ho fq hw pd' rC (aow hy hc hv h)
end
end Go.Mw
namespace Go.Proofs.YtkfpleidaoaonaaGreatDoor
open Go Go.Mw Go.Lib Tryz
set_option maxRecDepth 4000
attribute [local irreducible] FW FL FG FGn gu gy dh gH Qfn Gives
def D6 {α:Type} (k:Int) (l:List α) (a b:α):Prop:=(l=[a]/\a=b/\(k=10\/k=15\/k=16\/k=18))\/(l=[a,b]/\k≠10/\k≠15/\k≠16/\k≠18)
theorem D6.any {α:Type} {k:Int} {l:List α} {a b:α} (h:D6 k l a b) (p:α->Bool):l.any p=(p a||p b):=by
 rcases h with⟨rfl,rfl,_⟩ | ⟨rfl,_⟩
 .simp
 simp
theorem D6.get {α:Type} {k:Int} {l:List α} {a b:α} (h:D6 k l a b):l[0]? =some a/\l[l.length-1]? =some b/\0<l.length:=by
 rcases h with⟨rfl,rfl,_⟩ | ⟨rfl,_⟩
 .exact⟨rfl,rfl,sM⟩
 exact⟨rfl,rfl,sM⟩
def within (want:List Int) (t:dJ):Bool:=want.any λy=>decide (t.kind=y)
section
variable {w:Wd}
theorem ae4 (t:dJ):aN prog 188 [agg (bD t)] w λv w'=>v=.bool t.null/\Kept noB w w':=by
 have H:=Sep.aL w;refine eP func188 rfl rfl rfl rfl ?_;refine Sr (dz H (cs:=bD t) rfl (h:=λb0 w2 H2 k0=>?_));refine Zb4 ?_;exact⟨rfl,H2.kept⟩
theorem ae5 (t:dJ):aN prog 189 [agg (bD t)] w λv w'=>v=.bool (!t.null)/\Kept noB w w':=by
 have H:=Sep.aL w;refine eP func189 rfl rfl rfl rfl ?_;refine Sr (dz H (cs:=bD t) rfl (h:=λb0 w2 H2 k0=>?_));refine Zb3 ?_;refine Vv (Gives.not rfl) (Zb1 ?_);exact⟨rfl,H2.kept⟩
theorem abr {b:Nat} {E:Td} {want:List Int} {vw:Value} (t:dJ) (hb:w.heap[b]? =some (.cells #[vw] E (0,0))) (hw:aM w vw intCells 1 want):aN prog 186 [agg (bD t),.pointer (some ⟨b,0,none⟩)] w λv w'=>v=.bool (!within want t)/\Kept noB w w':=by
 have H:=Sep.aL w;refine dS func186 rfl rfl rfl rfl ?_;refine Sr (dz H (cs:=bD t) rfl (h:=λb0 w2 H2 k0=>?_));refine Zb1 ?_;refine ig (cs:=[vw]) (H2.kept.get hb id) (h:=?_);refine Zb2 ?_;refine aF H2 (abq t.kind (hw.keep H2.kept)) (h:=λw8 H8 k7=>?_);refine Vv (Gives.not rfl) (Zb1 ?_);exact⟨rfl,H8.kept⟩
theorem Ba {b:Nat} {E:Td} {want:List Int} {l:List dJ} {vw vl:Value} (hb:w.heap[b]? =some (.cells #[vl] E (0,0))) (hl:aM w vl bD 2 l) (hw:aM w vw intCells 1 want):aN prog 184 [vw,.pointer (some ⟨b,0,none⟩)] w λv w'=>v=.bool (!(l.any λt=> !within want t))/\Kept noB w w':=by
 have H:=Sep.aL w;have hwc:vw.cells= #[vw]:=by obtain⟨A,c,rfl,_⟩:=hw;rfl
 refine dS func184 rfl rfl rfl rfl ?_;refine Sr (dz H (cs:=[vw]) rfl hwc (h:=λb0 w2 H2 k0=>?_));refine Zb1 ?_;refine ig (cs:=[vl]) (H2.kept.get hb id) (h:=?_);refine Zb1 ?_;have J9:=H2.obj At0;have hpr:vX _ (.func (.func 186) #[] #[.pointer (some ⟨b0,0,none⟩)]) (λt=>agg (bD t)) (λt=> !within want t):=⟨186,[],[.pointer (some ⟨b0,0,none⟩)],rfl,inferInstance,λt w'' hk=>abr t (hk.get J9 id) ((hw.keep H2.kept).keep hk)⟩;refine aF H2 (D5 (hl.keep H2.kept) hpr) (h:=λw7 H7 k6=>?_);refine Vv (Gives.not rfl) (Zb1 ?_);exact⟨rfl,H7.kept⟩
end
theorem D6.all {k:Int} {l:List dJ} {a b:dJ} (h:D6 k l a b) (want:List Int):(!(l.any λt=> !within want t))=(within want a&&within want b):=by
 rw[h.any];cases within want a<;>cases within want b<;>rfl
theorem TN {res:Option dJ} {t:dJ} {ok:Bool} (h1:ok=res.isSome) (h2: ∀y,res=some y->t=y): ∃t',Value.tuple #[agg (bD t),.bool ok]=.tuple #[agg (bD t'),.bool res.isSome]/\∀x,res=some x->t'=x:=
 ⟨t,by rw[h1],h2⟩
theorem D7 {P:Prop} [Decidable P] {t u:dJ} {ok:Bool} (h1:ok=decide P) (h2:t=u): ∃t',Value.tuple #[agg (bD t),.bool ok]=.tuple #[agg (bD t'),.bool (if P then some u else none).isSome]/\∀x,(if P then some u else none)=some x->t'=x:=by
 refine TN ?_ λy hy=>?_
 .rw[h1];by_cases hp:P
  .rw[zac hp,zbe hp];rfl
  rw[zab hp,zar hp];rfl
 by_cases hp:P
 .rw[zac hp]at hy;injection hy with hy;rw[h2,hy]
 rw[zab hp]at hy;cases hy
theorem qM (k:Int) (t:dJ):within [k] t=decide (t.kind=k):=by simp[within]
theorem Px (j k:Int) (t:dJ):within [j,k] t=decide (t.kind=j\/t.kind=k):=by simp[within]
theorem JY (P Q:Prop) [Decidable P] [Decidable Q]:(decide P&&decide Q)=decide (P/\Q):=by
 by_cases h1:P<;>by_cases h2:Q<;>simp[h1,h2]
section
variable {w:Wd}
theorem ahY {k:Int} {l:List dJ} {a b:dJ} {vl:Value} (hl:aM w vl bD 2 l) (hs:D6 k l a b) (h7:7<=k) (h18:k<=18):aN Tryz.prog 125 [I k,vl] w λv w'=>(∃t,v=.tuple #[agg (bD t),.bool (FT k a b).isSome]/\∀x,FT k a b=some x->t=x)/\Kept noB w w':=by
 have MR:=hl;obtain⟨A,m,rfl,⟨hm,qo⟩,hA⟩:=hl;have H:=Sep.aL w;obtain⟨hga,_,G8⟩:=hs.get;obtain⟨res,ay⟩: ∃res,res=FT k a b:=⟨_,rfl⟩;rw[<-ay];unfold FT at ay;have aiX:=hs.any λt=>t.null
 have am9:(!(l.any λt=> !t.null))=(a.null&&b.null):=by
  rw[hs.any];cases a.null<;>cases b.null<;>rfl
 refine DR Tryz.func125 rfl rfl rfl rfl ?_;refine Sr (dz H (cs:=[.slice A l.length m]) rfl (h:=λb0 w2 H2 k0=>?_));refine aW H2 (h:=λb1 w4 H4 k3=>?_);refine Zb4 ?_;refine aF H4 (D5 (p:=λt=>t.null) (MR.keep H4.kept) ⟨188,[],[],rfl,inferInstance,λt w'' _=>ae4 t⟩) (h:=λwa Ha k9=>?_);rw[aiX];refine Zb2 ?_;refine aF Ha (D5 (p:=λt=> !t.null) (MR.keep Ha.kept) ⟨189,[],[],rfl,inferInstance,λt w'' _=>ae5 t⟩) (h:=λwb Hb ka=>?_);refine Vv (Gives.not rfl) ?_;rw[am9];refine Za2 ?_;refine Qn (NJ (iP (λ_:Unit=>[(0,I k),(3,.pointer (some ⟨b0,0,none⟩)),(4,.pointer (some ⟨b1,0,none⟩)),(6,.func (.func 184) #[] #[.pointer (some ⟨b0,0,none⟩)]),(7,.bool (a.null||b.null)),(8,.bool (a.null&&b.null)),(15,I k),(16,.bool (decide (k=7\/k=8\/k=9\/k=10)))]) (λ_ w'=>Sep w noB [blk b1 [.int .i64 0,.bool false] 50,blk b0 [.slice A l.length m] 190] w') ?_ ?_))
 .refine Za2 ?_
  refine Qn (Cp rfl (λIa=>?_) (λIa=>?_))
  .refine Zb0 ?_
   exact aG () ⟨rfl,rfl,rfl,rfl,rfl,rfl,rfl,zaw Value.bool (zbj.2 oM),trivial⟩ Hb
  refine Za2 ?_;refine Qn (Cp rfl (λIb=>?_) (λIb=>?_))
  .refine Zb0 ?_
   exact aG () ⟨rfl,rfl,rfl,rfl,rfl,rfl,rfl,zaw Value.bool (zbj.2 oM),trivial⟩ Hb
  refine Za2 ?_;refine Qn (Cp rfl (λIc=>?_) (λIc=>?_))
  .refine Zb0 ?_
   exact aG () ⟨rfl,rfl,rfl,rfl,rfl,rfl,rfl,zaw Value.bool (zbj.2 oM),trivial⟩ Hb
  refine Zb2 ?_;exact aG () ⟨rfl,rfl,rfl,rfl,rfl,rfl,rfl,zaw Value.bool (zbj.2 oM),trivial⟩ Hb
 intro _ τ wc Hc;simp only[dA,like,bB,bY];refine Cp rfl (λId=>?_) (λId=>?_)
 .rw[zac Id]at ay
  refine Zb1 ?_;refine Vb (bD ⟨3,a.null||b.null⟩) ?_;refine Mv ?_;refine pV Hc (xs:=[_]) (out:=([3]:List Int).flatMap intCells) ((bE.one rfl rfl bE.nil)) rfl rfl rfl (λbw wd Hd kb=>?_);have J9:=Hd.obj At2;have Zw:aM _ (.slice (some ⟨bw,0,none⟩) 1 1) intCells 1 [3]:=⟨some ⟨bw,0,none⟩,1,rfl,⟨sM,oM⟩,Sep.qJ Hd At0 rfl⟩;refine fB (vals:=[_]) rfl (Ba J9 (MR.keep Hd.kept) Zw) rfl rfl (λv' we hv=>?_);obtain⟨rfl,eB⟩:=hv;have He:=Hd.keep eB;rw[hs.all];refine au He (h:=λwf Hf=>?_);refine Am ?_;refine Qn (Rb (aX (h:=?_)));exact⟨_,jh Hf,by rw[ay];exact D7 (by rw[qM,qM,JY]) rfl,Hf.kept⟩
 rw[zab Id]at ay;refine iP (λ_:Unit=>[(0,I k),(3,.pointer (some ⟨b0,0,none⟩)),(4,.pointer (some ⟨b1,0,none⟩)),(6,.func (.func 184) #[] #[.pointer (some ⟨b0,0,none⟩)]),(7,.bool (a.null||b.null)),(8,.bool (a.null&&b.null)),(15,I k),(26,.bool (decide (k=11\/k=12)))]) (λ_ w'=>Sep w noB [blk b1 [.int .i64 0,.bool false] 50,blk b0 [.slice A l.length m] 190] w') ?_ ?_
 .refine Za2 ?_
  refine Qn (Cp rfl (λIe=>?_) (λIe=>?_))
  .refine Zb0 ?_
   exact aG () ⟨rfl,rfl,rfl,rfl,rfl,rfl,rfl,zaw Value.bool (zbj.2 oM),trivial⟩ Hc
  refine Zb2 ?_;exact aG () ⟨rfl,rfl,rfl,rfl,rfl,rfl,rfl,zaw Value.bool (zbj.2 oM),trivial⟩ Hc
 intro _ τ wg Hg;simp only[dA,like,bB];refine Cp rfl (λIf=>?_) (λIf=>?_)
 .rw[zac If]at ay
  refine Zb1 ?_;refine Vb (bD ⟨1,a.null||b.null⟩) ?_;refine Zb2 ?_;refine Vv (Gives.mK (i:=0) rfl rfl hA G8) (Zb1 ?_);refine Vv (Gives.iJ (i:=0) (f:=0) rfl Hg hA hga rfl) (pV Hg (xs:=[_]) (out:=([a.kind]:List Int).flatMap intCells) ((bE.one rfl rfl bE.nil)) rfl rfl rfl (λbw wh Hh kc=>?_));have J9:=Hh.obj At2;have Zw:aM _ (.slice (some ⟨bw,0,none⟩) 1 1) intCells 1 [a.kind]:=⟨some ⟨bw,0,none⟩,1,rfl,⟨sM,oM⟩,Sep.qJ Hh At0 rfl⟩;refine fB (vals:=[_]) rfl (Ba J9 (MR.keep Hh.kept) Zw) rfl rfl (λv' wi hv=>?_);obtain⟨rfl,eB⟩:=hv;have Hi:=Hh.keep eB;rw[hs.all];refine au Hi (h:=λwj Hj=>?_);refine Am ?_;refine Qn (Rb (aX (h:=?_)));exact⟨_,jh Hj,by rw[ay];exact D7 (by rw[qM,qM,JY];exact zbj.2 ⟨λh=>h.2.symm,λh=>⟨rfl,h.symm⟩⟩) rfl,Hj.kept⟩
 rw[zab If]at ay;refine iP (λ_:Unit=>[(0,I k),(3,.pointer (some ⟨b0,0,none⟩)),(4,.pointer (some ⟨b1,0,none⟩)),(6,.func (.func 184) #[] #[.pointer (some ⟨b0,0,none⟩)]),(7,.bool (a.null||b.null)),(8,.bool (a.null&&b.null)),(15,I k),(38,.bool (decide (k=13\/k=14\/k=15)))]) (λ_ w'=>Sep w noB [blk b1 [.int .i64 0,.bool false] 50,blk b0 [.slice A l.length m] 190] w') ?_ ?_
 .refine Za2 ?_
  refine Qn (Cp rfl (λIg=>?_) (λIg=>?_))
  .refine Zb0 ?_
   exact aG () ⟨rfl,rfl,rfl,rfl,rfl,rfl,rfl,zaw Value.bool (zbj.2 oM),trivial⟩ Hg
  refine Za2 ?_;refine Qn (Cp rfl (λIh=>?_) (λIh=>?_))
  .refine Zb0 ?_
   exact aG () ⟨rfl,rfl,rfl,rfl,rfl,rfl,rfl,zaw Value.bool (zbj.2 oM),trivial⟩ Hg
  refine Zb2 ?_;exact aG () ⟨rfl,rfl,rfl,rfl,rfl,rfl,rfl,zaw Value.bool (zbj.2 oM),trivial⟩ Hg
 intro _ τ wk Hk;simp only[dA,like,bB];refine Cp rfl (λIi=>?_) (λIi=>?_)
 .rw[zac Ii]at ay
  refine Zb1 ?_;refine Vb (bD ⟨1,a.null||b.null⟩) ?_;refine Mv ?_;refine pV Hk (xs:=[_]) (out:=([1]:List Int).flatMap intCells) ((bE.one rfl rfl bE.nil)) rfl rfl rfl (λbw wl Hl kd=>?_);have J9:=Hl.obj At2;have Zw:aM _ (.slice (some ⟨bw,0,none⟩) 1 1) intCells 1 [1]:=⟨some ⟨bw,0,none⟩,1,rfl,⟨sM,oM⟩,Sep.qJ Hl At0 rfl⟩;refine fB (vals:=[_]) rfl (Ba J9 (MR.keep Hl.kept) Zw) rfl rfl (λv' wm hv=>?_);obtain⟨rfl,eB⟩:=hv;have Hm:=Hl.keep eB;rw[hs.all];refine au Hm (h:=λwn Hn=>?_);refine Am ?_;refine Qn (Rb (aX (h:=?_)));exact⟨_,jh Hn,by rw[ay];exact D7 (by rw[qM,qM,JY]) rfl,Hn.kept⟩
 rw[zab Ii]at ay;refine Za2 ?_;refine Qn (Cp rfl (λIj=>?_) (λIj=>?_))
 .rw[zac Ij]at ay
  refine Sr (Vb (bD ⟨1,false⟩) ?_);refine au Hk (h:=λwo Ho=>?_);refine Am ?_;refine Qn (Rb (aX (h:=?_)));exact⟨_,jh Ho,by rw[ay];exact TN rfl (λy hy=>by injection hy),Ho.kept⟩
 rw[zab Ij]at ay;refine Za2 ?_;refine Qn (Cp rfl (λIk=>?_) (λIk=>?_))
 .rw[zac Ik]at ay
  refine Zb0 ?_;refine Ds (λSa wp Hp=>?_);refine Zb5 ?_;refine GS (Gn rfl (λ_=>(Gives.build (out:=bD ⟨a.kind,a.null&&b.null⟩) (Fills.one rfl rfl rfl sM rfl (Fills.one rfl rfl rfl sM rfl Fills.nil)))) ?_);refine Zb5 ?_;refine bU Sa 11 [(6,true),(5,true),(4,true),(3,false),(2,true),(1,true),(0,false)] Hp (xs:=[.tmp 62]) (out:=[a.kind].flatMap intCells) (bE.one rfl rfl bE.nil) (h:=λbw wq Hq=>⟨ah (ah (ah ((dN rfl kR (Gives.iJ (i:=0) (f:=0) rfl Hq hA hga rfl) rfl (ah (ah (aY Hq (h:=aK)))))))),?_⟩);have J9:=Hq.obj At2;have Zw:aM _ (.slice (some ⟨bw,0,none⟩) 1 1) intCells 1 [a.kind]:=⟨some ⟨bw,0,none⟩,1,rfl,⟨sM,oM⟩,Sep.qJ Hq At0 rfl⟩;refine jc Sa 12 [(5,true),(4,true),(3,false),(2,true),(1,true),(0,false)] (y:=.tmp 58) (f:=184) (fs:=[]) (cs:=[.pointer (some ⟨b0,0,none⟩)]) (vals:=[.slice (some ⟨bw,0,none⟩) 1 1]) rfl (Ba J9 (MR.keep Hq.kept) Zw) (h:=λv' wr hv=>?_);obtain⟨rfl,eB⟩:=hv;have Hr:=Hq.keep eB;rw[hs.all];refine⟨ah (ah ((dN rfl kR (Gives.iJ (i:=0) (f:=0) rfl Hr hA hga rfl) rfl (ah (ah (aY Hr (h:=aK))))))),?_⟩;refine eH Sa 13 _ Hr (h:=λws Hs=>⟨sT,?_⟩);refine Za1 ?_;refine dP Sa kR ?_;refine aU (Rb (aX (h:=?_)));exact⟨_,jh Hs,by rw[ay];exact D7 (by rw[qM,qM,JY];exact zbj.2 ⟨λh=>h.2.symm,λh=>⟨rfl,h.symm⟩⟩) rfl,Hs.kept⟩
 rw[zab Ik]at ay;refine Zb1 ?_;refine Vb (bD ⟨3,a.null||b.null⟩) ?_;refine Mv ?_;refine pV Hk (xs:=[_,_]) (out:=([4,5]:List Int).flatMap intCells) ((bE.one rfl rfl (bE.one rfl rfl bE.nil))) rfl rfl rfl (λbw wt Ht ke=>?_);have J9:=Ht.obj At2;have Zw:aM _ (.slice (some ⟨bw,0,none⟩) 2 2) intCells 1 [4,5]:=⟨some ⟨bw,0,none⟩,2,rfl,⟨sM,oM⟩,Sep.qJ Ht At0 rfl⟩;refine fB (vals:=[_]) rfl (Ba J9 (MR.keep Ht.kept) Zw) rfl rfl (λv' wu hv=>?_);obtain⟨rfl,eB⟩:=hv;have Hu:=Ht.keep eB;rw[hs.all];refine au Hu (h:=λwv Hv=>?_);refine Am ?_;refine Qn (fu (aX (h:=?_)))
 have Ql:a=b:=by
  rcases hs with⟨_,h,_⟩ | ⟨_,h⟩
  .exact h
  omega
 exact⟨_,jh Hv,by rw[ay];exact D7 (by rw[Px,Px,JY];exact zbj.2 (by rw[<-Ql];simp)) rfl,Hv.kept⟩
end
theorem uS {P:Program} {f:FuncId} {args:LV} {w:Wd} {v:Value} (h:Calls P f args.toArray w λe w'=>e=.returned v/\RowKit.Below w.heap.size w w'):aN P f args w λv' w'=>v'=v/\Kept noB w w':=
 Calls.mono h λe w' he=>by
  obtain⟨rfl,hb⟩:=he;exact⟨rfl,Kept.of_below hb⟩
theorem nD {P:Program} {f:FuncId} {args:LV} {w:Wd} {v:Value} (h:Calls P f args.toArray w λe w'=>e=.returned v/\w'=w):aN P f args w λv' w'=>v'=v/\w=w':=
 Calls.mono h λe w' he=>by
  obtain⟨rfl,hb⟩:=he;exact⟨rfl,hb.symm⟩
def pO (w:Wd):Prop:=Lib.Utf8Tabs 4 5 w
theorem pO.keep {w w':Wd} (h:pO w) (hk:Kept noB w w'):pO w':=Utf8Tabs_below h hk.below
def isP (k:Int) (c:aI):Bool:=
 if k=1 then decide (c.s=[]/\0<=c.n/\c.n<=1)
 else if k=2 then decide (c.s=[]/\ -2147483648<=c.n/\c.n<=2147483647)
 else if k=3 then decide (c.s=[]/\ -9223372036854775808<=c.n/\c.n<=9223372036854775807)
 else if k=4 then decide (c.n=0/\c.s.length<=1024)&&validD c.s
 else decide (c.n=0/\c.s.length<=1024)
theorem amu {k:Int} {c:aI} (hf:fits c.n):isP k c=isC k c:=by
 unfold isP isC
 split
 .rfl
 split
 .rfl
 split
 .exact zbj.2 ⟨λh=>h.1,λh=>⟨h,hf.1,hf.2⟩⟩
 split
 .by_cases h1:c.n=0/\c.s.length<=1024
  .rw[zbe h1,zdy]
   cases hv:validD c.s<;>simp[h1]
  rw[zar h1,zgi,eq_comm,decide_eq_false_iff_not];exact λh=>h1 ⟨h.1,h.2.1⟩
 rfl
def oN (f:FuncId):Value:=.func (.func f) #[] #[]
def kF1:LV:=[oN 269,oN 270,oN 271,oN 272]
def kF2:LV:=[oN 273,oN 274,oN 275,oN 276]
def kF4:LV:=[oN 279,oN 280,oN 281,oN 282]
def kF5:LV:=[oN 283,oN 284,oN 281,oN 282]
def sZ (k:Int):LV:=if k=1 then kF1 else if k=2\/k=3 then kF2 else if k=4 then kF4 else kF5
section
variable {w:Wd}
theorem MG (l:L8) (hl:l.length<=9223372036854775807) (hT:pO w):aN prog 278 [str l] w λv w'=>v=.bool (validD l)/\Kept noB w w':=by
 have H:=Sep.aL w;refine eP func278 rfl rfl rfl rfl ?_;refine Zb2 ?_;refine aF H (uS (Tryz.utf8_ValidString ⟨l.toArray⟩ _ (by rw[Mw.size_mk];exact hl) hT)) (h:=λw4 H4 k3=>?_);refine Zb1 ?_;exact⟨rfl,H4.kept⟩
theorem acR (c:aI):aN prog 268 [agg (aj c)] w λv w'=>v=.bool (decide (c.n=0/\c.s.length<=1024))/\Kept noB w w':=by
 have H:=Sep.aL w;refine eP func268 rfl rfl rfl rfl ?_;refine Sr (dz H (cs:=aj c) rfl (h:=λb0 w2 H2 k0=>?_));refine Zb5 ?_;refine aC (t:=6) rfl (λhs8=>?_) (λhs8=>?_)
 .refine Zb6 ?_
  exact⟨zaw Value.bool (zbj.2 oM),H2.kept⟩
 refine Zb2 ?_;exact⟨zaw Value.bool (by rw[eq_comm,decide_eq_false_iff_not];omega),H2.kept⟩
theorem ae6 {b1 b2:Nat} {E1 E2:Td} {lo hi:Int} (c:aI) (h1:w.heap[b1]? =some (.cells #[I lo] E1 (0,0))) (h2:w.heap[b2]? =some (.cells #[I hi] E2 (0,0))):aN prog 267 [agg (aj c),.pointer (some ⟨b1,0,none⟩),.pointer (some ⟨b2,0,none⟩)] w λv w'=>v=.bool (decide (c.s=[]/\lo<=c.n/\c.n<=hi))/\Kept noB w w':=by
 have H:=Sep.aL w;refine tH func267 rfl rfl rfl rfl ?_;refine Sr (dz H (cs:=aj c) rfl (h:=λb0 w2 H2 k0=>?_));refine Zb5 ?_;refine aC (t:=8) rfl (λhs8=>?_) (λhs8=>?_)
 .have hs:=hs8
  refine Zb2 ?_;refine ig (cs:=[I lo]) (H2.kept.get h1 id) (h:=?_);refine Zb3 ?_;refine aC (t:=14) rfl (λSa=>?_) (λSa=>?_)
  .have hn:=Sa
   refine Zb2 ?_;refine ig (cs:=[I hi]) (H2.kept.get h2 id) (h:=?_);refine Zb3 ?_;exact⟨zaw Value.bool (zbj.2 ⟨λh=>⟨hs,hn,h⟩,λh=>h.2.2⟩),H2.kept⟩
  have hn:=Sa;refine Zb2 ?_;exact⟨zaw Value.bool (Eq.symm (zar λh=>hn h.2.1)),H2.kept⟩
 have hs:=hs8;refine Zb4 ?_;exact⟨zaw Value.bool (Eq.symm (zar λh=>hs h.1)),H2.kept⟩
theorem uf (lo hi:Int):aN prog 266 [I lo,I hi] w λv w'=>∃p q:Nat,v=.func (.func 267) #[] #[.pointer (some ⟨p,0,none⟩),.pointer (some ⟨q,0,none⟩)]/\Turn noB (star (blk p [I lo] 2) (blk q [I hi] 2)) w w':=by
 have H:=Sep.aL w;refine dS func266 rfl rfl rfl rfl ?_;refine Sr (dz H (cs:=[I lo]) rfl (h:=λb0 w2 H2 k0=>?_));refine dz H2 (cs:=[I hi]) rfl (h:=λb1 w4 H4 k1=>?_);refine Zb3 ?_;exact⟨b0,b1,rfl,(H4.aJ.bI).turn⟩
theorem ae7 {b:Nat} {E:Td} (c:aI) (hb:w.heap[b]? =some (.cells #[oN 268] E (0,0))) (hT:pO w):aN prog 277 [agg (aj c),.pointer (some ⟨b,0,none⟩)] w λv w'=>v=.bool (decide (c.n=0/\c.s.length<=1024)&&validD c.s)/\Kept noB w w':=by
 have H:=Sep.aL w;refine dS func277 rfl rfl rfl rfl ?_;refine Sr (dz H (cs:=aj c) rfl (h:=λb0 w2 H2 k0=>?_));refine Zb1 ?_;refine ig (cs:=[oN 268]) (H2.kept.get hb id) (h:=?_);refine Zb1 ?_;refine fB (f:=268) (fs:=[]) (cs:=[]) (vals:=[agg (aj c)]) rfl (acR c) rfl rfl (λv' w7 hv=>?_);obtain⟨rfl,eB⟩:=hv;have H7:=H2.keep eB;refine Mv ?_;refine aC (t:=7) rfl (λZt=>?_) (λZt=>?_)
 .have hs:=Zt
  refine Zb2 ?_;refine aF H7 (MG c.s oM (hT.keep H7.kept)) (h:=λwa Ha ka=>?_);refine Zb2 ?_;exact⟨zaw Value.bool (by rw[zbe hs,zdy]),Ha.kept⟩
 have hs:=Zt;refine Zb2 ?_;exact⟨zaw Value.bool (by rw[zar hs,zgi]),H7.kept⟩
end
end Go.Proofs.YtkfpleidaoaonaaGreatDoor
