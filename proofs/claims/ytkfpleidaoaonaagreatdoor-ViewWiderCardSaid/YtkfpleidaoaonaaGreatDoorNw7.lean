/-
 What an expression gives is a cell of its type. No program stands here.
-/
import Derived.Test.YtkfpleidaoaonaaGreatDoorNw1
import Derived.Test.YtkfpleidaoaonaaGreatDoorNw6
import Derived.Test.YtkfpleidaoaonaaGreatDoorNw3
import Derived.Test.YtkfpleidaoaonaaGreatDoorShelf
set_option linter.unusedVariables false
set_option linter.unusedSimpArgs false
namespace Go.Proofs.YtkfpleidaoaonaaGreatDoor
open Go Go.Lib
set_option maxRecDepth 4000
def okC (t:bN) (c:ay):Prop:=eF t c=0
theorem lq {t:bN} {c:ay}:okC t c↔(nC t=true/\((c.null=true/\t.null=true/\c=bU)\/(c.null=false/\isC t.kind c=true))):=by
 unfold okC eF;cases hm:nC t
 .simp
 cases hn:c.null
 .cases hi:isC t.kind c<;>simp
 by_cases h:t.null=true/\c=bU
 .simp[h]
 simp[h]
theorem Vh {t:bN} (h:nC t=true):1<=t.kind/\t.kind<=5:=zba h
theorem yI {t:bN} (h:1<=t.kind/\t.kind<=5):nC t=true:=zbj h
theorem xw {k:Int} (h:1<=k/\k<=5):okC ⟨k,true⟩ bU:=lq.2 ⟨yI h,.inl ⟨rfl,rfl,rfl⟩⟩
theorem xA (n:Bool) (b:Bool):okC ⟨1,n⟩ (iK b):=lq.2 ⟨yI (show(1:Int)<=1/\(1:Int)<=5 from dC),.inr ⟨by cases b<;>rfl,by cases b<;>rfl⟩⟩
theorem Ri (n:Bool) (i:Int):okC ⟨3,n⟩ ⟨false,i,[]⟩:=lq.2 ⟨yI (show(1:Int)<=3/\(3:Int)<=5 from dC),.inr ⟨rfl,by simp[isC]⟩⟩
theorem LY {t:bN} {c:ay} (h:okC t c) (hk:t.kind=1):(c=bU/\t.null=true)\/c=iK false\/c=iK true:=by
 rcases (lq.1 h).2 with⟨_,h2,h3⟩ | ⟨h1,h2⟩
 .exact .inl ⟨h3,h2⟩
 right
 rw[hk]at h2;unfold isC at h2;rw[zac rfl]at h2;obtain⟨h3,h4,h5⟩:=zba h2
 by_cases h0:c.n=0
 .left;exact ay.ext' h1 h0 h3
 right;exact ay.ext' h1 (show c.n=1 from oM) h3
theorem Vi {t:bN} {c:ay} (h:okC t c):c.s.length<=1024:=by
 rcases (lq.1 h).2 with⟨_,_,h3⟩ | ⟨h1,h2⟩
 .rw[h3];simp[bU]
 unfold isC at h2
 repeat' split at h2
 all_goals first
  | (have:=zba h2;omega)
  | (have h3:=zba h2;first | (rw[h3.1];simp) | (rw[h3];simp))
theorem zY {t:bN} {c:ay} (h:okC t c) (hn:c.null=true):t.null=true/\c=bU:=by
 rcases (lq.1 h).2 with⟨_,h2,h3⟩ | ⟨h1,h2⟩
 .exact⟨h2,h3⟩
 rw[h1]at hn;cases hn
theorem ahx {t t':bN} {c:ay} (h:okC t c) (hk:t'.kind=t.kind) (hn:t.null=true->t'.null=true):okC t' c:=by
 obtain⟨h1,h2⟩:=lq.1 h;refine lq.2 ⟨yI (by rw[hk];exact Vh h1),?_⟩
 rcases h2 with⟨a,b,d⟩ | ⟨a,b⟩
 .exact .inl ⟨a,hn b,d⟩
 exact .inr ⟨a,by rw[hk];exact b⟩
theorem Vj {a b:ay} (h:a.null=b.null):rE a b=0↔a=b:=by
 constructor
 .intro e
  unfold rE at e;rw[zac h]at e
  split at e
  .cases e
  split at e
  .cases e
  exact ay.ext' h oM (U9 e)
 rintro rfl;unfold rE;rw[zac rfl,zab (Int.lt_irrefl _),zab (Int.lt_irrefl _),Va]
theorem afl {k:Int} {ta tb:bN} {a b:ay} (ha:okC ta a) (hb:okC tb b) (Yt:ta.kind=1) (hkb:tb.kind=1) (hk:k=13\/k=14\/k=15):Yf k a b=tV k a b:=by
 rcases LY ha Yt with⟨rfl,_⟩ | rfl | rfl<;>rcases LY hb hkb with⟨rfl,_⟩ | rfl | rfl<;>rcases hk with rfl | rfl | rfl<;>decide
theorem afm {k:Int} {ta tb:bN} {a b:ay} (ha:okC ta a) (hb:okC tb b) (Yt:ta.kind=1) (hkb:tb.kind=1):okC ⟨1,ta.null||tb.null⟩ (tV k a b):=by
 unfold tV
 repeat' split
 .exact xA _ _
 .exact xA _ _
 .rename_i h
  have :(ta.null||tb.null)=true:=by
   rcases h with h | h
   .rw[(zY ha (by rw[h];rfl)).1];rfl
   rw[(zY hb (by rw[h];rfl)).1];simp
  rw[this];exact xw ⟨dC,dC⟩
 .exact xA _ _
 exact xA _ _
theorem Rj {ta tb:bN} {a b:ay} (ha:okC ta a) (hb:okC tb b) (h:a.null=true\/b.null=true):(ta.null||tb.null)=true:=by
 rcases h with h | h
 .rw[(zY ha h).1];rfl
 rw[(zY hb h).1];simp
theorem ajC {ta tb:bN} {a b:ay} {n:Int} (ha:okC ta a) (hb:okC tb b): ∀c,(if a.null=true\/b.null=true then some bU else BK n)=some c->okC ⟨3,ta.null||tb.null⟩ c/\fits c.n:=by
 intro c hc
 split at hc
 .rename_i h
  injection hc with hc
  subst hc;rw[Rj ha hb h];exact⟨xw dC,dC,dC⟩
 unfold BK at hc
 split at hc
 .rename_i hf
  injection hc with hc
  subst hc;have h: -9223372036854775808<=n/\n<=9223372036854775807:=zba hf;exact⟨Ri _ _,h⟩
 cases hc
theorem FU (b:Bool):fits (iK b).n:=by cases b<;>exact⟨dC,dC⟩
theorem Zq {ta tb:bN} {a b:ay} {f:Bool} (ha:okC ta a) (hb:okC tb b): ∀c,(if a.null=true\/b.null=true then some bU else some (iK f))=some c->okC ⟨1,ta.null||tb.null⟩ c/\fits c.n:=by
 intro c hc
 split at hc
 .rename_i h
  injection hc with hc
  subst hc;rw[Rj ha hb h];exact⟨xw dC,dC,dC⟩
 injection hc with hc
 subst hc;exact⟨xA _ _,FU _⟩
theorem Yg {k:Int} {a b:ay}:fits (tV k a b).n:=by
 unfold tV
 repeat' split
 all_goals first | exact FU _ | exact⟨dC,dC⟩
theorem Yh {k:Int} {ta tb t:bN} {a b:ay} (hk:7<=k/\k<=18) (ht:Cm k ta tb=some t) (ha:okC ta a) (hb:okC tb b) (hfa:fits a.n) (hfb:fits b.n):
    pE k a b=iZ k a b/\∀c,iZ k a b=some c->okC t c/\fits c.n:=by
  have hc:k=7\/k=8\/k=9\/k=10\/k=11\/k=12\/k=13\/k=14\/k=15\/k=16\/k=17\/k=18:=oM
  have ah1: ∀n:Int,pE k a b=(if a.null=true\/b.null=true then some bU else BK n)->iZ k a b=(if a.null=true\/b.null=true then some bU else BK n)->(if ta.kind=3/\tb.kind=3 then some (⟨3,ta.null||tb.null⟩:bN)else none)=some t->pE k a b=iZ k a b/\∀c,iZ k a b=some c->okC t c/\fits c.n:=by
    intro n h1 h2 h3;rw[h1,h2]
    split at h3
    . injection h3 with h3
      subst h3;exact⟨rfl,ajC ha hb⟩
    cases h3
  have akj:(k=13\/k=14\/k=15)->(if ta.kind=1/\tb.kind=1 then some (⟨1,ta.null||tb.null⟩:bN)else none)=some t->pE k a b=iZ k a b/\∀c,iZ k a b=some c->okC t c/\fits c.n:=by
    intro h1 h3
    split at h3
    . rename_i bZ
      injection h3 with h3
      subst h3;have e1:pE k a b=some (Yf k a b):=zac h1;have e2:iZ k a b=some (tV k a b):=zac h1;rw[e1,e2,afl ha hb bZ.1 bZ.2 h1];refine⟨rfl,λc hc=>?_⟩;injection hc with hc
      subst hc;exact⟨afm ha hb bZ.1 bZ.2,Yg⟩
    cases h3
  rcases hc with rfl | rfl | rfl | rfl | rfl | rfl | rfl | rfl | rfl | rfl | rfl | rfl
  . exact ah1 (a.n+b.n) (by unfold pE;simp) (by unfold iZ BK;simp) ht
  . exact ah1 (a.n-b.n) (by unfold pE;simp) (by unfold iZ BK;simp) ht
  . exact ah1 (a.n*b.n) (by unfold pE;simp) (by unfold iZ BK;simp) ht
  . exact ah1 (-a.n) (by unfold pE;simp) (by unfold iZ BK;simp) ht
  . have e2:iZ 11 a b=(if a.null=true\/b.null=true then some bU else some (iK (decide (rE a b=0)))):=by unfold iZ;simp
    have e1:pE 11 a b=(if a.null=true\/b.null=true then some bU else some (iK (decide (a=b)))):=by unfold pE;simp
    have h3:(if ta.kind=tb.kind then some (⟨1,ta.null||tb.null⟩:bN)else none)=some t:=ht
    split at h3
    . injection h3 with h3
      subst h3;refine⟨?_,by rw[e2];exact Zq ha hb⟩;rw[e1,e2]
      split
      . rfl
      rename_i hn;have hz:=Vj (a:=a) (b:=b) (by cases h1:a.null<;>cases h2:b.null<;>simp[h1,h2]at hn ⊢);simp only[hz]
    cases h3
  . have e2:iZ 12 a b=(if a.null=true\/b.null=true then some bU else some (iK (decide (rE a b<0)))):=by unfold iZ;simp
    have e1:pE 12 a b=(if a.null=true\/b.null=true then some bU else some (iK (decide (rE a b<0)))):=by unfold pE;simp
    have h3:(if ta.kind=tb.kind then some (⟨1,ta.null||tb.null⟩:bN)else none)=some t:=ht
    split at h3
    . injection h3 with h3
      subst h3;exact⟨by rw[e1,e2],by rw[e2];exact Zq ha hb⟩
    cases h3
  . exact akj dC ht
  . exact akj dC ht
  . exact akj dC ht
  . have e1:pE 16 a b=some (iK a.null):=by unfold pE;simp
    have e2:iZ 16 a b=some (iK a.null):=by unfold iZ;simp
    have h3:some (⟨1,false⟩:bN)=some t:=ht;injection h3 with h3
    subst h3;rw[e1,e2];refine⟨rfl,λc hc=>?_⟩;injection hc with hc
    subst hc;exact⟨xA _ _,FU _⟩
  . have e1:pE 17 a b=some (if a.null=true then b else a):=by unfold pE;simp
    have e2:iZ 17 a b=some (if a.null=true then b else a):=by unfold iZ;simp
    have h3:(if ta.kind=tb.kind then some (⟨ta.kind,ta.null&&tb.null⟩:bN)else none)=some t:=ht
    split at h3
    . rename_i bZ
      injection h3 with h3
      subst h3;rw[e1,e2];refine⟨rfl,λc hc=>?_⟩;injection hc with hc
      subst hc
      split
      . rename_i hn
        exact⟨ahx hb bZ (λh=>by show(ta.null&&tb.null)=true;rw[(zY ha hn).1,h];rfl),hfb⟩
      rename_i hn;refine⟨lq.2 ⟨yI (Vh (lq.1 ha).1),.inr ?_⟩,hfa⟩
      rcases (lq.1 ha).2 with⟨h1,_⟩ | h2
      . exact zap h1 hn
      exact h2
    cases h3
  have e1:pE 18 a b=(if a.null=true\/b.null=true then some bU else some ⟨false,a.s.length,[]⟩):=by unfold pE;simp
  have e2:iZ 18 a b=(if a.null=true\/b.null=true then some bU else some ⟨false,a.s.length,[]⟩):=by unfold iZ;simp
  have h3:(if ta.kind=4\/ta.kind=5 then some (⟨3,ta.null||tb.null⟩:bN)else none)=some t:=ht
  split at h3
  . injection h3 with h3
    subst h3;rw[e1,e2];refine⟨rfl,λc hc=>?_⟩
    split at hc
    . rename_i h
      injection hc with hc
      subst hc;rw[Rj ha hb h];exact⟨xw dC,dC,dC⟩
    injection hc with hc
    subst hc;have:=Vi ha;exact⟨Ri _ _,by show(-9223372036854775808:Int)<=a.s.length;omega,by show(a.s.length:Int)<=9223372036854775807;omega⟩
  cases h3
theorem zZ {k x:Int}: ∀{l:List Int},x∈lg k l↔x=k\/x∈l
 | []=>by simp[lg]
 | y::l=>by
  rw[lg]
  split
  .rw[zan,zZ,zan];constructor
   .rintro(h | h | h)
    .exact .inr (.inl h)
    .exact .inl h
    exact .inr (.inr h)
   rintro(h | h | h)
   .exact .inr (.inl h)
   .exact .inl h
   exact .inr (.inr h)
  split
  .rename_i h1 h2
   subst h2;rw[zan];constructor
   .intro h;exact .inr h
   rintro(h | h)
   .exact .inl h
   exact h
  rw[zan]
theorem Cv {k:Int}: ∀{l:List Int},l.Pairwise (· < ·)->(lg k l).Pairwise (· < ·)
 | [],_=>by simp[lg]
 | y::l,h=>by
  rw[lg];obtain⟨h1,h2⟩:=zcp.1 h
  split
  .rename_i hy
   refine zcp.2 ⟨λz hz=>?_,Cv h2⟩
   rcases zZ.1 hz with rfl | hz
   .exact hy
   exact h1 z hz
  split
  .exact h
  refine zcp.2 ⟨λz hz=>?_,h⟩
  rcases zan.1 hz with rfl | hz
  .omega
  have:=h1 z hz;omega
theorem LZ {l:List aZ}: ∀{a:List Int},a.Pairwise (· < ·)->(l.foldl (λa x=>lg x.n a) a).Pairwise (· < ·)/\∀k,k∈l.foldl (λa x=>lg x.n a) a↔k∈a\/∃x∈l,x.n=k:=by
 induction l with
 | nil=>intro a h;exact⟨h,λk=>sM⟩
 | cons x l ih=>
  intro a h;obtain⟨h1,h2⟩:=ih (a:=lg x.n a) (Cv h);refine⟨h1,λk=>?_⟩;rw[List.foldl_cons,h2 k,zZ];constructor
  .rintro((h | h) | ⟨y,hy,e⟩)
   .exact .inr ⟨x,zae,h.symm⟩
   .exact .inl h
   exact .inr ⟨y,zag _ hy,e⟩
  rintro(h | ⟨y,hy,e⟩)
  .exact .inl (.inr h)
  rcases zan.1 hy with rfl | hy
  .exact .inl (.inl e.symm)
  exact .inr ⟨y,hy,e⟩
theorem z8 (l:List aZ):(qR l).Pairwise (· < ·):=(LZ List.Pairwise.nil).1
theorem sG {l:List aZ} {k:Int}:k∈qR l↔∃x∈l,x.kind=1/\x.n=k:=by
 unfold qR;rw[(LZ List.Pairwise.nil).2 k];simp only[zao,false_or,zbw,decide_eq_true_eq,and_assoc]
theorem Dk: ∀{a b:List Int},a.Pairwise (· < ·)->b.Pairwise (· < ·)->(∀k,k∈a↔k∈b)->a=b
 | [],[],_,_,_=>rfl
 | [],y::b,_,_,h=>zap ((h y).2 zae) sM
 | x::a,[],_,_,h=>zap ((h x).1 zae) sM
 | x::a,y::b,h1,h2,h=>by
  obtain⟨p1,p2⟩:=zcp.1 h1;obtain⟨q1,q2⟩:=zcp.1 h2
  have hxy:x=y:=by
   rcases zan.1 ((h x).1 zae)with e | hx
   .exact e
   rcases zan.1 ((h y).2 zae)with e | hy
   .exact e.symm
   have:=p1 y hy;have:=q1 x hx;omega
  subst hxy
  congr 1
  refine Dk p2 q2 λk=>⟨λhk=>?_,λhk=>?_⟩
  .rcases zan.1 ((h k).1 (zag _ hk))with rfl | hk'
   .exact zap (p1 k hk) oM
   exact hk'
  rcases zan.1 ((h k).2 (zag _ hk))with rfl | hk'
  .exact zap (q1 k hk) oM
  exact hk'
open Go.Mw
section
variable {w:Wd}
end
theorem ab2 (s:L8):(tT s).length<=6*s.length+2:=by
 have h:=zU (f:=jl) (k:=6) (λc=>by unfold jl;(repeat' split)<;>simp) s;unfold tT;simp only[zal,zad,zcu];omega
theorem afn {k:Int} (h:7<=k) (h2:k<=18):jZ[(k-7).toNat]? =some (jZ.getD (k-7).toNat []):=by
 rw[zak];have :(k-7).toNat<jZ.length:=by show _<12;omega
 rw[zaa this];rfl
section
variable {w:Wd}
end
theorem uQ {α:Type} {l:List α} {p:α->Bool} {j:Nat} {x:α} (h: ∀(i:Nat) y,i<j->l[i]? =some y->p y=false) (hj:l[j]? =some x) (hp:p x=true):l.findIdx? p=some j:=by
 rw[zct];obtain⟨h1,h2⟩:=zaz.1 hj;refine⟨h1,by rw[h2];exact hp,λi hi=>?_⟩;rw[h i _ hi (zaa oM)];simp
theorem qV {α:Type} {l:List α} {p:α->Bool} (h: ∀(i:Nat) y,l[i]? =some y->p y=false):l.findIdx? p=none:=by
 rw[zdw];intro x hx;obtain⟨i,hi⟩:=zdc hx;exact h i x hi
theorem Vk {x:aZ} (h:iE x=true) (hf:fits x.n):(gF x).length<=6146:=(LG h hf.1 hf.2).1
attribute [local irreducible] iE gF
section
variable {w:Wd}
end
end Go.Proofs.YtkfpleidaoaonaaGreatDoor
namespace Go.Proofs.YtkfpleidaoaonaaGreatDoor
open Go Go.Mw Go.Lib
set_option maxRecDepth 4000
attribute [local irreducible] Ra iE gF
section
variable {w:Wd}
end
end Go.Proofs.YtkfpleidaoaonaaGreatDoor
namespace Go.Proofs.YtkfpleidaoaonaaGreatDoor
open Go Go.Mw Go.Lib
set_option maxRecDepth 4000
theorem Rl (s:L8) (c:UInt8):s.count c<=s.length:=List.count_le_length
attribute [local irreducible] iE gF bY readAll
section
variable {w:Wd}
end
end Go.Proofs.YtkfpleidaoaonaaGreatDoor
namespace Go.Proofs.YtkfpleidaoaonaaGreatDoor
open Go Go.Mw Go.Lib Go.Proofs.Tryz
set_option maxRecDepth 4000
attribute [local irreducible] FW FL FG FGn fZ gG cO gW Qfn Gives
def rJ {α:Type} (w:Wd) (fv:Value) (enc:α->Value) (p:α->Bool):Prop:=
 ∃f fs cs,fv=.func (.func f) (List.toArray fs) (List.toArray cs)/\qb prog f/\∀x w',Kept noB w w'->aY prog f (fs++[enc x]++cs) w' λv w''=>v=.bool (p x)/\Kept noB w' w''
theorem rJ.keep {α:Type} {w w':Wd} {fv:Value} {enc:α->Value} {p:α->Bool} (h:rJ w fv enc p) (hk:Kept noB w w'):rJ w' fv enc p:=by
 obtain⟨f,fs,cs,h1,h2,h3⟩:=h;exact⟨f,fs,cs,h1,h2,λx w'' hk'=>h3 x w'' (hk.JY hk')⟩
def BI (o:Option Nat):Int:=match o with | none=> -1 | some i=>i
theorem Bt {α:Type} {l:List α} {p:α->Bool}:decide (BI (l.findIdx? p)≥0)=l.any p:=by
 cases h:l.findIdx? p with
 | none=>
  rw[zdw]at h;show decide ((-1:Int)≥0)=_
  rw[eq_comm,show decide ((-1:Int)≥0)=false from rfl,List.any_eq_false];intro x hx;rw[h x hx];simp
 | some i=>
  obtain⟨h1,h2,_⟩:=zct.1 h;show decide ((i:Int)≥0)=_
  rw[eq_comm,zbj (show(i:Int)≥0 from oM),List.any_eq_true];exact⟨_,zfu h1,h2⟩
section
variable {w:Wd}
theorem Vm {l:List bF} {v fv:Value} {p:bF->Bool} (hl:aQ w v aX 7 l) (hp:rJ w fv (λx=>agg (aX x)) p):Rk prog 200 [v,fv] w (I (BI (l.findIdx? p))):=by
 obtain⟨A,m,rfl,⟨hm,qX⟩,hA⟩:=hl;obtain⟨f,fs,cs,rfl,Dn,p8⟩:=hp;have H:=Sep.aJ w;refine dF func200 rfl rfl rfl rfl ?_;refine Zb4 ?_;refine aR (λi:Nat=>[(0,.slice A l.length m),(1,.func (.func f) fs.toArray cs.toArray),(7,I l.length),(8,I i)]) (λi w'=>(i<=l.length/\∀(j:Nat) y,j<i->l[j]? =some y->p y=false)/\Sep w noB [] w') (λi _=>l.length-i) 0 tR ⟨⟨zaq _,λj y hj=>oM⟩,H⟩ (λi τ _ hI=>?_);obtain⟨⟨hi,BN⟩,k⟩:=hI
 try simp only[cK,like,aS,bK]
 refine Za1 ?_;refine Qn (dW (Cp rfl (λS=>?_) (λS=>?_)))
 .have bH:i<l.length:=oM
  obtain⟨x,hx⟩:=get_some bH;refine Zb7 ?_;refine dP rfl (p8 x _ k.kept) rfl rfl (λv' _ hv=>?_);obtain⟨rfl,bZ⟩:=hv;have S:=k.keep bZ;refine Qn (Cd rfl (λa=>?_) (λa=>?_))
  .have fu:l.findIdx? p=some i:=uQ BN hx a
   refine Zb2 ?_;exact⟨by rw[fu];rfl,S.kept⟩
  have Ng:=a;refine Zb2 ?_;exact aj (i+1) tR ⟨⟨oM,λj y hj hy=>by
  by_cases e:j=i
  .subst e;rw[hx]at hy;injection hy with hy;rw[<-hy];exact zdg _▸Ng
  exact BN j y oM hy⟩,S⟩ oM
 have oQ:i=l.length:=oM;have fu:l.findIdx? p=none:=qV λj y hy=>BN j y (by have:=gN hy;omega) hy;refine Zb1 ?_;exact⟨by rw[fu];rfl,k.kept⟩
theorem ab3 {l:List bN} {v fv:Value} {p:bN->Bool} (hl:aQ w v aM 2 l) (hp:rJ w fv (λx=>agg (aM x)) p):Rk prog 252 [v,fv] w (I (BI (l.findIdx? p))):=by
 obtain⟨A,m,rfl,⟨hm,qX⟩,hA⟩:=hl;obtain⟨f,fs,cs,rfl,Dn,p8⟩:=hp;have H:=Sep.aJ w;refine dF func252 rfl rfl rfl rfl ?_;refine Zb4 ?_;refine aR (λi:Nat=>[(0,.slice A l.length m),(1,.func (.func f) fs.toArray cs.toArray),(7,I l.length),(8,I i)]) (λi w'=>(i<=l.length/\∀(j:Nat) y,j<i->l[j]? =some y->p y=false)/\Sep w noB [] w') (λi _=>l.length-i) 0 tR ⟨⟨zaq _,λj y hj=>oM⟩,H⟩ (λi τ _ hI=>?_);obtain⟨⟨hi,BN⟩,k⟩:=hI
 try simp only[cK,like,aS,bK]
 refine Za1 ?_;refine Qn (dW (Cp rfl (λS=>?_) (λS=>?_)))
 .have bH:i<l.length:=oM
  obtain⟨x,hx⟩:=get_some bH;refine Zb7 ?_;refine dP rfl (p8 x _ k.kept) rfl rfl (λv' _ hv=>?_);obtain⟨rfl,bZ⟩:=hv;have S:=k.keep bZ;refine Qn (Cd rfl (λa=>?_) (λa=>?_))
  .have fu:l.findIdx? p=some i:=uQ BN hx a
   refine Zb2 ?_;exact⟨by rw[fu];rfl,S.kept⟩
  have Ng:=a;refine Zb2 ?_;exact aj (i+1) tR ⟨⟨oM,λj y hj hy=>by
  by_cases e:j=i
  .subst e;rw[hx]at hy;injection hy with hy;rw[<-hy];exact zdg _▸Ng
  exact BN j y oM hy⟩,S⟩ oM
 have oQ:i=l.length:=oM;have fu:l.findIdx? p=none:=qV λj y hy=>BN j y (by have:=gN hy;omega) hy;refine Zb1 ?_;exact⟨by rw[fu];rfl,k.kept⟩
end
section
variable {w:Wd}
theorem Ab {l:List bN} {v fv:Value} {p:bN->Bool} (hl:aQ w v aM 2 l) (hp:rJ w fv (λx=>agg (aM x)) p):Rk prog 185 [v,fv] w (.bool (l.any p)):=by
 have H:=Sep.aJ w;refine dF func185 rfl rfl rfl rfl ?_;refine Zb3 ?_;refine aD H (ab3 (hl.keep H.kept) (hp.keep H.kept)) (h:=λ_ k _=>?_);refine Zb2 ?_;exact⟨by rw[<-Bt];rfl,k.kept⟩
theorem afo {l:List (Int)} {v:Value} (x:Int) (hl:aQ w v intCells 1 l):Rk prog 253 [v,I x] w (I (BI (l.findIdx? λy=>decide (x=y)))):=by
 obtain⟨A,m,rfl,⟨hm,qX⟩,hA⟩:=hl;have H:=Sep.aJ w;obtain⟨p,hp⟩: ∃p:Int->Bool,p=λy=>decide (x=y):=⟨_,rfl⟩;rw[<-hp];refine dF func253 rfl rfl rfl rfl ?_;refine Zb4 ?_;refine aR (λi:Nat=>[(0,.slice A l.length m),(1,I x),(7,I l.length),(8,I i)]) (λi w'=>(i<=l.length/\∀(j:Nat) y,j<i->l[j]? =some y->p y=false)/\Sep w noB [] w') (λi _=>l.length-i) 0 tR ⟨⟨zaq _,λj y hj=>oM⟩,H⟩ (λi τ _ hI=>?_);obtain⟨⟨hi,BN⟩,k⟩:=hI
 try simp only[cK,like,aS,bK]
 refine Za1 ?_;refine Qn (dW (Cp rfl (λS=>?_) (λS=>?_)))
 .have bH:i<l.length:=oM
  obtain⟨y,hy⟩:=get_some bH;refine Za8 ?_;refine Qn (Cp rfl (λS=>?_) (λS=>?_))
  .have fu:l.findIdx? p=some i:=uQ BN hy (by rw[hp];simpa using S)
   refine Zb2 ?_;exact⟨by rw[fu];rfl,k.kept⟩
  have Ng:p y=false:=by rw[hp];simpa using S
  refine Zb2 ?_;exact aj (i+1) tR ⟨⟨oM,λj z hj hz=>by
  by_cases e:j=i
  .subst e;rw[hy]at hz;injection hz with hz;rw[<-hz];exact Ng
  exact BN j z oM hz⟩,k⟩ oM
 have oQ:i=l.length:=oM;have fu:l.findIdx? p=none:=qV λj y hy=>BN j y (by have:=gN hy;omega) hy;refine Zb1 ?_;exact⟨by rw[fu];rfl,k.kept⟩
theorem ab4 {l:List (L8)} {v:Value} (x:L8) (hl:aQ w v fT 1 l):Rk prog 306 [v,str x] w (I (BI (l.findIdx? λy=>decide (x=y)))):=by
 obtain⟨A,m,rfl,⟨hm,qX⟩,hA⟩:=hl;have H:=Sep.aJ w;obtain⟨p,hp⟩: ∃p:L8->Bool,p=λy=>decide (x=y):=⟨_,rfl⟩;rw[<-hp];refine dF func306 rfl rfl rfl rfl ?_;refine Zb4 ?_;refine aR (λi:Nat=>[(0,.slice A l.length m),(1,str x),(7,I l.length),(8,I i)]) (λi w'=>(i<=l.length/\∀(j:Nat) y,j<i->l[j]? =some y->p y=false)/\Sep w noB [] w') (λi _=>l.length-i) 0 tR ⟨⟨zaq _,λj y hj=>oM⟩,H⟩ (λi τ _ hI=>?_);obtain⟨⟨hi,BN⟩,k⟩:=hI
 try simp only[cK,like,aS,bK]
 refine Za1 ?_;refine Qn (dW (Cp rfl (λS=>?_) (λS=>?_)))
 .have bH:i<l.length:=oM
  obtain⟨y,hy⟩:=get_some bH;refine Za8 ?_;refine Qn (Cp rfl (λS=>?_) (λS=>?_))
  .have fu:l.findIdx? p=some i:=uQ BN hy (by rw[hp];simpa using S)
   refine Zb2 ?_;exact⟨by rw[fu];rfl,k.kept⟩
  have Ng:p y=false:=by rw[hp];simpa using S
  refine Zb2 ?_;exact aj (i+1) tR ⟨⟨oM,λj z hj hz=>by
  by_cases e:j=i
  .subst e;rw[hy]at hz;injection hz with hz;rw[<-hz];exact Ng
  exact BN j z oM hz⟩,k⟩ oM
 have oQ:i=l.length:=oM;have fu:l.findIdx? p=none:=qV λj y hy=>BN j y (by have:=gN hy;omega) hy;refine Zb1 ?_;exact⟨by rw[fu];rfl,k.kept⟩
theorem ab5 {l:List (ay)} {v:Value} (x:ay) (hl:aQ w v ah 3 l):Rk prog 339 [v,agg (ah x)] w (I (BI (l.findIdx? λy=>decide (x=y)))):=by
 obtain⟨A,m,rfl,⟨hm,qX⟩,hA⟩:=hl;have H:=Sep.aJ w;obtain⟨p,hp⟩: ∃p:ay->Bool,p=λy=>decide (x=y):=⟨_,rfl⟩;rw[<-hp];refine dF func339 rfl rfl rfl rfl ?_;refine Sr (cB H (h:=λb1 _ k _=>?_));refine Zb4 ?_;refine aR (λi:Nat=>[(0,.slice A l.length m),(3,.pointer (some ⟨b1,0,none⟩)),(7,I l.length),(8,I i)]) (λi w'=>(i<=l.length/\∀(j:Nat) y,j<i->l[j]? =some y->p y=false)/\Sep w noB [blk b1 (ah x) 52] w') (λi _=>l.length-i) 0 tR ⟨⟨zaq _,λj y hj=>oM⟩,k⟩ (λi τ _ hI=>?_);obtain⟨⟨hi,BN⟩,k⟩:=hI
 try simp only[cK,like,aS,bK]
 refine Za1 ?_;refine Qn (dW (Cp rfl (λS=>?_) (λS=>?_)))
 .have bH:i<l.length:=oM
  obtain⟨y,hy⟩:=get_some bH;refine Zb2 ?_;refine Ds (λS _ a=>?_);refine Zb5 ?_;refine Gp S 5 rfl rfl (λ_=>(Gives.ahk (enc:=ah) _ _ rfl rfl)) (fF S kR ?_);refine bC (Cp rfl (λS=>?_) (λS=>?_))
  .have fu:l.findIdx? p=some i:=uQ BN hy (by rw[hp];simpa using S)
   refine Zb2 ?_;exact⟨by rw[fu];rfl,a.kept⟩
  have Ng:p y=false:=by rw[hp];simpa using S
  refine Zb2 ?_;exact aj (i+1) tR ⟨⟨oM,λj z hj hz=>by
  by_cases e:j=i
  .subst e;rw[hy]at hz;injection hz with hz;rw[<-hz];exact Ng
  exact BN j z oM hz⟩,a⟩ oM
 have oQ:i=l.length:=oM;have fu:l.findIdx? p=none:=qV λj y hy=>BN j y (by have:=gN hy;omega) hy;refine Zb1 ?_;exact⟨by rw[fu];rfl,k.kept⟩
theorem Yi {l:List (Int)} {v:Value} (x:Int) (hl:aQ w v intCells 1 l):Rk prog 187 [v,I x] w (.bool (l.any λy=>decide (x=y))):=by
 have H:=Sep.aJ w;refine dF func187 rfl rfl rfl rfl ?_;refine Zb3 ?_;refine aD H (afo x (hl.keep H.kept)) (h:=λ_ k _=>?_);refine Zb2 ?_;exact⟨by rw[<-Bt];rfl,k.kept⟩
theorem Vn {l:List (ay)} {v:Value} (x:ay) (hl:aQ w v ah 3 l):Rk prog 264 [v,agg (ah x)] w (.bool (l.any λy=>decide (x=y))):=by
 have H:=Sep.aJ w;refine dF func264 rfl rfl rfl rfl ?_;refine Sr (cB H (h:=λb1 _ k _=>?_));refine Zb3 ?_;refine aD k (ab5 x (hl.keep k.kept)) (h:=λ_ k _=>?_);refine Zb2 ?_;exact⟨by rw[<-Bt];rfl,k.kept⟩
end
end Go.Proofs.YtkfpleidaoaonaaGreatDoor
namespace Go.Mw
open Go.RowKit
section gives
variable {P:Program} {ρ:Od->Value} {ty:Td} {w:Wd} {x y z:Od}
theorem Gives.Vp {t e:Td} [ht:dh P t e] {size bytes:Nat} [hc:Cells P e size bytes] {A:OA} {n c h m:Nat} {k j:IntKind} (hx:ρ x=.slice A n c) (hy:ρ y=.int k h) (hz:ρ z=.int j m) (q9:h<=m) (VP:m<=c):Gives P ρ (.slice t x none (some y) (some z)) ty w (.slice A h m) w:=λ_ _ _ _=>by
 obtain⟨i,hi,p9⟩:=zav.1 hc.size;have e1:(0:Int)<=(h:Int)/\(h:Int)<=(m:Int):=oM;have e2:(0:Int)<=(m:Int)/\(m:Int)<=(c:Int):=oM;have e3:A.map (λx:Addr=>x.add 0)=A:=by cases A<;>simp[Addr.add_zero']
 simp[execOp,hx,hy,hz,Instr.sliceAt,run_underlying ht.und,Instr.slice,Instr.sliceBounds,Instr.sliceBound,asIntOf,e1,e2,sizeOf,typeInfo,hi,e3,q9,VP]
end gives
end Go.Mw
namespace Go.Proofs.YtkfpleidaoaonaaGreatDoor
open Go Go.Mw Go.Lib
set_option maxRecDepth 4000
attribute [local irreducible] FW FL FG FGn fZ gG cO gW Qfn Gives
section
variable {w:Wd}
theorem Rm {b E n c k:Nat} {A:OA} {F:NP} (hp:(blk b [.slice A n c] E).ok F w) (hk:k<=n) (hnc:n<=c) (hc:n<=9223372036854775807):
    aY Tryz.prog 121 [.pointer (some ⟨b,0,none⟩),I k] w λv w'=>v=.tuple #[.slice (if c=n-k then A else A.map (·.add ((n-k)*2))) k (c-(n-k)),.bool true]/\Turn F (blk b [.slice A (n-k) (n-k)] E) w w':=by
  have H:=Sep.bW hp;refine dF Tryz.func121 rfl rfl rfl rfl ?_;refine Zb8 ?_;refine Vc ((n-k:Nat):Int) ?_;refine Za3 ?_;refine Qn (Cp rfl (λS=>?_) (λS=>?_))
  . exact zap S oM
  refine Zb5 ?_;refine Vv (Gives.sliceFrom rfl rfl oM) ?_;rw[show n-(n-k)=k from oM];refine Zb8 ?_;refine Vv (Gives.Vp rfl rfl rfl oM oM) (Zb2 ?_);refine bB H (h:=λ_ S=>?_);refine Zb3 ?_;exact⟨rfl,S.turn⟩
theorem L6 {b E n c k:Nat} {A:OA} {F:NP} (hp:(blk b [.slice A n c] E).ok F w) (hk:n<k) (hk2:k<=1000000):
    aY Tryz.prog 121 [.pointer (some ⟨b,0,none⟩),I k] w λv w'=>v=.tuple #[.slice none 0 0,.bool false]/\Turn F (blk b [.slice A n c] E) w w':=by
  have H:=Sep.bW hp;refine dF Tryz.func121 rfl rfl rfl rfl ?_;refine alk ?_;refine Qn (Cp rfl (λS=>?_) (λS=>?_))
  . refine Zb2 ?_
    exact⟨rfl,H.turn⟩
  exact zap (show((n:Int)-k)<0 from oM) S
theorem Vr {b E:Nat} {A:OA} {F:NP} {l news:List bN} {vn:Value} (hp:(blk b [.slice A l.length l.length] E).ok F w) (hr:Rd w A aM 2 l) (hn:aQ w vn aM 2 news) (iC:0<news.length) (hlen:l.length+news.length<=1000000):
    aY Tryz.prog 126 [.pointer (some ⟨b,0,none⟩),vn] w λv w'=>∃x,v=.tuple #[]/\True/\Turn F (star (blk b [x] E) (bJ 50 2 aM x (l++news))) w w':=by
  obtain⟨B,m,rfl,⟨hm,qX⟩,hB⟩:=hn;have H:=Sep.bW hp;refine dF Tryz.func126 rfl rfl rfl rfl ?_;refine Zb6 ?_;refine LX H hr hB iC (by unfold maxLen;omega) oM (cells_one (λ_=>rfl) _) (h:=?_);intro v2 k k S;obtain⟨B2,c2,rfl,S,hB2⟩:=Sep.dQ k At0;refine Zb2 ?_;refine bB k (h:=λ_ S=>?_);refine Zb0 ?_;exact⟨_,rfl,trivial,(S.aL.bD).turn⟩
theorem Rn {b E n c k:Nat} {A:OA} {F:NP} (hp:(blk b [.slice A n c] E).ok F w) (hk:k<=n) (hnc:n<=c) (hc:n<=9223372036854775807):
    aY Tryz.prog 138 [.pointer (some ⟨b,0,none⟩),I k] w λv w'=>v=.tuple #[.slice (if c=n-k then A else A.map (·.add ((n-k)*3))) k (c-(n-k)),.bool true]/\Turn F (blk b [.slice A (n-k) (n-k)] E) w w':=by
  have H:=Sep.bW hp;refine dF Tryz.func138 rfl rfl rfl rfl ?_;refine Zb8 ?_;refine Vc ((n-k:Nat):Int) ?_;refine Za3 ?_;refine Qn (Cp rfl (λS=>?_) (λS=>?_))
  . exact zap S oM
  refine Zb5 ?_;refine Vv (Gives.sliceFrom rfl rfl oM) ?_;rw[show n-(n-k)=k from oM];refine Zb8 ?_;refine Vv (Gives.Vp rfl rfl rfl oM oM) (Zb2 ?_);refine bB H (h:=λ_ S=>?_);refine Zb3 ?_;exact⟨rfl,S.turn⟩
theorem uR {b E:Nat} {A:OA} {F:NP} {l news:List ay} {vn:Value} (hp:(blk b [.slice A l.length l.length] E).ok F w) (hr:Rd w A ah 3 l) (hn:aQ w vn ah 3 news) (iC:0<news.length) (hlen:l.length+news.length<=1000000):
    aY Tryz.prog 140 [.pointer (some ⟨b,0,none⟩),vn] w λv w'=>∃x,v=.tuple #[]/\True/\Turn F (star (blk b [x] E) (bJ 52 3 ah x (l++news))) w w':=by
  obtain⟨B,m,rfl,⟨hm,qX⟩,hB⟩:=hn;have H:=Sep.bW hp;refine dF Tryz.func140 rfl rfl rfl rfl ?_;refine Zb6 ?_;refine LX H hr hB iC (by unfold maxLen;omega) oM (cells_one (λ_=>rfl) _) (h:=?_);intro v2 k k S;obtain⟨B2,c2,rfl,S,hB2⟩:=Sep.dQ k At0;refine Zb2 ?_;refine bB k (h:=λ_ S=>?_);refine Zb0 ?_;exact⟨_,rfl,trivial,(S.aL.bD).turn⟩
theorem Zr (k:Int):Rk Tryz.prog 122 [I k] w (I (dz k)):=by
 have H:=Sep.aJ w;obtain⟨res,au⟩: ∃res,res=dz k:=⟨_,rfl⟩;rw[<-au];unfold dz at au;refine dI Tryz.func122 rfl rfl rfl rfl ?_;refine Za4 ?_;refine Qn (Cp rfl (λS=>?_) (λS=>?_))
 .rw[zac S]at au
  refine Zb1 ?_;exact⟨by rw[au];rfl,H.kept⟩
 rw[zab S]at au;refine Zb3 ?_;refine aF (t:=9) rfl (λS=>?_) (λS=>?_)
 .refine Zb7 ?_
  exact⟨by rw[au,zac oM];rfl,H.kept⟩
 refine Zb4 ?_;refine aF (t:=13) rfl (λS=>?_) (λS=>?_)
 .refine Zb5 ?_
  exact⟨by rw[au,zac oM];rfl,H.kept⟩
 refine Zb4 ?_;refine aF (t:=17) rfl (λS=>?_) (λS=>?_)
 .refine Zb3 ?_
  exact⟨by rw[au,zac oM];rfl,H.kept⟩
 refine Za4 ?_;refine Qn (Cp rfl (λS=>?_) (λS=>?_))
 .refine Zb1 ?_
  exact⟨by rw[au,zac oM];rfl,H.kept⟩
 rw[zab oM]at au;refine Zb1 ?_;exact⟨by rw[au];rfl,H.kept⟩
theorem Ro (k:Int):Rk Tryz.prog 183 [I k] w (str (nD k)):=by
 have H:=Sep.aJ w;obtain⟨res,au⟩: ∃res,res=nD k:=⟨_,rfl⟩;rw[<-au];unfold nD at au;refine dI Tryz.func183 rfl rfl rfl rfl ?_;refine Za4 ?_;refine Qn (Cp rfl (λS=>?_) (λS=>?_))
 .rw[zac S]at au
  refine Zb1 ?_;exact⟨by rw[au];rfl,H.kept⟩
 rw[zab S]at au;refine Za2 ?_;refine Qn (Cp rfl (λS=>?_) (λS=>?_))
 .rw[zac S]at au
  refine Zb1 ?_;exact⟨by rw[au];rfl,H.kept⟩
 rw[zab S]at au;refine Za2 ?_;refine Qn (Cp rfl (λS=>?_) (λS=>?_))
 .rw[zac S]at au
  refine Zb1 ?_;exact⟨by rw[au];rfl,H.kept⟩
 rw[zab S]at au;refine Za2 ?_;refine Qn (Cp rfl (λS=>?_) (λS=>?_))
 .rw[zac S]at au
  refine Zb1 ?_;exact⟨by rw[au];rfl,H.kept⟩
 rw[zab S]at au;refine Zb1 ?_;exact⟨by rw[au];rfl,H.kept⟩
theorem yJ (t:bN):Rk Tryz.prog 127 [agg (aM t)] w (.bool (nC t)):=by
 have H:=Sep.aJ w;refine dI Tryz.func127 rfl rfl rfl rfl ?_;refine Sr (cB H (cs:=aM t) rfl (h:=λb0 _ k _=>?_));refine Zb5 ?_;refine aF (t:=6) rfl (λS=>?_) (λS=>?_)
 .refine Zb5 ?_
  exact⟨by unfold nC;exact zbb Value.bool (zbg.2 oM),k.kept⟩
 refine Zb2 ?_;exact⟨by unfold nC;rw[zas oM];rfl,k.kept⟩
end
end Go.Proofs.YtkfpleidaoaonaaGreatDoor
namespace Go.Mw
open Go.RowKit
section gives
variable {P:Program} {ρ:Od->Value} {ty:Td} {w:Wd}
theorem Gives.L9 {T e:Td} {n size bytes:Nat} [ha:Ar P T n e] [hc:Cells P e size bytes] {z:Value} [hz:Zero P T z] {zs:LV} {parts:List (Nat×Od)} {out:LV} (JW:z.cells=zs.toArray) (h:Fills (λi:Nat=>some (i*size,size)) ρ parts zs out):
    Gives P ρ (.build T parts.toArray) ty w (.agg out.toArray) w:=λ_ _ _ _=>by
  obtain⟨i,hi,p9⟩:=zav.1 hc.size;simp only[Prod.mk.injEq]at p9;have hf:=JQ h;simp only[execOp,Instr.build,zbh,hz.run,zai,run_underlying ha.und,sizeOf,typeInfo,hi,JW,zbm,zcg,p9.1];have hf':Instr.fill (λi=>some (i*size,size)) zs.toArray (List.map (λx=>(x.fst,ρ x.snd)) parts)=some out.toArray:=hf;simp[hi,p9.1,hf']
end gives
end Go.Mw
namespace Go.Proofs.YtkfpleidaoaonaaGreatDoor
open Go Go.Mw Go.Lib
set_option maxRecDepth 4000
attribute [local irreducible] FW FL FG FGn fZ gG cO gW Qfn Gives
section
variable {w:Wd}
theorem afp {b:Nat} {E:Td} (c:bF) (n:Int) (hb:w.heap[b]? =some (.cells #[I n] E (0,0))):Rk Tryz.prog 201 [agg (aX c),.pointer (some ⟨b,0,none⟩)] w (.bool (decide (c.id=n))):=by
 have H:=Sep.aJ w;refine dF Tryz.func201 rfl rfl rfl rfl ?_;refine Sr (cB H (cs:=aX c) rfl (h:=λb0 _ k _=>?_));refine Zb3 ?_;refine fq (cs:=[I n]) (k.kept.get hb id) (h:=?_);refine Zb2 ?_;exact⟨rfl,k.kept⟩
theorem find_ok {cols:List bF} {vc:Value} (n:Int) (hc:aQ w vc aX 7 cols):Rk Tryz.prog 141 [vc,I n] w (I (BI (lC cols n))):=by
 have H:=Sep.aJ w;refine dF Tryz.func141 rfl rfl rfl rfl ?_;refine Sr (cB H (h:=λb1 _ k _=>?_));refine Zb3 ?_;have Ew:=k.obj At0;have hpr:rJ _ (.func (.func 201) #[] #[.pointer (some ⟨b1,0,none⟩)]) (λc=>agg (aX c)) (λc=>decide (c.id=n)):=⟨201,[],[.pointer (some ⟨b1,0,none⟩)],rfl,inferInstance,λc w'' hk=>afp c n (hk.get Ew id)⟩;refine aD k (Vm (hc.keep k.kept) hpr) (h:=λ_ k _=>?_);refine Zb1 ?_;exact⟨rfl,k.kept⟩
attribute [local irreducible] nC
theorem ajD {cols:List bF} {vc:Value} (x:aZ) (hc:aQ w vc aX 7 cols) (h1:1<=x.kind) (h6:x.kind<=6):Rk Tryz.prog 124 [vc,agg (aP x)] w (.tuple #[agg (aM ((je cols x).getD jF)),.bool (je cols x).isSome]):=by
  have ZK:=hc;obtain⟨A,m,rfl,⟨hm,qX⟩,hA⟩:=hc;have H:=Sep.aJ w;obtain⟨res,au⟩: ∃res,res=je cols x:=⟨_,rfl⟩;rw[<-au];unfold je at au;refine zR Tryz.func124 rfl rfl rfl rfl ?_;refine Sr (cB H (cs:=aP x) rfl (h:=λb0 _ k _=>?_));refine aO k (h:=λb3 _ k _=>?_);refine Zb1 ?_;refine Vv (Gives.L9 (out:=[I 0,I 0,I 3,I 1,I 4,I 5]) rfl (Fills.one rfl rfl rfl sM rfl (Fills.one rfl rfl rfl sM rfl (Fills.one rfl rfl rfl sM rfl (Fills.one rfl rfl rfl sM rfl Fills.nil))))) (aO k (h:=λbk _ k _=>?_));refine ak k (h:=λ_ k=>?_);refine Za4 ?_;refine Qn (Cp rfl (λS=>?_) (λS=>?_))
  . rw[zab oM,zab oM,zab oM,zab oM,zab oM]at au
    refine Zb2 ?_;refine Vb (aM ⟨x.n,true⟩) ?_;refine ak k (h:=λ_ S=>?_);refine Am ?_;refine Qn (Rb (aN (h:=?_)));exact⟨_,gK S,by rw[au];rfl,S.kept⟩
  refine Za2 ?_;refine Qn (Cp rfl (λS=>?_) (λS=>?_))
  . rw[zac S]at au
    refine Zb3 ?_;refine aD k (find_ok x.n (ZK.keep k.kept)) (h:=λ_ a _=>?_);refine Zb4 ?_;refine aF (t:=25) rfl (λb=>?_) (λb=>?_)
    . have nI:lC cols x.n=none:=by
        cases hf:lC cols x.n with
        | none=>rfl
        | some i=>
          rw[hf]at b;exact zap (show((i:Nat):Int)<0 from b) oM
      rw[nI]at au;refine Zb1 ?_;refine Vb (aM jF) ?_;refine ak a (h:=λ_ d=>?_);refine Am ?_;refine Qn (Rs (bM (dM (aN (h:=?_)))));exact⟨_,gK d,by rw[au];rfl,d.kept⟩
    obtain⟨i,hf⟩: ∃i,lC cols x.n=some i:=by
      cases hf:lC cols x.n with
      | none=>rw[hf]at b;exact zap (show(-1:Int)<0 from dC) b
      | some i=>exact⟨i,rfl⟩
    have bH:=Rh hf;obtain⟨c,hcg⟩:=get_some (l:=cols) (i:=i) bH;rw[hf]at au;dsimp only at au;rw[mO hcg]at au;refine Zb2 ?_;rw[show(BI (lC cols x.n))=((i:Nat):Int) by rw[hf];rfl];refine Vv (Gives.jJ rfl rfl hA bH) (Zb1 ?_);refine Vv (Gives.Rf (us:=aM c.type) rfl a hA hcg rfl rfl) (On ?_);refine aD a (yJ c.type) (h:=λ_ d _=>?_);refine Za2 ?_;refine Qn (Cd rfl (λb=>?_) (λb=>?_))
    . rw[zac (by first | exact b | (have h:=b;revert h;cases nC c.type<;>simp))]at au
      refine Sr (Vb (aM jF) ?_);refine ak d (h:=λ_ a=>?_);refine Am ?_;refine Qn (Rs (bM (dM (aN (h:=?_)))));exact⟨_,gK a,by rw[au];rfl,a.kept⟩
    rw[zab (by have h:=b;revert h;cases nC c.type<;>simp)]at au;refine Zb2 ?_;refine Vv (Gives.jJ rfl rfl hA bH) (Zb1 ?_);refine Vv (Gives.Rf (us:=aM c.type) rfl d hA hcg rfl rfl) (aO d (h:=λb69 _ a _=>?_));refine ak a (h:=λ_ a=>?_);refine Za3 ?_;refine Qn (Cp rfl (λb=>?_) (λb=>?_))
    . rw[zac b]at au
      refine Zb1 ?_;refine bB a (h:=λ_ d=>?_);refine Zb1 ?_;refine ak d (h:=λ_ d=>?_);refine Am ?_;refine Qn (Rb (aN (h:=?_)));exact⟨_,gK d,by rw[au];rfl,d.kept⟩
    rw[zab b]at au;refine Zb1 ?_;refine ak a (h:=λ_ d=>?_);refine Am ?_;refine Qn (Rb (aN (h:=?_)));exact⟨_,gK d,by rw[au];rfl,d.kept⟩
  rw[zab S]at au;have htn:((x.kind.toNat:Nat):Int)=x.kind:=zde oM
  obtain⟨kk,bZ,hg⟩: ∃kk:Int,res=some ⟨kk,false⟩/\[(0:Int),0,3,1,4,5][x.kind.toNat]? =some kk:=by
    rcases (by omega :x.kind=2\/x.kind=3\/x.kind=4\/x.kind=5)with e | e | e | e<;>rw[e]at au |- <;>exact⟨_,au,rfl⟩
  have hR:Rd _ (some ⟨bk,0,none⟩) intCells 1 [(0:Int),0,3,1,4,5]:=Sep.nA k At0 rfl;refine Zb2 ?_;refine Vv (Gives.Fh (i:=x.kind.toNat) rfl (by rw[htn];rfl) oM) ?_;refine Vv (Gives.Pd (f:=0) (i:=x.kind.toNat) rfl hR hg rfl) (Vb (aM ⟨kk,false⟩) ?_);refine ak k (h:=λ_ d=>?_);refine Am ?_;refine Qn (dX (aN (h:=?_)));exact⟨_,gK d,by rw[bZ];rfl,d.kept⟩
end
end Go.Proofs.YtkfpleidaoaonaaGreatDoor
namespace Go.Mw
open Go.RowKit
section
variable {P:Program} {r:Option Nat} {n:Nat} {ops:AO} {Q:Post} {σ:St} {w w0:Wd} {S:NP} {rs:List HP} {ty:Td} {pos:String} {after:Array Edge} {guard:Option (Nat×Bool)} {lv:List Bool} {pd:LNB}
theorem alB {dst:Option Nat} {y:Od} {f:FuncId} {fs cs:LV} {xs:List Od} {ats:Array Td} {vals:LV} {R:Value->Wd->Prop} [he:qb P f] {K:St->Wd->Prop} (hy:evF σ y=.func (.func f) fs.toArray cs.toArray) (hc:aY P f (fs++vals++cs) w R) (hv:xs.map (evF σ)=vals)
    (h: ∀v w',R v w'->K (qC σ dst v) w'):KV P σ w ⟨dst,.call {callee:=.value y,args:=xs.toArray,argTypes:=ats},ty,pos,after,guard⟩ K:=by
  unfold KV
  have e:(execOp (evF σ) ⟨dst,.call {callee:=.value y,args:=xs.toArray,argTypes:=ats},ty,pos,after,guard⟩).run P w=.ok (.enter f (fs++vals++cs).toArray) w:=by
    simp[execOp,resolve,hy,Deferred.ofValue,invoke,hv];rw[<-he.run (fs++(vals++cs)).toArray w]
  rw[e];refine Calls.mono hc λen w'' hr=>?_;cases en with
  | returned v=>exact h v w'' hr
  | _=>exact hr.elim
theorem jH (eH:dJ n ops=true) (e:Nat) (pd':LNB) {d:Nat} {y:Od} {f:FuncId} {fs cs:LV} {xs:List Od} {ats:Array Td} {vals:LV} {R:Value->Wd->Prop} [he:qb P f]
    (hy:evF σ y=.func (.func f) fs.toArray cs.toArray) (hc:aY P f (fs++vals++cs) w R)
    (ho:ops[e]? =some ⟨some d,.call {callee:=.value y,args:=xs.toArray,argTypes:=ats},ty,pos,after,guard⟩:=by exact rfl)
    (hw:Region.wanted ⟨some d,.call {callee:=.value y,args:=xs.toArray,argTypes:=ats},ty,pos,after,guard⟩ (bX ops σ)=true:=by kernel_rfl) (hv:xs.map (evF σ)=vals:=by exact rfl) (d9:eX ops lv (pd.map (·.1)) e=true:=by kernel_rfl)
    (oo:pd.filter (λp=> !((above ops e).contains p.1))=pd':=by exact pD) (h: ∀v w',R v w'->jk P ops (upd σ d v) w' pd'/\FG P r n ops Q (lv.set e true) pd' (upd σ d v) w'):FG P r n ops Q lv pd σ w:=
  AZ eH ho d9 hw pd' oo (alB hy hc hv h)
theorem oP (eH:dJ n ops=true) (e:Nat) (pd':LNB) {d:Nat} {y:Od} {f:FuncId} {fs cs:LV} {xs:List Od} {ats:Array Td} {vals:LV} {R:Value->Wd->Prop} [he:qb P f]
    (hy:evF σ y=.func (.func f) fs.toArray cs.toArray) (hc:aY P f (fs++vals++cs) w R)
    (ho:ops[e]? =some ⟨some d,.call {callee:=.value y,args:=xs.toArray,argTypes:=ats},ty,pos,after,guard⟩:=by exact rfl)
    (hw:Region.wanted ⟨some d,.call {callee:=.value y,args:=xs.toArray,argTypes:=ats},ty,pos,after,guard⟩ (bX ops σ)=true:=by kernel_rfl) (hv:xs.map (evF σ)=vals:=by exact rfl) (d9:om ops lv (pd.map (·.1)) e=true:=by kernel_rfl)
    (oo:pd.filter (λp=> !((above ops e).contains p.1))=pd':=by exact pD) (h: ∀v w',R v w'->jk P ops (upd σ d v) w' pd'/\FG P r n ops Q (lv.set e true) pd' (upd σ d v) w'):pX P r n ops Q lv pd σ w e:=
  LU eH ho d9 hw pd' oo (alB hy hc hv h)
end
end Go.Mw
namespace Go.Proofs.YtkfpleidaoaonaaGreatDoor
open Go Go.Mw Go.Lib Go.Proofs.Tryz
set_option maxRecDepth 4000
attribute [local irreducible] FW FL FG FGn fZ gG cO gW Qfn Gives
def Ad {α:Type} (k:Int) (l:List α) (a b:α):Prop:=(l=[a]/\a=b/\(k=10\/k=15\/k=16\/k=18))\/(l=[a,b]/\k≠10/\k≠15/\k≠16/\k≠18)
theorem Ad.any {α:Type} {k:Int} {l:List α} {a b:α} (h:Ad k l a b) (p:α->Bool):l.any p=(p a||p b):=by
 rcases h with⟨rfl,rfl,_⟩ | ⟨rfl,_⟩
 .simp
 simp
theorem Ad.get {α:Type} {k:Int} {l:List α} {a b:α} (h:Ad k l a b):l[0]? =some a/\l[l.length-1]? =some b/\0<l.length:=by
 rcases h with⟨rfl,rfl,_⟩ | ⟨rfl,_⟩
 .exact⟨rfl,rfl,sM⟩
 exact⟨rfl,rfl,sM⟩
def within (want:List Int) (t:bN):Bool:=want.any λy=>decide (t.kind=y)
section
variable {w:Wd}
theorem ab6 (t:bN):Rk prog 188 [agg (aM t)] w (.bool t.null):=by
 have H:=Sep.aJ w;refine dI func188 rfl rfl rfl rfl ?_;refine Sr (cB H (cs:=aM t) rfl (h:=λb0 _ k _=>?_));refine Zb4 ?_;exact⟨rfl,k.kept⟩
theorem ab7 (t:bN):Rk prog 189 [agg (aM t)] w (.bool (!t.null)):=by
 have H:=Sep.aJ w;refine dI func189 rfl rfl rfl rfl ?_;refine Sr (cB H (cs:=aM t) rfl (h:=λb0 _ k _=>?_));refine Zb3 ?_;refine Vv (Gives.not rfl) (Zb1 ?_);exact⟨rfl,k.kept⟩
theorem Yj {b:Nat} {E:Td} {want:List Int} {vw:Value} (t:bN) (hb:w.heap[b]? =some (.cells #[vw] E (0,0))) (hw:aQ w vw intCells 1 want):Rk prog 186 [agg (aM t),.pointer (some ⟨b,0,none⟩)] w (.bool (!within want t)):=by
 have H:=Sep.aJ w;refine dF func186 rfl rfl rfl rfl ?_;refine Sr (cB H (cs:=aM t) rfl (h:=λb0 _ k _=>?_));refine Zb1 ?_;refine fq (cs:=[vw]) (k.kept.get hb id) (h:=?_);refine Zb2 ?_;refine aD k (Yi t.kind (hw.keep k.kept)) (h:=λ_ k _=>?_);refine Vv (Gives.not rfl) (Zb1 ?_);exact⟨rfl,k.kept⟩
theorem xB {b:Nat} {E:Td} {want:List Int} {l:List bN} {vw vl:Value} (hb:w.heap[b]? =some (.cells #[vl] E (0,0))) (hl:aQ w vl aM 2 l) (hw:aQ w vw intCells 1 want):Rk prog 184 [vw,.pointer (some ⟨b,0,none⟩)] w (.bool (!(l.any λt=> !within want t))):=by
 have H:=Sep.aJ w;have hwc:vw.cells= #[vw]:=by obtain⟨A,c,rfl,_⟩:=hw;rfl
 refine dF func184 rfl rfl rfl rfl ?_;refine Sr (cB H (cs:=[vw]) rfl hwc (h:=λb0 _ k _=>?_));refine Zb1 ?_;refine fq (cs:=[vl]) (k.kept.get hb id) (h:=?_);refine Zb1 ?_;have Ew:=k.obj At0;have hpr:rJ _ (.func (.func 186) #[] #[.pointer (some ⟨b0,0,none⟩)]) (λt=>agg (aM t)) (λt=> !within want t):=⟨186,[],[.pointer (some ⟨b0,0,none⟩)],rfl,inferInstance,λt w'' hk=>Yj t (hk.get Ew id) ((hw.keep k.kept).keep hk)⟩;refine aD k (Ab (hl.keep k.kept) hpr) (h:=λ_ k _=>?_);refine Vv (Gives.not rfl) (Zb1 ?_);exact⟨rfl,k.kept⟩
end
theorem Ad.all {k:Int} {l:List bN} {a b:bN} (h:Ad k l a b) (want:List Int):(!(l.any λt=> !within want t))=(within want a&&within want b):=by
 rw[h.any];cases within want a<;>cases within want b<;>rfl
theorem Pe {res:Option bN} {t:bN} {ok:Bool} (h1:ok=res.isSome) (h2: ∀y,res=some y->t=y): ∃t',Value.tuple #[agg (aM t),.bool ok]=.tuple #[agg (aM t'),.bool res.isSome]/\∀x,res=some x->t'=x:=
 ⟨t,by rw[h1],h2⟩
theorem Ae {P:Prop} [Decidable P] {t u:bN} {ok:Bool} (h1:ok=decide P) (h2:t=u): ∃t',Value.tuple #[agg (aM t),.bool ok]=.tuple #[agg (aM t'),.bool (if P then some u else none).isSome]/\∀x,(if P then some u else none)=some x->t'=x:=by
 refine Pe ?_ λy hy=>?_
 .rw[h1];by_cases hp:P
  .rw[zac hp,zbj hp];rfl
  rw[zab hp,zas hp];rfl
 by_cases hp:P
 .rw[zac hp]at hy;injection hy with hy;rw[h2,hy]
 rw[zab hp]at hy;cases hy
theorem nG (k:Int) (t:bN):within [k] t=decide (t.kind=k):=by simp[within]
theorem Ma (j k:Int) (t:bN):within [j,k] t=decide (t.kind=j\/t.kind=k):=by simp[within]
theorem Es (P Q:Prop) [Decidable P] [Decidable Q]:(decide P&&decide Q)=decide (P/\Q):=by
 by_cases h1:P<;>by_cases h2:Q<;>simp[h1,h2]
section
variable {w:Wd}
theorem afq {k:Int} {l:List bN} {a b:bN} {vl:Value} (hl:aQ w vl aM 2 l) (hs:Ad k l a b) (h7:7<=k) (h18:k<=18):aY Tryz.prog 125 [I k,vl] w λv w'=>(∃t,v=.tuple #[agg (aM t),.bool (Cm k a b).isSome]/\∀x,Cm k a b=some x->t=x)/\Kept noB w w':=by
 have Jj:=hl;obtain⟨A,m,rfl,⟨hm,qX⟩,hA⟩:=hl;have H:=Sep.aJ w;obtain⟨hga,_,Ru⟩:=hs.get;obtain⟨res,au⟩: ∃res,res=Cm k a b:=⟨_,rfl⟩;rw[<-au];unfold Cm at au;have af5:=hs.any λt=>t.null
 have akk:(!(l.any λt=> !t.null))=(a.null&&b.null):=by
  rw[hs.any];cases a.null<;>cases b.null<;>rfl
 refine zR Tryz.func125 rfl rfl rfl rfl ?_;refine Sr (cB H (cs:=[.slice A l.length m]) rfl (h:=λb0 _ S _=>?_));refine aO S (h:=λb1 _ S _=>?_);refine Zb4 ?_;refine aD S (Ab (p:=λt=>t.null) (Jj.keep S.kept) ⟨188,[],[],rfl,inferInstance,λt w'' _=>ab6 t⟩) (h:=λ_ S _=>?_);rw[af5];refine Zb2 ?_;refine aD S (Ab (p:=λt=> !t.null) (Jj.keep S.kept) ⟨189,[],[],rfl,inferInstance,λt w'' _=>ab7 t⟩) (h:=λ_ S _=>?_);refine Vv (Gives.not rfl) ?_;rw[akk];refine Za2 ?_;refine Qn (vE (fB (λ_:Unit=>[(0,I k),(3,.pointer (some ⟨b0,0,none⟩)),(4,.pointer (some ⟨b1,0,none⟩)),(6,.func (.func 184) #[] #[.pointer (some ⟨b0,0,none⟩)]),(7,.bool (a.null||b.null)),(8,.bool (a.null&&b.null)),(15,I k),(16,.bool (decide (k=7\/k=8\/k=9\/k=10)))]) (λ_ w'=>Sep w noB [blk b1 [.int .i64 0,.bool false] 50,blk b0 [.slice A l.length m] 190] w') ?_ ?_))
 .refine Za2 ?_
  refine Qn (Cp rfl (λc=>?_) (λc=>?_))
  .refine Zb0 ?_
   exact aA () ⟨rfl,rfl,rfl,rfl,rfl,rfl,rfl,zbb Value.bool (zbg.2 oM),trivial⟩ S
  refine Za2 ?_;refine Qn (Cp rfl (λc=>?_) (λc=>?_))
  .refine Zb0 ?_
   exact aA () ⟨rfl,rfl,rfl,rfl,rfl,rfl,rfl,zbb Value.bool (zbg.2 oM),trivial⟩ S
  refine Za2 ?_;refine Qn (Cp rfl (λc=>?_) (λc=>?_))
  .refine Zb0 ?_
   exact aA () ⟨rfl,rfl,rfl,rfl,rfl,rfl,rfl,zbb Value.bool (zbg.2 oM),trivial⟩ S
  refine Zb2 ?_;exact aA () ⟨rfl,rfl,rfl,rfl,rfl,rfl,rfl,zbb Value.bool (zbg.2 oM),trivial⟩ S
 intro _ τ c c;simp only[cK,like,aS,bK];refine Cp rfl (λS=>?_) (λS=>?_)
 .rw[zac S]at au
  refine Zb1 ?_;refine Vb (aM ⟨3,a.null||b.null⟩) ?_;refine Mv ?_;refine mE c (xs:=[_]) (out:=([3]:List Int).flatMap intCells) ((dK.one rfl rfl dK.nil)) rfl rfl rfl (λbw _ d _=>?_);have Ew:=d.obj At2;have VN:aQ _ (.slice (some ⟨bw,0,none⟩) 1 1) intCells 1 [3]:=⟨some ⟨bw,0,none⟩,1,rfl,⟨sM,oM⟩,Sep.nA d At0 rfl⟩;refine dP (vals:=[_]) rfl (xB Ew (Jj.keep d.kept) VN) rfl rfl (λv' _ hv=>?_);obtain⟨rfl,bZ⟩:=hv;have e:=d.keep bZ;rw[hs.all];refine ak e (h:=λ_ e=>?_);refine Am ?_;refine Qn (Rb (aN (h:=?_)));exact⟨_,gK e,by rw[au];exact Ae (by rw[nG,nG,Es]) rfl,e.kept⟩
 rw[zab S]at au;refine fB (λ_:Unit=>[(0,I k),(3,.pointer (some ⟨b0,0,none⟩)),(4,.pointer (some ⟨b1,0,none⟩)),(6,.func (.func 184) #[] #[.pointer (some ⟨b0,0,none⟩)]),(7,.bool (a.null||b.null)),(8,.bool (a.null&&b.null)),(15,I k),(26,.bool (decide (k=11\/k=12)))]) (λ_ w'=>Sep w noB [blk b1 [.int .i64 0,.bool false] 50,blk b0 [.slice A l.length m] 190] w') ?_ ?_
 .refine Za2 ?_
  refine Qn (Cp rfl (λe=>?_) (λe=>?_))
  .refine Zb0 ?_
   exact aA () ⟨rfl,rfl,rfl,rfl,rfl,rfl,rfl,zbb Value.bool (zbg.2 oM),trivial⟩ c
  refine Zb2 ?_;exact aA () ⟨rfl,rfl,rfl,rfl,rfl,rfl,rfl,zbb Value.bool (zbg.2 oM),trivial⟩ c
 intro _ τ e e;simp only[cK,like,aS];refine Cp rfl (λc=>?_) (λc=>?_)
 .rw[zac c]at au
  refine Zb1 ?_;refine Vb (aM ⟨1,a.null||b.null⟩) ?_;refine Zb2 ?_;refine Vv (Gives.jJ (i:=0) rfl rfl hA Ru) (Zb1 ?_);refine Vv (Gives.jc (i:=0) (f:=0) rfl e hA hga rfl) (mE e (xs:=[_]) (out:=([a.kind]:List Int).flatMap intCells) ((dK.one rfl rfl dK.nil)) rfl rfl rfl (λbw _ S _=>?_));have Ew:=S.obj At2;have VN:aQ _ (.slice (some ⟨bw,0,none⟩) 1 1) intCells 1 [a.kind]:=⟨some ⟨bw,0,none⟩,1,rfl,⟨sM,oM⟩,Sep.nA S At0 rfl⟩;refine dP (vals:=[_]) rfl (xB Ew (Jj.keep S.kept) VN) rfl rfl (λv' _ hv=>?_);obtain⟨rfl,bZ⟩:=hv;have d:=S.keep bZ;rw[hs.all];refine ak d (h:=λ_ d=>?_);refine Am ?_;refine Qn (Rb (aN (h:=?_)));exact⟨_,gK d,by rw[au];exact Ae (by rw[nG,nG,Es];exact zbg.2 ⟨λh=>h.2.symm,λh=>⟨rfl,h.symm⟩⟩) rfl,d.kept⟩
 rw[zab c]at au;refine fB (λ_:Unit=>[(0,I k),(3,.pointer (some ⟨b0,0,none⟩)),(4,.pointer (some ⟨b1,0,none⟩)),(6,.func (.func 184) #[] #[.pointer (some ⟨b0,0,none⟩)]),(7,.bool (a.null||b.null)),(8,.bool (a.null&&b.null)),(15,I k),(38,.bool (decide (k=13\/k=14\/k=15)))]) (λ_ w'=>Sep w noB [blk b1 [.int .i64 0,.bool false] 50,blk b0 [.slice A l.length m] 190] w') ?_ ?_
 .refine Za2 ?_
  refine Qn (Cp rfl (λd=>?_) (λd=>?_))
  .refine Zb0 ?_
   exact aA () ⟨rfl,rfl,rfl,rfl,rfl,rfl,rfl,zbb Value.bool (zbg.2 oM),trivial⟩ e
  refine Za2 ?_;refine Qn (Cp rfl (λd=>?_) (λd=>?_))
  .refine Zb0 ?_
   exact aA () ⟨rfl,rfl,rfl,rfl,rfl,rfl,rfl,zbb Value.bool (zbg.2 oM),trivial⟩ e
  refine Zb2 ?_;exact aA () ⟨rfl,rfl,rfl,rfl,rfl,rfl,rfl,zbb Value.bool (zbg.2 oM),trivial⟩ e
 intro _ τ d d;simp only[cK,like,aS];refine Cp rfl (λe=>?_) (λe=>?_)
 .rw[zac e]at au
  refine Zb1 ?_;refine Vb (aM ⟨1,a.null||b.null⟩) ?_;refine Mv ?_;refine mE d (xs:=[_]) (out:=([1]:List Int).flatMap intCells) ((dK.one rfl rfl dK.nil)) rfl rfl rfl (λbw _ c _=>?_);have Ew:=c.obj At2;have VN:aQ _ (.slice (some ⟨bw,0,none⟩) 1 1) intCells 1 [1]:=⟨some ⟨bw,0,none⟩,1,rfl,⟨sM,oM⟩,Sep.nA c At0 rfl⟩;refine dP (vals:=[_]) rfl (xB Ew (Jj.keep c.kept) VN) rfl rfl (λv' _ hv=>?_);obtain⟨rfl,bZ⟩:=hv;have S:=c.keep bZ;rw[hs.all];refine ak S (h:=λ_ S=>?_);refine Am ?_;refine Qn (Rb (aN (h:=?_)));exact⟨_,gK S,by rw[au];exact Ae (by rw[nG,nG,Es]) rfl,S.kept⟩
 rw[zab e]at au;refine Za2 ?_;refine Qn (Cp rfl (λS=>?_) (λS=>?_))
 .rw[zac S]at au
  refine Sr (Vb (aM ⟨1,false⟩) ?_);refine ak d (h:=λ_ e=>?_);refine Am ?_;refine Qn (Rb (aN (h:=?_)));exact⟨_,gK e,by rw[au];exact Pe rfl (λy hy=>by injection hy),e.kept⟩
 rw[zab S]at au;refine Za2 ?_;refine Qn (Cp rfl (λe=>?_) (λe=>?_))
 .rw[zac e]at au
  refine Zb0 ?_;refine Ds (λS _ c=>?_);refine Zb5 ?_;refine Gb S 5 (aM ⟨a.kind,a.null&&b.null⟩) ?_;refine Zb5 ?_;refine Gz S 11 [(6,true),(5,true),(4,true),(3,false),(2,true),(1,true),(0,false)] c ([a.kind].flatMap intCells) (h:=λbw _ c=>⟨aC (aC (aC ((dw rfl kR (Gives.jc (i:=0) (f:=0) rfl c hA hga rfl) rfl (aC (aC (iX c (h:=eZ)))))))),?_⟩);have Ew:=c.obj At2;have VN:aQ _ (.slice (some ⟨bw,0,none⟩) 1 1) intCells 1 [a.kind]:=⟨some ⟨bw,0,none⟩,1,rfl,⟨sM,oM⟩,Sep.nA c At0 rfl⟩;refine jH S 12 [(5,true),(4,true),(3,false),(2,true),(1,true),(0,false)] (y:=.tmp 58) (f:=184) (fs:=[]) (cs:=[.pointer (some ⟨b0,0,none⟩)]) (vals:=[.slice (some ⟨bw,0,none⟩) 1 1]) rfl (xB Ew (Jj.keep c.kept) VN) (h:=λv' _ hv=>?_);obtain⟨rfl,bZ⟩:=hv;have g:=c.keep bZ;rw[hs.all];refine⟨aC (aC ((dw rfl kR (Gives.jc (i:=0) (f:=0) rfl g hA hga rfl) rfl (aC (aC (iX g (h:=eZ))))))),?_⟩;refine dZ S 13 _ g (h:=λ_ g=>⟨sT,?_⟩);refine Za1 ?_;refine fF S kR ?_;refine bC (Rb (aN (h:=?_)));exact⟨_,gK g,by rw[au];exact Ae (by rw[nG,nG,Es];exact zbg.2 ⟨λh=>h.2.symm,λh=>⟨rfl,h.symm⟩⟩) rfl,g.kept⟩
 rw[zab e]at au;refine Zb1 ?_;refine Vb (aM ⟨3,a.null||b.null⟩) ?_;refine Mv ?_;refine mE d (xs:=[_,_]) (out:=([4,5]:List Int).flatMap intCells) ((dK.one rfl rfl (dK.one rfl rfl dK.nil))) rfl rfl rfl (λbw _ g _=>?_);have Ew:=g.obj At2;have VN:aQ _ (.slice (some ⟨bw,0,none⟩) 2 2) intCells 1 [4,5]:=⟨some ⟨bw,0,none⟩,2,rfl,⟨sM,oM⟩,Sep.nA g At0 rfl⟩;refine dP (vals:=[_]) rfl (xB Ew (Jj.keep g.kept) VN) rfl rfl (λv' _ hv=>?_);obtain⟨rfl,bZ⟩:=hv;have S:=g.keep bZ;rw[hs.all];refine ak S (h:=λ_ S=>?_);refine Am ?_;refine Qn (dX (aN (h:=?_)))
 have Yw:a=b:=by
  rcases hs with⟨_,h,_⟩ | ⟨_,h⟩
  .exact h
  omega
 exact⟨_,gK S,by rw[au];exact Ae (by rw[Ma,Ma,Es];exact zbg.2 (by rw[<-Yw];simp)) rfl,S.kept⟩
end
theorem qA {P:Program} {f:FuncId} {args:LV} {w:Wd} {v:Value} (h:Calls P f args.toArray w λe w'=>e=.returned v/\RowKit.Below w.heap.size w w'):Rk P f args w v:=
 Calls.mono h λe w' he=>by
  obtain⟨rfl,hb⟩:=he;exact⟨rfl,Kept.of_below hb⟩
theorem jQ {P:Program} {f:FuncId} {args:LV} {w:Wd} {v:Value} (h:Calls P f args.toArray w λe w'=>e=.returned v/\w'=w):aY P f args w λv' w'=>v'=v/\w=w':=
 Calls.mono h λe w' he=>by
  obtain⟨rfl,hb⟩:=he;exact⟨rfl,hb.symm⟩
def l9 (w:Wd):Prop:=Lib.Utf8Tabs 4 5 w
theorem l9.keep {w w':Wd} (h:l9 w) (hk:Kept noB w w'):l9 w':=Utf8Tabs_below h hk.below
def isP (k:Int) (c:ay):Bool:=
 if k=1 then decide (c.s=[]/\0<=c.n/\c.n<=1)
 else if k=2 then decide (c.s=[]/\ -2147483648<=c.n/\c.n<=2147483647)
 else if k=3 then decide (c.s=[]/\ -9223372036854775808<=c.n/\c.n<=9223372036854775807)
 else if k=4 then decide (c.n=0/\c.s.length<=1024)&&validD c.s
 else decide (c.n=0/\c.s.length<=1024)
theorem ajE {k:Int} {c:ay} (hf:fits c.n):isP k c=isC k c:=by
 unfold isP isC
 split
 .rfl
 split
 .rfl
 split
 .exact zbg.2 ⟨λh=>h.1,λh=>⟨h,hf.1,hf.2⟩⟩
 split
 .by_cases h1:c.n=0/\c.s.length<=1024
  .rw[zbj h1,zeg]
   cases hv:validD c.s<;>simp[h1]
  rw[zas h1,zge,eq_comm,decide_eq_false_iff_not];exact λh=>h1 ⟨h.1,h.2.1⟩
 rfl
def mP (f:FuncId):Value:=.func (.func f) #[] #[]
def kF1:LV:=[mP 269,mP 270,mP 271,mP 272]
def kF2:LV:=[mP 273,mP 274,mP 275,mP 276]
def kF4:LV:=[mP 279,mP 280,mP 281,mP 282]
def kF5:LV:=[mP 283,mP 284,mP 281,mP 282]
def Af (k:Int):LV:=if k=1 then kF1 else if k=2\/k=3 then kF2 else if k=4 then kF4 else kF5
section
variable {w:Wd}
theorem Jd (l:L8) (hl:l.length<=9223372036854775807) (hT:l9 w):Rk prog 278 [str l] w (.bool (validD l)):=by
 have H:=Sep.aJ w;refine dI func278 rfl rfl rfl rfl ?_;refine Zb2 ?_;refine aD H (qA (Tryz.utf8_ValidString ⟨l.toArray⟩ _ (by rw[Mw.size_mk];exact hl) hT)) (h:=λ_ k _=>?_);refine Zb1 ?_;exact⟨rfl,k.kept⟩
theorem Zt (c:ay):Rk prog 268 [agg (ah c)] w (.bool (decide (c.n=0/\c.s.length<=1024))):=by
 have H:=Sep.aJ w;refine dI func268 rfl rfl rfl rfl ?_;refine Sr (cB H (cs:=ah c) rfl (h:=λb0 _ k _=>?_));refine Zb5 ?_;refine aF (t:=6) rfl (λS=>?_) (λS=>?_)
 .refine Zb6 ?_
  exact⟨zbb Value.bool (zbg.2 oM),k.kept⟩
 refine Zb2 ?_;exact⟨zbb Value.bool (by rw[eq_comm,decide_eq_false_iff_not];omega),k.kept⟩
theorem ab8 {b1 b2:Nat} {E1 E2:Td} {lo hi:Int} (c:ay) (h1:w.heap[b1]? =some (.cells #[I lo] E1 (0,0))) (h2:w.heap[b2]? =some (.cells #[I hi] E2 (0,0))):Rk prog 267 [agg (ah c),.pointer (some ⟨b1,0,none⟩),.pointer (some ⟨b2,0,none⟩)] w (.bool (decide (c.s=[]/\lo<=c.n/\c.n<=hi))):=by
 have H:=Sep.aJ w;refine y7 func267 rfl rfl rfl rfl ?_;refine Sr (cB H (cs:=ah c) rfl (h:=λb0 _ k _=>?_));refine Zb5 ?_;refine aF (t:=8) rfl (λS=>?_) (λS=>?_)
 .have hs:=S
  refine Zb2 ?_;refine fq (cs:=[I lo]) (k.kept.get h1 id) (h:=?_);refine Zb3 ?_;refine aF (t:=14) rfl (λa=>?_) (λa=>?_)
  .have hn:=a
   refine Zb2 ?_;refine fq (cs:=[I hi]) (k.kept.get h2 id) (h:=?_);refine Zb3 ?_;exact⟨zbb Value.bool (zbg.2 ⟨λh=>⟨hs,hn,h⟩,λh=>h.2.2⟩),k.kept⟩
  have hn:=a;refine Zb2 ?_;exact⟨zbb Value.bool (Eq.symm (zas λh=>hn h.2.1)),k.kept⟩
 have hs:=S;refine Zb4 ?_;exact⟨zbb Value.bool (Eq.symm (zas λh=>hs h.1)),k.kept⟩
theorem pY (lo hi:Int):aY prog 266 [I lo,I hi] w λv w'=>∃p q:Nat,v=.func (.func 267) #[] #[.pointer (some ⟨p,0,none⟩),.pointer (some ⟨q,0,none⟩)]/\Turn noB (star (blk p [I lo] 2) (blk q [I hi] 2)) w w':=by
 have H:=Sep.aJ w;refine dF func266 rfl rfl rfl rfl ?_;refine Sr (cB H (cs:=[I lo]) rfl (h:=λb0 _ k _=>?_));refine cB k (cs:=[I hi]) rfl (h:=λb1 _ k _=>?_);refine Zb3 ?_;exact⟨b0,b1,rfl,(k.aL.bD).turn⟩
theorem ab9 {b:Nat} {E:Td} (c:ay) (hb:w.heap[b]? =some (.cells #[mP 268] E (0,0))) (hT:l9 w):Rk prog 277 [agg (ah c),.pointer (some ⟨b,0,none⟩)] w (.bool (decide (c.n=0/\c.s.length<=1024)&&validD c.s)):=by
 have H:=Sep.aJ w;refine dF func277 rfl rfl rfl rfl ?_;refine Sr (cB H (cs:=ah c) rfl (h:=λb0 _ k _=>?_));refine Zb1 ?_;refine fq (cs:=[mP 268]) (k.kept.get hb id) (h:=?_);refine Zb1 ?_;refine dP (f:=268) (fs:=[]) (cs:=[]) (vals:=[agg (ah c)]) rfl (Zt c) rfl rfl (λv' _ hv=>?_);obtain⟨rfl,bZ⟩:=hv;have S:=k.keep bZ;refine Mv ?_;refine aF (t:=7) rfl (λk=>?_) (λk=>?_)
 .have hs:=k
  refine Zb2 ?_;refine aD S (Jd c.s oM (hT.keep S.kept)) (h:=λ_ I _=>?_);refine Zb2 ?_;exact⟨zbb Value.bool (by rw[zbj hs,zeg]),I.kept⟩
 have hs:=k;refine Zb2 ?_;exact⟨zbb Value.bool (by rw[zas hs,zge]),S.kept⟩
end
end Go.Proofs.YtkfpleidaoaonaaGreatDoor
