/-
 A plan's text read line by line,told plainly. No program stands here.
-/
import Derived.Test.YtbkjpdboaclopaaGreatDoorNd16
import Derived.OpenShut
set_option linter.all false
set_option maxRecDepth 8000
namespace Go.Proofs.Mw
open Go.Lib
attribute [local irreducible] FW FL FG FGn jJ jO fC lJ Qfn Gives
def jR (s:L8):L8×L8:=(zZ s).getD (s,[])
def vB {s:L8} (h:zZ s=none):jR s=(s,[]):=by unfold jR;rw[h];rfl
variable {s:L8}
def Ae {a b:L8} (h:zZ s=some (a,b)):jR s=(a,b):=by unfold jR;rw[h];rfl
def BJ:L8:=[119,104,101,114,101]
def PS:L8:=[111,117,116]
def BK:L8:=[103,114,111,117,112]
def nR (t:L8):Option (List bL):=if(eD t).2=0/\(eD t).1≠[]then some (eD t).1 else none
def aac (s:L8):Option nQ:=if(jR s).1=PS/\eZ (jR (jR s).2).1=true then(nR (jR (jR s).2).2).map λl=>⟨(jR (jR s).2).1,l⟩else none
def qK (t:L8):Option Int:=if t=mK then some (-1)else(pY t).map λn:Nat=>((n:Nat):Int)
def jS (p:aW) (st:Int) (s:L8):Option (aW×Int):=
 if st=0 then(if(jR s).1=BJ then(if(jR s).2=mK then some (p,1)else(nR (jR s).2).map λl=>(⟨l,p.cols,p.group⟩,1))else none)
 else if st=2/\(jR s).1=BK then(qK (jR s).2).map λg=>(⟨p.wh,p.cols,g⟩,3)
 else if st=1\/st=2 then(aac s).map λo=>(⟨p.wh,p.cols++[o],p.group⟩,2)
 else none
def goG (p:aW) (st:Int):List (L8)->Option (aW×Int)×Nat
 | []=>(some (p,st),0)
 | x::l=>match jS p st x with
  | none=>(none,0)
  | some (p',st')=>((goG p' st' l).1,(goG p' st' l).2+1)
def vC (l:List (L8)):Option (aW×Int):=l.foldl (λo x=>o.bind λr=>jS r.1 r.2 x) (some (mJ,0))
def Nk (l:List (L8)) (x:L8):vC (l++[x])=(vC l).bind λr=>jS r.1 r.2 x:=by
 unfold vC;rw[List.foldl_append];rfl
def Jz: ∀(l m:List (L8)) (p:aW) (st:Int) (q:aW) (t:Int),goG p st l=(some (q,t),l.length)->goG p st (l++m)=((goG q t m).1,(goG q t m).2+l.length)
 | [],m,p,st,q,t,h=>by
  unfold goG at h;injection h with h _
  injection h with h
  injection h with h1 h2
  subst h1;subst h2;rfl
 | x::l,m,p,st,q,t,h=>by
  rw[zcb];rw[goG]at h ⊢;cases hl:jS p st x with
  | none=>rw[hl]at h;injection h with h;cases h
  | some r=>
   obtain⟨p',st'⟩:=r;rw[hl]at h;dsimp only at h ⊢;injection h with h1 h2
   rw[zaq]at h2;rw[Jz l m p' st' q t (Prod.ext h1 dO),zaq];exact Prod.ext rfl dO
def acf {α:Type} {l:List α} (h:l≠[]): ∃m x,l=m++[x]:=⟨l.dropLast,l.getLast h,(List.dropLast_concat_getLast h).symm⟩
def run_go: ∀(l:List (L8)) {q:aW} {t:Int},vC l=some (q,t)->goG mJ 0 l=(some (q,t),l.length):=by
 intro l
 have key: ∀n (l:List (L8)),l.length=n->∀{q:aW} {t:Int},vC l=some (q,t)->goG mJ 0 l=(some (q,t),l.length):=by
  intro n
  induction n with
  | zero=>
   intro l hl q t h;have:=zbg hl;subst this;injection h with h
   injection h with h1 h2
   subst h1;subst h2;rfl
  | succ n ih=>
   intro l hl q t h;obtain⟨m,x,rfl⟩: ∃m x,l=m++[x]:=acf (by intro e;rw[e]at hl;cases hl);rw[Nk]at h;obtain⟨⟨p',t'⟩,h1,h2⟩:=zdr.1 h;rw[Jz m [x] mJ 0 p' t' (ih m (by rw[zad,zaf]at hl;omega) h1)];dsimp only at h2;unfold goG;rw[h2];dsimp only;unfold goG;rw[zad,zaf];exact Prod.ext rfl dO
 exact λ{q t} h=>key l.length l rfl h
def ag4 {a b:L8} (h:zZ s=some (a,b)):s=a++[32]++b:=by
 unfold zZ at h;obtain⟨i,hi,h⟩:=zbc.1 h;injection h with h1 h2
 subst h1;subst h2;rw[List.idxOf?,zcw]at hi;obtain⟨aX,h32,_⟩:=hi;have e:s[i]=32:=by simpa using h32
 conv=>lhs;rw[<-zbs i s,zbn aX,e]
 simp
def ag5 (h:zZ s=none): ∀c∈s,c≠32:=by
 unfold zZ at h;rw[zfn,List.idxOf?,zda]at h;intro c hc e;have:=h c hc;rw[e]at this;simp at this
def JA {w:L8} (hw: ∀c∈w,c≠32):vg (w++[32]) s=(zZ s).bind λx=>if x.1=w then some x.2 else none:=by
 cases hc:zZ s with
 | none=>
  cases ha:vg (w++[32]) s with
  | none=>rfl
  | some t=>
   have:=Xr ha;exact zas rfl (ag5 hc 32 (by rw[this];simp))
 | some x=>
  obtain⟨a,b⟩:=x;show _=if a=w then some b else none
  by_cases e:a=w
  .rw[zac e,ag4 hc,e,Ad]
  rw[zaa e];cases ha:vg (w++[32]) s with
  | none=>rfl
  | some t=>
   have h1:=Xr ha;rw[h1,Xt hw]at hc;injection hc with hc
   injection hc with hc _
   exact zas hc.symm e
def aec:eD []=([],0):=by rw[<-QK];decide+kernel
def Dm:nR []=none:=by unfold nR;rw[aec];simp
def Nl:([]:L8)≠mK:=by unfold mK;simp
variable {p:aW}
def aad (h:p.wh=[]):jS p 0 s=(Jv s).map λl=>(⟨l,p.cols,p.group⟩,1):=by
 have e:Ub=BJ++[32]:=rfl;unfold jS Jv;rw[zac rfl,e,JA dC];cases hc:zZ s with
 | none=>
  rw[vB hc];show(if s=BJ then(if([]:L8)=mK then _ else _)else none)=_
  rw[zaa Nl,Dm]
  split<;>rfl
 | some x=>
  obtain⟨a,b⟩:=x;rw[Ae hc];dsimp only;show(if a=BJ then(if b=mK then _ else _)else none)=Option.map _ (((if a=BJ then some b else none)).bind _)
  by_cases e1:a=BJ
  .rw[zac e1,zac e1]
   show _=Option.map _ (if b=[]then none else if b=mK then some []else if(eD b).2=0 then some (eD b).1 else none)
   by_cases e2:b=[]
   .rw[zac e2,e2,zaa Nl,Dm,Option.map_none]
   rw[zaa e2]
   by_cases e3:b=mK
   .rw[zac e3,zac e3]
    show some (p,(1:Int))=some (⟨[],p.cols,p.group⟩,1)
    rw[<-h]
   rw[zaa e3,zaa e3];unfold nR
   by_cases e4:(eD b).2=0
   .rw[zac e4,zac ⟨e4,Z9 e4 e2⟩]
   rw[zaa e4,zaa λh=>e4 h.1,Option.map_none]
  rw[zaa e1,zaa e1];rfl
def Ud (s:L8):aac s=Na s:=by
 have e:ZW=PS++[32]:=rfl;unfold aac Na;rw[e,JA dC];cases hc:zZ s with
 | none=>
  rw[vB hc];dsimp only;rw[vB (s:=[]) rfl];dsimp only;rw[Dm];show(if s=PS/\eZ []=true then none else none)=none
  split<;>rfl
 | some x=>
  obtain⟨a,b⟩:=x;rw[Ae hc];dsimp only;show _=((if a=PS then some b else none)).bind _
  by_cases e1:a=PS
  .rw[zac e1]
   show _=(zZ b).bind _
   cases hb:zZ b with
   | none=>
    rw[vB hb];dsimp only;rw[Dm];show(if a=PS/\eZ b=true then none else none)=none
    split<;>rfl
   | some y=>
    obtain⟨n,t⟩:=y;rw[Ae hb];show(if a=PS/\eZ n=true then Option.map _ (nR t)else none)=if(eD t).2=0/\(eD t).1≠[]/\eZ n=true then some (⟨n,(eD t).1⟩:nQ)else none
    unfold nR
    by_cases e2:eZ n=true
    .rw[zac ⟨e1,e2⟩]
     by_cases e3:(eD t).2=0/\(eD t).1≠[]
     .rw[zac e3,zac ⟨e3.1,e3.2,e2⟩];rfl
     rw[zaa e3,zaa λh=>e3 ⟨h.1,h.2.1⟩];rfl
    rw[zaa λh=>e2 h.2,zaa λh=>e2 h.2.2]
  rw[zaa λh=>e1 h.1,zaa e1];rfl
def aed:qK []=none:=by
 unfold qK pY;rw[zaa Nl];have :decDigits 0≠([]:L8):=qV 0;show Option.map _ (if decDigits 0=[]/\_ then _ else none)=none
 rw[zaa λh=>this h.1];rfl
def aee (s:L8):(if(jR s).1=BK then qK (jR s).2 else none)=yx s:=by
 have e:M8=BK++[32]:=rfl;unfold yx;rw[e,JA dC];cases hc:zZ s with
 | none=>
  rw[vB hc];dsimp only;rw[aed];show(if s=BK then none else none)=none
  split<;>rfl
 | some x=>
  obtain⟨a,b⟩:=x;rw[Ae hc];show(if a=BK then qK b else none)=((if a=BK then some b else none)).bind _
  by_cases e1:a=BK
  .rw[zac e1,zac e1];rfl
  rw[zaa e1,zaa e1];rfl
variable {st:Int}
def ag6 {o:nQ} (dK:st=1\/st=2) (h:Na s=some o):jS p st s=some (⟨p.wh,p.cols++[o],p.group⟩,2):=by
 have h':=h;rw[<-Ud]at h
 have hw:(jR s).1=PS:=by
  unfold aac at h
  split at h
  .rename_i e;exact e.1
  cases h
 unfold jS;rw[zaa oM,zaa (λh1=>zas (hw.symm.trans h1.2) dC),zac dK,h];rfl
def aae (h:Na s=none):jS p 1 s=none:=by
 unfold jS;rw[zaa dC,zaa (λh=>zas h.1 dC),zac (.inl rfl),Ud,h];rfl
def aef (h:Na s=none):jS p 2 s=(yx s).map λg=>(⟨p.wh,p.cols,g⟩,3):=by
 unfold jS;rw[zaa dC,<-aee]
 by_cases e:(jR s).1=BK
 .rw[zac ⟨rfl,e⟩,zac e]
 rw[zaa λh=>e h.2,zac (.inr rfl),Ud,h,zaa e];rfl
def aeg:jS p 3 s=none:=by
 unfold jS;rw[zaa dC,zaa (λh=>zas h.1 dC),zaa dC]
def acg: ∀(l:List (L8)) (p:aW) (st:Int),st=1\/st=2->goG p st l=
    if l.length<=(lK l).length then(some (⟨p.wh,p.cols++lK l,p.group⟩,if(lK l).length=0 then st else 2),(lK l).length)
    else if st=1/\(lK l).length=0 then(none,0)
    else match yx (l.getD (lK l).length [])with
      | none=>(none,(lK l).length)
      | some g=>if l.length=(lK l).length+1 then(some (⟨p.wh,p.cols++lK l,g⟩,3),(lK l).length+1)else(none,(lK l).length+1)
  | [],p,st,_=>by
    unfold goG lK;simp
  | x::l,p,st,dK=>by
    cases ho:Na x with
    | some o=>
      have hc:lK (x::l)=o::lK l:=by rw[lK,ho]
      rw[goG,ag6 dK ho,hc];dsimp only;rw[acg l _ 2 (.inr rfl)];simp only[zaq,Nat.add_le_add_iff_right,zga,Nat.add_right_cancel_iff];rw[zaa (show ¬((lK l).length+1=0)from oM),zaa (show ¬(st=1/\(lK l).length+1=0)from oM),zaa (show ¬((2:Int)=1/\(lK l).length=0)from oM)]
      split
      . simp
      cases yx (l.getD (lK l).length [])with
      | none=>rfl
      | some g=>dsimp only;split<;>simp
    | none=>
      have hc:lK (x::l)=[]:=by rw[lK,ho]
      rw[goG,hc];simp only[zaq,zcd,zfg];rw[zaa oM]
      rcases dK with rfl | rfl
      . rw[aae ho,zac sM]
      rw[aef ho,zaa dC];cases yx x with
      | none=>rfl
      | some g=>
        show((goG _ 3 l).1,(goG _ 3 l).2+1)=if l.length+1=0+1 then _ else _
        cases l with
        | nil=>simp[goG]
        | cons y l=>rw[goG,aeg,zaa sM]
def Nn (hs:s.length<=1048576):qJ s=match goG mJ 0 (if(ji s).2=true then(ji s).1 else(ji s).1.dropLast)with
    | (none,n)=>(mJ,(n:Int),4)
    | (some r,n)=>if(ji s).2=false\/r.2≠3 then(mJ,(n:Int),4)else if DW r.1=false then(mJ,0,2)else(r.1,0,0):=by
  obtain⟨ls,whole,hl⟩: ∃ls whole,ji s=(ls,whole):=⟨_,_,rfl⟩;have hdl:ls.dropLast=ls.take (ls.length-1):=List.dropLast_eq_take;unfold qJ;rw[zaa oM,hl];dsimp only;obtain⟨many,hm⟩: ∃many,many=if whole=true then ls.length else ls.length-1:=⟨_,rfl⟩
  have anJ:many<=ls.length:=by rw[hm];split<;>omega
  have yH:(if whole=true then ls else ls.dropLast)=ls.take many:=by
    rw[hm]
    split
    . rw[zbq]
    exact hdl
  rw[<-hm,yH]
  by_cases h0:many<1
  . rw[zac h0,show many=0 from oM,zdh]
    unfold goG;dsimp only;rw[zac (.inr dC)];rfl
  rw[zaa h0];cases ls with
  | nil=>simp at anJ;omega
  | cons x l=>
    obtain⟨m,rfl⟩: ∃m,many=m+1:=⟨many-1,oM⟩;rw[zdb,zfg,goG,aad rfl,List.drop_one,List.tail_cons];cases hw:Jv x with
    | none=>rfl
    | some wv=>
      dsimp only[Option.map];rw[acg _ _ 1 (.inl rfl)];have Jc:(l.take m).length=m:=by rw[zah];rw[zaq]at anJ;omega
      obtain⟨cs,hcs⟩: ∃cs,cs=lK (l.take m):=⟨_,rfl⟩;rw[<-hcs,Jc]
      by_cases h1:m<=cs.length
      . rw[zac h1,zac (.inl oM)]
        dsimp only;rw[zac (.inr (by split<;>decide)),zgh]
      rw[zaa h1]
      by_cases h2:cs.length=0
      . rw[zac (.inr h2),zac ⟨rfl,h2⟩,h2]
      rw[zaa oM,zaa (λh=>h2 h.2)]
      have hgd:(x::l).getD (1+cs.length) []=(l.take m).getD cs.length []:=by
        rw[zgh,zga,zaz,zaz,zcu,zac oM]
      rw[hgd];cases yx ((l.take m).getD cs.length [])with
      | none=>dsimp only;rw[zgh]
      | some g=>
        dsimp only
        by_cases h3:m=cs.length+1
        . rw[zac h3]
          dsimp only;show(if 1+cs.length+1<l.length+1 then _ else _)=if whole=false\/¬((3:Int)=3)then _ else _
          cases whole with
          | true=>
            rw[zac rfl,zaq]at hm;rw[zaa oM,zaa (show ¬(true=false\/¬(3:Int)=3)from sM)];rfl
          | false=>
            rw[zaa dC,zaq]at hm;rw[zac oM,zac (.inl rfl),zgh 1]
        rw[zaa h3];dsimp only;rw[zac (by rw[zaq];rw[zaq]at anJ;omega),zgh 1]
def aaf (hs:s.length<=1048576) (hw:(ji s).2=true) (h:vC (ji s).1=some (p,st)):
    qJ s=if st≠3 then(mJ,((ji s).1.length:Int),4)else if DW p=false then(mJ,0,2)else(p,0,0):=by
  rw[Nn hs,zac hw,run_go _ h];dsimp only;rw[hw]
  by_cases e:st=3
  . rw[zaa (show ¬(true=false\/st≠3) by simp[e]),zaa (show ¬st≠3 from λh=>h e)]
  rw[zac (.inr e),zac e]
variable {x:L8}
def aag {pre l:List (L8)} (hs:s.length<=1048576) (hl:(if(ji s).2=true then(ji s).1 else(ji s).1.dropLast)=pre++x::l) (h:vC pre=some (p,st)) (hx:jS p st x=none):
    qJ s=(mJ,(pre.length:Int),4):=by
  rw[Nn hs,hl,Jz pre _ _ _ _ _ (run_go _ h),goG,hx];dsimp only;rw[zdc]
def aah (hs:s.length<=1048576) (hw:(ji s).2=false) (h:vC (ji s).1.dropLast=some (p,st)):
    qJ s=(mJ,((ji s).1.dropLast.length:Int),4):=by
  rw[Nn hs,hw,zaa dC,run_go _ h];dsimp only;rw[zac (.inl rfl)]
variable {n:Int}
def sG {t:L8}:(atoiAll t=.ok n/\0<=n/\itoa n=t/\n<=1048576)↔(pY t).map (λn:Nat=>((n:Nat):Int))=some n:=by
 constructor
 .rintro⟨_,h0,h1,h2⟩
  unfold itoa at h1;rw[zaa oM]at h1;unfold pY;rw[<-h1,xZ];show Option.map _ (if decDigits n.toNat=decDigits n.toNat/\n.toNat<=1048576 then some n.toNat else none)=_
  rw[zac ⟨rfl,oM⟩];show some ((n.toNat:Nat):Int)=some n
  rw[zcs h0]
 intro h;obtain⟨m,h1,rfl⟩:=zbc.1 h;unfold pY at h1;obtain⟨k,hk,h1⟩:=zdr.1 h1
 split at h1
 .rename_i e
  injection h1 with h1
  subst h1;refine⟨?_,oM,by unfold itoa;rw[zaa oM,zds];exact e.1,oM⟩;rw[<-e.1];have iJ:=qV k;have ar4:=pQ k;cases hd:decDigits k with
  | nil=>exact zas hd iJ
  | cons c r=>
   have hc:=ar4 c (by rw[hd];simp);unfold uh at hc;simp only[decide_eq_true_eq,zbr]at hc
   have hm:parseMag (decDigits k)=.ok k:=by
    rw[parseMag,zaa iJ,AQ _ 0 k (xZ k) oM]
   rw[hd]at hm;unfold atoiAll;dsimp only;rw[zaa oM,hm];dsimp only;rw[zaa oM,zaa oM,zaa oM]
 cases h1
def l6 (l:L8):L8:=l++[10]
def Xu {a b:L8} (h:l6 a=l6 b):a=b:=List.append_cancel_right h
def F7: ∀{a b:List (L8)},a.map l6=b.map l6->a=b
 | [],[],_=>rfl
 | [],b::l,h=>by cases h
 | a::l,[],h=>by cases h
 | a::l,b::m,h=>by
  injection h with h1 h2
  rw[Xu h1,F7 h2]
def sH (s:L8):List (L8):=(cB 10 s).dropLast.map l6++(if(cB 10 s).getLast?=some []then []else [(cB 10 s).getLastD []])
def QV (s:L8):List (L8):=if(ji s).2=true then(ji s).1 else(ji s).1.dropLast
def Xv:sH []=[]:=rfl
variable {l:L8}
def Ue (h:Lib.indexByte l 10= -1):cB 10 l=[l]:=
 EU λc hc e=>by
  obtain⟨k,hk⟩:=zdd hc;exact Lib.indexByte_none h k (by rw[hk,e])
def F8 {o:Nat} (h:Lib.indexByte l 10=o):o<l.length/\l.take (o+1)=l6 (l.take o)/\cB 10 l=l.take o::cB 10 (l.drop (o+1)):=by
 obtain⟨h1,h2⟩:=Lib.indexByte_some h;have aX:=(zax.1 h1).1
 have e:l=l.take o++10::l.drop (o+1):=by
  have e1:l.drop o=10::l.drop (o+1):=by
   rw[zbn aX]
   congr 1
   rw[zab aX]at h1;injection h1
  conv=>lhs;rw[<-zbs o l,e1]
 refine⟨aX,by rw[zat,h1];rfl,?_⟩
 have:=Kh (sep:=10) (w:=l.take o) (l:=l.drop (o+1)) λc hc e=>by
  obtain⟨k,hk⟩:=zdd hc;rw[zcu]at hk
  split at hk
  .exact h2 k oM (by rw[hk,e])
  cases hk
 rw[<-this,<-e]
def aeh (h:Lib.indexByte l 10= -1) (iJ:l≠[]):sH l=[l]:=by
 unfold sH;rw[Ue h];simp[iJ]
def aei {o:Nat} (h:Lib.indexByte l 10=o):sH l=l.take (o+1)::sH (l.drop (o+1)):=by
 obtain⟨_,h2,h3⟩:=F8 h;have iJ:=Jy (l.drop (o+1));unfold sH;rw[h3,h2];cases hs:cB 10 (l.drop (o+1))with
 | nil=>exact zas hs iJ
 | cons a r=>
  rw[List.dropLast_cons_of_ne_nil sM];simp
def aai {s:L8}: ∀w∈cB 10 s,∀c∈w,c≠10:=by
 induction s with
 | nil=>intro w hw c hc;simp[cB]at hw;subst hw;cases hc
 | cons x l ih=>
  intro w hw c hc
  by_cases hx:x=10
  .rw[cB,zac hx]at hw
   rcases zbb.1 hw with rfl | hw
   .cases hc
   exact ih w hw c hc
  obtain⟨w1,ws,e1,e2⟩:=qg (sep:=10) (l:=l) hx;rw[e2]at hw;rw[e1]at ih
  rcases zbb.1 hw with rfl | hw
  .rcases zbb.1 hc with rfl | hc
   .exact hx
   exact ih w1 sM c hc
  exact ih w (zau _ hw) c hc
def Xw (s:L8): ∃T,sH s=(QV s).map l6++T/\((T=[]/\(ji s).2=true)\/(∃x,T=[x]/\(ji s).2=false/\∀c∈x,c≠10)):=by
 have iJ:=Jy s;unfold sH QV ji
 by_cases h:(cB 10 s).getLast?=some []
 .rw[zac h,zac h]
  exact⟨[],sM,.inl ⟨rfl,rfl⟩⟩
 rw[zaa h,zaa h];refine⟨[(cB 10 s).getLastD []],sM,.inr ⟨_,rfl,rfl,?_⟩⟩;refine aai (s:=s) _ ?_;rw[List.getLastD_eq_getLast?,List.getLast?_eq_some_getLast iJ];exact List.getLast_mem iJ
def aaj {ls:List (L8)} (h:ls.map l6++[x]<+:sH s):(∃l rest,x=l6 l/\QV s=ls++l::rest)\/((ji s).2=false/\ls=QV s/\∀c∈x,c≠10):=by
 obtain⟨T,hT,hc⟩:=Xw s;obtain⟨t,ht⟩:=h;rw[hT,zbm,List.singleton_append]at ht
 rcases List.append_eq_append_iff.1 ht with⟨a,h1,h2⟩ | ⟨c,h1,h2⟩
 .obtain⟨l1,l2,e,e1,e2⟩:=List.map_eq_append_iff.1 h1
  have e1':=F7 e1;subst e1';cases l2 with
  | nil=>
   subst e2;rw[zci,zbw]at h2
   rcases hc with⟨rfl,_⟩ | ⟨y,rfl,hw,hy⟩
   .cases h2
   injection h2 with h2 _
   subst h2;rw[zbt]at e;exact .inr ⟨hw,e.symm,hy⟩
  | cons l l2=>
   subst e2;injection h2 with h2 _
   exact .inl ⟨l,l2,h2,e⟩
 rcases hc with⟨rfl,_⟩ | ⟨y,rfl,hw,hy⟩
 .cases c<;>cases h2
 cases c with
 | nil=>
  rw[zbt]at h1;injection h2 with h2 _
  subst h2;exact .inr ⟨hw,F7 h1,hy⟩
 | cons z c=>injection h2 with _ h2;cases c<;>cases h2
def aj4 {ls:List (L8)} (h:sH s=ls.map l6):(ji s).2=true/\(ji s).1=ls:=by
 obtain⟨T,hT,hc⟩:=Xw s;rw[hT]at h
 rcases hc with⟨rfl,hw⟩ | ⟨y,rfl,hw,hy⟩
 .rw[zbt]at h
  have:=F7 h;unfold QV at this;rw[zac hw]at this;exact⟨hw,this⟩
 obtain⟨l1,l2,e,e1,e2⟩:=List.map_eq_append_iff.1 h.symm;cases l2 with
 | nil=>cases e2
 | cons l l2=>
  injection e2 with e2 _
  exact zas rfl (hy 10 (by rw[<-e2];unfold l6;simp))
def KQ (s:L8): ∀w∈cB 10 s,w.length<=s.length:=by
  induction s with
  | nil=>
   intro w h;have :w=[]:=by simpa[cB]using h
   rw[this];simp
  | cons c l ih=>
    intro w h
    by_cases hc:c=10
    . rw[cB,zac hc]at h
      rcases zbb.1 h with rfl | h
      . simp
      have:=ih w h;simp only[zaq];omega
    obtain⟨H,ws,e1,e2⟩:=qg (sep:=10) (l:=l) hc;rw[e2]at h;rw[e1]at ih
    rcases zbb.1 h with rfl | h
    . have:=ih H sM
      simp only[zaq];omega
    have:=ih w (zau _ h);simp only[zaq];omega
def aj5 (h:x∈sH s):x.length<=s.length+1:=by
 unfold sH at h
 rcases zbk.1 h with h | h
 .obtain⟨y,hy,rfl⟩:=zar.1 h
  have:=KQ s y ((List.dropLast_sublist _).subset hy);unfold l6;rw[zad,zaf];omega
 split at h
 .cases h
 rw[zaw]at h;subst h;have iJ:=Jy s;have:=KQ s _ (List.getLast_mem iJ);rw[List.getLastD_eq_getLast?,List.getLast?_eq_some_getLast iJ];show((cB 10 s).getLast iJ).length<=_
 omega
def ag7 (s:L8):(sH s).length<=s.length+1:=by
 have h1:=KP 10 s;have h2:s.count 10<=s.length:=List.count_le_length;have h0:0<(cB 10 s).length:=oM;unfold sH;rw[zad,zae,List.length_dropLast]
 split<;>simp only[zcd,zaq]<;>omega
def aj6 {J:List (L8)->aW->Int->Prop} (h0:J [] mJ 0) (hs: ∀m x p t p' t',J m p t->jS p t x=some (p',t')->J (m++[x]) p' t'): ∀(ls:List (L8)) {p:aW} {st:Int},vC ls=some (p,st)->J ls p st:=by
 intro ls
 have key: ∀n (ls:List (L8)),ls.length=n->∀{p:aW} {st:Int},vC ls=some (p,st)->J ls p st:=by
  intro n
  induction n with
  | zero=>
   intro l hl p st h;have:=zbg hl;subst this;injection h with h
   injection h with h1 h2
   subst h1;subst h2;exact h0
  | succ n ih=>
   intro l hl p st h;obtain⟨m,x,rfl⟩:=acf (show l≠[] by intro e;rw[e]at hl;cases hl);rw[Nk]at h;obtain⟨⟨p',t'⟩,h1,h2⟩:=zdr.1 h;exact hs m x p' t' p st (ih m (by rw[zad,zaf]at hl;omega) h1) h2
 exact λ{p st} h=>key ls.length ls rfl h
def aak {p':aW} {t t':Int} (h:jS p t x=some (p',t')):(p'.wh=p.wh\/∃y,p'.wh=(eD y).1)/\(p'.cols=p.cols\/∃n y,p'.cols=p.cols++[⟨n,(eD y).1⟩])/\(t'=1\/t'=2\/t'=3):=by
 unfold jS at h
 split at h
 .split at h
  .split at h
   .injection h with h;injection h with e1 e2;subst e1;subst e2;exact⟨.inl rfl,.inl rfl,.inl rfl⟩
   obtain⟨y,hy,h⟩:=zbc.1 h;unfold nR at hy
   split at hy
   .injection hy with hy
    injection h with e1 e2;subst e1;subst e2;exact⟨.inr ⟨_,hy.symm⟩,.inl rfl,.inl rfl⟩
   cases hy
  cases h
 split at h
 .obtain⟨y,_,h⟩:=zbc.1 h
  injection h with e1 e2;subst e1;subst e2;exact⟨.inl rfl,.inl rfl,.inr (.inr rfl)⟩
 split at h
 .obtain⟨o,ho,h⟩:=zbc.1 h
  unfold aac at ho
  split at ho
  .obtain⟨l,hl,ho⟩:=zbc.1 ho
   unfold nR at hl
   split at hl
   .injection hl with hl
    subst hl;subst ho;injection h with e1 e2;subst e1;subst e2;exact⟨.inl rfl,.inr ⟨_,_,rfl⟩,.inr (.inl rfl)⟩
   cases hl
  cases ho
 cases h
def rM (p:aW):Prop:=bC p.wh/\∀o∈p.cols,bC o.steps
def Xx (ls:List (L8)) (h:vC ls=some (p,st)):p.cols.length<=ls.length/\(st=0\/st=1\/st=2\/st=3)/\rM p:=by
 refine aj6 (J:=λls p st=>p.cols.length<=ls.length/\(st=0\/st=1\/st=2\/st=3)/\rM p) ⟨zbi _,.inl rfl,(λx hx=>zas hx zam),λo ho=>zas ho zam⟩ (λm x p t p' t' hJ hl=>?_) ls h;obtain⟨h1,h2,h3,h4⟩:=hJ;obtain⟨c1,c2,c3⟩:=aak hl;rw[zad,zaf];refine⟨?_,oM,?_,λo ho=>?_⟩
 .rcases c2 with e | ⟨n,y,e⟩
  .rw[e];omega
  rw[e,zad,zaf];omega
 .rcases c1 with e | ⟨y,e⟩
  .rw[e];exact h3
  rw[e];exact M5 y
 rcases c2 with e | ⟨n,y,e⟩
 .rw[e]at ho;exact h4 o ho
 rw[e]at ho
 rcases zbk.1 ho with ho | ho
 .exact h4 o ho
 rw[zaw]at ho;subst ho;exact M5 y
open Go.RowKit
def fP (X:Wd->Prop):HP where
 ok F w:=(∀w',w.heap.size<=w'.heap.size->(∀b,F b->w'.heap[b]? =w.heap[b]?)->X w')/\∀b,F b->b<w.heap.size
 loc hs h fB:=⟨λw' hs' h'=>fB.1 w' (zck hs hs') λb hb=>(h' b hb).trans (h b hb),λb hb=>Nat.lt_of_lt_of_le (fB.2 b hb) hs⟩
 low h:=h.2
section
variable {F:NP} {w w' w0:Wd} {S:NP} {rs:List HP} {put:HP->List HP} {p q:HP} {X Y Z:Wd->Prop}
def HP.look (h:p.ok F w) (hX: ∀F w,p.ok F w->X w):(fP X).ok F w:=⟨λw' hs h'=>hX F w' (p.loc hs h' h),p.low h⟩
def sI (h:(fP X).ok F w):X w:=h.1 w (zbi _) λ_ _=>rfl
def Sep.look (H:Sep w0 S rs w) (hat:At rs p put) (hX: ∀F w,p.ok F w->X w):Sep w0 S (put (fP X)) w:=H.imp hat λ_ hF=>HP.look hF hX
def Sep.sees (H:Sep w0 S rs w) (hat:At rs (fP X) put):X w:=by
 obtain⟨F,hp,_,_⟩:=H.focus hat;exact sI hp
def Sep.mh (H:Sep w0 S (fP X::fP Y::rs) w) (hZ: ∀w,X w->Y w->Z w):Sep w0 S (fP Z::rs) w:=
 Sep.look H.aR At0 λF w hF=>by
  obtain⟨F1,F2,_,_,h1,h2⟩:=hF;exact hZ w (sI h1) (sI h2)
def Sep.qL (H:Sep w0 S rs w) (h: ∀w,X w):Sep w0 S (fP X::rs) w:=
 Sep.look (Sep.jP (φ:=True) trivial H) At0 λ_ w _=>h w
def Sep.qM (H:Sep w0 S rs w) (hat:At rs (fP X) put) (h: ∀w,X w->Y w):Sep w0 S (put (fP Y)) w:=Sep.look H hat λ_ _ hF=>h _ (sI hF)
end
section
variable {F:NP} {w w' w0:Wd} {S:NP} {rs:List HP} {put:HP->List HP} {v x:Value} {e k:Nat} {α:Type} {enc:α->LV}
def mW [jd enc k] {l:List α} (h:(aU e k enc v l).ok F w):aJ w v enc k l:=by
 have H:=Sep.bW h;obtain⟨A,c,rfl,hc,hR⟩:=H.bH At0;exact⟨A,c,rfl,⟨hc,Sep.ajS H At0⟩,hR⟩
def jq [jd enc k] {l:List α} (H:Mw.Sep w0 S rs w) (hat:At rs (aU e k enc v l) put):aJ w v enc k l:=by
 obtain⟨F,hp,_,_⟩:=H.focus hat;exact mW hp
def F9 {α:Type} (v:Value) (enc:α->LV) (k:Nat) (l:List α):HP:=fP λw=>aJ w v enc k l
def dY [jd enc k] {l:List α} (H:Mw.Sep w0 S rs w) (hat:At rs (aU e k enc v l) put):Mw.Sep w0 S (put (F9 v enc k l)) w:=Sep.look H hat λ_ _ h=>mW h
def Bb (r:List (L8×Value)) (l:List nQ):HP:=fP λw=>pI w r l
def QW (v:Value) (p:aW):HP:=fP λw=>fZ w v p
variable {r:List (L8×Value)} {l:List nQ} {s:List bL} {n:L8} {vw vc:Value} {p:aW}
def EH (H:Mw.Sep w0 S rs w):Mw.Sep w0 S (Bb [] []::rs) w:=Sep.qL H λ_=>pI.nil
def BL (H:Mw.Sep w0 S (aU e 3 aN x s::Bb r l::rs) w):Mw.Sep w0 S (Bb (r++[(n,x)]) (l++[⟨n,s⟩])::rs) w:=
 Sep.mh (dY H At0) λ_ h1 h2=>h2.push h1
def Xy {g:Int} {cols:List nQ} (H:Mw.Sep w0 S (F9 vw aN 3 s::aU e 2 dx vc r::Bb r cols::rs) w):Mw.Sep w0 S (QW (agg [vw,vc,I g]) ⟨s,cols,g⟩::rs) w:=by
 have k:=(dY H At1).aF.aO;have a:=Sep.mh (Z:=λw=>Jw w vc cols) k λ_ h1 h2=>⟨r,h2,h1⟩;exact Sep.mh a λ_ h1 h2=>⟨vw,vc,rfl,h2,h1⟩
end
variable {F S:NP} {w w' w0:Wd} {rs:List HP} {p q:HP}
def aA (x:Value×Int):LV:=[x.1,I x.2]
instance:jd aA 2:=⟨λ_=>rfl⟩
def gN (w:Wd) (r:List (Value×Int)) (l:List aG):Prop:=r.map (·.2)=l.map (·.w)/\∀(i:Nat) x o,r[i]? =some x->l[i]? =some o->aJ w x.1 ah 3 o.row
def dS (w:Wd) (v:Value) (l:List aG):Prop:=∃r,aJ w v aA 2 r/\gN w r l
variable {v:Value} {r r':List (Value×Int)} {l l':List aG}
def gN.len (h:gN w r l):r.length=l.length:=by
 have:=zay List.length h.1;simpa using this
def gN.keep (h:gN w r l) (hk:Kept noB w w'):gN w' r l:=⟨h.1,λi x o hx ho=>(h.2 i x o hx ho).keep hk⟩
def dS.keep (h:dS w v l) (hk:Kept noB w w'):dS w' v l:=by
 obtain⟨r,h1,h2⟩:=h;exact⟨r,h1.keep hk,h2.keep hk⟩
def gN.nil:gN w [] []:=⟨rfl,λi x o hx=>by simp at hx⟩
def gN.app (h:gN w r l) (h':gN w r' l'):gN w (r++r') (l++l'):=by
 have hl:=h.len;refine⟨by rw[zak,zak,h.1,h'.1],λi y o hy ho=>?_⟩
 by_cases hi:i<r.length
 .rw[zcl hi]at hy
  rw[zcl oM]at ho;exact h.2 i y o hy ho
 rw[zby oM]at hy ho;rw[<-hl]at ho;exact h'.2 _ y o hy ho
def gN.one {x:Value} {o:aG} (hx:aJ w x ah 3 o.row):gN w [(x,o.w)] [o]:=by
 refine⟨rfl,λi y o' hy ho=>?_⟩;cases i with
 | zero=>
  rw[zca]at hy ho;injection hy with hy
  injection ho with ho
  subst hy;subst ho;exact hx
 | succ j=>simp at hy
def gN.push {x:Value} {o:aG} (h:gN w r l) (hx:aJ w x ah 3 o.row):gN w (r++[(x,o.w)]) (l++[o]):=h.app (.one hx)
def gN.at (h:gN w r l) {i:Nat} (hi:i<l.length): ∃x,r[i]? =some (x,l[i].w)/\aJ w x ah 3 l[i].row:=by
 have hl:=h.len;have hr:r[i]? =some r[i]:=zab oM
 have hn:r[i].2=l[i].w:=by
  have:=zay (λz=>z[i]?) h.1;simp only[zbz]at this;rw[hr,zab hi]at this;injection this
 exact⟨r[i].1,by rw[hr,<-hn],h.2 i _ _ hr (zab hi)⟩
def gN.get (h:gN w r l) {i:Nat} {o:aG} (ho:l[i]? =some o): ∃x,r[i]? =some (x,o.w)/\aJ w x ah 3 o.row:=by
 obtain⟨hi,e⟩:=zax.1 ho;subst e;exact h.at hi
def gN.take (h:gN w r l) (n:Nat):gN w (r.take n) (l.take n):=⟨by rw[zfe,zfe,h.1],λi x o hx ho=>by
 rw[zcu]at hx ho
 split at hx
 .rename_i hi;rw[zac hi]at ho;exact h.2 i x o hx ho
 cases hx⟩
def gN.drop (h:gN w r l) (n:Nat):gN w (r.drop n) (l.drop n):=⟨by rw[zff,zff,h.1],λi x o hx ho=>by
 rw[zcj]at hx ho;exact h.2 _ x o hx ho⟩
section
variable {F:NP} {w w' w0:Wd} {S:NP} {rs:List HP} {put:HP->List HP} {v x:Value} {r:List (Value×Int)} {l:List aG} {o:aG}
def BM (v:Value) (l:List aG):HP:=fP λw=>dS w v l
def Np (r:List (Value×Int)) (l:List aG):HP:=fP λw=>gN w r l
def JB (H:Mw.Sep w0 S rs w):Mw.Sep w0 S (Np [] []::rs) w:=Sep.qL H λ_=>gN.nil
def Xz (H:Mw.Sep w0 S (F9 x ah 3 o.row::Np r l::rs) w):Mw.Sep w0 S (Np (r++[(x,o.w)]) (l++[o])::rs) w:=
 Sep.mh H λ_ h1 h2=>h2.push h1
def rO (H:Mw.Sep w0 S (aU 47 3 ah x o.row::Np r l::rs) w):Mw.Sep w0 S (Np (r++[(x,o.w)]) (l++[o])::rs) w:=Xz (dY H At0)
abbrev Held:=Value×aG
def aP (L:List Held):List (Value×Int):=L.map λb=>(b.1,b.2.w)
def dz (v:Value) (L:List Held):HP:=star (aU 60 2 aA v (aP L)) (vZ 47 3 ah (·.1) (λb=>b.2.row) L)
def vD: ∀{L:List Held} {F:NP} {w:Wd},(vZ 47 3 ah (·.1) (λb:Held=>b.2.row) L).ok F w->gN w (aP L) (L.map (·.2))
 | [],_,_,_=>gN.nil
 | b::L,F,w,h=>by
  obtain⟨F1,F2,_,_,h1,h2⟩:=h;exact gN.app (gN.one (mW h1)) (vD h2)
def JC {L:List Held} (h:(dz v L).ok F w):dS w v (L.map (·.2)):=by
 obtain⟨F1,F2,_,_,h1,h2⟩:=h;exact⟨_,mW h1,vD h2⟩
def PU {L:List Held} (H:Mw.Sep w0 S rs w) (hat:At rs (dz v L) put):Mw.Sep w0 S (put (BM v (L.map (·.2)))) w:=Sep.look H hat λ_ _ h=>JC h
def gU {L:List Held} (H:Mw.Sep w0 S rs w) (hat:At rs (dz v L) put):dS w v (L.map (·.2)):=by
 obtain⟨F,hp,_,_⟩:=H.focus hat;exact JC hp
def bJ (H:Mw.Sep w0 S rs w):Mw.Sep w0 S (vZ 47 3 ah (·.1) (λb:Held=>b.2.row) []::rs) w:=Sep.acZ H _ _ _ _ _
def iF {L:List Held} (H:Mw.Sep w0 S (aU 47 3 ah x o.row::vZ 47 3 ah (·.1) (λb:Held=>b.2.row) L::rs) w):
    Mw.Sep w0 S (vZ 47 3 ah (·.1) (λb:Held=>b.2.row) (L++[(x,o)])::rs) w:=Sep.YL (x:=(x,o)) H
end
section
variable {P:Program} {r:Option Nat} {n:Nat} {ops:AO} {Q:Post} {rest:LO} {σ:St} {w w0:Wd} {S:NP} {rs:List HP} {put:HP->List HP} {ty:Td} {pos:String} {after:Array Edge} {p q:HP}
end
def aej (v v':Value):Prop:=∀(w:Wd) ns,aJ w v intCells 1 ns->∃ns',aJ w v' intCells 1 ns'
def aej.refl (v:Value):aej v v:=λ_ ns h=>⟨ns,h⟩
def aej.trans {a b c:Value} (h:aej a b) (k:aej b c):aej a c:=λw ns h1=>let⟨ns',h2⟩:=h w ns h1;k w ns' h2
variable {b:Nat} {v0:Value}
def Sep.BN {put:HP->List HP} (H:Sep w0 S (q::rs) w) (hat:At rs p put):
    ∃F,p.ok F w/\(∀b,F b->S b\/w0.heap.size<=b)/\(∀w1,Kept F w w1->∃Fq,q.ok Fq w1)/\∀w' F' p',Kept F w w'->p'.ok F' w'->(∀b,F' b->F b\/w.heap.size<=b)->Sep w0 S (q::put p') w':=by
  obtain⟨F,Fq,hp,hq,hd,hS,lG⟩:=H.ah3 hat;exact⟨F,hp,hS,λw1 hk=>⟨Fq,q.loc hk.size (λb hb=>hk.block b (q.low hq b hb) (hd b hb)) hq⟩,lG⟩
def Kept.into {w1:Wd} (h:Kept S w0 w) (hS: ∀b,F b->S b\/w0.heap.size<=b) (h1:Kept F w w1):Kept S w0 w1:=h.trans h1 λb hb=>hS b hb
def upN (ns:List Int) (x:bD) (m:Nat):List Int:=ns.mapIdx λt n=>if t<m then n+FJ x t else n
def Uf (ns:List Int) (x:bD) (m:Nat):(upN ns x m).length=ns.length:=by unfold upN;rw[List.length_mapIdx]
def ag8 (ns:List Int) (x:bD):upN ns x 0=ns:=by
 unfold upN;refine zey λi=>?_;rw[zem];cases ns[i]? with
 | none=>rfl
 | some n=>simp
variable {m:Nat}
def Af {ns:List Int} {x:bD} {t:Nat} (h:ns[t]? =some n):(upN ns x m)[t]? =some (if t<m then n+FJ x t else n):=by
 unfold upN;rw[zem,h];rfl
def ach {ns:List Int} {x:bD} (h:ns[m]? =some n):(upN ns x m).set m (n+FJ x m)=upN ns x (m+1):=by
  refine zey λt=>?_;rw[List.getElem?_set,Uf]
  by_cases e:m=t
  . subst e
    rw[zac rfl,zac (zax.1 h).1,Af h,zac (zfl _)]
  rw[zaa e];cases ht:ns[t]? with
  | none=>unfold upN;rw[zem,zem,ht];rfl
  | some k=>
   rw[Af ht,Af ht];congr 1;by_cases h2:t<m
   . rw[zac h2,zac oM]
   rw[zaa h2,zaa oM]
def ag9 {ns:List Int} {x:bD} (h:FJ x m=0):upN ns x (m+1)=upN ns x m:=by
 refine zey λt=>?_;cases ht:ns[t]? with
 | none=>unfold upN;rw[zem,zem,ht];rfl
 | some k=>
  rw[Af ht,Af ht];congr 1
  by_cases h2:t<m
  .rw[zac h2,zac oM]
  rw[zaa h2]
  by_cases h3:t=m
  .subst h3;rw[zac oM,h];omega
  rw[zaa oM]
def aj7 {sums:Nat} {E:List bD} {x:bD}:upN (dZ sums E x.key) x (sums+1)=dZ sums (E++[x]) x.key:=by
 refine zey λt=>?_
 by_cases ht:t<=sums
 .rw[Af (yZ ht),yZ ht,zac oM,uX]
  congr 1
  show _=_+((if x.key=x.key then FJ x t else 0)+0)
  rw[zac rfl];omega
 rw[zdn (by rw[Uf,lI];omega),zdn (by rw[lI];omega)]
def aal {sums:Nat} {E:List bD} {x:bD} {k:List aC} (h:x.key≠k):dZ sums (E++[x]) k=dZ sums E k:=by
 unfold dZ;refine zcr λi _=>?_;rw[uX];show _+((if x.key=k then FJ x i else 0)+0)=_
 rw[zaa h];omega
open Go.ChangeShapes Go.WideShapes Go.Proofs.Tryz
def aq7 {α:Type} {enc:α->LV} {k bs e:Nat} [hk:jd enc k] {x:α} (H:Mw.Sep w0 S (blk bs ([x].flatMap enc) e::rs) w):Mw.Sep w0 S (aU e k enc (.slice (some ⟨bs,0,none⟩) 1 1) [x]::rs) w:=
 Sep.nU (n:=1) H At0 (jw hk.len [x]) dC
section
variable {H:Type} {enc:Td×Value->H} {W:Wd} {r:Reach} {base:Nat} {v:Value} {d:DataW H} {ps:List MemPlace}
end
def nameSet:L8:=[97,98,99,100,101,102,103,104,105,106,107,108,109,110,111,112,113,114,115,116,117,118,119,120,121,122,48,49,50,51,52,53,54,55,56,57,95]
def XB (c:UInt8):nameSet.contains c=nA c:=by
 have key: ∀n:Fin 256,nameSet.contains (UInt8.ofNat n.val)=nA (UInt8.ofNat n.val):=by decide+kernel
 have:=key ⟨c.toNat,c.toNat_lt⟩;simpa using this
def dropWhile_nil {α:Type} {p:α->Bool}: ∀{l:List α},l.dropWhile p=[]↔∀x∈l,p x=true
 | []=>sM
 | x::l=>by
  have ih:=dropWhile_nil (p:=p) (l:=l)
  by_cases h:p x=true
  .rw[List.dropWhile_cons_of_pos h,ih]
   simp[h]
  rw[List.dropWhile_cons_of_neg h];simp[h]
def aek (r:Nat):Bool:=decide ((r<97\/122<r)/\(r<48\/57<r)/\r≠95)
def ael (c:UInt8):nA c=true->c.toNat<128/\aek c.toNat=false:=by
 intro h;unfold nA Ua uh at h;simp only[Bool.or_eq_true,decide_eq_true_eq]at h;have h95:c=95->c.toNat=95:=λe=>by rw[e];rfl
 have hc:(97<=c.toNat/\c.toNat<=122)\/c.toNat=95\/(48<=c.toNat/\c.toNat<=57):=by
  rcases h with(h | h) | h
  .exact .inl h
  .exact .inr (.inl (h95 h))
  exact .inr (.inr h)
 exact⟨oM,zal oM⟩
def amQ (r:Nat):aQ prog 144 [I32 r] w λv w'=>v=.bool (aek r)/\w=w':=by
 unfold aek;refine dh func144 ?_;refine Sz (λH=>?_) (λH=>?_)
 .refine Sz (λH=>?_) (λH=>?_)
  .refine V7 ?_
   exact⟨by first | exact zay Value.bool (Eq.symm (zal oM)) | exact zay Value.bool (Eq.symm (zap oM)) | exact zay Value.bool (zbf.2 oM),rfl⟩
  refine Sz (λH=>?_) (λH=>?_)
  .refine V4 ?_
   exact⟨by first | exact zay Value.bool (Eq.symm (zal oM)) | exact zay Value.bool (Eq.symm (zap oM)) | exact zay Value.bool (zbf.2 oM),rfl⟩
  refine V2 ?_;exact⟨by first | exact zay Value.bool (Eq.symm (zal oM)) | exact zay Value.bool (Eq.symm (zap oM)) | exact zay Value.bool (zbf.2 oM),rfl⟩
 refine Sz (λH=>?_) (λH=>?_)
 .refine Sz (λH=>?_) (λH=>?_)
  .refine V7 ?_
   exact⟨by first | exact zay Value.bool (Eq.symm (zal oM)) | exact zay Value.bool (Eq.symm (zap oM)) | exact zay Value.bool (zbf.2 oM),rfl⟩
  refine Sz (λH=>?_) (λH=>?_)
  .refine V4 ?_
   exact⟨by first | exact zay Value.bool (Eq.symm (zal oM)) | exact zay Value.bool (Eq.symm (zap oM)) | exact zay Value.bool (zbf.2 oM),rfl⟩
  refine V2 ?_;exact⟨by first | exact zay Value.bool (Eq.symm (zal oM)) | exact zay Value.bool (Eq.symm (zap oM)) | exact zay Value.bool (zbf.2 oM),rfl⟩
 refine V4 ?_;exact⟨by first | exact zay Value.bool (Eq.symm (zal oM)) | exact zay Value.bool (Eq.symm (zap oM)) | exact zay Value.bool (zbf.2 oM),rfl⟩
def QX {p:Bool} (c:UInt8) (hc:w.cell? ⟨b,c.toNat,none⟩=some (.bool p)):aQ prog 292 [av b,.int .u8 c.toNat] w λv w'=>v=.bool p/\w=w':=
 lH (Tryz.asciiSet_contains b c p w hc)
def XC {p:UInt8->Bool} (s:L8) (xk: ∀c:UInt8,w.cell? ⟨b,c.toNat,none⟩=some (.bool (p c))):Rk prog 200 [str s,av b] w (str (s.dropWhile p)):=by
 have H:=Sep.aH w;refine bU func200 ?_;refine V1 ?_;refine aI (λt:L8=>[(0,str t),(1,av b)]) (λt w'=>t.dropWhile p=s.dropWhile p/\Sep w noB [] w') (λt _=>t.length) s tR ⟨rfl,H⟩ (λt τ w3 hI=>?_);obtain⟨ht,H3⟩:=hI;refine Lp ?_;refine Cz (λVm=>?_) (λVm=>?_)
 .obtain⟨c,r,rfl⟩: ∃c r,t=c::r:=zfc oM
  refine V2 ?_;refine Vv (Gives.zu (l:=c::r) (i:=0) rfl rfl sM) ?_;refine eG (QX c (H3.kept.cell (xk c) id)) (h:=?_);refine Vv (Gives.not rfl) (Qn ?_);refine Cd rfl (λIe=>?_) (λIe=>?_)
  .have hp:p c=false:=by simpa using Ie
   refine V2 ?_;exact⟨by rw[<-ht,List.dropWhile_cons_of_neg (by rw[hp];decide)];rfl,H3.kept⟩
  have hp:p c=true:=by simpa using Ie
  refine V1 ?_;refine Vv (Gives.qc (l:=c::r) (i:=1) rfl rfl sM) ?_;refine V1 ?_;exact aj r tR ⟨by rw[<-ht,List.dropWhile_cons_of_pos hp],H3⟩ sM
 have he:t=[]:=zbg oM;subst he;refine V2 ?_;exact⟨by rw[<-ht];rfl,H3.kept⟩
def Ug {p:UInt8->Bool} (s:L8) (xk: ∀c:UInt8,w.cell? ⟨b,c.toNat,none⟩=some (.bool (p c))) (hl:s.length<=1000000):aQ prog 201 [str s,av b] w λv w'=>(∃n,v=str (s.take n)/\n<=s.length/\(∀(j:Nat) c,n<=j->s[j]? =some c->p c=true)/\∀m,n=m+1->∃c,s[m]? =some c/\p c=false)/\Kept noB w w':=by
 have H:=Sep.aH w;refine bU func201 ?_;refine V1 ?_;refine aI (λn:Nat=>[(0,str (s.take n)),(1,av b)]) (λn w'=>(n<=s.length/\∀(j:Nat) c,n<=j->s[j]? =some c->p c=true)/\Sep w noB [] w') (λn _=>n) s.length ⟨by rw[zbq];rfl,rfl,trivial⟩ ⟨⟨zbi _,λj c hj hc=>zas (fI hc) oM⟩,H⟩ (λn τ w3 hI=>?_);obtain⟨⟨hn,jN⟩,H3⟩:=hI;have Bj:(s.take n).length=n:=by rw[zah];omega
 refine Lp ?_;refine Cz (λVm=>?_) (λVm=>?_)
 .obtain⟨m,rfl⟩: ∃m,n=m+1:=⟨n-1,oM⟩
  obtain⟨c,hc⟩:=get_some (l:=s) (i:=m) oM;have hcd:(s.take (m+1)).getD m 0=c:=jy (by rw[zcu,zac oM];exact hc);have htt:(s.take (m+1)).take m=s.take m:=by rw[List.take_take,zcp oM]
  refine V4 ?_;refine Vc (m:Int) ?_;refine Vv (Gives.zu (i:=m) rfl rfl oM) ?_;rw[hcd];refine eG (QX c (H3.kept.cell (xk c) id)) (h:=?_);refine Vv (Gives.not rfl) (Qn ?_);refine Cd rfl (λIe=>?_) (λIe=>?_)
  .have hp:p c=false:=by simpa using Ie
   refine V2 ?_;exact⟨⟨m+1,rfl,hn,jN,λk hk=>⟨c,by rw[show k=m from oM];exact hc,hp⟩⟩,H3.kept⟩
  have hp:p c=true:=by simpa using Ie
  refine V3 ?_;refine Vc (m:Int) ?_;refine Vv (Gives.sQ (i:=m) rfl rfl oM) ?_;rw[htt];refine V1 ?_;exact aj m tR ⟨⟨oM,λj d hj hd=>by
  by_cases e:j=m
  .subst e;rw[hc]at hd;injection hd with hd;rw[<-hd];exact hp
  exact jN j d oM hd⟩,H3⟩ oM
 have zG:n=0:=oM;refine V2 ?_;exact⟨⟨n,rfl,hn,jN,λm hm=>oM⟩,H3.kept⟩
def aam (l:L8) (hl:l.length<=1000) (h: ∀c∈l,c.toNat<128):Rk prog 199 [str l] w (.tuple #[.agg (setCells l),.bool true]):=
 Calls.mono (Tryz.strings_makeASCIISet (λ_=>kR) ⟨l.toArray⟩ w (by show l.toArray.size<_;rw[zft];omega) λj b hb=>h b (zag hb)) λe w' he=>by
  obtain⟨rfl,rfl⟩:=he;exact⟨rfl,Kept.alloc _ _⟩
def aj8 (s:L8) (iJ:s≠[]) (hl:s.length<=1000000):aQ prog 142 [str s,str nameSet] w λv w'=>(∃t,v=str t/\(t=[]↔s.all nA=true))/\Kept noB w w':=by
 have H:=Sep.aH w;have h37:nameSet.length=37:=rfl;have VB:(setCells nameSet).toList.length=256:=by rw[Array.length_toList,setCells_size]
 have k: ∀u∈(setCells nameSet).toList,u.oneCell'=true:=λu hu=>by
  have:=setCells_one nameSet;rw[Array.all_eq_true_iff_forall_mem]at this;exact this u (by simpa using hu)
 refine bU func142 ?_;refine Sz (λS=>?_) (λS=>?_)
 .exact zas S iJ
 refine Cz (λS=>?_) (λS=>?_)
 .exact zas S dC
 refine Sz (λS=>?_) (λS=>?_)
 .exact zas S dC
 refine Kz (aam nameSet dC dC) (λ_ S _=>?_);refine V3 ?_;refine Ny S (cs:=List.replicate 256 (.bool false)) (h:=λbs _ S _=>?_);refine Rh S (us:=(setCells nameSet).toList) (cs':=(setCells nameSet).toList) rfl (by exact rfl) VB k At0 (by rw[VB];decide) (by rw[VB];simp) (h:=λS k=>?_)
 have xk: ∀c:UInt8,S.cell? ⟨bs,c.toNat,none⟩=some (.bool (nA c)):=λc=>by
  have hb:=k.obj At0;have:=setCells_at nameSet c;rw[XB]at this;rw[World.cell?,hb];simpa using this
 refine O2 ?_;refine Qn (Cd rfl (λS=>?_) (λS=>?_))
 .refine V1 ?_
  refine aL (Ug (p:=nA) s xk hl) rfl rfl (λv' _ hv=>?_);obtain⟨⟨m,rfl,hm,jN,aun⟩,cK⟩:=hv;have I:=k.keep cK;refine Kz (XC (p:=nA) (s.take m) λc=>cK.cell (xk c) id) (λ_ I _=>?_);refine V1 ?_;exact⟨⟨_,rfl,by
  rw[dropWhile_nil,zba];constructor
  .intro h c hc
   obtain⟨j,hj⟩:=zdd hc
   by_cases e:m<=j
   .exact jN j c e hj
   exact h c (zag (i:=j) (by rw[zcu,zac oM];exact hj))
  intro h c hc;exact h c (zcg hc)⟩,I.kept⟩
 exact aB S
def XD {p:Nat->Bool} {l:L8} (h: ∀c∈l,c.toNat<128/\p c.toNat=false): ∀f pos:Nat,Lib.idxFuncFrom p true ⟨l.toArray⟩ f pos= -1
 | 0,_=>rfl
 | f+1,pos=>by
  unfold Lib.idxFuncFrom
  by_cases hp:pos<(⟨l.toArray⟩:ByteArray).size
  .have aX:pos<l.length:=by rw[Mw.size_mk]at hp;exact hp
   obtain⟨h1,h2⟩:=h l[pos] (List.getElem_mem aX)
   have e:Utf8.decode ⟨l.toArray⟩ pos=(l[pos].toNat,1):=by
    rw[<-Lib.decodeL_drop];show Lib.decodeL (l.drop pos)=_
    rw[zbn aX,Lib.decodeL_ascii _ _ h1]
   rw[zac hp,e,zaa (by rw[h2];decide)];exact XD h f _
  rw[zaa hp]
def Nq (s:L8) (jN:s.all nA=true):Rk prog 143 [str s,.func (.func 144) #[] #[]] w (.bool false):=by
 have hp:PredAt prog 144 #[] encR aek w:=λW r _=>Calls.mono (amQ (w:=W) r) λe w' he=>by
  cases e with
  | returned v=>obtain⟨rfl,rfl⟩:=he;exact⟨rfl,0,rfl⟩
  | _=>exact he.elim
 have:=rE (Tryz.strings_ContainsFunc 144 #[] (qz.run (P:=prog) (self:=eT)) aek ⟨s.toArray⟩ w hp)
 have e:decide (0<=Lib.idxFunc aek true ⟨s.toArray⟩)=false:=by
  unfold Lib.idxFunc;rw[XD λc hc=>ael c (zba.1 jN c hc)]
  decide
 rw[e]at this;exact this
def QY (s:L8):Rk prog 90 [str s] w (.bool (eZ s)):=by
 have H:=Sep.aH w;obtain⟨res,ak⟩: ∃res,res=eZ s:=⟨_,rfl⟩;rw[<-ak];refine dh func90 ?_;refine Sz (λk=>?_) (λk=>?_)
 .have mE:res=false:=by rw[ak,k];rfl
  refine V6 ?_;exact⟨by rw[mE];rfl,H.kept⟩
 obtain⟨c,r,hcr⟩: ∃c r,s=c::r:=List.exists_cons_of_ne_nil k;have hlen:s.length=r.length+1:=by rw[hcr];rfl
 have hg0:s.getD 0 0=c:=by rw[hcr];rfl
 unfold eZ at ak;rw[hg0]at ak;refine Sz (λk=>?_) (λk=>?_)
 .have mE:res=false:=by rw[ak,zal oM];rfl
  refine V4 ?_;exact⟨by rw[mE];rfl,H.kept⟩
 rw[zap oM]at ak;refine V1 ?_;refine Vv (Gives.zu (i:=0) rfl rfl oM) ?_;rw[hg0];refine Sz (λk=>?_) (λk=>?_)
 .have mE:res=false:=by rw[ak,show Ua c=false from zal oM];rfl
  refine V2 ?_;exact⟨by rw[mE];rfl,H.kept⟩
 refine V1 ?_;refine Vv (Gives.zu (i:=0) rfl rfl oM) ?_;rw[hg0];refine Cz (λk=>?_) (λk=>?_)
 .have mE:res=false:=by rw[ak,show Ua c=false from zal oM];rfl
  refine V1 ?_;exact⟨by rw[mE];rfl,H.kept⟩
 rw[show Ua c=true from zap oM,zen,zen]at ak;refine V1 ?_;refine aL (aj8 s (by rw[hcr];simp) oM) rfl rfl (λv' _ hv=>?_);obtain⟨⟨t,rfl,ht⟩,cK⟩:=hv;have k:=H.keep cK;refine Sz (λS=>?_) (λS=>?_)
 .have jN:s.all nA=true:=ht.1 S
  rw[jN]at ak;refine Kz (Nq s jN) (λ_ I _=>?_);refine On (Vv (Gives.not rfl) (V2 ?_));exact⟨by rw[ak];rfl,I.kept⟩
 have jN:s.all nA=false:=by rw[<-zdq];exact λh=>S (ht.2 h)
 rw[jN]at ak;refine V2 ?_;exact⟨by rw[ak];rfl,k.kept⟩
def KR (b:Nat) (l:List bT):HP:=exH λv=>star (blk b [v] 22) (aU 49 7 aM v l)
instance alO:IsIface prog 156:=⟨kR⟩
def aha (t:bR):Rk prog 62 [agg (aD t)] w (agg (ah (acd t))):=by
 have H:=Sep.aH w;refine pE func62 ?_;refine Sr (bB H (h:=λb1 _ _ _=>?_));refine Az (λb3 _ _ _=>?_);refine Kz (zS t) (λ_ _ _=>?_);refine Mv ?_;refine Sz (λS=>?_) (λS=>?_)
 .have hmt:oD t=true:=zap S
  refine V3 ?_;refine Vb (ah ⟨t.null,0,[]⟩) ?_;refine Tz (λ_ I=>?_);refine V0 ?_;exact⟨_,⟨_,_,_,rfl,rfl,mY (cs:=ah ⟨t.null,0,[]⟩) (o:=0) (k:=3) (I.obj At0) (us:=ah ⟨t.null,0,[]⟩) rfl rfl,rfl⟩,by unfold acd;rw[hmt];rfl,I.kept⟩
 have hmt:oD t=false:=zal S;refine V1 ?_;refine Vb (ah ⟨false,0,[]⟩) ?_;refine Tz (λ_ I=>?_);refine V0 ?_;exact⟨_,⟨_,_,_,rfl,rfl,mY (cs:=ah ⟨false,0,[]⟩) (o:=0) (k:=3) (I.obj At0) (us:=ah ⟨false,0,[]⟩) rfl rfl,rfl⟩,by unfold acd;rw[hmt];rfl,I.kept⟩
def y8 {acc:List bT} (name:L8) (t:bR) (hp:(KR b acc).ok F w) (hl:acc.length<=1000):
    aQ prog 61 [str name,agg (aD t),av b] w λv w'=>v=.tuple #[]/\Turn F (KR b (acc++[qB ((acc.length+1:Nat):Int) name t])) w w':=by
  have k:=Sep.bW hp;unfold KR at k;obtain⟨v0,k⟩:=k.ex0;have H:=k.bE;obtain⟨A,ca,rfl,hca,hA⟩:=Sep.bH H At1;refine D9 func61 ?_;refine Sr (bB H (cs:=aD t) rfl (h:=λb4 _ _ _=>?_));refine Dz (λk _ S=>?_);refine V3 ?_;refine Gc k 3 ((acc.length+1:Nat):Int) ?_;refine V3 ?_;refine dA k 7 [(5,false),(4,true),(3,true),(2,true),(1,false),(0,false)] S (aha t) (h:=λ_ S _=>⟨(bQ rfl kR (Gives.Ky rfl (S.obj At0) (us:=aD t) rfl rfl) rfl (ay (ay (ay (iL S (h:=iL S (h:=eF))))))),?_⟩);refine Gp k 8 rfl rfl (λ_=>Gives.build (out:=aM (qB ((acc.length+1:Nat):Int) name t)) (Fills.one rfl rfl rfl sM rfl (Fills.one rfl rfl rfl sM rfl (Fills.many rfl rfl (zbe rfl) rfl (Fills.many rfl rfl (zbe rfl) rfl Fills.nil))))) (Gz k 9 [(0,false)] S ([qB ((acc.length+1:Nat):Int) name t].flatMap aM) (h:=λbs _ S=>⟨sL,?_⟩));refine gH k 10 _ S (news:=[qB ((acc.length+1:Nat):Int) name t]) At2 (by unfold maxLen;simp;omega) (by simp;omega) (cells_one (λ_=>rfl) _) (h:=λv2 _ S=>?_);obtain⟨A2,c2,rfl,I,hA2⟩:=Sep.bH S At2;refine⟨sT,?_⟩;refine l8 k 11 _ S (h:=λ_ I=>⟨sT,?_⟩);refine V0 ?_;exact⟨rfl,(Sep.tY (p:=λv=>star (blk b [v] 22) (aU 49 7 aM v _)) _ (Sep.aR I.bI)).first.turn⟩
theorem XE {p:aW} (hp:fZ w v p) (hn:p.cols.length<=1000000):Rk prog 59 [v] w (.bool (lC p)):=by
 obtain⟨vw,vc,rfl,hw,r,hr,eP⟩:=hp;obtain⟨A,m,rfl,⟨hm,nX⟩,hA⟩:=hr;have yL:=eP.len;have H:=Sep.aH w;obtain⟨res,ak⟩: ∃res,res=lC p:=⟨_,rfl⟩;rw[<-ak];unfold lC at ak;refine dh func59 ?_;refine Sr (bB H (cs:=[vw,.slice A r.length m,I p.group]) rfl (h:=λb1 w2 H2 k1=>?_));refine V1 ?_;refine vH H2 (h:=λb3 w5 H5 k4=>?_);have H5:=Sep.akT H5 At0;refine V5 ?_;refine aI (λi:Nat=>[(1,av b1),(3,.map (some b3)),(9,.slice A r.length m),(10,I r.length),(11,I i)]) (λi w'=>(i<=r.length/\∀(j:Nat) o,j<i->p.cols[j]? =some o->eZ o.name=true/\¬(0<=p.group/\o.name=iN))/\∃f n,Had ((p.cols.map (·.name)).take i) f n/\Sep w noB [Ck b3 f n,blk b1 [vw,.slice A r.length m,I p.group] 26] w') (λi _=>r.length-i) 0 tR ⟨⟨zai _,λj o hj=>zas hj (zdw j)⟩,_,_,Had.nil,H5⟩ (λi τ wa hI=>?_);obtain⟨⟨hi,CQ⟩,f,n,anL,Ha⟩:=hI;refine Lp ?_;refine Cz (λIe=>?_) (λIe=>?_)
 .have aX:i<p.cols.length:=oM
  obtain⟨x,hx,CS⟩:=eP.at aX;obtain⟨Ax,cx,rfl,_⟩:=id CS;have qy:p.cols[i]? =some p.cols[i]:=zab aX;obtain⟨o,ho⟩: ∃o,o=p.cols[i]:=⟨_,rfl⟩;rw[<-ho]at hx CS qy;have htn:(p.cols.map (·.name)).take (i+1)=(p.cols.map (·.name)).take i++[o.name]:=by rw[zat,zbz,qy];rfl
  have uK:o∈p.cols:=zag qy;refine Az (λb5 wb Hb ka=>?_);refine Tz (λwc Hc=>?_);refine V3 ?_;obtain⟨c,VB,hcv⟩:=anL.val ⟨o.name.toArray⟩;rw[zah,zae]at VB;refine dD (P9 (i:=⟨o.name.toArray⟩) Hc At1 rfl rfl) rfl ?_;rw[hcv];refine Vc ((c+1:Nat):Int) ?_;have ai9:=anL.push o.name (c:=c) (by rw[zah,zae];omega);rw[<-htn]at ai9;refine Qb Hc At1 rfl rfl rfl (h:=λwd Hd=>?_);refine Kz (QY o.name) (λwe He kb=>?_);refine V2 ?_;refine dL (t:=24) rfl (λSa=>?_) (λSa=>?_)
  .have jV: ¬eZ o.name=true:=by simpa using Sa
   refine V2 ?_;refine⟨?_,He.kept⟩
   have mE:p.cols.all (λo=>eZ o.name&& !(decide (0<=p.group)&&decide (o.name=iN)))=false:=by
    rw[<-zdq,zba];intro h;have h1:=h o uK;simp_all
   rw[ak,mE];simp[fJ]
  have Lm:eZ o.name=true:=by simpa using Sa
  refine Sz (λSb=>?_) (λSb=>?_)
  .refine Cz (λIf=>?_) (λIf=>?_)
   .have auo:0<=p.group/\o.name=iN:=⟨oM,If⟩
    refine V1 ?_;refine⟨?_,He.kept⟩
    have mE:p.cols.all (λo=>eZ o.name&& !(decide (0<=p.group)&&decide (o.name=iN)))=false:=by
     rw[<-zdq,zba];intro h;have h1:=h o uK;simp_all
    rw[ak,mE];simp[fJ]
   have Fj: ¬(0<=p.group/\o.name=iN):=λh=>If h.2;refine V2 ?_;exact aj (i+1) tR ⟨⟨oM,λj y hj hy=>by
   by_cases e:j=i
   .subst e;rw[qy]at hy;injection hy with hy;rw[<-hy];exact⟨Lm,Fj⟩
   exact CQ j y oM hy⟩,_,_,ai9,He.bI⟩ oM
  have Fj: ¬(0<=p.group/\o.name=iN):=λh=>oM;refine V4 ?_;exact aj (i+1) tR ⟨⟨oM,λj y hj hy=>by
  by_cases e:j=i
  .subst e;rw[qy]at hy;injection hy with hy;rw[<-hy];exact⟨Lm,Fj⟩
  exact CQ j y oM hy⟩,_,_,ai9,He.bI⟩ oM
 have jG:i=r.length:=oM
 have jN:p.cols.all (λo=>eZ o.name&& !(decide (0<=p.group)&&decide (o.name=iN)))=true:=by
  rw[zba];intro o ho;obtain⟨j,hj⟩:=zdd ho;obtain⟨h1,h2⟩:=CQ j o (by have:=fI hj;omega) hj;rw[h1,zen];cases hg:decide (0<=p.group)<;>cases hc:decide (o.name=iN)<;>simp_all
 rw[jN]at ak;have hnd:=anL.nd;rw[jG,yL,zaj sM]at hnd;rw[zae]at hnd;have hnr:(n=r.length↔(p.cols.map (·.name)).Nodup):=by rw[yL];exact hnd
 have ak:res=decide ((n:Int)=r.length/\1<=r.length/\r.length<=16/\ -1<=p.group/\p.group<=r.length):=by
  rw[ak,Bool.and_true,<-Bool.decide_and,yL];refine zbf.2 ⟨λh=>?_,λh=>?_⟩
  .have:=hnr.2 h.2
   omega
  exact⟨oM,hnr.1 oM⟩
 refine V5 ?_;refine dD (Qa Ha At0 rfl) rfl ?_;refine Sz (λSc=>?_) (λSc=>?_)
 .refine Sz (λSd=>?_) (λSd=>?_)
  .refine Sz (λSe=>?_) (λSe=>?_)
   .refine Sz (λSf=>?_) (λSf=>?_)
    .refine V6 ?_
     exact⟨by rw[ak];first | exact zay Value.bool (Eq.symm (zal oM)) | exact zay Value.bool (zbf.2 oM),Ha.kept⟩
    refine V2 ?_;exact⟨by rw[ak];first | exact zay Value.bool (Eq.symm (zal oM)) | exact zay Value.bool (zbf.2 oM),Ha.kept⟩
   refine V4 ?_;exact⟨by rw[ak];first | exact zay Value.bool (Eq.symm (zal oM)) | exact zay Value.bool (zbf.2 oM),Ha.kept⟩
  refine V6 ?_;exact⟨by rw[ak];first | exact zay Value.bool (Eq.symm (zal oM)) | exact zay Value.bool (zbf.2 oM),Ha.kept⟩
 refine V8 ?_;exact⟨by rw[ak];first | exact zay Value.bool (Eq.symm (zal oM)) | exact zay Value.bool (zbf.2 oM),Ha.kept⟩
end Go.Proofs.Mw
