/-
 A plan's text read line by line,told plainly. No program stands here.
-/
import Derived.Test.YtjcgliljofbopaaGreatDoorNv16
import Derived.OpenShut
set_option linter.all false
set_option maxRecDepth 8000
namespace Go.Proofs.Mw
open Go.Lib
attribute [local irreducible] FW FL FG FGn jK jO fI lU Qfn Gives
def jI (s:L8):L8×L8:=(zD s).getD (s,[])
def uO {s:L8} (h:zD s=none):jI s=(s,[]):=by unfold jI;rw[h];rfl
variable {s:L8}
def zI {a b:L8} (h:zD s=some (a,b)):jI s=(a,b):=by unfold jI;rw[h];rfl
def Bl:L8:=[119,104,101,114,101]
def O5:L8:=[111,117,116]
def Bn:L8:=[103,114,111,117,112]
def nI (t:L8):Option (List bI):=if(d9 t).2=0/\(d9 t).1≠[]then some (d9 t).1 else none
def Zm (s:L8):Option nO:=if(jI s).1=O5/\eU (jI (jI s).2).1=true then(nI (jI (jI s).2).2).map λl=>⟨(jI (jI s).2).1,l⟩else none
def qD (t:L8):Option Int:=if t=mD then some (-1)else(pO t).map λn:Nat=>((n:Nat):Int)
def jJ (p:aU) (st:Int) (s:L8):Option (aU×Int):=
 if st=0 then(if(jI s).1=Bl then(if(jI s).2=mD then some (p,1)else(nI (jI s).2).map λl=>(⟨l,p.cols,p.group⟩,1))else none)
 else if st=2/\(jI s).1=Bn then(qD (jI s).2).map λg=>(⟨p.wh,p.cols,g⟩,3)
 else if st=1\/st=2 then(Zm s).map λo=>(⟨p.wh,p.cols++[o],p.group⟩,2)
 else none
def goG (p:aU) (st:Int):List (L8)->Option (aU×Int)×Nat
 | []=>(some (p,st),0)
 | x::l=>match jJ p st x with
  | none=>(none,0)
  | some (p',st')=>((goG p' st' l).1,(goG p' st' l).2+1)
def uP (l:List (L8)):Option (aU×Int):=l.foldl (λo x=>o.bind λr=>jJ r.1 r.2 x) (some (mq,0))
def MR (l:List (L8)) (x:L8):uP (l++[x])=(uP l).bind λr=>jJ r.1 r.2 x:=by
 unfold uP;rw[List.foldl_append];rfl
def G7: ∀(l m:List (L8)) (p:aU) (st:Int) (q:aU) (t:Int),goG p st l=(some (q,t),l.length)->goG p st (l++m)=((goG q t m).1,(goG q t m).2+l.length)
 | [],m,p,st,q,t,h=>by
  unfold goG at h;injection h with h _
  injection h with h
  injection h with h1 h2
  subst h1;subst h2;rfl
 | x::l,m,p,st,q,t,h=>by
  rw[zcd];rw[goG]at h ⊢;cases hl:jJ p st x with
  | none=>rw[hl]at h;injection h with h;cases h
  | some r=>
   obtain⟨p',st'⟩:=r;rw[hl]at h;dsimp only at h ⊢;injection h with h1 h2
   rw[zas]at h2;rw[G7 l m p' st' q t (Prod.ext h1 dO),zas];exact Prod.ext rfl dO
def abn {α:Type} {l:List α} (h:l≠[]): ∃m x,l=m++[x]:=⟨l.dropLast,l.getLast h,(List.dropLast_concat_getLast h).symm⟩
def run_go: ∀(l:List (L8)) {q:aU} {t:Int},uP l=some (q,t)->goG mq 0 l=(some (q,t),l.length):=by
 intro l
 have key: ∀n (l:List (L8)),l.length=n->∀{q:aU} {t:Int},uP l=some (q,t)->goG mq 0 l=(some (q,t),l.length):=by
  intro n
  induction n with
  | zero=>
   intro l hl q t h;have:=zbg hl;subst this;injection h with h
   injection h with h1 h2
   subst h1;subst h2;rfl
  | succ n ih=>
   intro l hl q t h;obtain⟨m,x,rfl⟩: ∃m x,l=m++[x]:=abn (by intro e;rw[e]at hl;cases hl);rw[MR]at h;obtain⟨⟨p',t'⟩,h1,h2⟩:=zdp.1 h;rw[G7 m [x] mq 0 p' t' (ih m (by rw[zad,zae]at hl;omega) h1)];dsimp only at h2;unfold goG;rw[h2];dsimp only;unfold goG;rw[zad,zae];exact Prod.ext rfl dO
 exact λ{q t} h=>key l.length l rfl h
/-! The words of a line. -/
def aga {a b:L8} (h:zD s=some (a,b)):s=a++[32]++b:=by
 unfold zD at h;obtain⟨i,hi,h⟩:=zbc.1 h;injection h with h1 h2
 subst h1;subst h2;rw[List.idxOf?,zcu]at hi;obtain⟨aS,h32,_⟩:=hi;have e:s[i]=32:=by simpa using h32
 conv=>lhs;rw[<-zbs i s,zbn aS,e]
 simp
def agb (h:zD s=none): ∀c∈s,c≠32:=by
 unfold zD at h;rw[zfn,List.idxOf?,zcx]at h;intro c hc e;have:=h c hc;rw[e]at this;simp at this
def G8 {w:L8} (hw: ∀c∈w,c≠32):uN (w++[32]) s=(zD s).bind λx=>if x.1=w then some x.2 else none:=by
 cases hc:zD s with
 | none=>
  cases ha:uN (w++[32]) s with
  | none=>rfl
  | some t=>
   have:=Wo ha;exact zar rfl (agb hc 32 (by rw[this];simp))
 | some x=>
  obtain⟨a,b⟩:=x;show _=if a=w then some b else none
  by_cases e:a=w
  .rw[zac e,aga hc,e,zH]
  rw[zab e];cases ha:uN (w++[32]) s with
  | none=>rfl
  | some t=>
   have h1:=Wo ha;rw[h1,Wp hw]at hc;injection hc with hc
   injection hc with hc _
   exact zar hc.symm e
def adj:d9 []=([],0):=by rw[<-Qf];decide+kernel
def CP:nI []=none:=by unfold nI;rw[adj];simp
def MS:([]:L8)≠mD:=by unfold mD;simp
variable {p:aU}
def Zn (h:p.wh=[]):jJ p 0 s=(GZ s).map λl=>(⟨l,p.cols,p.group⟩,1):=by
 have e:Tm=Bl++[32]:=rfl;unfold jJ GZ;rw[zac rfl,e,G8 dC];cases hc:zD s with
 | none=>
  rw[uO hc];show(if s=Bl then(if([]:L8)=mD then _ else _)else none)=_
  rw[zab MS,CP]
  split<;>rfl
 | some x=>
  obtain⟨a,b⟩:=x;rw[zI hc];dsimp only;show(if a=Bl then(if b=mD then _ else _)else none)=Option.map _ (((if a=Bl then some b else none)).bind _)
  by_cases e1:a=Bl
  .rw[zac e1,zac e1]
   show _=Option.map _ (if b=[]then none else if b=mD then some []else if(d9 b).2=0 then some (d9 b).1 else none)
   by_cases e2:b=[]
   .rw[zac e2,e2,zab MS,CP,Option.map_none]
   rw[zab e2]
   by_cases e3:b=mD
   .rw[zac e3,zac e3]
    show some (p,(1:Int))=some (⟨[],p.cols,p.group⟩,1)
    rw[<-h]
   rw[zab e3,zab e3];unfold nI
   by_cases e4:(d9 b).2=0
   .rw[zac e4,zac ⟨e4,Zl e4 e2⟩]
   rw[zab e4,zab λh=>e4 h.1,Option.map_none]
  rw[zab e1,zab e1];rfl
def Tp (s:L8):Zm s=MJ s:=by
 have e:Zc=O5++[32]:=rfl;unfold Zm MJ;rw[e,G8 dC];cases hc:zD s with
 | none=>
  rw[uO hc];dsimp only;rw[uO (s:=[]) rfl];dsimp only;rw[CP];show(if s=O5/\eU []=true then none else none)=none
  split<;>rfl
 | some x=>
  obtain⟨a,b⟩:=x;rw[zI hc];dsimp only;show _=((if a=O5 then some b else none)).bind _
  by_cases e1:a=O5
  .rw[zac e1]
   show _=(zD b).bind _
   cases hb:zD b with
   | none=>
    rw[uO hb];dsimp only;rw[CP];show(if a=O5/\eU b=true then none else none)=none
    split<;>rfl
   | some y=>
    obtain⟨n,t⟩:=y;rw[zI hb];show(if a=O5/\eU n=true then Option.map _ (nI t)else none)=if(d9 t).2=0/\(d9 t).1≠[]/\eU n=true then some (⟨n,(d9 t).1⟩:nO)else none
    unfold nI
    by_cases e2:eU n=true
    .rw[zac ⟨e1,e2⟩]
     by_cases e3:(d9 t).2=0/\(d9 t).1≠[]
     .rw[zac e3,zac ⟨e3.1,e3.2,e2⟩];rfl
     rw[zab e3,zab λh=>e3 ⟨h.1,h.2.1⟩];rfl
    rw[zab λh=>e2 h.2,zab λh=>e2 h.2.2]
  rw[zab λh=>e1 h.1,zab e1];rfl
def adk:qD []=none:=by
 unfold qD pO;rw[zab MS];have :decDigits 0≠([]:L8):=qM 0;show Option.map _ (if decDigits 0=[]/\_ then _ else none)=none
 rw[zab λh=>this h.1];rfl
def adl (s:L8):(if(jI s).1=Bn then qD (jI s).2 else none)=xP s:=by
 have e:MH=Bn++[32]:=rfl;unfold xP;rw[e,G8 dC];cases hc:zD s with
 | none=>
  rw[uO hc];dsimp only;rw[adk];show(if s=Bn then none else none)=none
  split<;>rfl
 | some x=>
  obtain⟨a,b⟩:=x;rw[zI hc];show(if a=Bn then qD b else none)=((if a=Bn then some b else none)).bind _
  by_cases e1:a=Bn
  .rw[zac e1,zac e1];rfl
  rw[zab e1,zab e1];rfl
variable {st:Int}
def agc {o:nO} (dJ:st=1\/st=2) (h:MJ s=some o):jJ p st s=some (⟨p.wh,p.cols++[o],p.group⟩,2):=by
 have h':=h;rw[<-Tp]at h
 have hw:(jI s).1=O5:=by
  unfold Zm at h
  split at h
  .rename_i e;exact e.1
  cases h
 unfold jJ;rw[zab oM,zab (λh1=>zar (hw.symm.trans h1.2) dC),zac dJ,h];rfl
def Zo (h:MJ s=none):jJ p 1 s=none:=by
 unfold jJ;rw[zab dC,zab (λh=>zar h.1 dC),zac (.inl rfl),Tp,h];rfl
def adn (h:MJ s=none):jJ p 2 s=(xP s).map λg=>(⟨p.wh,p.cols,g⟩,3):=by
 unfold jJ;rw[zab dC,<-adl]
 by_cases e:(jI s).1=Bn
 .rw[zac ⟨rfl,e⟩,zac e]
 rw[zab λh=>e h.2,zac (.inr rfl),Tp,h,zab e];rfl
def ado:jJ p 3 s=none:=by
 unfold jJ;rw[zab dC,zab (λh=>zar h.1 dC),zab dC]
def abo: ∀(l:List (L8)) (p:aU) (st:Int),st=1\/st=2->goG p st l=
    if l.length<=(lC l).length then(some (⟨p.wh,p.cols++lC l,p.group⟩,if(lC l).length=0 then st else 2),(lC l).length)
    else if st=1/\(lC l).length=0 then(none,0)
    else match xP (l.getD (lC l).length [])with
      | none=>(none,(lC l).length)
      | some g=>if l.length=(lC l).length+1 then(some (⟨p.wh,p.cols++lC l,g⟩,3),(lC l).length+1)else(none,(lC l).length+1)
  | [],p,st,_=>by
    unfold goG lC;simp
  | x::l,p,st,dJ=>by
    cases ho:MJ x with
    | some o=>
      have hc:lC (x::l)=o::lC l:=by rw[lC,ho]
      rw[goG,agc dJ ho,hc];dsimp only;rw[abo l _ 2 (.inr rfl)];simp only[zas,Nat.add_le_add_iff_right,zga,Nat.add_right_cancel_iff];rw[zab (show ¬((lC l).length+1=0)from oM),zab (show ¬(st=1/\(lC l).length+1=0)from oM),zab (show ¬((2:Int)=1/\(lC l).length=0)from oM)]
      split
      . simp
      cases xP (l.getD (lC l).length [])with
      | none=>rfl
      | some g=>dsimp only;split<;>simp
    | none=>
      have hc:lC (x::l)=[]:=by rw[lC,ho]
      rw[goG,hc];simp only[zas,zcb,zfg];rw[zab oM]
      rcases dJ with rfl | rfl
      . rw[Zo ho,zac sM]
      rw[adn ho,zab dC];cases xP x with
      | none=>rfl
      | some g=>
        show((goG _ 3 l).1,(goG _ 3 l).2+1)=if l.length+1=0+1 then _ else _
        cases l with
        | nil=>simp[goG]
        | cons y l=>rw[goG,ado,zab sM]
def MU (hs:s.length<=1048576):qC s=match goG mq 0 (if(jk s).2=true then(jk s).1 else(jk s).1.dropLast)with
    | (none,n)=>(mq,(n:Int),4)
    | (some r,n)=>if(jk s).2=false\/r.2≠3 then(mq,(n:Int),4)else if Dr r.1=false then(mq,0,2)else(r.1,0,0):=by
  obtain⟨ls,whole,hl⟩: ∃ls whole,jk s=(ls,whole):=⟨_,_,rfl⟩;have hdl:ls.dropLast=ls.take (ls.length-1):=List.dropLast_eq_take;unfold qC;rw[zab oM,hl];dsimp only;obtain⟨many,hm⟩: ∃many,many=if whole=true then ls.length else ls.length-1:=⟨_,rfl⟩
  have amG:many<=ls.length:=by rw[hm];split<;>omega
  have xY:(if whole=true then ls else ls.dropLast)=ls.take many:=by
    rw[hm]
    split
    . rw[zbr]
    exact hdl
  rw[<-hm,xY]
  by_cases h0:many<1
  . rw[zac h0,show many=0 from oM,zdf]
    unfold goG;dsimp only;rw[zac (.inr dC)];rfl
  rw[zab h0];cases ls with
  | nil=>simp at amG;omega
  | cons x l=>
    obtain⟨m,rfl⟩: ∃m,many=m+1:=⟨many-1,oM⟩;rw[zcy,zfg,goG,Zn rfl,List.drop_one,List.tail_cons];cases hw:GZ x with
    | none=>rfl
    | some wv=>
      dsimp only[Option.map];rw[abo _ _ 1 (.inl rfl)];have Gy:(l.take m).length=m:=by rw[zah];rw[zas]at amG;omega
      obtain⟨cs,hcs⟩: ∃cs,cs=lC (l.take m):=⟨_,rfl⟩;rw[<-hcs,Gy]
      by_cases h1:m<=cs.length
      . rw[zac h1,zac (.inl oM)]
        dsimp only;rw[zac (.inr (by split<;>decide)),zgh]
      rw[zab h1]
      by_cases h2:cs.length=0
      . rw[zac (.inr h2),zac ⟨rfl,h2⟩,h2]
      rw[zab oM,zab (λh=>h2 h.2)]
      have hgd:(x::l).getD (1+cs.length) []=(l.take m).getD cs.length []:=by
        rw[zgh,zga,zax,zax,zcs,zac oM]
      rw[hgd];cases xP ((l.take m).getD cs.length [])with
      | none=>dsimp only;rw[zgh]
      | some g=>
        dsimp only
        by_cases h3:m=cs.length+1
        . rw[zac h3]
          dsimp only;show(if 1+cs.length+1<l.length+1 then _ else _)=if whole=false\/¬((3:Int)=3)then _ else _
          cases whole with
          | true=>
            rw[zac rfl,zas]at hm;rw[zab oM,zab (show ¬(true=false\/¬(3:Int)=3)from sM)];rfl
          | false=>
            rw[zab dC,zas]at hm;rw[zac oM,zac (.inl rfl),zgh 1]
        rw[zab h3];dsimp only;rw[zac (by rw[zas];rw[zas]at amG;omega),zgh 1]
def Zp (hs:s.length<=1048576) (hw:(jk s).2=true) (h:uP (jk s).1=some (p,st)):
    qC s=if st≠3 then(mq,((jk s).1.length:Int),4)else if Dr p=false then(mq,0,2)else(p,0,0):=by
  rw[MU hs,zac hw,run_go _ h];dsimp only;rw[hw]
  by_cases e:st=3
  . rw[zab (show ¬(true=false\/st≠3) by simp[e]),zab (show ¬st≠3 from λh=>h e)]
  rw[zac (.inr e),zac e]
variable {x:L8}
def Zq {pre l:List (L8)} (hs:s.length<=1048576) (hl:(if(jk s).2=true then(jk s).1 else(jk s).1.dropLast)=pre++x::l) (h:uP pre=some (p,st)) (hx:jJ p st x=none):
    qC s=(mq,(pre.length:Int),4):=by
  rw[MU hs,hl,G7 pre _ _ _ _ _ (run_go _ h),goG,hx];dsimp only;rw[zcz]
def Zr (hs:s.length<=1048576) (hw:(jk s).2=false) (h:uP (jk s).1.dropLast=some (p,st)):
    qC s=(mq,((jk s).1.dropLast.length:Int),4):=by
  rw[MU hs,hw,zab dC,run_go _ h];dsimp only;rw[zac (.inl rfl)]
variable {n:Int}
def rU {t:L8}:(atoiAll t=.ok n/\0<=n/\itoa n=t/\n<=1048576)↔(pO t).map (λn:Nat=>((n:Nat):Int))=some n:=by
 constructor
 .rintro⟨_,h0,h1,h2⟩
  unfold itoa at h1;rw[zab oM]at h1;unfold pO;rw[<-h1,xG];show Option.map _ (if decDigits n.toNat=decDigits n.toNat/\n.toNat<=1048576 then some n.toNat else none)=_
  rw[zac ⟨rfl,oM⟩];show some ((n.toNat:Nat):Int)=some n
  rw[zcp h0]
 intro h;obtain⟨m,h1,rfl⟩:=zbc.1 h;unfold pO at h1;obtain⟨k,hk,h1⟩:=zdp.1 h1
 split at h1
 .rename_i e
  injection h1 with h1
  subst h1;refine⟨?_,oM,by unfold itoa;rw[zab oM,zdq];exact e.1,oM⟩;rw[<-e.1];have iN:=qM k;have aqR:=pE k;cases hd:decDigits k with
  | nil=>exact zar hd iN
  | cons c r=>
   have hc:=aqR c (by rw[hd];simp);unfold tH at hc;simp only[decide_eq_true_eq,zbq]at hc
   have hm:parseMag (decDigits k)=.ok k:=by
    rw[parseMag,zab iN,Ab _ 0 k (xG k) oM]
   rw[hd]at hm;unfold atoiAll;dsimp only;rw[zab oM,hm];dsimp only;rw[zab oM,zab oM,zab oM]
 cases h1
def lV (l:L8):L8:=l++[10]
def Wq {a b:L8} (h:lV a=lV b):a=b:=List.append_cancel_right h
def Fy: ∀{a b:List (L8)},a.map lV=b.map lV->a=b
 | [],[],_=>rfl
 | [],b::l,h=>by cases h
 | a::l,[],h=>by cases h
 | a::l,b::m,h=>by
  injection h with h1 h2
  rw[Wq h1,Fy h2]
def rV (s:L8):List (L8):=(cB 10 s).dropLast.map lV++(if(cB 10 s).getLast?=some []then []else [(cB 10 s).getLastD []])
def Qm (s:L8):List (L8):=if(jk s).2=true then(jk s).1 else(jk s).1.dropLast
def Ws:rV []=[]:=rfl
variable {l:L8}
def Tq (h:Lib.indexByte l 10= -1):cB 10 l=[l]:=
 Ew λc hc e=>by
  obtain⟨k,hk⟩:=zdb hc;exact Lib.indexByte_none h k (by rw[hk,e])
def Fz {o:Nat} (h:Lib.indexByte l 10=o):o<l.length/\l.take (o+1)=lV (l.take o)/\cB 10 l=l.take o::cB 10 (l.drop (o+1)):=by
 obtain⟨h1,h2⟩:=Lib.indexByte_some h;have aS:=(zbb.1 h1).1
 have e:l=l.take o++10::l.drop (o+1):=by
  have e1:l.drop o=10::l.drop (o+1):=by
   rw[zbn aS]
   congr 1
   rw[zaa aS]at h1;injection h1
  conv=>lhs;rw[<-zbs o l,e1]
 refine⟨aS,by rw[zay,h1];rfl,?_⟩
 have:=JG (sep:=10) (w:=l.take o) (l:=l.drop (o+1)) λc hc e=>by
  obtain⟨k,hk⟩:=zdb hc;rw[zcs]at hk
  split at hk
  .exact h2 k oM (by rw[hk,e])
  cases hk
 rw[<-this,<-e]
def adp (h:Lib.indexByte l 10= -1) (iN:l≠[]):rV l=[l]:=by
 unfold rV;rw[Tq h];simp[iN]
def adq {o:Nat} (h:Lib.indexByte l 10=o):rV l=l.take (o+1)::rV (l.drop (o+1)):=by
 obtain⟨_,h2,h3⟩:=Fz h;have iN:=G6 (l.drop (o+1));unfold rV;rw[h3,h2];cases hs:cB 10 (l.drop (o+1))with
 | nil=>exact zar hs iN
 | cons a r=>
  rw[List.dropLast_cons_of_ne_nil sM];simp
def Zt {s:L8}: ∀w∈cB 10 s,∀c∈w,c≠10:=by
 induction s with
 | nil=>intro w hw c hc;simp[cB]at hw;subst hw;cases hc
 | cons x l ih=>
  intro w hw c hc
  by_cases hx:x=10
  .rw[cB,zac hx]at hw
   rcases zba.1 hw with rfl | hw
   .cases hc
   exact ih w hw c hc
  obtain⟨w1,ws,e1,e2⟩:=pX (sep:=10) (l:=l) hx;rw[e2]at hw;rw[e1]at ih
  rcases zba.1 hw with rfl | hw
  .rcases zba.1 hc with rfl | hc
   .exact hx
   exact ih w1 sM c hc
  exact ih w (zat _ hw) c hc
def Wt (s:L8): ∃T,rV s=(Qm s).map lV++T/\((T=[]/\(jk s).2=true)\/(∃x,T=[x]/\(jk s).2=false/\∀c∈x,c≠10)):=by
 have iN:=G6 s;unfold rV Qm jk
 by_cases h:(cB 10 s).getLast?=some []
 .rw[zac h,zac h]
  exact⟨[],sM,.inl ⟨rfl,rfl⟩⟩
 rw[zab h,zab h];refine⟨[(cB 10 s).getLastD []],sM,.inr ⟨_,rfl,rfl,?_⟩⟩;refine Zt (s:=s) _ ?_;rw[List.getLastD_eq_getLast?,List.getLast?_eq_some_getLast iN];exact List.getLast_mem iN
def Zu {ls:List (L8)} (h:ls.map lV++[x]<+:rV s):(∃l rest,x=lV l/\Qm s=ls++l::rest)\/((jk s).2=false/\ls=Qm s/\∀c∈x,c≠10):=by
 obtain⟨T,hT,hc⟩:=Wt s;obtain⟨t,ht⟩:=h;rw[hT,zbm,List.singleton_append]at ht
 rcases List.append_eq_append_iff.1 ht with⟨a,h1,h2⟩ | ⟨c,h1,h2⟩
 .obtain⟨l1,l2,e,e1,e2⟩:=List.map_eq_append_iff.1 h1
  have e1':=Fy e1;subst e1';cases l2 with
  | nil=>
   subst e2;rw[zcl,zbu]at h2
   rcases hc with⟨rfl,_⟩ | ⟨y,rfl,hw,hy⟩
   .cases h2
   injection h2 with h2 _
   subst h2;rw[zbw]at e;exact .inr ⟨hw,e.symm,hy⟩
  | cons l l2=>
   subst e2;injection h2 with h2 _
   exact .inl ⟨l,l2,h2,e⟩
 rcases hc with⟨rfl,_⟩ | ⟨y,rfl,hw,hy⟩
 .cases c<;>cases h2
 cases c with
 | nil=>
  rw[zbw]at h1;injection h2 with h2 _
  subst h2;exact .inr ⟨hw,Fy h1,hy⟩
 | cons z c=>injection h2 with _ h2;cases c<;>cases h2
def ai4 {ls:List (L8)} (h:rV s=ls.map lV):(jk s).2=true/\(jk s).1=ls:=by
 obtain⟨T,hT,hc⟩:=Wt s;rw[hT]at h
 rcases hc with⟨rfl,hw⟩ | ⟨y,rfl,hw,hy⟩
 .rw[zbw]at h
  have:=Fy h;unfold Qm at this;rw[zac hw]at this;exact⟨hw,this⟩
 obtain⟨l1,l2,e,e1,e2⟩:=List.map_eq_append_iff.1 h.symm;cases l2 with
 | nil=>cases e2
 | cons l l2=>
  injection e2 with e2 _
  exact zar rfl (hy 10 (by rw[<-e2];unfold lV;simp))
def Ke (s:L8): ∀w∈cB 10 s,w.length<=s.length:=by
  induction s with
  | nil=>
   intro w h;have :w=[]:=by simpa[cB]using h
   rw[this];simp
  | cons c l ih=>
    intro w h
    by_cases hc:c=10
    . rw[cB,zac hc]at h
      rcases zba.1 h with rfl | h
      . simp
      have:=ih w h;simp only[zas];omega
    obtain⟨H,ws,e1,e2⟩:=pX (sep:=10) (l:=l) hc;rw[e2]at h;rw[e1]at ih
    rcases zba.1 h with rfl | h
    . have:=ih H sM
      simp only[zas];omega
    have:=ih w (zat _ h);simp only[zas];omega
def ai5 (h:x∈rV s):x.length<=s.length+1:=by
 unfold rV at h
 rcases zbk.1 h with h | h
 .obtain⟨y,hy,rfl⟩:=zaq.1 h
  have:=Ke s y ((List.dropLast_sublist _).subset hy);unfold lV;rw[zad,zae];omega
 split at h
 .cases h
 rw[zau]at h;subst h;have iN:=G6 s;have:=Ke s _ (List.getLast_mem iN);rw[List.getLastD_eq_getLast?,List.getLast?_eq_some_getLast iN];show((cB 10 s).getLast iN).length<=_
 omega
def agd (s:L8):(rV s).length<=s.length+1:=by
 have h1:=Kc 10 s;have h2:s.count 10<=s.length:=List.count_le_length;have h0:0<(cB 10 s).length:=oM;unfold rV;rw[zad,zaf,List.length_dropLast]
 split<;>simp only[zcb,zas]<;>omega
def ai6 {J:List (L8)->aU->Int->Prop} (h0:J [] mq 0) (hs: ∀m x p t p' t',J m p t->jJ p t x=some (p',t')->J (m++[x]) p' t'): ∀(ls:List (L8)) {p:aU} {st:Int},uP ls=some (p,st)->J ls p st:=by
 intro ls
 have key: ∀n (ls:List (L8)),ls.length=n->∀{p:aU} {st:Int},uP ls=some (p,st)->J ls p st:=by
  intro n
  induction n with
  | zero=>
   intro l hl p st h;have:=zbg hl;subst this;injection h with h
   injection h with h1 h2
   subst h1;subst h2;exact h0
  | succ n ih=>
   intro l hl p st h;obtain⟨m,x,rfl⟩:=abn (show l≠[] by intro e;rw[e]at hl;cases hl);rw[MR]at h;obtain⟨⟨p',t'⟩,h1,h2⟩:=zdp.1 h;exact hs m x p' t' p st (ih m (by rw[zad,zae]at hl;omega) h1) h2
 exact λ{p st} h=>key ls.length ls rfl h
def Zv {p':aU} {t t':Int} (h:jJ p t x=some (p',t')):(p'.wh=p.wh\/∃y,p'.wh=(d9 y).1)/\(p'.cols=p.cols\/∃n y,p'.cols=p.cols++[⟨n,(d9 y).1⟩])/\(t'=1\/t'=2\/t'=3):=by
 unfold jJ at h
 split at h
 .split at h
  .split at h
   .injection h with h;injection h with e1 e2;subst e1;subst e2;exact⟨.inl rfl,.inl rfl,.inl rfl⟩
   obtain⟨y,hy,h⟩:=zbc.1 h;unfold nI at hy
   split at hy
   .injection hy with hy
    injection h with e1 e2;subst e1;subst e2;exact⟨.inr ⟨_,hy.symm⟩,.inl rfl,.inl rfl⟩
   cases hy
  cases h
 split at h
 .obtain⟨y,_,h⟩:=zbc.1 h
  injection h with e1 e2;subst e1;subst e2;exact⟨.inl rfl,.inl rfl,.inr (.inr rfl)⟩
 split at h
 .obtain⟨o,ho,h⟩:=zbc.1 h
  unfold Zm at ho
  split at ho
  .obtain⟨l,hl,ho⟩:=zbc.1 ho
   unfold nI at hl
   split at hl
   .injection hl with hl
    subst hl;subst ho;injection h with e1 e2;subst e1;subst e2;exact⟨.inl rfl,.inr ⟨_,_,rfl⟩,.inr (.inl rfl)⟩
   cases hl
  cases ho
 cases h
def Bo (p:aU):Prop:=aZ p.wh/\∀o∈p.cols,aZ o.steps
def Wu (ls:List (L8)) (h:uP ls=some (p,st)):p.cols.length<=ls.length/\(st=0\/st=1\/st=2\/st=3)/\Bo p:=by
 refine ai6 (J:=λls p st=>p.cols.length<=ls.length/\(st=0\/st=1\/st=2\/st=3)/\Bo p) ⟨zbj _,.inl rfl,(λx hx=>zar hx zan),λo ho=>zar ho zan⟩ (λm x p t p' t' hJ hl=>?_) ls h;obtain⟨h1,h2,h3,h4⟩:=hJ;obtain⟨c1,c2,c3⟩:=Zv hl;rw[zad,zae];refine⟨?_,oM,?_,λo ho=>?_⟩
 .rcases c2 with e | ⟨n,y,e⟩
  .rw[e];omega
  rw[e,zad,zae];omega
 .rcases c1 with e | ⟨y,e⟩
  .rw[e];exact h3
  rw[e];exact ME y
 rcases c2 with e | ⟨n,y,e⟩
 .rw[e]at ho;exact h4 o ho
 rw[e]at ho
 rcases zbk.1 ho with ho | ho
 .exact h4 o ho
 rw[zau]at ho;subst ho;exact ME y
/-! The chapter's examples. -/
open Go.RowKit
def fQ (X:Wd->Prop):HP where
 ok F w:=(∀w',w.heap.size<=w'.heap.size->(∀b,F b->w'.heap[b]? =w.heap[b]?)->X w')/\∀b,F b->b<w.heap.size
 loc hs h eZ:=⟨λw' hs' h'=>eZ.1 w' (zda hs hs') λb hb=>(h' b hb).trans (h b hb),λb hb=>Nat.lt_of_lt_of_le (eZ.2 b hb) hs⟩
 low h:=h.2
section
variable {F:NP} {w w' w0:Wd} {S:NP} {rs:List HP} {put:HP->List HP} {p q:HP} {X Y Z:Wd->Prop}
def HP.look (h:p.ok F w) (hX: ∀F w,p.ok F w->X w):(fQ X).ok F w:=⟨λw' hs h'=>hX F w' (p.loc hs h' h),p.low h⟩
def rW (h:(fQ X).ok F w):X w:=h.1 w (zbj _) λ_ _=>rfl
def Sep.look (H:Sep w0 S rs w) (hat:At rs p put) (hX: ∀F w,p.ok F w->X w):Sep w0 S (put (fQ X)) w:=H.imp hat λ_ hF=>HP.look hF hX
def Sep.sees (H:Sep w0 S rs w) (hat:At rs (fQ X) put):X w:=by
 obtain⟨F,hp,_,_⟩:=H.focus hat;exact rW hp
def Sep.l6 (H:Sep w0 S (fQ X::fQ Y::rs) w) (hZ: ∀w,X w->Y w->Z w):Sep w0 S (fQ Z::rs) w:=
 Sep.look H.aQ At0 λF w hF=>by
  obtain⟨F1,F2,_,_,h1,h2⟩:=hF;exact hZ w (rW h1) (rW h2)
def Sep.qE (H:Sep w0 S rs w) (h: ∀w,X w):Sep w0 S (fQ X::rs) w:=
 Sep.look (Sep.lu (φ:=True) trivial H) At0 λ_ w _=>h w
def Sep.qF (H:Sep w0 S rs w) (hat:At rs (fQ X) put) (h: ∀w,X w->Y w):Sep w0 S (put (fQ Y)) w:=Sep.look H hat λ_ _ hF=>h _ (rW hF)
end
section
variable {F:NP} {w w' w0:Wd} {S:NP} {rs:List HP} {put:HP->List HP} {v x:Value} {e k:Nat} {α:Type} {enc:α->LV}
def nL [je enc k] {l:List α} (h:(aY e k enc v l).ok F w):aJ w v enc k l:=by
 have H:=Sep.bR h;obtain⟨A,c,rfl,hc,hR⟩:=H.bJ At0;exact⟨A,c,rfl,⟨hc,Sep.aiR H At0⟩,hR⟩
def jG [je enc k] {l:List α} (H:Mw.Sep w0 S rs w) (hat:At rs (aY e k enc v l) put):aJ w v enc k l:=by
 obtain⟨F,hp,_,_⟩:=H.focus hat;exact nL hp
def FB {α:Type} (v:Value) (enc:α->LV) (k:Nat) (l:List α):HP:=fQ λw=>aJ w v enc k l
def dU [je enc k] {l:List α} (H:Mw.Sep w0 S rs w) (hat:At rs (aY e k enc v l) put):Mw.Sep w0 S (put (FB v enc k l)) w:=Sep.look H hat λ_ _ h=>nL h
def Al (r:List (L8×Value)) (l:List nO):HP:=fQ λw=>o7 w r l
def Qo (v:Value) (p:aU):HP:=fQ λw=>gX w v p
variable {r:List (L8×Value)} {l:List nO} {s:List bI} {n:L8} {vw vc:Value} {p:aU}
def Em (H:Mw.Sep w0 S rs w):Mw.Sep w0 S (Al [] []::rs) w:=Sep.qE H λ_=>o7.nil
def Bp (H:Mw.Sep w0 S (aY e 3 aM x s::Al r l::rs) w):Mw.Sep w0 S (Al (r++[(n,x)]) (l++[⟨n,s⟩])::rs) w:=
 Sep.l6 (dU H At0) λ_ h1 h2=>h2.push h1
def Wv {g:Int} {cols:List nO} (H:Mw.Sep w0 S (FB vw aM 3 s::aY e 2 dL vc r::Al r cols::rs) w):Mw.Sep w0 S (Qo (agg [vw,vc,I g]) ⟨s,cols,g⟩::rs) w:=by
 have k:=(dU H At1).aG.aN;have a:=Sep.l6 (Z:=λw=>G5 w vc cols) k λ_ h1 h2=>⟨r,h2,h1⟩;exact Sep.l6 a λ_ h1 h2=>⟨vw,vc,rfl,h2,h1⟩
end
variable {F S:NP} {w w' w0:Wd} {rs:List HP} {p q:HP}
def aA (x:Value×Int):LV:=[x.1,I x.2]
instance:je aA 2:=⟨λ_=>rfl⟩
def gL (w:Wd) (r:List (Value×Int)) (l:List aH):Prop:=r.map (·.2)=l.map (·.w)/\∀(i:Nat) x o,r[i]? =some x->l[i]? =some o->aJ w x.1 ah 3 o.row
def dI (w:Wd) (v:Value) (l:List aH):Prop:=∃r,aJ w v aA 2 r/\gL w r l
variable {v:Value} {r r':List (Value×Int)} {l l':List aH}
def gL.len (h:gL w r l):r.length=l.length:=by
 have:=zaw List.length h.1;simpa using this
def gL.keep (h:gL w r l) (hk:Kept noB w w'):gL w' r l:=⟨h.1,λi x o hx ho=>(h.2 i x o hx ho).keep hk⟩
def dI.keep (h:dI w v l) (hk:Kept noB w w'):dI w' v l:=by
 obtain⟨r,h1,h2⟩:=h;exact⟨r,h1.keep hk,h2.keep hk⟩
def gL.nil:gL w [] []:=⟨rfl,λi x o hx=>by simp at hx⟩
def gL.app (h:gL w r l) (h':gL w r' l'):gL w (r++r') (l++l'):=by
 have hl:=h.len;refine⟨by rw[zai,zai,h.1,h'.1],λi y o hy ho=>?_⟩
 by_cases hi:i<r.length
 .rw[zcj hi]at hy
  rw[zcj oM]at ho;exact h.2 i y o hy ho
 rw[zby oM]at hy ho;rw[<-hl]at ho;exact h'.2 _ y o hy ho
def gL.one {x:Value} {o:aH} (hx:aJ w x ah 3 o.row):gL w [(x,o.w)] [o]:=by
 refine⟨rfl,λi y o' hy ho=>?_⟩;cases i with
 | zero=>
  rw[zce]at hy ho;injection hy with hy
  injection ho with ho
  subst hy;subst ho;exact hx
 | succ j=>simp at hy
def gL.push {x:Value} {o:aH} (h:gL w r l) (hx:aJ w x ah 3 o.row):gL w (r++[(x,o.w)]) (l++[o]):=h.app (.one hx)
def gL.at (h:gL w r l) {i:Nat} (hi:i<l.length): ∃x,r[i]? =some (x,l[i].w)/\aJ w x ah 3 l[i].row:=by
 have hl:=h.len;have hr:r[i]? =some r[i]:=zaa oM
 have hn:r[i].2=l[i].w:=by
  have:=zaw (λz=>z[i]?) h.1;simp only[zbz]at this;rw[hr,zaa hi]at this;injection this
 exact⟨r[i].1,by rw[hr,<-hn],h.2 i _ _ hr (zaa hi)⟩
def gL.get (h:gL w r l) {i:Nat} {o:aH} (ho:l[i]? =some o): ∃x,r[i]? =some (x,o.w)/\aJ w x ah 3 o.row:=by
 obtain⟨hi,e⟩:=zbb.1 ho;subst e;exact h.at hi
def gL.take (h:gL w r l) (n:Nat):gL w (r.take n) (l.take n):=⟨by rw[zfe,zfe,h.1],λi x o hx ho=>by
 rw[zcs]at hx ho
 split at hx
 .rename_i hi;rw[zac hi]at ho;exact h.2 i x o hx ho
 cases hx⟩
def gL.drop (h:gL w r l) (n:Nat):gL w (r.drop n) (l.drop n):=⟨by rw[zff,zff,h.1],λi x o hx ho=>by
 rw[zci]at hx ho;exact h.2 _ x o hx ho⟩
section
variable {F:NP} {w w' w0:Wd} {S:NP} {rs:List HP} {put:HP->List HP} {v x:Value} {r:List (Value×Int)} {l:List aH} {o:aH}
def Bq (v:Value) (l:List aH):HP:=fQ λw=>dI w v l
def MV (r:List (Value×Int)) (l:List aH):HP:=fQ λw=>gL w r l
def G9 (H:Mw.Sep w0 S rs w):Mw.Sep w0 S (MV [] []::rs) w:=Sep.qE H λ_=>gL.nil
def Ww (H:Mw.Sep w0 S (FB x ah 3 o.row::MV r l::rs) w):Mw.Sep w0 S (MV (r++[(x,o.w)]) (l++[o])::rs) w:=
 Sep.l6 H λ_ h1 h2=>h2.push h1
def rC (H:Mw.Sep w0 S (aY 41 3 ah x o.row::MV r l::rs) w):Mw.Sep w0 S (MV (r++[(x,o.w)]) (l++[o])::rs) w:=Ww (dU H At0)
/-! Items that are owned whole:L has each item beside the value of its row. -/
abbrev Held:=Value×aH
def aO (L:List Held):List (Value×Int):=L.map λb=>(b.1,b.2.w)
def dV (v:Value) (L:List Held):HP:=star (aY 39 2 aA v (aO L)) (vJ 41 3 ah (·.1) (λb=>b.2.row) L)
def yG: ∀{L:List Held} {F:NP} {w:Wd},(vJ 41 3 ah (·.1) (λb:Held=>b.2.row) L).ok F w->gL w (aO L) (L.map (·.2))
 | [],_,_,_=>gL.nil
 | b::L,F,w,h=>by
  obtain⟨F1,F2,_,_,h1,h2⟩:=h;exact gL.app (gL.one (nL h1)) (yG h2)
def Qp {L:List Held} (h:(dV v L).ok F w):dI w v (L.map (·.2)):=by
 obtain⟨F1,F2,_,_,h1,h2⟩:=h;exact⟨_,nL h1,yG h2⟩
def O6 {L:List Held} (H:Mw.Sep w0 S rs w) (hat:At rs (dV v L) put):Mw.Sep w0 S (put (Bq v (L.map (·.2)))) w:=Sep.look H hat λ_ _ h=>Qp h
def fV {L:List Held} (H:Mw.Sep w0 S rs w) (hat:At rs (dV v L) put):dI w v (L.map (·.2)):=by
 obtain⟨F,hp,_,_⟩:=H.focus hat;exact Qp hp
def bD (H:Mw.Sep w0 S rs w):Mw.Sep w0 S (vJ 41 3 ah (·.1) (λb:Held=>b.2.row) []::rs) w:=Sep.ab0 H _ _ _ _ _
def iR {L:List Held} (H:Mw.Sep w0 S (aY 41 3 ah x o.row::vJ 41 3 ah (·.1) (λb:Held=>b.2.row) L::rs) w):
    Mw.Sep w0 S (vJ 41 3 ah (·.1) (λb:Held=>b.2.row) (L++[(x,o)])::rs) w:=Sep.XZ (x:=(x,o)) H
end
section
variable {P:Program} {r:Option Nat} {n:Nat} {ops:AO} {Q:Post} {rest:LO} {σ:St} {w w0:Wd} {S:NP} {rs:List HP} {put:HP->List HP} {ty:Td} {pos:String} {after:Array Edge} {p q:HP}
end
def ads (v v':Value):Prop:=∀(w:Wd) ns,aJ w v intCells 1 ns->∃ns',aJ w v' intCells 1 ns'
def ads.refl (v:Value):ads v v:=λ_ ns h=>⟨ns,h⟩
def ads.trans {a b c:Value} (h:ads a b) (k:ads b c):ads a c:=λw ns h1=>let⟨ns',h2⟩:=h w ns h1;k w ns' h2
variable {b:Nat} {v0:Value}
def Sep.Ja {put:HP->List HP} (H:Sep w0 S (q::rs) w) (hat:At rs p put):
    ∃F,p.ok F w/\(∀b,F b->S b\/w0.heap.size<=b)/\(∀w1,Kept F w w1->∃Fq,q.ok Fq w1)/\∀w' F' p',Kept F w w'->p'.ok F' w'->(∀b,F' b->F b\/w.heap.size<=b)->Sep w0 S (q::put p') w':=by
  obtain⟨F,Fq,hp,hq,hd,hS,j5⟩:=H.ahj hat;exact⟨F,hp,hS,λw1 hk=>⟨Fq,q.loc hk.size (λb hb=>hk.block b (q.low hq b hb) (hd b hb)) hq⟩,j5⟩
def Kept.into {w1:Wd} (h:Kept S w0 w) (hS: ∀b,F b->S b\/w0.heap.size<=b) (h1:Kept F w w1):Kept S w0 w1:=h.trans h1 λb hb=>hS b hb
def upN (ns:List Int) (x:bC) (m:Nat):List Int:=ns.mapIdx λt n=>if t<m then n+EY x t else n
def Tt (ns:List Int) (x:bC) (m:Nat):(upN ns x m).length=ns.length:=by unfold upN;rw[List.length_mapIdx]
def agf (ns:List Int) (x:bC):upN ns x 0=ns:=by
 unfold upN;refine zey λi=>?_;rw[zek];cases ns[i]? with
 | none=>rfl
 | some n=>simp
variable {m:Nat}
def zJ {ns:List Int} {x:bC} {t:Nat} (h:ns[t]? =some n):(upN ns x m)[t]? =some (if t<m then n+EY x t else n):=by
 unfold upN;rw[zek,h];rfl
def abp {ns:List Int} {x:bC} (h:ns[m]? =some n):(upN ns x m).set m (n+EY x m)=upN ns x (m+1):=by
  refine zey λt=>?_;rw[List.getElem?_set,Tt]
  by_cases e:m=t
  . subst e
    rw[zac rfl,zac (zbb.1 h).1,zJ h,zac (zfl _)]
  rw[zab e];cases ht:ns[t]? with
  | none=>unfold upN;rw[zek,zek,ht];rfl
  | some k=>
   rw[zJ ht,zJ ht];congr 1;by_cases h2:t<m
   . rw[zac h2,zac oM]
   rw[zab h2,zab oM]
def agh {ns:List Int} {x:bC} (h:EY x m=0):upN ns x (m+1)=upN ns x m:=by
 refine zey λt=>?_;cases ht:ns[t]? with
 | none=>unfold upN;rw[zek,zek,ht];rfl
 | some k=>
  rw[zJ ht,zJ ht];congr 1
  by_cases h2:t<m
  .rw[zac h2,zac oM]
  rw[zab h2]
  by_cases h3:t=m
  .subst h3;rw[zac oM,h];omega
  rw[zab oM]
def ai7 {sums:Nat} {E:List bC} {x:bC}:upN (dW sums E x.key) x (sums+1)=dW sums (E++[x]) x.key:=by
 refine zey λt=>?_
 by_cases ht:t<=sums
 .rw[zJ (yE ht),yE ht,zac oM,uI]
  congr 1
  show _=_+((if x.key=x.key then EY x t else 0)+0)
  rw[zac rfl];omega
 rw[zdl (by rw[Tt,lg];omega),zdl (by rw[lg];omega)]
def Zw {sums:Nat} {E:List bC} {x:bC} {k:List aC} (h:x.key≠k):dW sums (E++[x]) k=dW sums E k:=by
 unfold dW;refine zco λi _=>?_;rw[uI];show _+((if x.key=k then EY x i else 0)+0)=_
 rw[zab h];omega
open Go.ChangeShapes Go.WideShapes Go.Proofs.Tryz
def apX {α:Type} {enc:α->LV} {k bs e:Nat} [hk:je enc k] {x:α} (H:Mw.Sep w0 S (blk bs ([x].flatMap enc) e::rs) w):Mw.Sep w0 S (aY e k enc (.slice (some ⟨bs,0,none⟩) 1 1) [x]::rs) w:=
 Sep.nM (n:=1) H At0 (jq hk.len [x]) dC
section
variable {H:Type} {enc:Td×Value->H} {W:Wd} {r:Reach} {base:Nat} {v:Value} {d:DataW H} {ps:List MemPlace}
end
def nameSet:L8:=[97,98,99,100,101,102,103,104,105,106,107,108,109,110,111,112,113,114,115,116,117,118,119,120,121,122,48,49,50,51,52,53,54,55,56,57,95]
def Wx (c:UInt8):nameSet.contains c=mY c:=by
 have key: ∀n:Fin 256,nameSet.contains (UInt8.ofNat n.val)=mY (UInt8.ofNat n.val):=by decide+kernel
 have:=key ⟨c.toNat,c.toNat_lt⟩;simpa using this
def dropWhile_nil {α:Type} {p:α->Bool}: ∀{l:List α},l.dropWhile p=[]↔∀x∈l,p x=true
 | []=>sM
 | x::l=>by
  have ih:=dropWhile_nil (p:=p) (l:=l)
  by_cases h:p x=true
  .rw[List.dropWhile_cons_of_pos h,ih]
   simp[h]
  rw[List.dropWhile_cons_of_neg h];simp[h]
def adt (r:Nat):Bool:=decide ((r<97\/122<r)/\(r<48\/57<r)/\r≠95)
def adu (c:UInt8):mY c=true->c.toNat<128/\adt c.toNat=false:=by
 intro h;unfold mY Tk tH at h;simp only[Bool.or_eq_true,decide_eq_true_eq]at h;have h95:c=95->c.toNat=95:=λe=>by rw[e];rfl
 have hc:(97<=c.toNat/\c.toNat<=122)\/c.toNat=95\/(48<=c.toNat/\c.toNat<=57):=by
  rcases h with(h | h) | h
  .exact .inl h
  .exact .inr (.inl (h95 h))
  exact .inr (.inr h)
 exact⟨oM,zal oM⟩
def alN (r:Nat):aR prog 123 [I32 r] w λv w'=>v=.bool (adt r)/\w=w':=by
 unfold adt;refine cK func123 ?_;refine Sz (λH=>?_) (λH=>?_)
 .refine Sz (λH=>?_) (λH=>?_)
  .refine Zb7 ?_
   exact⟨by first | exact zaw Value.bool (Eq.symm (zal oM)) | exact zaw Value.bool (Eq.symm (zap oM)) | exact zaw Value.bool (zbf.2 oM),rfl⟩
  refine Sz (λH=>?_) (λH=>?_)
  .refine Zb4 ?_
   exact⟨by first | exact zaw Value.bool (Eq.symm (zal oM)) | exact zaw Value.bool (Eq.symm (zap oM)) | exact zaw Value.bool (zbf.2 oM),rfl⟩
  refine Zb2 ?_;exact⟨by first | exact zaw Value.bool (Eq.symm (zal oM)) | exact zaw Value.bool (Eq.symm (zap oM)) | exact zaw Value.bool (zbf.2 oM),rfl⟩
 refine Sz (λH=>?_) (λH=>?_)
 .refine Sz (λH=>?_) (λH=>?_)
  .refine Zb7 ?_
   exact⟨by first | exact zaw Value.bool (Eq.symm (zal oM)) | exact zaw Value.bool (Eq.symm (zap oM)) | exact zaw Value.bool (zbf.2 oM),rfl⟩
  refine Sz (λH=>?_) (λH=>?_)
  .refine Zb4 ?_
   exact⟨by first | exact zaw Value.bool (Eq.symm (zal oM)) | exact zaw Value.bool (Eq.symm (zap oM)) | exact zaw Value.bool (zbf.2 oM),rfl⟩
  refine Zb2 ?_;exact⟨by first | exact zaw Value.bool (Eq.symm (zal oM)) | exact zaw Value.bool (Eq.symm (zap oM)) | exact zaw Value.bool (zbf.2 oM),rfl⟩
 refine Zb4 ?_;exact⟨by first | exact zaw Value.bool (Eq.symm (zal oM)) | exact zaw Value.bool (Eq.symm (zap oM)) | exact zaw Value.bool (zbf.2 oM),rfl⟩
def Qq {p:Bool} (c:UInt8) (hc:w.cell? ⟨b,c.toNat,none⟩=some (.bool p)):aR prog 244 [ay b,.int .u8 c.toNat] w λv w'=>v=.bool p/\w=w':=
 j6 (Tryz.asciiSet_contains b c p w hc)
def Wy {p:UInt8->Bool} (s:L8) (y9: ∀c:UInt8,w.cell? ⟨b,c.toNat,none⟩=some (.bool (p c))):Rk prog 168 [str s,ay b] w (str (s.dropWhile p)):=by
 have H:=Sep.aF w;refine bQ func168 ?_;refine Zb1 ?_;refine aI (λt:L8=>[(0,str t),(1,ay b)]) (λt w'=>t.dropWhile p=s.dropWhile p/\Sep w noB [] w') (λt _=>t.length) s tR ⟨rfl,H⟩ (λt τ w3 hI=>?_);obtain⟨ht,H3⟩:=hI;refine Lp ?_;refine Cz (λYz=>?_) (λYz=>?_)
 .obtain⟨c,r,rfl⟩: ∃c r,t=c::r:=zfc oM
  refine Zb2 ?_;refine Vv (Gives.yT (l:=c::r) (i:=0) rfl rfl sM) ?_;refine eB (Qq c (H3.kept.cell (y9 c) id)) (h:=?_);refine Vv (Gives.not rfl) (Qn ?_);refine Cd rfl (λIe=>?_) (λIe=>?_)
  .have hp:p c=false:=by simpa using Ie
   refine Zb2 ?_;exact⟨by rw[<-ht,List.dropWhile_cons_of_neg (by rw[hp];decide)];rfl,H3.kept⟩
  have hp:p c=true:=by simpa using Ie
  refine Zb1 ?_;refine Vv (Gives.pW (l:=c::r) (i:=1) rfl rfl sM) ?_;refine Zb1 ?_;exact aj r tR ⟨by rw[<-ht,List.dropWhile_cons_of_pos hp],H3⟩ sM
 have he:t=[]:=zbg oM;subst he;refine Zb2 ?_;exact⟨by rw[<-ht];rfl,H3.kept⟩
def Tv {p:UInt8->Bool} (s:L8) (y9: ∀c:UInt8,w.cell? ⟨b,c.toNat,none⟩=some (.bool (p c))) (hl:s.length<=1000000):aR prog 169 [str s,ay b] w λv w'=>(∃n,v=str (s.take n)/\n<=s.length/\(∀(j:Nat) c,n<=j->s[j]? =some c->p c=true)/\∀m,n=m+1->∃c,s[m]? =some c/\p c=false)/\Kept noB w w':=by
 have H:=Sep.aF w;refine bQ func169 ?_;refine Zb1 ?_;refine aI (λn:Nat=>[(0,str (s.take n)),(1,ay b)]) (λn w'=>(n<=s.length/\∀(j:Nat) c,n<=j->s[j]? =some c->p c=true)/\Sep w noB [] w') (λn _=>n) s.length ⟨by rw[zbr];rfl,rfl,trivial⟩ ⟨⟨zbj _,λj c hj hc=>zar (fO hc) oM⟩,H⟩ (λn τ w3 hI=>?_);obtain⟨⟨hn,jE⟩,H3⟩:=hI;have AJ:(s.take n).length=n:=by rw[zah];omega
 refine Lp ?_;refine Cz (λYz=>?_) (λYz=>?_)
 .obtain⟨m,rfl⟩: ∃m,n=m+1:=⟨n-1,oM⟩
  obtain⟨c,hc⟩:=get_some (l:=s) (i:=m) oM;have hcd:(s.take (m+1)).getD m 0=c:=jr (by rw[zcs,zac oM];exact hc);have htt:(s.take (m+1)).take m=s.take m:=by rw[List.take_take,zdc oM]
  refine Zb4 ?_;refine Vc (m:Int) ?_;refine Vv (Gives.yT (i:=m) rfl rfl oM) ?_;rw[hcd];refine eB (Qq c (H3.kept.cell (y9 c) id)) (h:=?_);refine Vv (Gives.not rfl) (Qn ?_);refine Cd rfl (λIe=>?_) (λIe=>?_)
  .have hp:p c=false:=by simpa using Ie
   refine Zb2 ?_;exact⟨⟨m+1,rfl,hn,jE,λk hk=>⟨c,by rw[show k=m from oM];exact hc,hp⟩⟩,H3.kept⟩
  have hp:p c=true:=by simpa using Ie
  refine Zb3 ?_;refine Vc (m:Int) ?_;refine Vv (Gives.sw (i:=m) rfl rfl oM) ?_;rw[htt];refine Zb1 ?_;exact aj m tR ⟨⟨oM,λj d hj hd=>by
  by_cases e:j=m
  .subst e;rw[hc]at hd;injection hd with hd;rw[<-hd];exact hp
  exact jE j d oM hd⟩,H3⟩ oM
 have za:n=0:=oM;refine Zb2 ?_;exact⟨⟨n,rfl,hn,jE,λm hm=>oM⟩,H3.kept⟩
def Zx (l:L8) (hl:l.length<=1000) (h: ∀c∈l,c.toNat<128):Rk prog 167 [str l] w (.tuple #[.agg (setCells l),.bool true]):=
 Calls.mono (Tryz.strings_makeASCIISet (λ_=>kR) ⟨l.toArray⟩ w (by show l.toArray.size<_;rw[zft];omega) λj b hb=>h b (zag hb)) λe w' he=>by
  obtain⟨rfl,rfl⟩:=he;exact⟨rfl,Kept.alloc _ _⟩
def ai8 (s:L8) (iN:s≠[]) (hl:s.length<=1000000):aR prog 121 [str s,str nameSet] w λv w'=>(∃t,v=str t/\(t=[]↔s.all mY=true))/\Kept noB w w':=by
 have H:=Sep.aF w;have h37:nameSet.length=37:=rfl;have UZ:(setCells nameSet).toList.length=256:=by rw[Array.length_toList,setCells_size]
 have k: ∀u∈(setCells nameSet).toList,u.oneCell'=true:=λu hu=>by
  have:=setCells_one nameSet;rw[Array.all_eq_true_iff_forall_mem]at this;exact this u (by simpa using hu)
 refine bQ func121 ?_;refine Sz (λS=>?_) (λS=>?_)
 .exact zar S iN
 refine Cz (λS=>?_) (λS=>?_)
 .exact zar S dC
 refine Sz (λS=>?_) (λS=>?_)
 .exact zar S dC
 refine Kz (Zx nameSet dC dC) (λ_ S _=>?_);refine Zb3 ?_;refine M7 S (cs:=List.replicate 256 (.bool false)) (h:=λbs _ S _=>?_);refine QD S (us:=(setCells nameSet).toList) (cs':=(setCells nameSet).toList) rfl (by exact rfl) UZ k At0 (by rw[UZ];decide) (by rw[UZ];simp) (h:=λS k=>?_)
 have y9: ∀c:UInt8,S.cell? ⟨bs,c.toNat,none⟩=some (.bool (mY c)):=λc=>by
  have hb:=k.obj At0;have:=setCells_at nameSet c;rw[Wx]at this;rw[World.cell?,hb];simpa using this
 refine Za2 ?_;refine Qn (Cd rfl (λS=>?_) (λS=>?_))
 .refine Zb1 ?_
  refine aL (Tv (p:=mY) s y9 hl) rfl rfl (λv' _ hv=>?_);obtain⟨⟨m,rfl,hm,jE,as7⟩,bZ⟩:=hv;have I:=k.keep bZ;refine Kz (Wy (p:=mY) (s.take m) λc=>bZ.cell (y9 c) id) (λ_ I _=>?_);refine Zb1 ?_;exact⟨⟨_,rfl,by
  rw[dropWhile_nil,zaz];constructor
  .intro h c hc
   obtain⟨j,hj⟩:=zdb hc
   by_cases e:m<=j
   .exact jE j c e hj
   exact h c (zag (i:=j) (by rw[zcs,zac oM];exact hj))
  intro h c hc;exact h c (zcg hc)⟩,I.kept⟩
 exact aB S
def Wz {p:Nat->Bool} {l:L8} (h: ∀c∈l,c.toNat<128/\p c.toNat=false): ∀f pos:Nat,Lib.idxFuncFrom p true ⟨l.toArray⟩ f pos= -1
 | 0,_=>rfl
 | f+1,pos=>by
  unfold Lib.idxFuncFrom
  by_cases hp:pos<(⟨l.toArray⟩:ByteArray).size
  .have aS:pos<l.length:=by rw[Mw.size_mk]at hp;exact hp
   obtain⟨h1,h2⟩:=h l[pos] (List.getElem_mem aS)
   have e:Utf8.decode ⟨l.toArray⟩ pos=(l[pos].toNat,1):=by
    rw[<-Lib.decodeL_drop];show Lib.decodeL (l.drop pos)=_
    rw[zbn aS,Lib.decodeL_ascii _ _ h1]
   rw[zac hp,e,zab (by rw[h2];decide)];exact Wz h f _
  rw[zab hp]
def MW (s:L8) (jE:s.all mY=true):Rk prog 122 [str s,.func (.func 123) #[] #[]] w (.bool false):=by
 have hp:PredAt prog 123 #[] encR adt w:=λW r _=>Calls.mono (alN (w:=W) r) λe w' he=>by
  cases e with
  | returned v=>obtain⟨rfl,rfl⟩:=he;exact⟨rfl,0,rfl⟩
  | _=>exact he.elim
 have:=qZ (Tryz.strings_ContainsFunc 123 #[] (qm.run (P:=prog) (self:=eT)) adt ⟨s.toArray⟩ w hp)
 have e:decide (0<=Lib.idxFunc adt true ⟨s.toArray⟩)=false:=by
  unfold Lib.idxFunc;rw[Wz λc hc=>adu c (zaz.1 jE c hc)]
  decide
 rw[e]at this;exact this
def Qr (s:L8):Rk prog 78 [str s] w (.bool (eU s)):=by
 have H:=Sep.aF w;obtain⟨res,ak⟩: ∃res,res=eU s:=⟨_,rfl⟩;rw[<-ak];refine cK func78 ?_;refine Sz (λk=>?_) (λk=>?_)
 .have l9:res=false:=by rw[ak,k];rfl
  refine Zb6 ?_;exact⟨by rw[l9];rfl,H.kept⟩
 obtain⟨c,r,hcr⟩: ∃c r,s=c::r:=List.exists_cons_of_ne_nil k;have hlen:s.length=r.length+1:=by rw[hcr];rfl
 have hg0:s.getD 0 0=c:=by rw[hcr];rfl
 unfold eU at ak;rw[hg0]at ak;refine Sz (λk=>?_) (λk=>?_)
 .have l9:res=false:=by rw[ak,zal oM];rfl
  refine Zb4 ?_;exact⟨by rw[l9];rfl,H.kept⟩
 rw[zap oM]at ak;refine Zb1 ?_;refine Vv (Gives.yT (i:=0) rfl rfl oM) ?_;rw[hg0];refine Sz (λk=>?_) (λk=>?_)
 .have l9:res=false:=by rw[ak,show Tk c=false from zal oM];rfl
  refine Zb2 ?_;exact⟨by rw[l9];rfl,H.kept⟩
 refine Zb1 ?_;refine Vv (Gives.yT (i:=0) rfl rfl oM) ?_;rw[hg0];refine Cz (λk=>?_) (λk=>?_)
 .have l9:res=false:=by rw[ak,show Tk c=false from zal oM];rfl
  refine Zb1 ?_;exact⟨by rw[l9];rfl,H.kept⟩
 rw[show Tk c=true from zap oM,zel,zel]at ak;refine Zb1 ?_;refine aL (ai8 s (by rw[hcr];simp) oM) rfl rfl (λv' _ hv=>?_);obtain⟨⟨t,rfl,ht⟩,bZ⟩:=hv;have k:=H.keep bZ;refine Sz (λS=>?_) (λS=>?_)
 .have jE:s.all mY=true:=ht.1 S
  rw[jE]at ak;refine Kz (MW s jE) (λ_ I _=>?_);refine On (Vv (Gives.not rfl) (Zb2 ?_));exact⟨by rw[ak];rfl,I.kept⟩
 have jE:s.all mY=false:=by rw[<-zdo];exact λh=>S (ht.2 h)
 rw[jE]at ak;refine Zb2 ?_;exact⟨by rw[ak];rfl,k.kept⟩
def Kg (b:Nat) (l:List bY):HP:=exH λv=>star (blk b [v] 22) (aY 67 7 aP v l)
instance akF:IsIface prog 147:=⟨kR⟩
def agi (t:bM):Rk prog 49 [agg (aD t)] w (agg (ah (abl t))):=by
 have H:=Sep.aF w;refine oV func49 ?_;refine Sr (bB H (h:=λb1 _ _ _=>?_));refine Az (λb3 _ _ _=>?_);refine Kz (zu t) (λ_ _ _=>?_);refine Mv ?_;refine Sz (λS=>?_) (λS=>?_)
 .have hmt:nZ t=true:=zap S
  refine Zb3 ?_;refine Vb (ah ⟨t.null,0,[]⟩) ?_;refine Tz (λ_ I=>?_);refine Zb0 ?_;exact⟨_,⟨_,_,_,rfl,rfl,mP (cs:=ah ⟨t.null,0,[]⟩) (o:=0) (k:=3) (I.obj At0) (us:=ah ⟨t.null,0,[]⟩) rfl rfl,rfl⟩,by unfold abl;rw[hmt];rfl,I.kept⟩
 have hmt:nZ t=false:=zal S;refine Zb1 ?_;refine Vb (ah ⟨false,0,[]⟩) ?_;refine Tz (λ_ I=>?_);refine Zb0 ?_;exact⟨_,⟨_,_,_,rfl,rfl,mP (cs:=ah ⟨false,0,[]⟩) (o:=0) (k:=3) (I.obj At0) (us:=ah ⟨false,0,[]⟩) rfl rfl,rfl⟩,by unfold abl;rw[hmt];rfl,I.kept⟩
def yH {acc:List bY} (name:L8) (t:bM) (hp:(Kg b acc).ok F w) (hl:acc.length<=1000):
    aR prog 48 [str name,agg (aD t),ay b] w λv w'=>v=.tuple #[]/\Turn F (Kg b (acc++[qp ((acc.length+1:Nat):Int) name t])) w w':=by
  have k:=Sep.bR hp;unfold Kg at k;obtain⟨v0,k⟩:=k.ex0;have H:=k.bL;obtain⟨A,ca,rfl,hca,hA⟩:=Sep.bJ H At1;refine AP func48 ?_;refine Sr (bB H (cs:=aD t) rfl (h:=λb4 _ _ _=>?_));refine Dz (λk _ S=>?_);refine Zb3 ?_;refine Gc k 3 ((acc.length+1:Nat):Int) ?_;refine Zb3 ?_;refine dB k 7 [(5,false),(4,true),(3,true),(2,true),(1,false),(0,false)] S (agi t) (h:=λ_ S _=>⟨(bK rfl kR (Gives.JV rfl (S.obj At0) (us:=aD t) rfl rfl) rfl (av (av (av (iI S (h:=iI S (h:=eu))))))),?_⟩);refine Gp k 8 rfl rfl (λ_=>Gives.build (out:=aP (qp ((acc.length+1:Nat):Int) name t)) (Fills.one rfl rfl rfl sM rfl (Fills.one rfl rfl rfl sM rfl (Fills.many rfl rfl (zbe rfl) rfl (Fills.many rfl rfl (zbe rfl) rfl Fills.nil))))) (Gz k 9 [(0,false)] S ([qp ((acc.length+1:Nat):Int) name t].flatMap aP) (h:=λbs _ S=>⟨sL,?_⟩));refine gF k 10 _ S (news:=[qp ((acc.length+1:Nat):Int) name t]) At2 (by unfold maxLen;simp;omega) (by simp;omega) (cells_one (λ_=>rfl) _) (h:=λv2 _ S=>?_);obtain⟨A2,c2,rfl,I,hA2⟩:=Sep.bJ S At2;refine⟨sT,?_⟩;refine lX k 11 _ S (h:=λ_ I=>⟨sT,?_⟩);refine Zb0 ?_;exact⟨rfl,(Sep.uF (p:=λv=>star (blk b [v] 22) (aY 67 7 aP v _)) _ (Sep.aQ I.bH)).first.turn⟩
theorem WA {p:aU} (hp:gX w v p) (hn:p.cols.length<=1000000):Rk prog 46 [v] w (.bool (j3 p)):=by
 obtain⟨vw,vc,rfl,hw,r,hr,eF⟩:=hp;obtain⟨A,m,rfl,⟨hm,om⟩,hA⟩:=hr;have zi:=eF.len;have H:=Sep.aF w;obtain⟨res,ak⟩: ∃res,res=j3 p:=⟨_,rfl⟩;rw[<-ak];unfold j3 at ak;refine cK func46 ?_;refine Sr (bB H (cs:=[vw,.slice A r.length m,I p.group]) rfl (h:=λb1 w2 H2 k1=>?_));refine Zb1 ?_;refine uT H2 (h:=λb3 w5 H5 k4=>?_);have H5:=Sep.ajO H5 At0;refine Zb5 ?_;refine aI (λi:Nat=>[(1,ay b1),(3,.map (some b3)),(9,.slice A r.length m),(10,I r.length),(11,I i)]) (λi w'=>(i<=r.length/\∀(j:Nat) o,j<i->p.cols[j]? =some o->eU o.name=true/\¬(0<=p.group/\o.name=iK))/\∃f n,Had ((p.cols.map (·.name)).take i) f n/\Sep w noB [BK b3 f n,blk b1 [vw,.slice A r.length m,I p.group] 26] w') (λi _=>r.length-i) 0 tR ⟨⟨zak _,λj o hj=>zar hj (zdv j)⟩,_,_,Had.nil,H5⟩ (λi τ wa hI=>?_);obtain⟨⟨hi,Ch⟩,f,n,amI,Ha⟩:=hI;refine Lp ?_;refine Cz (λIe=>?_) (λIe=>?_)
 .have aS:i<p.cols.length:=oM
  obtain⟨x,hx,Ci⟩:=eF.at aS;obtain⟨Ax,cx,rfl,_⟩:=id Ci;have rH:p.cols[i]? =some p.cols[i]:=zaa aS;obtain⟨o,ho⟩: ∃o,o=p.cols[i]:=⟨_,rfl⟩;rw[<-ho]at hx Ci rH;have htn:(p.cols.map (·.name)).take (i+1)=(p.cols.map (·.name)).take i++[o.name]:=by rw[zay,zbz,rH];rfl
  have uh:o∈p.cols:=zag rH;refine Az (λb5 wb Hb ka=>?_);refine Tz (λwc Hc=>?_);refine Zb3 ?_;obtain⟨c,UZ,hcv⟩:=amI.val ⟨o.name.toArray⟩;rw[zah,zaf]at UZ;refine dw (Pj (i:=⟨o.name.toArray⟩) Hc At1 rfl rfl) rfl ?_;rw[hcv];refine Vc ((c+1:Nat):Int) ?_;have ah8:=amI.push o.name (c:=c) (by rw[zah,zaf];omega);rw[<-htn]at ah8;refine Pm Hc At1 rfl rfl rfl (h:=λwd Hd=>?_);refine Kz (Qr o.name) (λwe He kb=>?_);refine Zb2 ?_;refine dH (t:=24) rfl (λSa=>?_) (λSa=>?_)
  .have jN: ¬eU o.name=true:=by simpa using Sa
   refine Zb2 ?_;refine⟨?_,He.kept⟩
   have l9:p.cols.all (λo=>eU o.name&& !(decide (0<=p.group)&&decide (o.name=iK)))=false:=by
    rw[<-zdo,zaz];intro h;have h1:=h o uh;simp_all
   rw[ak,l9];simp[fG]
  have RJ:eU o.name=true:=by simpa using Sa
  refine Sz (λSb=>?_) (λSb=>?_)
  .refine Cz (λIf=>?_) (λIf=>?_)
   .have as8:0<=p.group/\o.name=iK:=⟨oM,If⟩
    refine Zb1 ?_;refine⟨?_,He.kept⟩
    have l9:p.cols.all (λo=>eU o.name&& !(decide (0<=p.group)&&decide (o.name=iK)))=false:=by
     rw[<-zdo,zaz];intro h;have h1:=h o uh;simp_all
    rw[ak,l9];simp[fG]
   have EI: ¬(0<=p.group/\o.name=iK):=λh=>If h.2;refine Zb2 ?_;exact aj (i+1) tR ⟨⟨oM,λj y hj hy=>by
   by_cases e:j=i
   .subst e;rw[rH]at hy;injection hy with hy;rw[<-hy];exact⟨RJ,EI⟩
   exact Ch j y oM hy⟩,_,_,ah8,He.bH⟩ oM
  have EI: ¬(0<=p.group/\o.name=iK):=λh=>oM;refine Zb4 ?_;exact aj (i+1) tR ⟨⟨oM,λj y hj hy=>by
  by_cases e:j=i
  .subst e;rw[rH]at hy;injection hy with hy;rw[<-hy];exact⟨RJ,EI⟩
  exact Ch j y oM hy⟩,_,_,ah8,He.bH⟩ oM
 have jF:i=r.length:=oM
 have jE:p.cols.all (λo=>eU o.name&& !(decide (0<=p.group)&&decide (o.name=iK)))=true:=by
  rw[zaz];intro o ho;obtain⟨j,hj⟩:=zdb ho;obtain⟨h1,h2⟩:=Ch j o (by have:=fO hj;omega) hj;rw[h1,zel];cases hg:decide (0<=p.group)<;>cases hc:decide (o.name=iK)<;>simp_all
 rw[jE]at ak;have hnd:=amI.nd;rw[jF,zi,zaj sM]at hnd;rw[zaf]at hnd;have hnr:(n=r.length↔(p.cols.map (·.name)).Nodup):=by rw[zi];exact hnd
 have ak:res=decide ((n:Int)=r.length/\1<=r.length/\r.length<=16/\ -1<=p.group/\p.group<=r.length):=by
  rw[ak,Bool.and_true,<-Bool.decide_and,zi];refine zbf.2 ⟨λh=>?_,λh=>?_⟩
  .have:=hnr.2 h.2
   omega
  exact⟨oM,hnr.1 oM⟩
 refine Zb5 ?_;refine dw (Pk Ha At0 rfl) rfl ?_;refine Sz (λSc=>?_) (λSc=>?_)
 .refine Sz (λSd=>?_) (λSd=>?_)
  .refine Sz (λSe=>?_) (λSe=>?_)
   .refine Sz (λSf=>?_) (λSf=>?_)
    .refine Zb6 ?_
     exact⟨by rw[ak];first | exact zaw Value.bool (Eq.symm (zal oM)) | exact zaw Value.bool (zbf.2 oM),Ha.kept⟩
    refine Zb2 ?_;exact⟨by rw[ak];first | exact zaw Value.bool (Eq.symm (zal oM)) | exact zaw Value.bool (zbf.2 oM),Ha.kept⟩
   refine Zb4 ?_;exact⟨by rw[ak];first | exact zaw Value.bool (Eq.symm (zal oM)) | exact zaw Value.bool (zbf.2 oM),Ha.kept⟩
  refine Zb6 ?_;exact⟨by rw[ak];first | exact zaw Value.bool (Eq.symm (zal oM)) | exact zaw Value.bool (zbf.2 oM),Ha.kept⟩
 refine Zb8 ?_;exact⟨by rw[ak];first | exact zaw Value.bool (Eq.symm (zal oM)) | exact zaw Value.bool (zbf.2 oM),Ha.kept⟩
end Go.Proofs.Mw
