/-
 The document's plans,compared;the columns that they use;their names;walked.
-/
import Derived.Test.YtkfpleidaoaonaaGreatDoorNw1
import Derived.Test.YtkfpleidaoaonaaGreatDoorNw3
import Derived.Test.YtkfpleidaoaonaaGreatDoorNw18
import Derived.Test.YtkfpleidaoaonaaGreatDoorNw9
import Derived.Test.YtkfpleidaoaonaaGreatDoorNw17
import Derived.Test.YtkfpleidaoaonaaGreatDoorNw12
set_option linter.unusedVariables false
set_option linter.unusedSimpArgs false
namespace Go.Proofs.YtkfpleidaoaonaaGreatDoor
open Go Go.Mw Go.Lib
set_option maxRecDepth 4000
attribute [local irreducible] FW FL FG FGn fZ gG cO gW Qfn Gives
section
variable {w:Wd}
end
section
variable {w:Wd}
end
/-! The plans. -/


set_option maxRecDepth 8000
/-! The chapter's examples. -/
section
variable {w:Wd}
end
def jy (s:L8):L8×L8:=(xS s).getD (s,[])
theorem tK {s:L8} (h:xS s=none):jy s=(s,[]):=by unfold jy;rw[h];rfl
theorem yB {s a b:L8} (h:xS s=some (a,b)):jy s=(a,b):=by unfold jy;rw[h];rfl
def zI:L8:=[119,104,101,114,101]
def M4:L8:=[111,117,116]
def zJ:L8:=[103,114,111,117,112]
def mG (t:L8):Option (List aZ):=if(dL t).2=0/\(dL t).1≠[]then some (dL t).1 else none
def Xz (s:L8):Option j4:=if(jy s).1=M4/\gZ (jy (jy s).2).1=true then(mG (jy (jy s).2).2).map λl=>⟨(jy (jy s).2).1,l⟩else none
def pQ (t:L8):Option Int:=if t=lJ then some (-1)else(oG t).map λn:Nat=>((n:Nat):Int)
def jA (p:aW) (st:Int) (s:L8):Option (aW×Int):=
 if st=0 then(if(jy s).1=zI then(if(jy s).2=lJ then some (p,1)else(mG (jy s).2).map λl=>(⟨l,p.cols,p.group⟩,1))else none)
 else if st=2/\(jy s).1=zJ then(pQ (jy s).2).map λg=>(⟨p.wh,p.cols,g⟩,3)
 else if st=1\/st=2 then(Xz s).map λo=>(⟨p.wh,p.cols++[o],p.group⟩,2)
 else none
def goG (p:aW) (st:Int):List (L8)->Option (aW×Int)×Nat
 | []=>(some (p,st),0)
 | x::l=>match jA p st x with
  | none=>(none,0)
  | some (p',st')=>((goG p' st' l).1,(goG p' st' l).2+1)
def tL (l:List (L8)):Option (aW×Int):=l.foldl (λo x=>o.bind λr=>jA r.1 r.2 x) (some (lI,0))
theorem La (l:List (L8)) (x:L8):tL (l++[x])=(tL l).bind λr=>jA r.1 r.2 x:=by
 unfold tL;rw[List.foldl_append];rfl
theorem Fz: ∀(l m:List (L8)) (p:aW) (st:Int) (q:aW) (t:Int),goG p st l=(some (q,t),l.length)->goG p st (l++m)=((goG q t m).1,(goG q t m).2+l.length)
 | [],m,p,st,q,t,h=>by
  unfold goG at h;injection h with h _
  injection h with h
  injection h with h1 h2
  subst h1;subst h2;rfl
 | x::l,m,p,st,q,t,h=>by
  rw[zbx];rw[goG]at h ⊢;cases hl:jA p st x with
  | none=>rw[hl]at h;injection h with h;cases h
  | some r=>
   obtain⟨p',st'⟩:=r;rw[hl]at h;dsimp only at h ⊢;injection h with h1 h2
   rw[zal]at h2;rw[Fz l m p' st' q t (Prod.ext h1 dO),zal];exact Prod.ext rfl dO
theorem Zb {α:Type} {l:List α} (h:l≠[]): ∃m x,l=m++[x]:=⟨l.dropLast,l.getLast h,(List.dropLast_concat_getLast h).symm⟩
theorem run_go: ∀(l:List (L8)) {q:aW} {t:Int},tL l=some (q,t)->goG lI 0 l=(some (q,t),l.length):=by
 intro l
 have key: ∀n (l:List (L8)),l.length=n->∀{q:aW} {t:Int},tL l=some (q,t)->goG lI 0 l=(some (q,t),l.length):=by
  intro n
  induction n with
  | zero=>
   intro l hl q t h;have:=zbe hl;subst this;injection h with h
   injection h with h1 h2
   subst h1;subst h2;rfl
  | succ n ih=>
   intro l hl q t h;obtain⟨m,x,rfl⟩: ∃m x,l=m++[x]:=Zb (by intro e;rw[e]at hl;cases hl);rw[La]at h;obtain⟨⟨p',t'⟩,h1,h2⟩:=zdq.1 h;rw[Fz m [x] lI 0 p' t' (ih m (by rw[zad,zah]at hl;omega) h1)];dsimp only at h2;unfold goG;rw[h2];dsimp only;unfold goG;rw[zad,zah];exact Prod.ext rfl dO
 exact λ{q t} h=>key l.length l rfl h
/-! The words of a line. -/
theorem aev {s a b:L8} (h:xS s=some (a,b)):s=a++[32]++b:=by
 unfold xS at h;obtain⟨i,hi,h⟩:=zav.1 h;injection h with h1 h2
 subst h1;subst h2;rw[List.idxOf?,zct]at hi;obtain⟨bH,h32,_⟩:=hi;have e:s[i]=32:=by simpa using h32
 conv=>lhs;rw[<-zbs i s,zbn bH,e]
 simp
theorem aew {s:L8} (h:xS s=none): ∀c∈s,c≠32:=by
 unfold xS at h;rw[zfe,List.idxOf?,zdw]at h;intro c hc e;have:=h c hc;rw[e]at this;simp at this
theorem FB {w s:L8} (hw: ∀c∈w,c≠32):sN (w++[32]) s=(xS s).bind λx=>if x.1=w then some x.2 else none:=by
 cases hc:xS s with
 | none=>
  cases ha:sN (w++[32]) s with
  | none=>rfl
  | some t=>
   have:=T9 ha;exact zap rfl (aew hc 32 (by rw[this];simp))
 | some x=>
  obtain⟨a,b⟩:=x;show _=if a=w then some b else none
  by_cases e:a=w
  .rw[zac e,aev hc,e,xW]
  rw[zab e];cases ha:sN (w++[32]) s with
  | none=>rfl
  | some t=>
   have h1:=T9 ha;rw[h1,Ua hw]at hc;injection hc with hc
   injection hc with hc _
   exact zap hc.symm e
theorem abh:dL []=([],0):=by rw[<-Nr];decide+kernel
theorem Bc:mG []=none:=by unfold mG;rw[abh];simp
theorem Lb:([]:L8)≠lJ:=by unfold lJ;simp
theorem XB {p:aW} {s:L8} (h:p.wh=[]):jA p 0 s=(EM s).map λl=>(⟨l,p.cols,p.group⟩,1):=by
 have e:Qd=zI++[32]:=rfl;unfold jA EM;rw[zac rfl,e,FB dC];cases hc:xS s with
 | none=>
  rw[tK hc];show(if s=zI then(if([]:L8)=lJ then _ else _)else none)=_
  rw[zab Lb,Bc]
  split<;>rfl
 | some x=>
  obtain⟨a,b⟩:=x;rw[yB hc];dsimp only;show(if a=zI then(if b=lJ then _ else _)else none)=Option.map _ (((if a=zI then some b else none)).bind _)
  by_cases e1:a=zI
  .rw[zac e1,zac e1]
   show _=Option.map _ (if b=[]then none else if b=lJ then some []else if(dL b).2=0 then some (dL b).1 else none)
   by_cases e2:b=[]
   .rw[zac e2,e2,zab Lb,Bc,Option.map_none]
   rw[zab e2]
   by_cases e3:b=lJ
   .rw[zac e3,zac e3]
    show some (p,(1:Int))=some (⟨[],p.cols,p.group⟩,1)
    rw[<-h]
   rw[zab e3,zab e3];unfold mG
   by_cases e4:(dL b).2=0
   .rw[zac e4,zac ⟨e4,W9 e4 e2⟩]
   rw[zab e4,zab λh=>e4 h.1,Option.map_none]
  rw[zab e1,zab e1];rfl
theorem QV (s:L8):Xz s=Km s:=by
 have e:Wz=M4++[32]:=rfl;unfold Xz Km;rw[e,FB dC];cases hc:xS s with
 | none=>
  rw[tK hc];dsimp only;rw[tK (s:=[]) rfl];dsimp only;rw[Bc];show(if s=M4/\gZ []=true then none else none)=none
  split<;>rfl
 | some x=>
  obtain⟨a,b⟩:=x;rw[yB hc];dsimp only;show _=((if a=M4 then some b else none)).bind _
  by_cases e1:a=M4
  .rw[zac e1]
   show _=(xS b).bind _
   cases hb:xS b with
   | none=>
    rw[tK hb];dsimp only;rw[Bc];show(if a=M4/\gZ b=true then none else none)=none
    split<;>rfl
   | some y=>
    obtain⟨n,t⟩:=y;rw[yB hb];show(if a=M4/\gZ n=true then Option.map _ (mG t)else none)=if(dL t).2=0/\(dL t).1≠[]/\gZ n=true then some (⟨n,(dL t).1⟩:j4)else none
    unfold mG
    by_cases e2:gZ n=true
    .rw[zac ⟨e1,e2⟩]
     by_cases e3:(dL t).2=0/\(dL t).1≠[]
     .rw[zac e3,zac ⟨e3.1,e3.2,e2⟩];rfl
     rw[zab e3,zab λh=>e3 ⟨h.1,h.2.1⟩];rfl
    rw[zab λh=>e2 h.2,zab λh=>e2 h.2.2]
  rw[zab λh=>e1 h.1,zab e1];rfl
theorem abj:pQ []=none:=by
 unfold pQ oG;rw[zab Lb];have :decDigits 0≠([]:L8):=pW 0;show Option.map _ (if decDigits 0=[]/\_ then _ else none)=none
 rw[zab λh=>this h.1];rfl
theorem abk (s:L8):(if(jy s).1=zJ then pQ (jy s).2 else none)=uX s:=by
 have e:Kj=zJ++[32]:=rfl;unfold uX;rw[e,FB dC];cases hc:xS s with
 | none=>
  rw[tK hc];dsimp only;rw[abj];show(if s=zJ then none else none)=none
  split<;>rfl
 | some x=>
  obtain⟨a,b⟩:=x;rw[yB hc];show(if a=zJ then pQ b else none)=((if a=zJ then some b else none)).bind _
  by_cases e1:a=zJ
  .rw[zac e1,zac e1];rfl
  rw[zab e1,zab e1];rfl
theorem aex {p:aW} {st:Int} {s:L8} {o:j4} (fU:st=1\/st=2) (h:Km s=some o):jA p st s=some (⟨p.wh,p.cols++[o],p.group⟩,2):=by
 have h':=h;rw[<-QV]at h
 have hw:(jy s).1=M4:=by
  unfold Xz at h
  split at h
  .rename_i e;exact e.1
  cases h
 unfold jA;rw[zab oM,zab (λh1=>zap (hw.symm.trans h1.2) dC),zac fU,h];rfl
theorem XC {p:aW} {s:L8} (h:Km s=none):jA p 1 s=none:=by
 unfold jA;rw[zab dC,zab (λh=>zap h.1 dC),zac (.inl rfl),QV,h];rfl
theorem abl {p:aW} {s:L8} (h:Km s=none):jA p 2 s=(uX s).map λg=>(⟨p.wh,p.cols,g⟩,3):=by
 unfold jA;rw[zab dC,<-abk]
 by_cases e:(jy s).1=zJ
 .rw[zac ⟨rfl,e⟩,zac e]
 rw[zab λh=>e h.2,zac (.inr rfl),QV,h,zab e];rfl
theorem abm {p:aW} {s:L8}:jA p 3 s=none:=by
 unfold jA;rw[zab dC,zab (λh=>zap h.1 dC),zab dC]
theorem Zc: ∀(l:List (L8)) (p:aW) (st:Int),st=1\/st=2->goG p st l=
    if l.length<=(jT l).length then(some (⟨p.wh,p.cols++jT l,p.group⟩,if(jT l).length=0 then st else 2),(jT l).length)
    else if st=1/\(jT l).length=0 then(none,0)
    else match uX (l.getD (jT l).length [])with
      | none=>(none,(jT l).length)
      | some g=>if l.length=(jT l).length+1 then(some (⟨p.wh,p.cols++jT l,g⟩,3),(jT l).length+1)else(none,(jT l).length+1)
  | [],p,st,_=>by
    unfold goG jT;simp
  | x::l,p,st,fU=>by
    cases ho:Km x with
    | some o=>
      have hc:jT (x::l)=o::jT l:=by rw[jT,ho]
      rw[goG,aex fU ho,hc];dsimp only;rw[Zc l _ 2 (.inr rfl)];simp only[zal,Nat.add_le_add_iff_right,zfv,Nat.add_right_cancel_iff];rw[zab (show ¬((jT l).length+1=0)from oM),zab (show ¬(st=1/\(jT l).length+1=0)from oM),zab (show ¬((2:Int)=1/\(jT l).length=0)from oM)]
      split
      . simp
      cases uX (l.getD (jT l).length [])with
      | none=>rfl
      | some g=>dsimp only;split<;>simp
    | none=>
      have hc:jT (x::l)=[]:=by rw[jT,ho]
      rw[goG,hc];simp only[zal,zcu,zev];rw[zab oM]
      rcases fU with rfl | rfl
      . rw[XC ho,zac sM]
      rw[abl ho,zab dC];cases uX x with
      | none=>rfl
      | some g=>
        show((goG _ 3 l).1,(goG _ 3 l).2+1)=if l.length+1=0+1 then _ else _
        cases l with
        | nil=>simp[goG]
        | cons y l=>rw[goG,abm,zab sM]
theorem Lc {s:L8} (hs:s.length<=1048576):pI s=match goG lI 0 (if(iW s).2=true then(iW s).1 else(iW s).1.dropLast)with
    | (none,n)=>(lI,(n:Int),4)
    | (some r,n)=>if(iW s).2=false\/r.2≠3 then(lI,(n:Int),4)else if BG r.1=false then(lI,0,2)else(r.1,0,0):=by
  obtain⟨ls,whole,hl⟩: ∃ls whole,iW s=(ls,whole):=⟨_,_,rfl⟩;have hdl:ls.dropLast=ls.take (ls.length-1):=List.dropLast_eq_take;unfold pI;rw[zab oM,hl];dsimp only;obtain⟨many,hm⟩: ∃many,many=if whole=true then ls.length else ls.length-1:=⟨_,rfl⟩
  have ake:many<=ls.length:=by rw[hm];split<;>omega
  have yY:(if whole=true then ls else ls.dropLast)=ls.take many:=by
    rw[hm]
    split
    . rw[zbo]
    exact hdl
  rw[<-hm,yY]
  by_cases h0:many<1
  . rw[zac h0,show many=0 from oM,zdi]
    unfold goG;dsimp only;rw[zac (.inr dC)];rfl
  rw[zab h0];cases ls with
  | nil=>simp at ake;omega
  | cons x l=>
    obtain⟨m,rfl⟩: ∃m,many=m+1:=⟨many-1,oM⟩;rw[zcx,zev,goG,XB rfl,List.drop_one,List.tail_cons];cases hw:EM x with
    | none=>rfl
    | some wv=>
      dsimp only[Option.map];rw[Zc _ _ 1 (.inl rfl)];have Bz:(l.take m).length=m:=by rw[zaj];rw[zal]at ake;omega
      obtain⟨cs,hcs⟩: ∃cs,cs=jT (l.take m):=⟨_,rfl⟩;rw[<-hcs,Bz]
      by_cases h1:m<=cs.length
      . rw[zac h1,zac (.inl oM)]
        dsimp only;rw[zac (.inr (by split<;>decide)),zgf]
      rw[zab h1]
      by_cases h2:cs.length=0
      . rw[zac (.inr h2),zac ⟨rfl,h2⟩,h2]
      rw[zab oM,zab (λh=>h2 h.2)]
      have hgd:(x::l).getD (1+cs.length) []=(l.take m).getD cs.length []:=by
        rw[zgf,zfv,zak,zak,zck,zac oM]
      rw[hgd];cases uX ((l.take m).getD cs.length [])with
      | none=>dsimp only;rw[zgf]
      | some g=>
        dsimp only
        by_cases h3:m=cs.length+1
        . rw[zac h3]
          dsimp only;show(if 1+cs.length+1<l.length+1 then _ else _)=if whole=false\/¬((3:Int)=3)then _ else _
          cases whole with
          | true=>
            rw[zac rfl,zal]at hm;rw[zab oM,zab (show ¬(true=false\/¬(3:Int)=3)from sM)];rfl
          | false=>
            rw[zab dC,zal]at hm;rw[zac oM,zac (.inl rfl),zgf 1]
        rw[zab h3];dsimp only;rw[zac (by rw[zal];rw[zal]at ake;omega),zgf 1]
theorem XD {s:L8} {p:aW} {st:Int} (hs:s.length<=1048576) (hw:(iW s).2=true) (h:tL (iW s).1=some (p,st)):
    pI s=if st≠3 then(lI,((iW s).1.length:Int),4)else if BG p=false then(lI,0,2)else(p,0,0):=by
  rw[Lc hs,zac hw,run_go _ h];dsimp only;rw[hw]
  by_cases e:st=3
  . rw[zab (show ¬(true=false\/st≠3) by simp[e]),zab (show ¬st≠3 from λh=>h e)]
  rw[zac (.inr e),zac e]
theorem XE {s:L8} {p:aW} {st:Int} {pre l:List (L8)} {x:L8} (hs:s.length<=1048576) (hl:(if(iW s).2=true then(iW s).1 else(iW s).1.dropLast)=pre++x::l) (h:tL pre=some (p,st)) (hx:jA p st x=none):
    pI s=(lI,(pre.length:Int),4):=by
  rw[Lc hs,hl,Fz pre _ _ _ _ _ (run_go _ h),goG,hx];dsimp only;rw[zdm]
theorem XF {s:L8} {p:aW} {st:Int} (hs:s.length<=1048576) (hw:(iW s).2=false) (h:tL (iW s).1.dropLast=some (p,st)):
    pI s=(lI,((iW s).1.dropLast.length:Int),4):=by
  rw[Lc hs,hw,zab dC,run_go _ h];dsimp only;rw[zac (.inl rfl)]
theorem qL {t:L8} {n:Int}:(atoiAll t=.ok n/\0<=n/\itoa n=t/\n<=1048576)↔(oG t).map (λn:Nat=>((n:Nat):Int))=some n:=by
 constructor
 .rintro⟨_,h0,h1,h2⟩
  unfold itoa at h1;rw[zab oM]at h1;unfold oG;rw[<-h1,uN];show Option.map _ (if decDigits n.toNat=decDigits n.toNat/\n.toNat<=1048576 then some n.toNat else none)=_
  rw[zac ⟨rfl,oM⟩];show some ((n.toNat:Nat):Int)=some n
  rw[zde h0]
 intro h;obtain⟨m,h1,rfl⟩:=zav.1 h;unfold oG at h1;obtain⟨k,hk,h1⟩:=zdq.1 h1
 split at h1
 .rename_i e
  injection h1 with h1
  subst h1;refine⟨?_,oM,by unfold itoa;rw[zab oM,zdo];exact e.1,oM⟩;rw[<-e.1];have iC:=pW k;have apd:=oh k;cases hd:decDigits k with
  | nil=>exact zap hd iC
  | cons c r=>
   have hc:=apd c (by rw[hd];simp);unfold tX at hc;simp only[decide_eq_true_eq,zbr]at hc
   have hm:parseMag (decDigits k)=.ok k:=by
    rw[parseMag,zab iC,yF _ 0 k (uN k) oM]
   rw[hd]at hm;unfold atoiAll;dsimp only;rw[zab oM,hm];dsimp only;rw[zab oM,zab oM,zab oM]
 cases h1
section
variable {w:Wd}
end
open Go.Proofs.Tryz
theorem OJ: ∀s:L8,Lib.index s [32]=match s.idxOf? 32 with | some i=>(i:Int) | none=> -1
 | []=>rfl
 | c::t=>by
  have ih:=OJ t
  by_cases h:c=32
  .subst h
   have e:List.idxOf? 32 (32::t)=some 0:=by unfold List.idxOf?;rw[zgc];rfl
   rw[J5,e];rfl
  have hb:(c==32)=false:=by simpa using h
  have e:List.idxOf? 32 (c::t)=(List.idxOf? 32 t).map (· +1):=by unfold List.idxOf?;rw[zgc,hb];rfl
  rw[Gd h,ih,e];cases List.idxOf? 32 t with
  | none=>rfl
  | some i=>
   show(if(i:Int)= -1 then(-1:Int)else(i:Int)+1)=((i+1:Nat):Int)
   rw[zab oM];omega
theorem ag3 (s:L8):(Lib.cut s [32]).1=(jy s).1/\(Lib.cut s [32]).2.1=(jy s).2:=by
 unfold Lib.cut jy xS;rw[OJ];cases h:s.idxOf? 32 with
 | none=>simp
 | some i=>simp
theorem OL (s:L8):(jy s).1.length<=s.length/\(jy s).2.length<=s.length:=by
 unfold jy;cases h:xS s with
 | none=>simp
 | some x=>
  obtain⟨a,b⟩:=x;have:=aev h;rw[this];simp only[zdf,zad];omega
theorem aey {n:L8} {v:Value} (hv:v.oneCell'=true): ∀u∈[(n,v)].flatMap dU,u.oneCell'=true:=λu hu=>by
 simp only[zbc,zem,zci,dU,zan,zao,or_false]at hu
 rcases hu with rfl | rfl
 .rfl
 exact hv
theorem abn {l:L8} {v:Int} (h:atoiAll l=.ok v):fits v:=atoiAll_bounds h
def GY (b:Nat) (p:aW) (st:Int):HP:=exH λx:Value×Value×List (L8×Value)=>iT [blk b [x.1,x.2.1,I p.group,I st] 134,EO x.1 aP 3 p.wh,bJ 94 2 dU x.2.1 x.2.2,zm x.2.2 p.cols]
def ale (b:Nat):Option (aW×Int)->HP
 | some r=>GY b r.1 r.2
 | none=>emp
section
variable {w w0:Wd} {S:NP} {rs:List HP}
theorem sD {b:Nat} {p:aW} {st:Int} {vw vc:Value} {r:List (L8×Value)} (H:Mw.Sep w0 S (blk b [vw,vc,I p.group,I st] 134::EO vw aP 3 p.wh::bJ 94 2 dU vc r::zm r p.cols::rs) w):Mw.Sep w0 S (GY b p st::rs) w:=
 Sep.uq (p:=λx:Value×Value×List (L8×Value)=>iT [blk b [x.1,x.2.1,I p.group,I st] 134,EO x.1 aP 3 p.wh,bJ 94 2 dU x.2.1 x.2.2,zm x.2.2 p.cols]) (vw,vc,r) (Sep.bundle (l:=[_,_,_,_]) H)
theorem Le {b:Nat} {p:aW} {st:Int} (H:Mw.Sep w0 S (GY b p st::rs) w): ∃vw vc r,Mw.Sep w0 S (blk b [vw,vc,I p.group,I st] 134::EO vw aP 3 p.wh::bJ 94 2 dU vc r::zm r p.cols::rs) w:=by
 unfold GY at H;obtain⟨⟨vw,vc,r⟩,H⟩:=H.ex0;exact⟨vw,vc,r,Sep.parts H⟩
theorem og {F:NP} (H:Mw.Sep w0 F rs w):Turn F emp w0 w:=(Sep.jS (φ:=True) trivial H).first.turn
theorem aez (s:L8) (hl:s.length<=1048576) (hT:gQ w):aY prog 114 [str s,str [32]] w λv w'=>(∃b,v=.tuple #[str (jy s).1,str (jy s).2,.bool b])/\Kept noB w w':=by
 obtain⟨m,hm⟩:=hT.len;have hs:(⟨s.toArray⟩:ByteArray).size=s.length:=Mw.size_mk s
 exact Calls.mono (Tryz.strings_Cut ⟨s.toArray⟩ ⟨#[32]⟩ m w (by rw[hs];omega) hm) λe w' he=>by
  obtain⟨rfl,n,rfl⟩:=he;obtain⟨h1,h2⟩:=ag3 s;refine⟨⟨(Lib.cut s [32]).2.2,?_⟩,(Kept.refl noB w).akL _⟩;show Value.tuple #[str (Lib.cut s [32]).1,str (Lib.cut s [32]).2.1,.bool (Lib.cut s [32]).2.2]=_
  rw[h1,h2]
theorem ag4 (t:L8) (hl:t.length<=1048576) (hT:gQ w):aY prog 116 [str t] w λv w'=>(∃n e b,v=.tuple #[I n,e]/\IsNil e b/\(b=true->atoiAll t=.ok n)/\(b=false->∀m,atoiAll t≠ .ok m))/\Kept noB w w':=by
 have hs:(⟨t.toArray⟩:ByteArray).size=t.length:=Mw.size_mk t;cases h:atoiAll t
 .rename_i v
  exact Calls.mono (Tryz.strconv_Atoi_ok ⟨t.toArray⟩ (by rw[hs];omega) v h w) λe w' he=>by
   obtain⟨rfl,hw⟩:=he;refine⟨⟨v,.nilIface,true,rfl,.inl ⟨rfl,rfl⟩,λ_=>rfl,λhf=>by cases hf⟩,?_⟩
   rcases hw with rfl | ⟨t,rfl⟩
   .exact Kept.refl _ _
   exact Kept.of_below (Lib.bytesWorld_below _ _ _)
 .skip
  obtain⟨tp,p,hv⟩:=hT.syn
  exact Calls.mono (Tryz.strconv_Atoi_syntax_var ⟨t.toArray⟩ (by rw[hs];omega) h rfl tp p w hv) λe w' he=>by
   obtain⟨N,rfl,_,_,hb⟩:=he;exact⟨⟨_,_,false,rfl,.inr ⟨rfl,_,_,rfl⟩,(λhf=>by cases hf),λ_ m hm=>by cases hm⟩,Kept.of_below hb⟩
 skip;obtain⟨tp,p,hv⟩:=hT.ran
 exact Calls.mono (Tryz.strconv_Atoi_range_var ⟨t.toArray⟩ (by rw[hs];omega) h tp p w hv) λe w' he=>by
  obtain⟨N,rfl,_,_,hb⟩:=he;exact⟨⟨_,_,false,rfl,.inr ⟨rfl,_,_,rfl⟩,(λhf=>by cases hf),λ_ m hm=>by cases hm⟩,Kept.of_below hb⟩
theorem OM (t:L8) (hl:t.length<=1000000) (hT:gQ w):aY prog 115 [str t] w λv w'=>∃x,v=.tuple #[x,.bool (mG t).isSome]/\True/\Turn noB (bJ 92 3 aP x (dL t).1) w w':=by
 have H:=Sep.aJ w;obtain⟨res,au⟩: ∃res,res=(mG t).isSome:=⟨_,rfl⟩;rw[<-au];unfold mG at au;refine dI func115 rfl rfl rfl rfl ?_;refine Zb3 ?_;refine dn H (aad t (.inl hl) oM (hT.keep H.kept)) (h:=λx _ _ k _=>?_);obtain⟨B,cb,rfl,Po,hB⟩:=Sep.dQ k At0;refine Zb9 ?_;refine aF (t:=14) rfl (λS=>?_) (λS=>?_)
 .have he:(dL t).2=0:=S
  refine Zb6 ?_;exact⟨_,by first | (rw[au];rfl) | (rw[au];by_cases hq:(dL t).1=[]<;>simp[hq,he,eP,zez]),trivial,k.turn⟩
 rw[zab (λh=>S h.1)]at au;refine Zb3 ?_;exact⟨_,by first | (rw[au];rfl) | (rw[au];by_cases hq:(dL t).1=[]<;>simp[hq,he,eP,zez]),trivial,k.turn⟩
theorem ag5 {b:Nat} {F:NP} {p:aW} {st:Int} (s:L8) (hp:(GY b p st).ok F w) (fU:st=0\/st=1\/st=2\/st=3) (hl:s.length<=1000000) (hn:p.cols.length<=1000000) (hT: ∀w',Kept F w w'->gQ w'):
    aY prog 76 [av b,str s] w λv w'=>v=.bool (jA p st s).isSome/\Turn F (ale b (jA p st s)) w w':=by
  obtain⟨vw,vc,r,H⟩:=Le (Sep.bW hp);obtain⟨res,au⟩: ∃res,res=jA p st s:=⟨_,rfl⟩;rw[<-au];unfold jA at au;obtain⟨wd,hwd⟩: ∃wd,wd=(jy s).1:=⟨_,rfl⟩;obtain⟨rest,Ez⟩: ∃rest,rest=(jy s).2:=⟨_,rfl⟩;have BD:rest.length<=1000000:=by have:=(OL s).2;rw[Ez];omega
  rw[<-hwd,<-Ez]at au;obtain⟨A,ca,rfl,hca,hA⟩:=Sep.dQ H At2;have iI:nV w r p.cols:=Sep.sees H At3;have hrn:=iI.len
  have hvw: ∃A c,vw=.slice A p.wh.length c:=by
    obtain⟨A,c,e,_⟩:=(Sep.sees H At1:aQ w vw aP 3 p.wh);exact⟨A,c,e⟩
  obtain⟨Aw,cw,rfl⟩:=hvw;refine dF func76 rfl rfl rfl rfl ?_;refine Zb2 ?_;refine aK (aez s oM (hT _ H.kept)) rfl rfl (λv' _ hv=>?_);obtain⟨⟨b7,rfl⟩,bZ⟩:=hv;have S:=H.keep bZ;rw[<-hwd,<-Ez];refine anl ?_;refine Qn (vE (fB (λ_:Unit=>[(0,av b),(5,str wd),(6,str rest)]) (λ_ w'=>(res=(Xz s).map λo=>(⟨p.wh,p.cols++[o],p.group⟩,2))/\Sep w F [blk b [.slice Aw p.wh.length cw,.slice A r.length ca,I p.group,I st] 134,EO (.slice Aw p.wh.length cw) aP 3 p.wh,bJ 94 2 dU (.slice A r.length ca) r,zm r p.cols] w') ?_ ?_))
  . refine Za2 ?_
    refine Qn (Cp rfl (λa=>?_) (λa=>?_))
    . rw[zac a]at au
      refine Zb3 ?_;refine bB S (h:=λ_ d=>?_);refine Zb3 ?_;refine aF (t:=38) rfl (λf=>?_) (λf=>?_)
      . have Ai: ¬wd=zI:=f
        rw[zab Ai]at au;refine Za4 ?_;refine Qn (Rs (dM (bM (dM (bM (jR (bM (dM (lT (hR:=?_))))))))));exact⟨by rw[au];exact zbb Value.bool (zas Ai),by rw[au];exact og d⟩
      have Ai:wd=zI:=zca.1 f;rw[zac Ai]at au;refine Za3 ?_;refine Qn (Cp rfl (λf=>?_) (λf=>?_))
      . have VG:rest=lJ:=f
        rw[zac VG]at au;refine Za3 ?_;refine Qn (Rs (dM (bM (dM (bM (jR (bM (dM (lT (hR:=?_))))))))));exact⟨by rw[au];exact zbb Value.bool (zbj Ai),by rw[au];exact(sD (p:=p) d).first.turn⟩
      rw[zab (show ¬rest=lJ from f)]at au;refine Zb1 ?_;refine dn d (OM rest BD (hT _ d.kept)) (h:=λx _ _ f _=>?_);obtain⟨B,cb,rfl,Po,hB⟩:=Sep.dQ f At0;refine abJ ?_;refine bB f (h:=λ_ f=>?_);refine Za2 ?_;refine Qn (Rs (bM (dM (bM (jR (bM (dM (lT (hR:=?_)))))))));rw[au];unfold mG
      by_cases hq:(dL rest).2=0/\(dL rest).1≠[]
      . rw[zac hq]
        refine⟨rfl,?_⟩;exact(sD (p:=⟨(dL rest).1,p.cols,p.group⟩) (Sep.aL (gL f At0)).aU.dA).first.turn
      rw[zab hq];exact⟨rfl,og f⟩
    have f: ¬st=0:=a;rw[zab f]at au;refine Za2 ?_;refine Qn (Cp rfl (λf=>?_) (λf=>?_))
    . have a:st=2:=f
      refine Za2 ?_;refine Qn (Cp rfl (λd=>?_) (λd=>?_))
      . rw[zac ⟨a,d⟩]at au
        refine Zb3 ?_;refine bB S (h:=λ_ g=>?_);refine Zb1 ?_;refine aK (ag4 rest oM (hT _ g.kept)) rfl rfl (λv' _ hv=>?_);obtain⟨⟨n,ev,bn,rfl,acC,F8,aj8⟩,bZ⟩:=hv;have i:=g.keep bZ;refine Za7 ?_;refine Qn (Cp rfl (λg=>?_) (λg=>?_))
        . have VG:rest=lJ:=g
          have hgc:pQ rest=some (-1):=by unfold pQ;rw[zac VG]
          rw[hgc]at au;refine Zb7 ?_;refine bB i (h:=λ_ j=>?_);refine Zb1 ?_;refine Vv (Gives.Qu (b:=true) (.inl ⟨rfl,rfl⟩) rfl rfl) (Mv ?_);refine gu (t:=74) rfl (λm=>?_) (λm=>?_)
          . refine Zb3 ?_
            refine aF (t:=77) rfl (λq=>?_) (λq=>?_)
            . refine Zb6 ?_
              refine aF (t:=91) rfl (λu=>?_) (λu=>?_)
              . exact zap u dC
              refine Za5 ?_;refine Qn (dX (bM (jR (bM (dM (lT (hR:=?_)))))));exact⟨by rw[au];exact zbb Value.bool (zbj VG),by rw[au];exact(sD (p:=⟨p.wh,p.cols, -1⟩) j).first.turn⟩
            exact zap (show(-1:Int)<0 from dC) q
          exact Bool.noConfusion m
        have VG: ¬rest=lJ:=g;have hgc:pQ rest=(oG rest).map λn:Nat=>((n:Nat):Int):=by unfold pQ;rw[zab VG]
        refine Zb5 ?_;refine bB i (h:=λ_ u=>?_);refine Zb1 ?_;refine Vv (Gives.Qu acC rfl rfl) (Mv ?_);refine gu (t:=74) rfl (λq=>?_) (λq=>?_)
        . have hat:atoiAll rest=.ok n:=F8 q
          have hnf:=abn hat;refine Zb3 ?_;refine aF (t:=77) rfl (λm=>?_) (λm=>?_)
          . have nI:pQ rest=none:=by
              rw[hgc];cases hq:oG rest with
              | none=>rfl
              | some k=>
                have h1:=(qL.2 (show(oG rest).map (λn:Nat=>((n:Nat):Int))=some (k:Int) by rw[hq];rfl)).1;rw[hat]at h1;injection h1 with h1
                omega
            refine Zb6 ?_;refine aF (t:=91) rfl (λm=>?_) (λm=>?_)
            . exact zap m oM
            refine Za5 ?_;refine Qn (dX (bM (jR (bM (dM (lT (hR:=?_)))))));exact⟨by rw[au,nI];exact zbb Value.bool (zas VG),by rw[au,nI];exact og u⟩
          refine Zb1 ?_;refine aD u (Qx n hnf (hT _ u.kept)) (h:=λ_ m _=>?_);refine Zb3 ?_;refine aF (t:=82) rfl (λj=>?_) (λj=>?_)
          . refine Zb6 ?_
            refine aF (t:=88) rfl (λg=>?_) (λg=>?_)
            . have aiJ:pQ rest=some n:=by rw[hgc];exact qL.1 ⟨hat,oM,by assumption,g⟩
              refine Zb3 ?_;refine aF (t:=91) rfl (λg=>?_) (λg=>?_)
              . refine Za3 ?_
                refine Qn (dX (bM (jR (bM (dM (lT (hR:=?_)))))));exact⟨by rw[au,aiJ];rfl,by rw[au,aiJ];exact(sD (p:=⟨p.wh,p.cols,n⟩) m).first.turn⟩
              exact zap (show 0<=n from oM) g
            have nI:pQ rest=none:=by
              rw[hgc];cases hq:oG rest with
              | none=>rfl
              | some k=>
                have h1:=qL.2 (show(oG rest).map (λn:Nat=>((n:Nat):Int))=some (k:Int) by rw[hq];rfl);have h2:=h1.1;rw[hat]at h2;injection h2 with h2
                omega
            refine Za2 ?_;refine Qn (dX (bM (jR (bM (dM (lT (hR:=?_)))))));exact⟨by rw[au,nI];rfl,by rw[au,nI];exact og m⟩
          have nI:pQ rest=none:=by
            rw[hgc];cases hq:oG rest with
            | none=>rfl
            | some k=>
              have h1:=qL.2 (show(oG rest).map (λn:Nat=>((n:Nat):Int))=some (k:Int) by rw[hq];rfl);have h2:=h1.1;rw[hat]at h2;injection h2 with h2
              exact zap (by rw[h2];exact h1.2.2.1) j
          refine Za6 ?_;refine Qn (dX (bM (jR (bM (dM (lT (hR:=?_)))))));exact⟨by rw[au,nI];rfl,by rw[au,nI];exact og m⟩
        have nI:pQ rest=none:=by
          rw[hgc];cases hq:oG rest with
          | none=>rfl
          | some k=>exact zap (qL.2 (by rw[hq];rfl)).1 (aj8 (by simpa using q) _)
        refine Za4 ?_;refine Qn (dX (bM (jR (bM (dM (lT (hR:=?_)))))));exact⟨by rw[au,nI];rfl,by rw[au,nI];exact og u⟩
      rw[zab (λh=>d h.2),zac (.inr a)]at au;refine Zb0 ?_;exact aA () tR ⟨au,S⟩
    have a: ¬st=2:=f;rw[zab (λh=>a h.1)]at au;refine Za2 ?_;refine Qn (Cp rfl (λg=>?_) (λg=>?_))
    . have j:st=1\/st=2:=.inl g
      rw[zac j]at au;refine Zb0 ?_;exact aA () tR ⟨au,S⟩
    rw[zab oM]at au;refine Sk (JC (rR rfl (vD (rR rfl (vD (rR rfl (ZO (Al (bC ?_)))))))));refine Zb1 ?_;exact⟨by rw[au];rfl,by rw[au];exact og S⟩
  rintro _ τ j ⟨hres2,j⟩;simp only[cK,like,aS,bK];refine Zb3 ?_;refine bB j (h:=λ_ j=>?_);refine Zb1 ?_;refine aK (aez rest oM (hT _ j.kept)) rfl rfl (λv' _ hv=>?_);obtain⟨⟨b14,rfl⟩,bZ⟩:=hv;have g:=j.keep bZ;obtain⟨name,aiK⟩: ∃name,name=(jy rest).1:=⟨_,rfl⟩;obtain⟨text,af8⟩: ∃text,text=(jy rest).2:=⟨_,rfl⟩;have Ml:text.length<=1000000:=by have:=(OL rest).2;rw[af8];omega
  unfold Xz at hres2;rw[<-hwd,<-Ez,<-aiK,<-af8]at hres2;rw[<-aiK,<-af8];refine Zb8 ?_;refine dn g (OM text Ml (hT _ g.kept)) (h:=λx _ _ g _=>?_);obtain⟨B,cb,rfl,Po,hB⟩:=Sep.dQ g At0;refine Q7 ?_;refine Vb (dU (name,.slice B (dL text).1.length cb)) ?_;refine Bs g ([(name,Value.slice B (dL text).1.length cb)].flatMap dU) (λbs _ g _=>?_);refine gP g (news:=[(name,Value.slice B (dL text).1.length cb)]) At3 (by unfold maxLen;simp;omega) (by simp;omega) (aey rfl) (h:=?_);intro v2 g g;obtain⟨A2,c2,rfl,j,hA2⟩:=Sep.dQ g At3;refine Zb3 ?_;refine bB g (h:=λ_ j=>?_);refine Zb2 ?_;refine gu (t:=125) rfl (λg=>?_) (λg=>?_)
  . have his:(mG text).isSome=true:=g
    refine Zb4 ?_;refine aF (t:=129) rfl (λS=>?_) (λS=>?_)
    . have hwo:wd=M4:=S
      refine Zb1 ?_;refine aD j (N7 _) (h:=λ_ m _=>?_);refine Zb2 ?_;cases hq:gZ name with
      | false=>exact⟨by rw[hres2,zab (λh=>by rw[hq]at h;cases h.2)];rfl,by rw[hres2,zab (λh=>by rw[hq]at h;cases h.2)];exact og m⟩
      | true=>
        have acw:mG text=some (dL text).1:=by
          unfold mG at his |-
          split at his
          . rename_i h1;rw[zac h1]
          cases his
        refine⟨by rw[hres2,zac ⟨hwo,hq⟩,acw];rfl,?_⟩;rw[hres2,zac ⟨hwo,hq⟩,acw];have HA:=(Gs (n:=name) (m.fC.aL)).bE.bE.bE;exact(sD (p:=⟨p.wh,p.cols++[⟨name,(dL text).1⟩],p.group⟩) HA).first.turn
    have hwo: ¬wd=M4:=S;refine Zb2 ?_;exact⟨by rw[hres2,zab (λh=>hwo h.1)];rfl,by rw[hres2,zab (λh=>hwo h.1)];exact og j⟩
  have nI:mG text=none:=by
    cases hq:mG text with
    | none=>rfl
    | some l=>rw[hq]at g;exact Bool.noConfusion g
  refine Zb4 ?_;exact⟨by rw[hres2,nI];split<;>rfl,by rw[hres2,nI];split<;>exact og j⟩
end
def j5 (l:L8):L8:=l++[10]
theorem UG {a b:L8} (h:j5 a=j5 b):a=b:=List.append_cancel_right h
theorem Eh: ∀{a b:List (L8)},a.map j5=b.map j5->a=b
 | [],[],_=>rfl
 | [],b::l,h=>by cases h
 | a::l,[],h=>by cases h
 | a::l,b::m,h=>by
  injection h with h1 h2
  rw[UG h1,Eh h2]
def qM (s:L8):List (L8):=(bY 10 s).dropLast.map j5++(if(bY 10 s).getLast?=some []then []else [(bY 10 s).getLastD []])
def OO (s:L8):List (L8):=if(iW s).2=true then(iW s).1 else(iW s).1.dropLast
theorem UH:qM []=[]:=rfl
theorem QW {l:L8} (h:Lib.indexByte l 10= -1):bY 10 l=[l]:=
 Df λc hc e=>by
  obtain⟨k,hk⟩:=zdc hc;exact Lib.indexByte_none h k (by rw[hk,e])
theorem Ei {l:L8} {o:Nat} (h:Lib.indexByte l 10=o):o<l.length/\l.take (o+1)=j5 (l.take o)/\bY 10 l=l.take o::bY 10 (l.drop (o+1)):=by
 obtain⟨h1,h2⟩:=Lib.indexByte_some h;have bH:=(zaz.1 h1).1
 have e:l=l.take o++10::l.drop (o+1):=by
  have e1:l.drop o=10::l.drop (o+1):=by
   rw[zbn bH]
   congr 1
   rw[zaa bH]at h1;injection h1
  conv=>lhs;rw[<-zbs o l,e1]
 refine⟨bH,by rw[zbd,h1];rfl,?_⟩
 have:=FP (sep:=10) (w:=l.take o) (l:=l.drop (o+1)) λc hc e=>by
  obtain⟨k,hk⟩:=zdc hc;rw[zck]at hk
  split at hk
  .exact h2 k oM (by rw[hk,e])
  cases hk
 rw[<-this,<-e]
theorem abo {l:L8} (h:Lib.indexByte l 10= -1) (iC:l≠[]):qM l=[l]:=by
 unfold qM;rw[QW h];simp[iC]
theorem abp {l:L8} {o:Nat} (h:Lib.indexByte l 10=o):qM l=l.take (o+1)::qM (l.drop (o+1)):=by
 obtain⟨_,h2,h3⟩:=Ei h;have iC:=Fg (l.drop (o+1));unfold qM;rw[h3,h2];cases hs:bY 10 (l.drop (o+1))with
 | nil=>exact zap hs iC
 | cons a r=>
  rw[List.dropLast_cons_of_ne_nil sM];simp
theorem XG {s:L8}: ∀w∈bY 10 s,∀c∈w,c≠10:=by
 induction s with
 | nil=>intro w hw c hc;simp[bY]at hw;subst hw;cases hc
 | cons x l ih=>
  intro w hw c hc
  by_cases hx:x=10
  .rw[bY,zac hx]at hw
   rcases zan.1 hw with rfl | hw
   .cases hc
   exact ih w hw c hc
  obtain⟨H,ws,e1,e2⟩:=oK (sep:=10) (l:=l) hx;rw[e2]at hw;rw[e1]at ih
  rcases zan.1 hw with rfl | hw
  .rcases zan.1 hc with rfl | hc
   .exact hx
   exact ih H sM c hc
  exact ih w (zag _ hw) c hc
theorem UJ (s:L8): ∃T,qM s=(OO s).map j5++T/\((T=[]/\(iW s).2=true)\/(∃x,T=[x]/\(iW s).2=false/\∀c∈x,c≠10)):=by
 have iC:=Fg s;unfold qM OO iW
 by_cases h:(bY 10 s).getLast?=some []
 .rw[zac h,zac h]
  exact⟨[],sM,.inl ⟨rfl,rfl⟩⟩
 rw[zab h,zab h];refine⟨[(bY 10 s).getLastD []],sM,.inr ⟨_,rfl,rfl,?_⟩⟩;refine XG (s:=s) _ ?_;rw[List.getLastD_eq_getLast?,List.getLast?_eq_some_getLast iC];exact List.getLast_mem iC
theorem XH {s:L8} {ls:List (L8)} {x:L8} (h:ls.map j5++[x]<+:qM s):(∃l rest,x=j5 l/\OO s=ls++l::rest)\/((iW s).2=false/\ls=OO s/\∀c∈x,c≠10):=by
 obtain⟨T,hT,hc⟩:=UJ s;obtain⟨t,ht⟩:=h;rw[hT,zbp,List.singleton_append]at ht
 rcases List.append_eq_append_iff.1 ht with⟨a,h1,h2⟩ | ⟨c,h1,h2⟩
 .obtain⟨l1,l2,e,e1,e2⟩:=List.map_eq_append_iff.1 h1
  have e1':=Eh e1;subst e1';cases l2 with
  | nil=>
   subst e2;rw[zcm,zcb]at h2
   rcases hc with⟨rfl,_⟩ | ⟨y,rfl,hw,hy⟩
   .cases h2
   injection h2 with h2 _
   subst h2;rw[zci]at e;exact .inr ⟨hw,e.symm,hy⟩
  | cons l l2=>
   subst e2;injection h2 with h2 _
   exact .inl ⟨l,l2,h2,e⟩
 rcases hc with⟨rfl,_⟩ | ⟨y,rfl,hw,hy⟩
 .cases c<;>cases h2
 cases c with
 | nil=>
  rw[zci]at h1;injection h2 with h2 _
  subst h2;exact .inr ⟨hw,Eh h1,hy⟩
 | cons z c=>injection h2 with _ h2;cases c<;>cases h2
theorem ag6 {s:L8} {ls:List (L8)} (h:qM s=ls.map j5):(iW s).2=true/\(iW s).1=ls:=by
 obtain⟨T,hT,hc⟩:=UJ s;rw[hT]at h
 rcases hc with⟨rfl,hw⟩ | ⟨y,rfl,hw,hy⟩
 .rw[zci]at h
  have:=Eh h;unfold OO at this;rw[zac hw]at this;exact⟨hw,this⟩
 obtain⟨l1,l2,e,e1,e2⟩:=List.map_eq_append_iff.1 h.symm;cases l2 with
 | nil=>cases e2
 | cons l l2=>
  injection e2 with e2 _
  exact zap rfl (hy 10 (by rw[<-e2];unfold j5;simp))
theorem GZ (s:L8): ∀w∈bY 10 s,w.length<=s.length:=by
  induction s with
  | nil=>
   intro w h;have :w=[]:=by simpa[bY]using h
   rw[this];simp
  | cons c l ih=>
    intro w h
    by_cases hc:c=10
    . rw[bY,zac hc]at h
      rcases zan.1 h with rfl | h
      . simp
      have:=ih w h;simp only[zal];omega
    obtain⟨H,ws,e1,e2⟩:=oK (sep:=10) (l:=l) hc;rw[e2]at h;rw[e1]at ih
    rcases zan.1 h with rfl | h
    . have:=ih H sM
      simp only[zal];omega
    have:=ih w (zag _ h);simp only[zal];omega
theorem ag7 {s x:L8} (h:x∈qM s):x.length<=s.length+1:=by
 unfold qM at h
 rcases zbi.1 h with h | h
 .obtain⟨y,hy,rfl⟩:=zat.1 h
  have:=GZ s y ((List.dropLast_sublist _).subset hy);unfold j5;rw[zad,zah];omega
 split at h
 .cases h
 rw[zar]at h;subst h;have iC:=Fg s;have:=GZ s _ (List.getLast_mem iC);rw[List.getLastD_eq_getLast?,List.getLast?_eq_some_getLast iC];show((bY 10 s).getLast iC).length<=_
 omega
theorem aeA (s:L8):(qM s).length<=s.length+1:=by
 have h1:=GJ 10 s;have h2:s.count 10<=s.length:=List.count_le_length;have h0:0<(bY 10 s).length:=oM;unfold qM;rw[zad,zaf,List.length_dropLast]
 split<;>simp only[zcu,zal]<;>omega
theorem ag8 {J:List (L8)->aW->Int->Prop} (h0:J [] lI 0) (hs: ∀m x p t p' t',J m p t->jA p t x=some (p',t')->J (m++[x]) p' t'): ∀(ls:List (L8)) {p:aW} {st:Int},tL ls=some (p,st)->J ls p st:=by
 intro ls
 have key: ∀n (ls:List (L8)),ls.length=n->∀{p:aW} {st:Int},tL ls=some (p,st)->J ls p st:=by
  intro n
  induction n with
  | zero=>
   intro l hl p st h;have:=zbe hl;subst this;injection h with h
   injection h with h1 h2
   subst h1;subst h2;exact h0
  | succ n ih=>
   intro l hl p st h;obtain⟨m,x,rfl⟩:=Zb (show l≠[] by intro e;rw[e]at hl;cases hl);rw[La]at h;obtain⟨⟨p',t'⟩,h1,h2⟩:=zdq.1 h;exact hs m x p' t' p st (ih m (by rw[zad,zah]at hl;omega) h1) h2
 exact λ{p st} h=>key ls.length ls rfl h
theorem XI {p p':aW} {t t':Int} {x:L8} (h:jA p t x=some (p',t')):(p'.wh=p.wh\/∃y,p'.wh=(dL y).1)/\(p'.cols=p.cols\/∃n y,p'.cols=p.cols++[⟨n,(dL y).1⟩])/\(t'=1\/t'=2\/t'=3):=by
 unfold jA at h
 split at h
 .split at h
  .split at h
   .injection h with h;injection h with e1 e2;subst e1;subst e2;exact⟨.inl rfl,.inl rfl,.inl rfl⟩
   obtain⟨y,hy,h⟩:=zav.1 h;unfold mG at hy
   split at hy
   .injection hy with hy
    injection h with e1 e2;subst e1;subst e2;exact⟨.inr ⟨_,hy.symm⟩,.inl rfl,.inl rfl⟩
   cases hy
  cases h
 split at h
 .obtain⟨y,_,h⟩:=zav.1 h
  injection h with e1 e2;subst e1;subst e2;exact⟨.inl rfl,.inl rfl,.inr (.inr rfl)⟩
 split at h
 .obtain⟨o,ho,h⟩:=zav.1 h
  unfold Xz at ho
  split at ho
  .obtain⟨l,hl,ho⟩:=zav.1 ho
   unfold mG at hl
   split at hl
   .injection hl with hl
    subst hl;subst ho;injection h with e1 e2;subst e1;subst e2;exact⟨.inl rfl,.inr ⟨_,_,rfl⟩,.inr (.inl rfl)⟩
   cases hl
  cases ho
 cases h
def tN (p:aW):Prop:=bI p.wh/\∀o∈p.cols,bI o.steps
theorem UK (ls:List (L8)) {p:aW} {st:Int} (h:tL ls=some (p,st)):p.cols.length<=ls.length/\(st=0\/st=1\/st=2\/st=3)/\tN p:=by
 refine ag8 (J:=λls p st=>p.cols.length<=ls.length/\(st=0\/st=1\/st=2\/st=3)/\tN p) ⟨zbk _,.inl rfl,(λx hx=>zap hx zao),λo ho=>zap ho zao⟩ (λm x p t p' t' hJ hl=>?_) ls h;obtain⟨h1,h2,h3,h4⟩:=hJ;obtain⟨c1,c2,c3⟩:=XI hl;rw[zad,zah];refine⟨?_,oM,?_,λo ho=>?_⟩
 .rcases c2 with e | ⟨n,y,e⟩
  .rw[e];omega
  rw[e,zad,zah];omega
 .rcases c1 with e | ⟨y,e⟩
  .rw[e];exact h3
  rw[e];exact Kg y
 rcases c2 with e | ⟨n,y,e⟩
 .rw[e]at ho;exact h4 o ho
 rw[e]at ho
 rcases zbi.1 ho with ho | ho
 .exact h4 o ho
 rw[zar]at ho;subst ho;exact Kg y
theorem UL (x:L8):(∃l,x=j5 l/\Lib.trimSuffix x [10]=l/\Lib.hasSuffix x [10]=true)\/((∀l,x≠j5 l)/\Lib.trimSuffix x [10]=x/\Lib.hasSuffix x [10]=false):=by
 by_cases h:Lib.hasSuffix x [10]=true
 .have h':=h
  unfold Lib.hasSuffix at h';obtain⟨l,hl⟩:=List.isSuffixOf_iff_suffix.1 h';refine .inl ⟨l,hl.symm,?_,h⟩;unfold Lib.trimSuffix;rw[zac h,<-hl];simp
 refine .inr ⟨λl e=>h ?_,?_,by simpa using h⟩
 .unfold Lib.hasSuffix
  exact List.isSuffixOf_iff_suffix.2 ⟨l,e.symm⟩
 unfold Lib.trimSuffix;rw[zab h]
def plJ (b2 b3 b4 b5:Nat) (pre:List (L8)):HP:=exH λz:List (L8)×aW×Int=>iT [jo (pre=z.1.map j5/\tL z.1=some (z.2.1,z.2.2)),blk b2 [.slice none 0 0,.slice none 0 0,I 0] 26,blk b3 [I (pre.length:Nat)] 3,blk b4 [I 0] 29,GY b5 z.2.1 z.2.2]
def plL (b2 b3 b4:Nat) (pre:List (L8)) (x:L8):HP:=iT [jo (∃ls p st,pre=ls.map j5/\tL ls=some (p,st)/\((∃l,x=j5 l/\jA p st l=none)\/∀l,x≠j5 l)),blk b2 [.slice none 0 0,.slice none 0 0,I 0] 26,blk b3 [I (pre.length:Nat)] 3,blk b4 [I 4] 29]
theorem abq {s:L8} {ls:List (L8)} {x:L8} {p:aW} {st:Int} (hs:s.length<=1048576) (hp:ls.map j5++[x]<+:qM s) (hr:tL ls=some (p,st)) (hx:(∃l,x=j5 l/\jA p st l=none)\/∀l,x≠j5 l):pI s=(lI,(((ls.map j5).length:Nat):Int),4):=by
 rw[zaf]
 rcases XH hp with⟨l,rest,e,hf⟩ | ⟨hw,hf,nI⟩
 .rcases hx with⟨l',e',hn⟩ | hx
  .have :l=l':=UG (e.symm.trans e')
   subst this;exact XE hs hf hr hn
  exact zap e (hx l)
 unfold OO at hf;rw[hw,zab dC]at hf;rw[hf]at hr ⊢;exact XF hs hw hr
section
variable {w:Wd}
theorem XJ (l:L8):aY prog 112 [str l,.int .u8 10] w λv w'=>v=I (Lib.indexByte l 10)/\w=w':=
 jQ (Tryz.strings_IndexByte ⟨l.toArray⟩ 10 w)
theorem aeB (s:L8):aY prog 74 [str s] w λv w'=>∃x:Nat,v=.func (.func 111) #[] #[av x]/\True/\Turn noB (blk x [str s] 9) w w':=by
 have H:=Sep.aJ w;refine dI func74 rfl rfl rfl rfl ?_;refine Sr (cB H (cs:=[str s]) rfl (h:=λb1 _ k _=>?_));refine Zb1 ?_;refine Vv (Gives.makeFunc (fs:=[]) (us:=[]) (cs:=[.tmp 1]) rfl rfl) (Zb1 ?_);exact⟨b1,rfl,trivial,k.turn⟩
theorem QX (x:L8) (hl:x.length<=10000000):aY prog 75 [str x,str [10]] w λv w'=>v=.tuple #[str (Lib.trimSuffix x [10]),.bool (Lib.hasSuffix x [10])]/\w=w':=
 jQ (Tryz.strings_CutSuffix ⟨x.toArray⟩ ⟨#[10]⟩ w (by rw[Mw.size_mk];omega))
theorem XK {S:NP} {w0:Wd} {J:List (L8)->HP} {L:List (L8)->L8->HP} {l D:Nat} {ro rj:Obj} {bS:Nat} {s:L8} (hl:s.length<=1048576)
    (HW:Sep w0 S [obj l ro,obj D (.deferred (some [])),J [],blk bS [str s] 9] w)
    (hy: ∀(pre:List (L8)) (x:L8) (Fr:List HP) (W:Wd),pre++[x]<+:qM s->Sep w0 S (obj l ro::obj D (.deferred (some []))::J pre::Fr) W->Q8 prog l [str x] W λb W'=>if b=true then Sep w0 S (obj l ro::obj D (.deferred (some []))::J (pre++[x])::Fr) W' else Sep w0 S [obj l rj,obj D (.deferred (some [])),L pre x] W'):
    aY prog 111 [.func (.yield l) #[] #[],av bS] w λ_ W'=>Sep w0 S [obj l ro,obj D (.deferred (some [])),J (qM s)] W'\/∃pre x,pre++[x]<+:qM s/\Sep w0 S [obj l rj,obj D (.deferred (some [])),L pre x] W':=by
  have H:=HW;refine dF func111 rfl rfl rfl rfl ?_;refine Zb0 ?_;refine aR (λ_:List (L8)×L8=>[(0,.func (.yield l) #[] #[]),(1,av bS)]) (λx w'=>(x.1++qM x.2=qM s/\x.2.length<=s.length)/\Sep w0 S [obj l ro,obj D (.deferred (some [])),J x.1,blk bS [str x.2] 9] w') (λx _=>x.2.length) ([],s) tR ⟨⟨rfl,zbk _⟩,H⟩ (λx τ _ hI=>?_);obtain⟨pre,t⟩:=x;obtain⟨⟨F9,Ml⟩,k⟩:=hI;dsimp only at F9 Ml k
  try simp only[cK,like,aS,bK]
  refine Za3 ?_;refine Qn (Cp rfl (λI=>?_) (λI=>?_))
  . have iC:t≠[]:=λe=>by rw[e]at I;exact zap I dC
    refine Zb2 ?_;refine eY (XJ t) (h:=?_);refine Za3 ?_;refine Qn (Cp rfl (λI=>?_) (λI=>?_))
    . obtain⟨o,ho⟩: ∃o:Nat,Lib.indexByte t 10=o:=⟨(Lib.indexByte t 10).toNat,by have h1:=I;omega⟩
      obtain⟨anT,hot,_⟩:=Ei ho;have hrs:=abp ho
      have jm:pre++[t.take (o+1)]<+:qM s:=by
        rw[<-F9,hrs];exact⟨qM (t.drop (o+1)),sM⟩
      rw[ho];refine Ds (λa _ d=>?_);refine Zb2 ?_;refine Gp a 2 rfl rfl (λ_=>(Gives.PO (c:=((o+1:Nat):Int)) rfl rfl (by show(o:Int)+1=_;omega) oM)) (Gp a 3 rfl rfl (λ_=>(Gives.pR (i:=o+1) rfl rfl oM)) ?_);refine Zb2 ?_;refine Gp a 6 rfl rfl (λ_=>(Gives.PO (c:=((o+1:Nat):Int)) rfl rfl (by show(o:Int)+1=_;omega) oM)) (Gp a 7 rfl rfl (λ_=>(Gives.oJ (i:=o+1) rfl rfl oM)) ?_);refine Zb1 ?_;refine mM a 9 _ d (h:=λ_ d=>⟨sT,?_⟩);refine Zb2 ?_;refine Bl rfl (hy pre (t.take (o+1)) _ _ jm d) rfl rfl (λb8 _ Rv=>?_);refine Vv (Gives.not rfl) (Qn ?_);refine Cd rfl (λd=>?_) (λd=>?_)
      . have hb:b8=false:=by have h1:=d;revert h1;cases b8<;>simp
        rw[hb,zab dC]at Rv;refine Zb0 ?_;exact .inr ⟨pre,t.take (o+1),jm,Rv⟩
      have hb:b8=true:=by have h1:=d;revert h1;cases b8<;>simp
      rw[hb,zac rfl]at Rv;have d:=Rv;refine Zb0 ?_;exact aj (pre++[t.take (o+1)],t.drop (o+1)) tR ⟨⟨by dsimp only;rw[<-F9,hrs];simp,by dsimp only;rw[zbq];omega⟩,d⟩ (by dsimp only;rw[zbq];omega)
    have ahM:Lib.indexByte t 10= -1:=by have h1:=I;have h2:=Lib.indexByte_ge t 10;omega
    have hrs:=abo ahM iC;have jm:pre++[t]<+:qM s:=by rw[<-F9,hrs];exact List.prefix_refl _
    refine Zb2 ?_;refine bB k (h:=λ_ d=>?_);refine Zb2 ?_;refine Bl rfl (hy pre t _ _ jm d) rfl rfl (λb8 _ Rv=>?_);refine Vv (Gives.not rfl) (Qn ?_);refine Cd rfl (λd=>?_) (λd=>?_)
    . have hb:b8=false:=by have h1:=d;revert h1;cases b8<;>simp
      rw[hb,zab dC]at Rv;refine Zb0 ?_;exact .inr ⟨pre,t,jm,Rv⟩
    have hb:b8=true:=by have h1:=d;revert h1;cases b8<;>simp
    rw[hb,zac rfl]at Rv;have d:=Rv;refine Zb0 ?_;exact aj (pre++[t],[]) tR ⟨⟨by dsimp only;rw[<-F9,hrs,UH,zci],sM⟩,d⟩ (by have:=zez.2 iC;dsimp only;simpa using this)
  have he:t=[]:=zbe oM;subst he;rw[UH,zci]at F9;refine Zb0 ?_;exact .inl (by rw[<-F9];exact k.firsts (l:=[_,_,_]))
end
end Go.Proofs.YtkfpleidaoaonaaGreatDoor
namespace Go.Mw
open Go.RowKit
theorem Lg {P:Program} {T U V:Td} {k:Nat} [Agg P T k] [OneCell P U] [OneCell P V] {σ:St} {w:Wd} {a b c x y z:Nat} {us:LV} {v u:Value} {E F G:Td} (hx:w.heap[x]? =some (.cells us.toArray E (0,0))) (hy:w.heap[y]? =some (.cells [v].toArray F (0,0))) (hz:w.heap[z]? =some (.cells [u].toArray G (0,0)))
    (hk:us.length=k:=by exact rfl) (ha:σ a=.pointer (some ⟨x,0,none⟩):=by exact rfl) (hb:σ b=.pointer (some ⟨y,0,none⟩):=by exact rfl) (hc:σ c=.pointer (some ⟨z,0,none⟩):=by exact rfl):qz P σ w [.cell a T,.cell b U,.cell c V] [.agg us.toArray,v,u]:=
  ⟨_,[v,u],⟨x,0,none⟩,rfl,ha,pU (k:=k) hx (us:=us) (by rw[zdb,<-hk,zbo]) hk,v,[u],⟨y,0,none⟩,rfl,hb,DC hy,u,[],⟨z,0,none⟩,rfl,hc,DC hz,rfl⟩
end Go.Mw
namespace Go.Proofs.YtkfpleidaoaonaaGreatDoor
open Go Go.Mw Go.Lib
set_option maxRecDepth 4000
attribute [local irreducible] FW FL FG FGn fZ gG cO gW Qfn Gives
theorem CZ {α:Type} {w:Wd} {enc:α->LV} {k:Nat}:aQ w (.slice none 0 0) enc k []:=⟨none,0,rfl,⟨zbk _,dC⟩,gV.nil _ _ _⟩
theorem aeC (w:Wd):ji w (agg [.slice none 0 0,.slice none 0 0,I 0]) lI:=⟨_,_,rfl,CZ,[],CZ,nV.nil⟩
section
variable {w w0:Wd} {S:NP} {rs:List HP}
theorem Bd {F:NP} (H:Mw.Sep w0 F rs w):Turn F (BR (agg [.slice none 0 0,.slice none 0 0,I 0]) lI) w0 w:=(Sep.xU H aeC).first.turn
theorem QY {b:Nat} {p:aW} {st:Int} {vw vc:Value} {r:List (L8×Value)} (H:Mw.Sep w0 S (blk b [vw,vc,I p.group,I st] 134::EO vw aP 3 p.wh::bJ 94 2 dU vc r::zm r p.cols::rs) w):ji w (agg [vw,vc,I p.group]) p:=
 ⟨vw,vc,rfl,Sep.sees H At1,r,mY H At2,Sep.sees H At3⟩
theorem Lh (s:L8) (hl:s.length<=900000\/1048576<s.length) (VI:s.length<=1000000000) (hT:gQ w):aY Tryz.prog 37 [str s] w λv w'=>∃x,v=.tuple #[x,I (pI s).2.1,I (pI s).2.2]/\True/\Turn noB (BR x (pI s).1) w w':=by
  have H:=Sep.aJ w;obtain⟨res,au⟩: ∃res,res=pI s:=⟨_,rfl⟩;rw[<-au];refine ac2 Tryz.func37 rfl rfl rfl rfl ?_;refine Sr (aO H (h:=λb2 _ k _=>?_));refine aO k (h:=λb3 _ k _=>?_);refine aO k (h:=λb4 _ k _=>?_);refine Za3 ?_;refine Qn (Cp rfl (λS=>?_) (λS=>?_))
  . unfold pI at au
    rw[zac oM]at au;refine Sr (Vb [.slice none 0 0,.slice none 0 0,I 0] ?_);refine ak k (h:=λ_ S=>?_);refine bB S (h:=λ_ S=>?_);refine bB S (h:=λ_ S=>?_);refine Qn (Rs (Dz (h:=?_)));exact⟨[_,I 0,I 5],Lg (S.obj At2) (S.obj At1) (S.obj At0),_,by rw[au];rfl,trivial,by rw[au];exact Bd S⟩
  have q9:s.length<=900000:=oM;have hsl:s.length<=1048576:=oM;refine Zb0 ?_;refine aO k (h:=λb5 _ S _=>?_);refine Zb1 ?_;refine aK (aeB s) rfl rfl (λv' k hv=>?_);obtain⟨bS,rfl,_,bZ,F1,hq,gT⟩:=hv;have a:=S.new bZ hq (λb hb=>(gT b hb).resolve_left id);refine Zb0 ?_;have aqu:=aeA s
  have HJ:Mw.Sep w noB (plJ b2 b3 b4 b5 []::[blk bS [str s] 9]) k:=by
    have h0:Mw.Sep w noB (EO (.slice none 0 0) aP 3 []::_) k:=Sep.xU a λ_=>CZ;have h1:=((Ko (Sep.nE h0 94 2 dU)).aL.aU).fC;have h2:=((sD (p:=lI) h1).aU.bE).fC;exact Sep.uq (p:=λz:List (L8)×aW×Int=>iT [jo (([]:List (L8))=z.1.map j5/\tL z.1=some (z.2.1,z.2.2)),blk b2 [.slice none 0 0,.slice none 0 0,I 0] 26,blk b3 [I (([]:List (L8)).length:Nat)] 3,blk b4 [I 0] 29,GY b5 z.2.1 z.2.2]) ([],lI,0) (Sep.bundle (l:=[jo (([]:List (L8))=([]:List (L8)).map j5/\tL []=some (lI,0)),_,_,_,_]) (Sep.jS ⟨rfl,rfl⟩ h2))
  refine Nq (gf:=111) (lb:=[av bS]) str (qM s) (plJ b2 b3 b4 b5) (plL b2 b3 b4) _ HJ rfl rfl ?_ ?_ ?_ ?_
  . intro l D ro rb pre x Fr W jm HW
    have ZB:x∈qM s:=jm.subset (zce pre (zar.2 rfl));have hxl:=ag7 ZB;have Yu:pre.length+1<=s.length+1:=by have:=jm.length_le;rw[zad,zah]at this;omega
    refine Za1 ?_;refine uT (pO ?_);refine⟨[],HW,λWB HB=>?_⟩;have HB2:Mw.Sep w noB (obj l rb::obj D (.deferred (some []))::plJ b2 b3 b4 b5 pre::Fr) WB:=HB;replace HB2:=HB2.aU;unfold plJ at HB2;obtain⟨⟨ls,p,st⟩,HB2⟩:=HB2.ex0;obtain⟨⟨BA,iw⟩,HB3⟩:=(HB2.parts).rO;dsimp only at BA iw HB3;obtain⟨xJ,fU,BM⟩:=UK ls iw;replace HB:=HB3;refine Zb1 ?_;refine eY (QX x oM) (h:=?_);refine Zb8 ?_;refine gu (t:=25) rfl (λa=>?_) (λa=>?_)
    . have akf:Lib.hasSuffix x [10]=false:=by simpa using a
      have nI: ∀l,x≠j5 l:=by
        rcases UL x with⟨_,_,_,h⟩ | ⟨h,_⟩
        . rw[akf]at h;cases h
        exact h
      have rM: ∃ls p st,pre=ls.map j5/\tL ls=some (p,st)/\((∃l,x=j5 l/\jA p st l=none)\/∀l,x≠j5 l):=⟨ls,p,st,BA,iw,.inr nI⟩;refine Zb1 ?_;refine Ds (λk _ S=>?_);refine Gb k 0 [.slice none 0 0,.slice none 0 0,I 0] ?_;refine Zb1 ?_;refine dZ k 2 [(1,false)] S (h:=λ_ S=>⟨sL,?_⟩);refine mM k 3 _ S (h:=λ_ S=>⟨sT,?_⟩);refine mM k 4 _ S (h:=λ_ S=>⟨sT,?_⟩);refine fF k kR ?_;refine bC (Rs (bM (yE ?_)));exact(Sep.bundle (l:=[jo (∃ls p st,pre=ls.map j5/\tL ls=some (p,st)/\((∃l,x=j5 l/\jA p st l=none)\/∀l,x≠j5 l)),_,_,_]) (rs:=[_,_]) (Sep.jS rM ((S.bE).dA.firsts (l:=[_,_,_,_,_])))).El
    have akf:Lib.hasSuffix x [10]=true:=by simpa using a
    obtain⟨l0,hx0,afE⟩: ∃l0,x=j5 l0/\Lib.trimSuffix x [10]=l0:=by
      rcases UL x with⟨l0,h1,h2,_⟩ | ⟨_,_,h⟩
      . exact⟨l0,h1,h2⟩
      rw[akf]at h;cases h
    have Ru:l0.length<=s.length+1:=by have h1:=hxl;rw[hx0]at h1;unfold j5 at h1;rw[zad,zah]at h1;omega
    have ar3:ls.length=pre.length:=by rw[BA,zaf]
    rw[afE];refine Zb1 ?_;obtain⟨F0,dS,gH,aI⟩:=HB.focus At3;refine aK (ag5 l0 dS fU oM oM λw' hk=>hT.keep (HB.kept.trans hk gH)) rfl rfl (λv' _ hv=>?_);obtain⟨rfl,bZ,F1,hq,gT⟩:=hv;have S:=aI _ F1 _ bZ hq gT;refine On (Vv (Gives.not rfl) (Pf ?_));refine Qn (Cd rfl (λk=>?_) (λk=>?_))
    . have ZA:jA p st l0=none:=by
        have h1:=k;cases hq:jA p st l0 with
        | none=>rfl
        | some y=>rw[hq]at h1;cases h1
      have rM: ∃ls p st,pre=ls.map j5/\tL ls=some (p,st)/\((∃l,x=j5 l/\jA p st l=none)\/∀l,x≠j5 l):=⟨ls,p,st,BA,iw,.inl ⟨l0,hx0,ZA⟩⟩;refine Zb0 ?_;refine Ds (λa _ d=>?_);refine Gb a 0 [.slice none 0 0,.slice none 0 0,I 0] ?_;refine Zb1 ?_;refine dZ a 2 [(1,false)] d (h:=λ_ d=>⟨sL,?_⟩);refine mM a 3 _ d (h:=λ_ d=>⟨sT,?_⟩);refine mM a 4 _ d (h:=λ_ d=>⟨sT,?_⟩);refine fF a kR ?_;refine bC (Rs (bM (yE ?_)));exact(Sep.bundle (l:=[jo (∃ls p st,pre=ls.map j5/\tL ls=some (p,st)/\((∃l,x=j5 l/\jA p st l=none)\/∀l,x≠j5 l)),_,_,_]) (rs:=[_,_]) (Sep.jS rM ((d.bE).dA.firsts (l:=[_,_,_,_,_])))).El
    obtain⟨⟨p',st'⟩,hl1⟩: ∃y,jA p st l0=some y:=by
      have h1:=k;cases hq:jA p st l0 with
      | none=>rw[hq]at h1;cases h1
      | some y=>exact⟨y,rfl⟩
    rw[hl1]at S;have apg:pre++[x]=(ls++[l0]).map j5:=by rw[zau,BA,hx0];rfl
    have amj:tL (ls++[l0])=some (p',st'):=by rw[La,iw];exact hl1
    refine Zb1 ?_;refine Vv (Gives.PO (c:=(((pre++[x]).length:Nat):Int)) rfl rfl (by rw[zad,zah];omega) (by rw[zad,zah];omega)) ?_;refine bB S (h:=λ_ d=>?_);refine uT (uo (Ck ?_));exact(Sep.uq (p:=λz:List (L8)×aW×Int=>iT [jo (pre++[x]=z.1.map j5/\tL z.1=some (z.2.1,z.2.2)),blk b2 [.slice none 0 0,.slice none 0 0,I 0] 26,blk b3 [I ((pre++[x]).length:Nat)] 3,blk b4 [I 0] 29,GY b5 z.2.1 z.2.2]) (ls++[l0],p',st') (Sep.bundle (l:=[jo (pre++[x]=(ls++[l0]).map j5/\tL (ls++[l0])=some (p',st')),_,_,_,_]) (Sep.jS ⟨apg,amj⟩ d))).El
  . intro l D ro rj W HW hy
    exact XK hsl HW hy
  rotate_left 1
  . intro D W pre x jm HD
    obtain⟨⟨ls,p,st,BA,iw,rM⟩,HD2⟩:=((HD.aL).parts).rO;subst BA;rw[abq hsl jm iw rM]at au;exact bM (dM (vH HD2 At3 (λ_ d=>⟨[_,_,I 4],Lg (d.obj At0) (d.obj At1) (d.obj At2),_,by rw[au];rfl,trivial,by rw[au];exact Bd d⟩)))
  intro D d d;have d:=d.aL;unfold plJ at d;obtain⟨⟨ls,p,st⟩,d⟩:=d.ex0;obtain⟨⟨BA,iw⟩,d⟩:=(d.parts).rO;dsimp only at BA iw d;obtain⟨xJ,fU,BM⟩:=UK ls iw;obtain⟨akg,hls⟩:=ag6 BA;have fu:=XD hsl akg (by rw[hls];exact iw);rw[<-au,hls]at fu;have hlen:(qM s).length=ls.length:=by rw[BA,zaf]
  rw[hlen]at d;obtain⟨vw,vc,r,d⟩:=Le (d.bE);obtain⟨Aw,cw,rfl,_⟩:=(Sep.sees d At1:aQ _ vw aP 3 p.wh);obtain⟨Ac,cc,rfl,ZK,hRc⟩:=Sep.dQ d At2;refine Za3 ?_;refine Qn (Cp rfl (λa=>?_) (λa=>?_))
  . rw[zac a]at fu
    refine Zb0 ?_;refine Ds (λk _ S=>?_);refine Gb k 0 [.slice none 0 0,.slice none 0 0,I 0] ?_;refine Zb1 ?_;refine dZ k 2 [(1,false)] S (h:=λ_ S=>⟨sL,?_⟩);refine mM k 3 _ S (h:=λ_ S=>⟨sT,?_⟩);refine mM k 4 _ S (h:=λ_ S=>⟨sT,?_⟩);refine fF k kR ?_;refine bC (Rs (vH S At7 (hR:=λ_ S=>?_)));exact⟨[_,_,I 4],Lg (S.obj At4) (S.obj At5) (S.obj At6),_,by rw[fu];rfl,trivial,by rw[fu];exact Bd S⟩
  rw[zab a]at fu;refine Zb1 ?_;refine D8 d (us:=[.slice Aw p.wh.length cw,.slice Ac r.length cc,I p.group]) (hu:=rfl) (hk:=rfl) (h:=?_);have Yu:=QY d;refine aD d (aaJ Yu BM.1 BM.2 oM (hT.keep d.kept)) (h:=λ_ S _=>?_);refine Za7 ?_;refine Qn (Cp rfl (λa=>?_) (λa=>?_))
  . have Ev:BG p=false:=by
      cases hq:BG p with
      | false=>rfl
      | true=>have h1:=a;unfold Gr at h1;rw[hq,zab dC]at h1;exact zap rfl h1
    have ht2:(Gr p).2=2:=by unfold Gr;rw[zac Ev]
    rw[zac Ev]at fu;refine Sr (Vb [.slice none 0 0,.slice none 0 0,I 0] ?_);refine Mv ?_;refine ak S (h:=λ_ d=>?_);refine bB d (h:=λ_ d=>?_);refine bB d (h:=λ_ d=>?_);refine Qn (Rs (vH d At7 (hR:=λ_ d=>?_)));exact⟨[_,I 0,_],Lg (d.obj At4) (d.obj At5) (d.obj At6),_,by rw[fu,ht2];rfl,trivial,by rw[fu];exact Bd d⟩
  have Ev:BG p=true:=by
    cases hq:BG p with
    | true=>rfl
    | false=>have h1:=a;unfold Gr at h1;rw[zac hq]at h1;exact zap dC h1
  rw[zab (by rw[Ev];decide)]at fu;refine Zb1 ?_;refine D8 S (us:=[.slice Aw p.wh.length cw,.slice Ac r.length cc,I p.group]) (hu:=rfl) (hk:=rfl) (h:=?_);refine ak S (h:=λ_ d=>?_);refine bB d (h:=λ_ d=>?_);refine bB d (h:=λ_ d=>?_);refine Qn (dX (vH d At7 (hR:=λ_ d=>?_)));exact⟨[_,I 0,I 0],Lg (d.obj At4) (d.obj At5) (d.obj At6),_,by rw[fu];rfl,trivial,by rw[fu];exact(adb (g:=p.group) d.dA).first.turn⟩
end
end Go.Proofs.YtkfpleidaoaonaaGreatDoor
