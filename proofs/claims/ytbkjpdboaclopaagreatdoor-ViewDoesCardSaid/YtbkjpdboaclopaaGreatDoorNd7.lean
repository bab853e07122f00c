/-
 Words are read back as the steps that wrote them;both ways to read a word say the same. No program stands here.
-/
import Derived.Test.YtbkjpdboaclopaaGreatDoorNd6
set_option linter.all false
set_option maxRecDepth 4000
namespace Go.Proofs.Mw
open Go.Lib
def uh (c:UInt8):Bool:=decide (48<=c.toNat/\c.toNat<=57)
def mZ:L8->Nat->Option Nat
 | [],acc=>some acc
 | c::r,acc=>if uh c=true then mZ r (10*acc+(c.toNat-48))else none
def K8: ∀(l m:L8) (acc:Nat),mZ (l++m) acc=(mZ l acc).bind λa=>mZ m a
 | [],_,_=>rfl
 | c::l,m,acc=>by
  simp only[zcb,mZ]
  split
  .exact K8 l m _
  rfl
variable {d:Nat}
def DL (h:d<10):(UInt8.ofNat (48+d)).toNat=48+d:=by
 simp;omega
def xZ (u:Nat):mZ (decDigits u) 0=some u:=by
 induction u using Nat.strongRecOn with
 | _ u ih=>
  rw[decDigits]
  split
  .rename_i h
   have e:=DL h;simp only[mZ,uh,e];rw[zac (by simp;omega)]
   congr 1;omega
  rename_i h;rw[K8,ih (u/10) oM];have e:=DL (show u%10<10 from oM);simp only[zdy,mZ,uh,e];rw[zac (by simp;omega)]
  congr 1;omega
def qV (u:Nat):decDigits u≠[]:=by
 rw[decDigits]
 split<;>simp
def pQ (u:Nat): ∀c∈decDigits u,uh c=true:=by
 induction u using Nat.strongRecOn with
 | _ u ih=>
  rw[decDigits]
  split
  .rename_i h
   intro c hc;simp only[zaw]at hc;subst hc;unfold uh;rw[DL h];simp;omega
  rename_i h;intro c hc
  rcases zbk.1 hc with hc | hc
  .exact ih (u/10) oM c hc
  simp only[zaw]at hc;subst hc;unfold uh;rw[DL (show u%10<10 from oM)];simp;omega
def yF: ∀(k u:Nat),u<10^(k+1)->(decDigits u).length<=k+1
 | 0,u,h=>by rw[decDigits,dif_pos (by simpa using h)];simp
 | k+1,u,h=>by
  rw[decDigits]
  split
  .simp
  have:=yF k (u/10) (by rw[Nat.pow_succ]at h;omega);rw[zad,zaf];omega
def OH: ∀(l:L8) (acc n:Nat),mZ l acc=some n->acc<=n
 | [],acc,n,h=>by simp[mZ]at h;omega
 | c::r,acc,n,h=>by
  simp only[mZ]at h
  split at h
  .have:=OH r _ n h;omega
  cases h
def AQ: ∀(l:L8) (acc n:Nat),mZ l acc=some n->n<18446744073709551616->parseUint10 acc l=.ok n
 | [],acc,n,h,_=>by simp[mZ]at h;simp[parseUint10,h]
 | c::r,acc,n,h,hn=>by
  simp only[mZ]at h
  split at h
  .rename_i hc
   have rW:=OH r _ n h;have hc':48<=c.toNat/\c.toNat<=57:=by simpa[uh]using hc
   rw[parseUint10,zac hc',zaa oM,zaa oM];rw[Nat.mul_comm]at h;exact AQ r _ n h hn
  cases h
def ng (w:L8):Int:=match parseIntB 64 w with
 | .ok v=>v
 | .range=>intSat 64 w
 | _=>0
def OI {u:Nat}: ∃c r,decDigits u=c::r/\uh c=true:=by
 cases h:decDigits u with
 | nil=>exact zas h (qV u)
 | cons c r=>exact⟨c,r,rfl,pQ u c (by rw[h];exact zao)⟩
def Ta {u:Nat} (h:u<18446744073709551616):parseUintB 64 (decDigits u)=.ok u:=by
 rw[parseUintB_64,parseMag,zaa (qV u),AQ _ 0 u (xZ u) h]
variable {n:Int}
def yc (h0: -9223372036854775808<=n) (h1:n<=9223372036854775807):ng (itoa n)=n:=by
 by_cases hn:n<0
 .have e:itoa n=45::decDigits n.natAbs:=zac hn
  unfold ng;rw[e,parseIntB_minus,Ta oM];simp only[signedC];rw[zaa (by simp;omega)];simp only;omega
 have e0:itoa n=decDigits n.toNat:=zaa hn;obtain⟨c,r,e,hc⟩:=OI (u:=n.toNat);have hc':48<=c.toNat/\c.toNat<=57:=by simpa[uh]using hc
 have hp:=Ta (u:=n.toNat) oM;unfold ng;rw[e0];rw[e]at hp ⊢;rw[parseIntB_plain _ _ _ oM oM,hp];simp only[signlessC];rw[zaa (by simp;omega)];simp only;omega
def xD (c:UInt8):Option Nat:=if 48<=c.toNat/\c.toNat<=57 then some (c.toNat-48)else if 97<=c.toNat/\c.toNat<=102 then some (c.toNat-87)else none
def tQ:L8->L8
 | a::b::t=>((xD a).getD 0*16+(xD b).getD 0).toUInt8::tQ t
 | _=>[]
def YF (h:d<16):xD (nE d)=some d:=by
 have : ∀d:Fin 16,xD (nE d.val)=some d.val:=by decide
 exact this ⟨d,h⟩
def afw (c:UInt8):(c.toNat/16*16+c.toNat%16).toUInt8=c:=by
 rw[acU];have:=c.toNat_lt;omega
def Tc: ∀s:L8,tQ (zA s)=s
 | []=>rfl
 | c::s=>by
  have:=c.toNat_lt;show tQ (nE (c.toNat/16)::nE (c.toNat%16)::zA s)=_
  rw[tQ,YF oM,YF oM,Tc s];simp only[zdg,afw]
def acX:L8:=[116,114,117,101]
def U7:L8:=[102,97,108,115,101]
def GX (w:L8):L8:=let s:=tQ (w.drop 1);if 120::zA s=w/\s.length<=1024 then s else []
def fF (w:L8):bL:=
 match lW.findIdx? (λx=>decide (x=w))with
 | some i=>⟨7+i,0,[]⟩
 | none=>match [1,3,4,5].find? (λk:Int=>decide (oG k=w))with
  | some k=>⟨6,k,[]⟩
  | none=>if w=acX then⟨3,1,[]⟩else if w=U7 then⟨3,0,[]⟩
   else if w.head?=some 35 then⟨1,ng (w.drop 1),[]⟩
   else if w.head?=some 34 then⟨4,0,(U6 w).1⟩
   else if w.head?=some 120 then⟨5,0,GX w⟩
   else⟨2,ng w,[]⟩
def aa8: ∀x∈lW,∃c r,x=c::r/\c≠35/\c≠34/\c≠120/\¬(48<=c.toNat/\c.toNat<=57)/\(c=45->r=[]):=by
 intro x hx;simp only[lW,zbb,zam,or_false]at hx
 rcases hx with rfl | rfl | rfl | rfl | rfl | rfl | rfl | rfl | rfl | rfl | rfl | rfl<;>exact⟨_,_,rfl,dC,dC,dC,dC,dC⟩
variable {c:UInt8}
def ak3 {r:L8} (h:c=35\/c=34\/c=120\/(48<=c.toNat/\c.toNat<=57)\/(c=45/\r≠[])):lW.findIdx? (λx=>decide (x=c::r))=none:=by
 rw[zda];intro x hx;obtain⟨c',r',rfl,h1,h2,h3,h4,h5⟩:=aa8 x hx;simp only[List.cons.injEq,decide_eq_false_iff_not,not_and];rintro rfl rfl
 rcases h with h | h | h | h | ⟨h,h6⟩
 .exact h1 h
 .exact h2 h
 .exact h3 h
 .exact h4 h
 exact h6 (h5 h)
def ak4 {r:L8} (h:c≠110):[1,3,4,5].find? (λk:Int=>decide (oG k=c::r))=none:=by
 rw[zfp];intro k hk;simp only[zbb,zam,or_false]at hk;simp only[decide_eq_true_eq]
 rcases hk with rfl | rfl | rfl | rfl<;>(intro e;injection e with e _;exact h e.symm)
def Te (n:Int): ∃c r,itoa n=c::r/\((48<=c.toNat/\c.toNat<=57)\/(c=45/\r≠[])):=by
 unfold itoa
 split
 .exact⟨_,_,rfl,.inr ⟨rfl,qV _⟩⟩
 obtain⟨c,r,e,hc⟩:=OI (u:=n.toNat);exact⟨c,r,e,.inl (by simpa[uh]using hc)⟩
def AU {r:L8} (h:c=35\/c=34\/c=120\/(48<=c.toNat/\c.toNat<=57)\/(c=45/\r≠[])):
    fF (c::r)=if c=35 then⟨1,ng r,[]⟩else if c=34 then⟨4,0,(U6 (c::r)).1⟩else if c=120 then⟨5,0,GX (c::r)⟩else⟨2,ng (c::r),[]⟩:=by
  have hc:c≠110/\c≠116/\c≠102:=by
    rcases h with rfl | rfl | rfl | h | ⟨rfl,_⟩
    . decide
    . decide
    . decide
    . refine⟨?_,?_,?_⟩<;>(rintro rfl;exact zas h dC)
    decide
  unfold fF;rw[ak3 h];dsimp only;rw[ak4 hc.1];dsimp only;rw[zaa (by unfold acX;intro e;injection e with e _;exact hc.2.1 e),zaa (by unfold U7;intro e;injection e with e _;exact hc.2.2 e)];simp only[List.head?_cons,Option.some.injEq,zer,zde]
def aa9 {x:bL} (h:dU x=true) (h0: -9223372036854775808<=x.n) (h1:x.n<=9223372036854775807):fF (gX x)=x:=by
 obtain⟨k,n,s⟩:=x;unfold dU at h;unfold gX;dsimp only at h h0 h1 |-
 by_cases k1:k=1
 .subst k1
  rw[zac rfl]at h ⊢;simp only[decide_eq_true_eq]at h;rw[AU (.inl rfl),zac rfl,yc h0 h1,h.1]
 rw[zaa k1]at h |-
 by_cases k2:k=2
 .subst k2
  rw[zac rfl]at h ⊢;simp only[decide_eq_true_eq]at h;obtain⟨c,r,e,hc⟩:=Te n;have hp:=yc h0 h1;rw[e]at hp ⊢;rw[AU (.inr (.inr (.inr hc))),zaa,zaa,zaa,hp,h]
  all_goals (rcases hc with hc | ⟨rfl,_⟩<;>first | decide | (rintro rfl;exact zas hc dC))
 rw[zaa k2]at h |-
 by_cases k3:k=3
 .subst k3
  rw[zac rfl]at h ⊢;simp only[decide_eq_true_eq]at h;obtain⟨rfl,ha,hb⟩:=h;have :n=0\/n=1:=by omega
  rcases this with rfl | rfl<;>rfl
 rw[zaa k3]at h |-
 by_cases k4:k=4
 .subst k4
  rw[zac rfl]at h ⊢;simp only[decide_eq_true_eq]at h;have hu:=aiG h.2.2;have e:=Cv s;rw[e]at hu ⊢;rw[AU (.inr (.inl rfl)),zaa dC,zac rfl,hu,h.1]
 rw[zaa k4]at h |-
 by_cases k5:k=5
 .subst k5
  rw[zac rfl]at h ⊢;simp only[decide_eq_true_eq]at h;rw[AU (.inr (.inr (.inl rfl))),zaa dC,zaa dC,zac rfl];unfold GX;simp only[zer,zde,Tc,true_and];rw[zac h.2,h.1]
 rw[zaa k5]at h |-
 by_cases k6:k=6
 .subst k6
  rw[zac rfl]at h ⊢;simp only[decide_eq_true_eq]at h;obtain⟨rfl,hn⟩:=h;have :n=1\/n=3\/n=4\/n=5:=by omega
  rcases this with rfl | rfl | rfl | rfl<;>rfl
 rw[zaa k6]at h ⊢;simp only[decide_eq_true_eq]at h;obtain⟨ha,hb,rfl,rfl⟩:=h;have :k=7\/k=8\/k=9\/k=10\/k=11\/k=12\/k=13\/k=14\/k=15\/k=16\/k=17\/k=18:=by omega
 rcases this with rfl | rfl | rfl | rfl | rfl | rfl | rfl | rfl | rfl | rfl | rfl | rfl<;>rfl
def cB (sep:UInt8):L8->List (L8)
 | []=>[[]]
 | c::l=>if c=sep then []::cB sep l else match cB sep l with
  | w::ws=>(c::w)::ws
  | []=>[[c]]
def sZ (x:bL) (w:L8):Bool:=dU x&&decide (gX x=w)
def readAll:List (L8)->Option (List bL)
 | []=>some []
 | w::l=>if sZ (fF w) w=true then(readAll l).map (fF w:: ·)else none
def eD (s:L8):List bL×Int:=
 if 1048576<s.length\/64<=s.count 32 then([],5)else if s=[]then([],0)else match readAll (cB 32 s)with
  | some l=>(l,0)
  | none=>([],4)
def La (w:L8): -9223372036854775808<=ng w/\ng w<=9223372036854775807:=by
 unfold ng
 split
 .rename_i v h
  obtain⟨h1,h2⟩:=parseIntB_bounds h;simp at h1 h2;omega
 .unfold intSat
  split<;>simp
 omega
def abb {w:L8} (h:dU (fF w)=true): -9223372036854775808<=(fF w).n/\(fF w).n<=9223372036854775807:=by
 unfold fF at h |-
 split
 .dsimp only;omega
 split
 .rename_i k hk
  have:=zev hk;simp at this;dsimp only;omega
 repeat' split
 all_goals first | exact La _ | (dsimp only;omega)
def Kg {x:bL} {w:L8}:sZ x w=true↔dU x=true/\gX x=w:=by
 unfold sZ;rw[zbr,decide_eq_true_eq]
def DN (n:Int): ∀c∈itoa n,c≠32:=by
 intro c hc e;subst e
 have key: ∀u,(32:UInt8)∉decDigits u:=λu h=>by
  have:=pQ u _ h;simp[uh]at this
 unfold itoa at hc
 split at hc
 .rcases zbb.1 hc with h | h
  .exact zas h dC
  exact key _ h
 exact key _ hc
def afx (c:UInt8): ∀x∈iP c,x≠32:=by
 have h1:nE (c.toNat/16)≠32:=DK (by have:=c.toNat_lt;omega);have h2:nE (c.toNat%16)≠32:=DK oM;unfold iP jF
 repeat' split
 all_goals (intro x hx;simp only[zbb,zam,or_false]at hx)
 all_goals first
  | (rcases hx with rfl | rfl | rfl | rfl | rfl | rfl<;>first | decide | assumption)
  | (rcases hx with rfl | rfl<;>decide)
  | (subst hx;assumption)
def abd (c:UInt8):(iP c).length<=6:=by
 unfold iP jF
 repeat' split
 all_goals simp
def Cw {f:UInt8->L8} {k:Nat} (h: ∀c,(f c).length<=k): ∀s:L8,(s.flatMap f).length<=k*s.length
 | []=>sM
 | c::s=>by
  have h1:=h c;have h2:=Cw h s;rw[zbh,zad,zaq,Nat.mul_succ];omega
def ak5 {x:bL} (h:dU x=true): ∀c∈gX x,c≠32:=by
 obtain⟨k,n,s⟩:=x;unfold dU at h;unfold gX;dsimp only at h |-
 by_cases k1:k=1
 .rw[zac k1]
  intro c hc
  rcases zbb.1 hc with rfl | hc
  .decide
  exact DN n c hc
 rw[zaa k1]at h |-
 by_cases k2:k=2
 .rw[zac k2];exact DN n
 rw[zaa k2]at h |-
 by_cases k3:k=3
 .rw[zac k3]
  split<;>decide
 rw[zaa k3]at h |-
 by_cases k4:k=4
 .rw[zac k4,Cv]
  intro c hc
  rcases zbb.1 hc with rfl | hc
  .decide
  rcases zbk.1 hc with hc | hc
  .obtain⟨y,_,hy⟩:=zcc.1 hc
   exact afx y c hy
  simp only[zaw]at hc;subst hc;decide
 rw[zaa k4]at h |-
 by_cases k5:k=5
 .rw[zac k5]
  intro c hc
  rcases zbb.1 hc with rfl | hc
  .decide
  obtain⟨y,_,hy⟩:=zcc.1 hc;simp only[zbb,zam,or_false]at hy
  rcases hy with rfl | rfl
  .exact DK (by have:=y.toNat_lt;omega)
  exact DK oM
 rw[zaa k5]at h |-
 by_cases k6:k=6
 .subst k6
  rw[zac rfl]at h ⊢;simp only[decide_eq_true_eq]at h;obtain⟨_,hn⟩:=h;have :n=1\/n=3\/n=4\/n=5:=by omega
  rcases this with rfl | rfl | rfl | rfl<;>decide
 rw[zaa k6]at h ⊢;simp only[decide_eq_true_eq]at h;obtain⟨ha,hb,_,_⟩:=h;have :k=7\/k=8\/k=9\/k=10\/k=11\/k=12\/k=13\/k=14\/k=15\/k=16\/k=17\/k=18:=by omega
 rcases this with rfl | rfl | rfl | rfl | rfl | rfl | rfl | rfl | rfl | rfl | rfl | rfl<;>decide
def Cx {n:Int} (h0: -9223372036854775808<=n) (h1:n<=9223372036854775807):(itoa n).length<=20:=by
 unfold itoa
 split
 .have:=yF 18 n.natAbs (by simp;omega)
  simp;omega
 have:=yF 18 n.toNat (by simp;omega);omega
def OJ {x:bL} (h:dU x=true) (h0: -9223372036854775808<=x.n) (h1:x.n<=9223372036854775807):(gX x).length<=6146/\gX x≠[]:=by
 obtain⟨k,n,s⟩:=x;unfold dU at h;unfold gX;dsimp only at h h0 h1 ⊢;have hi:=Cx h0 h1;obtain⟨c,r,ei,_⟩:=Te n
 by_cases k1:k=1
 .rw[zac k1];exact⟨by simp;omega,sM⟩
 rw[zaa k1]at h |-
 by_cases k2:k=2
 .rw[zac k2];exact⟨oM,by rw[ei];simp⟩
 rw[zaa k2]at h |-
 by_cases k3:k=3
 .rw[zac k3]
  split<;>exact⟨dC,dC⟩
 rw[zaa k3]at h |-
 by_cases k4:k=4
 .rw[zac k4]at h |-
  simp only[decide_eq_true_eq]at h;rw[Cv];have:=Cw abd s;exact⟨by simp only[zaq,zad,zcd];omega,sM⟩
 rw[zaa k4]at h |-
 by_cases k5:k=5
 .rw[zac k5]at h |-
  simp only[decide_eq_true_eq]at h;have :(zA s).length<=2*s.length:=Cw (f:=λc:UInt8=>[nE (c.toNat/16),nE (c.toNat%16)]) (λc=>by simp) s;exact⟨by simp only[zaq];omega,sM⟩
 rw[zaa k5]at h |-
 by_cases k6:k=6
 .subst k6
  rw[zac rfl]at h ⊢;simp only[decide_eq_true_eq]at h;obtain⟨_,hn⟩:=h;have :n=1\/n=3\/n=4\/n=5:=by omega
  rcases this with rfl | rfl | rfl | rfl<;>exact⟨dC,dC⟩
 rw[zaa k6]at h ⊢;simp only[decide_eq_true_eq]at h;obtain⟨ha,hb,_,_⟩:=h;have :k=7\/k=8\/k=9\/k=10\/k=11\/k=12\/k=13\/k=14\/k=15\/k=16\/k=17\/k=18:=by omega
 rcases this with rfl | rfl | rfl | rfl | rfl | rfl | rfl | rfl | rfl | rfl | rfl | rfl<;>exact⟨dC,dC⟩
def YG (sep:UInt8): ∀l:L8,cB sep l≠[]
 | []=>by simp[cB]
 | c::l=>by
  unfold cB
  split
  .simp
  split<;>simp
def qg {sep c:UInt8} {l:L8} (h:c≠sep): ∃w ws,cB sep l=w::ws/\cB sep (c::l)=(c::w)::ws:=by
 cases e:cB sep l with
 | nil=>exact zas e (YG sep l)
 | cons w ws=>exact⟨w,ws,rfl,by rw[cB,zaa h,e]⟩
def EU {sep:UInt8} {w:L8} (h: ∀c∈w,c≠sep):cB sep w=[w]:=by
 induction w with
 | nil=>rfl
 | cons c w ih=>
  obtain⟨a,b,e1,e2⟩:=qg (l:=w) (h c zao);rw[ih λx hx=>h x (zau _ hx)]at e1;injection e1 with e1 e3
  rw[e2,<-e1,<-e3]
def Kh {sep:UInt8} {w l:L8} (h: ∀c∈w,c≠sep):cB sep (w++sep::l)=w::cB sep l:=by
 induction w with
 | nil=>rw[zbw,cB,zac rfl]
 | cons c w ih=>
  obtain⟨a,b,e1,e2⟩:=qg (l:=w++sep::l) (h c zao);rw[ih λx hx=>h x (zau _ hx)]at e1;injection e1 with e1 e3
  rw[zcb,e2,<-e1,<-e3]
def EW {sep:UInt8}: ∀{ws:List (L8)},ws≠[]->(∀w∈ws,∀c∈w,c≠sep)->cB sep (iY sep ws)=ws
 | [],h,_=>zas rfl h
 | [w],_,h=>EU (h w zao)
 | w::w'::ws,_,h=>by
  show cB sep (w++sep::iY sep (w'::ws))=_
  rw[Kh (h w zao),EW sM λx hx=>h x (zau _ hx)]
def EX (sep:UInt8): ∀l:L8,iY sep (cB sep l)=l
 | []=>rfl
 | c::l=>by
  have ih:=EX sep l
  by_cases h:c=sep
  .rw[cB,zac h]
   obtain⟨w,ws,e⟩: ∃w ws,cB sep l=w::ws:=by
    cases e:cB sep l with
    | nil=>exact zas e (YG sep l)
    | cons w ws=>exact⟨w,ws,rfl⟩
   rw[e]at ih ⊢;show []++sep::iY sep (w::ws)=_
   rw[ih,h];rfl
  obtain⟨w,ws,e1,e2⟩:=qg (l:=l) h;rw[e2];rw[e1]at ih;cases ws with
  | nil=>show c::w=_;rw[<-ih];rfl
  | cons w' ws=>show(c::w)++sep::iY sep (w'::ws)=_;rw[<-ih];rfl
def yg (sep:UInt8): ∀l:L8,(cB sep l).length=l.count sep+1
 | []=>rfl
 | c::l=>by
  have ih:=yg sep l
  by_cases h:c=sep
  .rw[cB,zac h,zaq,ih,h,List.count_cons_self]
  obtain⟨w,ws,e1,e2⟩:=qg (l:=l) h;rw[e1]at ih;rw[e2,List.count_cons_of_ne h];simpa using ih
def Cy (sep:UInt8) {k:Nat}: ∀{ws:List (L8)},(∀w∈ws,w.length<=k)->(iY sep ws).length<=(k+1)*ws.length
 | [],_=>by simp[iY]
 | [w],h=>by have:=h w zao;simp[iY];omega
 | w::w'::ws,h=>by
  have h1:=h w zao;have h2:=Cy sep (ws:=w'::ws) λx hx=>h x (zau _ hx);show(w++sep::iY sep (w'::ws)).length<=_
  simp only[zad,zaq]at h2 ⊢;rw[Nat.mul_succ];omega
def Em: ∀{l:List bL},(∀x∈l,dU x=true/\ -9223372036854775808<=x.n/\x.n<=9223372036854775807)->readAll (l.map gX)=some l
 | [],_=>rfl
 | x::l,h=>by
  obtain⟨h1,h2,h3⟩:=h x zao;have e:=aa9 h1 h2 h3;rw[zav,readAll,e,zac (Kg.2 ⟨h1,rfl⟩),Em λy hy=>h y (zau _ hy)];rfl
def GY: ∀{ws:List (L8)} {l:List bL},readAll ws=some l->l.map gX=ws/\∀x∈l,dU x=true/\ -9223372036854775808<=x.n/\x.n<=9223372036854775807
 | [],l,h=>by simp[readAll]at h;subst h;exact⟨rfl,λ_ h=>by cases h⟩
 | w::ws,l,h=>by
  rw[readAll]at h
  split at h
  .rename_i hg
   obtain⟨m,hm,rfl⟩:=zbc.1 h;obtain⟨h1,h2⟩:=Kg.1 hg;obtain⟨h3,h4⟩:=GY hm;refine⟨by rw[zav,h2,h3],λx hx=>?_⟩
   rcases zbb.1 hx with rfl | hx
   .exact⟨h1,abb h1⟩
   exact h4 x hx
  cases h
def OL {l:List bL} (h: ∀x∈l,dU x=true/\ -9223372036854775808<=x.n/\x.n<=9223372036854775807) (hl:l.length<=64):iQ l=(iY 32 (l.map gX),0)/\eD (iY 32 (l.map gX))=(l,0)/\(l≠[]->(iY 32 (l.map gX)).count 32=l.length-1):=by
 refine⟨?_,?_⟩
 .unfold iQ
  rw[zaa oM,zaa];rw[Bool.not_eq_false,zba];exact λx hx=>(h x hx).1
 by_cases h0:l=[]
 .subst h0;exact⟨rfl,λh=>zas rfl h⟩
 have iJ:l.map gX≠[]:=by simpa using h0
 have hnb: ∀w∈l.map gX,∀c∈w,c≠32:=λw hw=>by
  obtain⟨x,hx,rfl⟩:=zar.1 hw;exact ak5 (h x hx).1
 have hs:=EW iJ hnb;have hc:=yg 32 (iY 32 (l.map gX));rw[hs,zae]at hc
 have hlen:(iY 32 (l.map gX)).length<=(6146+1)*(l.map gX).length:=Cy 32 λw hw=>by
  obtain⟨x,hx,rfl⟩:=zar.1 hw;exact(OJ (h x hx).1 (h x hx).2.1 (h x hx).2.2).1
 rw[zae]at hlen
 have tX:iY 32 (l.map gX)≠[]:=by
  intro e;rw[e]at hs;have :l.map gX=[[]]:=hs.symm;cases l with
  | nil=>exact h0 rfl
  | cons x l=>
   simp only[zav,List.cons.injEq]at this;exact(OJ (h x zao).1 (h x zao).2.1 (h x zao).2.2).2 this.1
 refine⟨?_,λ_=>oM⟩;unfold eD;rw[zaa oM,zaa tX,hs,Em h]
def abe {s:L8} {l:List bL} (h:eD s=(l,0)):iQ l=(s,0):=by
 unfold eD at h
 split at h
 .injection h with _ h;cases h
 rename_i hb
 split at h
 .rename_i h0
  injection h with h _
  subst h;subst h0;rfl
 split at h
 .rename_i m hm
  injection h with h _
  subst h;obtain⟨h1,h2⟩:=GY hm;have hc:=yg 32 s;rw[<-h1,zae]at hc;have:=(OL h2 oM).1;rw[this,h1,EX]
 injection h with _ h;cases h
def I (n:Int):Value:=.int .i64 n
def I32 (n:Int):Value:=.int .i32 n
def B (c:UInt8):Value:=.int .u8 c.toNat
def fits (n:Int):Prop:= -9223372036854775808<=n/\n<=9223372036854775807
def ak6 {α:Type} {f:α->Value} (h: ∀x,(f x).oneCell'=true) (l:List α): ∀u∈l.map f,u.oneCell'=true:=λu hu=>by
 obtain⟨x,_,rfl⟩:=zar.1 hu;exact h x
def apk (h0:0<=n):IntKind.u8.wrap n=((n.toNat.toUInt8).toNat:Int):=by
 rw[IntKind.wrap_u8];simp;omega
def wrap32 (h: -2147483648<=n/\n<=2147483647):IntKind.i32.wrap n=n:=by
 rw[IntKind.wrap_i32];omega
variable {s t:Td} {j:IntKind}
def wrap64 (h: -9223372036854775808<=n/\n<=9223372036854775807):IntKind.i64.wrap n=n:=IntWalk.i64_in _ h
section
section gives
variable {P:Program} {ρ:Od->Value} {ty:Td} {w:Wd} {x y:Od} {T U:Td} {k:IntKind}
def Gives.Qe {a b:Nat} (hx:ρ x=.int k a) (hy:ρ y=.int k b) (h0:b≠0):Gives P ρ (.binOp .rem T x y U) ty w (.int k ((a%b:Nat):Int)) w:=by
 have:=Gives.rem (P:=P) (ty:=ty) (w:=w) (T:=T) (U:=U) hx hy oM
 rwa [zet oM,<-Int.natCast_emod]at this
def Gives.GZ {a b:Nat} (hx:ρ x=.int .i64 a) (hy:ρ y=.int .i64 b) (h0:b≠0) (h:a<=9223372036854775807):Gives P ρ (.binOp .quo T x y U) ty w (.int .i64 ((a/b:Nat):Int)) w:=by
 have:=Gives.quo (P:=P) (ty:=ty) (w:=w) (T:=T) (U:=U) hx hy oM;have e:a/b<=a:=Nat.div_le_self a b;have e2:(a:Int).tdiv (b:Int)=((a/b:Nat):Int):=by rw[zeu oM];rfl
 obtain⟨q,hq⟩: ∃q,q=a/b:=⟨_,rfl⟩;rw[<-hq]at e e2 |-
 rwa [e2,IntWalk.i64_in (q:Int) oM]at this
def Gives.apl [hs:nk P s .u8] [ht:nk P t .i64] (hx:ρ x=.int .u8 c.toNat):Gives P ρ (.convert s t x) ty w (.int .i64 c.toNat) w:=by
 have:=Gives.conv (P:=P) (ty:=ty) (w:=w) (s:=s) (t:=t) (k:=.i64) hx;have hc:=c.toNat_lt
 rwa [IntWalk.i64_in _ oM]at this
def Gives.ak7 {a:Int} [hs:nk P s j] [ht:nk P t .i64] (hx:ρ x=.int j a) (h: -9223372036854775808<=a/\a<=9223372036854775807):Gives P ρ (.convert s t x) ty w (.int .i64 a) w:=by
 have:=Gives.conv (P:=P) (ty:=ty) (w:=w) (s:=s) (t:=t) (k:=.i64) hx
 rwa [IntWalk.i64_in _ h]at this
def Gives.U8 {a:Int} [hs:nk P s j] [ht:nk P t .i32] (hx:ρ x=.int j a) (h: -2147483648<=a/\a<=2147483647):Gives P ρ (.convert s t x) ty w (.int .i32 a) w:=by
 have:=Gives.conv (P:=P) (ty:=ty) (w:=w) (s:=s) (t:=t) (k:=.i32) hx
 rwa [wrap32 h]at this
def Gives.aiH {a:Int} [hs:nk P s j] [ht:nk P t .u8] (hx:ρ x=.int j a) (h:0<=a):Gives P ρ (.convert s t x) ty w (.int .u8 (a.toNat.toUInt8).toNat) w:=by
 have:=Gives.conv (P:=P) (ty:=ty) (w:=w) (s:=s) (t:=t) (k:=.u8) hx
 rwa [apk h]at this
end gives
end
variable {x y:Od} {ρ:Od->Value} {v:Value} {e:Td}
open Go.RowKit
section rules
variable {P:Program} {r:Option Nat} {n:Nat} {ops:AO} {Q:Post} {rest:LO} {σ:St} {w w' w0:Wd} {S:NP} {rs:List HP} {put:HP->List HP} {ty:Td} {pos:String} {after:Array Edge} {guard:Option (Nat×Bool)} {lv:List Bool} {pd pd':LNB}
def mD (e:Nat) (v:Value) (xs:L8):HP:=vF e 1 v xs.length (xs.map B)
def apm (xs:L8): ∀u∈xs.map B,u.oneCell'=true:=ak6 (λ_=>rfl) xs
def En {t e b c:Td} [hs:dn P t e] [hc:Cells P e 1 1] [hz:Zero P e (.int .u8 0)] {xs news:L8}
    (H:Sep w0 S (blk b (news.map B) e::rs) w) (hx:ρ x=v) (hy:ρ y=.slice (some ⟨b,0,none⟩) c c) (hc':c=news.length) (hat:At rs (mD e v xs) put) (h63:xs.length+news.length<=140737488355328):
    ∃v' w',Gives P ρ (.call {callee:=.builtin .append,args:= #[x,y],argTypes:= #[t,t]}) ty w v' w'/\Sep w0 S (put (mD e v' (xs++news))) w':=by
  subst hc';have hr:gZ w (some ⟨b,0,none⟩) news.length 1 (news.map B):=Sep.lV H At0 sM;have H2:=H.bI;obtain⟨F,hp,_,_⟩:=H2.focus hat;obtain⟨v',w',iw,oI,hg,hb⟩:=vG (P:=P) (ty:=ty) t e (z:=.int .u8 0) dC rfl v xs.length (xs.map B) hp.1 (some ⟨b,0,none⟩) news.length news.length (news.map B) hr (apm news) (by unfold maxLen;omega) oM;refine⟨v',w',λ_ _ _ _=>?_,?_⟩
  . simp only[execOp,resolve,invoke,builtin,zbj,zbl,zan,zce,zav,zci,hx,hy,iw]
  refine H2.Dp hat hg ?_ (by rcases hb with e | e<;>simp[e]);rw[<-zak]at oI;rw[zad];exact oI
def qh {b c:Td} [hs:dn P t e] [hc:Cells P e 1 1] [hz:Zero P e (.int .u8 0)] {xs news:L8}
    (H:Sep w0 S (blk b (news.map B) e::rs) w) (hat:At rs (mD e v xs) put) (h63:xs.length+news.length<=140737488355328) (hx:evF σ x=v:=by exact rfl) (hy:evF σ y=.slice (some ⟨b,0,none⟩) c c:=by exact rfl) (hc':c=news.length:=by exact rfl) (hd:Nat.blt d n=true:=by exact rfl)
    (h: ∀v' w',Sep w0 S (put (mD e v' (xs++news))) w'->FL P r n ops Q rest (upd σ d v') w'):
    FL P r n ops Q (⟨some d,.call {callee:=.builtin .append,args:= #[x,y],argTypes:= #[t,t]},ty,pos,after,none⟩::rest) σ w:=by
  obtain⟨v',w',hg,hs'⟩:=En (P:=P) (t:=t) (ty:=ty) H hx hy hc' hat h63;exact dD hg hd (h v' w' hs')
def afy (fB:dX n ops=true) (i:Nat) (pd':LNB) {b c:Td} [hs:dn P t e] [hc:Cells P e 1 1] [hz:Zero P e (.int .u8 0)] {xs news:L8}
    (H:Sep w0 S (blk b (news.map B) e::rs) w) (hat:At rs (mD e v xs) put) (h63:xs.length+news.length<=140737488355328)
    (ho:ops[i]? =some ⟨some d,.call {callee:=.builtin .append,args:= #[x,y],argTypes:= #[t,t]},ty,pos,after,guard⟩:=by exact rfl)
    (hw:Region.wanted ⟨some d,.call {callee:=.builtin .append,args:= #[x,y],argTypes:= #[t,t]},ty,pos,after,guard⟩ (bY ops σ)=true:=by kernel_rfl)
    (hx:evF σ x=v:=by exact rfl) (hy:evF σ y=.slice (some ⟨b,0,none⟩) c c:=by exact rfl) (hc':c=news.length:=by exact rfl) (dN:fE ops lv (pd.map (·.1)) i=true:=by kernel_rfl) (oH:pd.filter (λp=> !((above ops i).contains p.1))=pd':=by exact pD)
    (h: ∀v' w',Sep w0 S (put (mD e v' (xs++news))) w'->jo P ops (upd σ d v') w' pd'/\FG P r n ops Q (lv.set i true) pd' (upd σ d v') w'):FG P r n ops Q lv pd σ w:=
  vK fB i pd' ho hw (En (P:=P) (t:=t) (ty:=ty) H hx hy hc' hat h63) dN oH h
def Sep.YH (H:Sep w0 S rs w) (e:Nat):Sep w0 S (mD e (.slice none 0 0) []::rs) w:=H.gy e 1
def Gives.anj [hs:dn P s e] [he:nk P e .u8] [hd:lX P t] {xs:L8} (H:Sep w0 S rs w) (hat:At rs (mD e v xs) put) (hx:ρ x=v):Gives P ρ (.convert s t x) ty w (str xs) w:=by
 obtain⟨A,c,rfl,_,_,_⟩:=Sep.xQ H hat;exact Gives.Oq hx (Sep.rowAt H hat)
def YI {t u ty e:Td} [hs:dn P t e] [hu:lX P u] [hc:Cells P e 1 1] [hz:Zero P e (.int .u8 0)] {v:Value} {xs news:L8}
    (oI:w.ownsRow 0 e 1 v xs.length (xs.map B)) (h63:xs.length+news.length<=140737488355328):
    ∃v' w',(Builtin.append_ #[t,u] ty #[v,str news]).run P w=.ok v' w'/\w'.ownsRow 0 e 1 v' (xs++news).length ((xs++news).map B)/\w.grownBy w' v.ownBlock/\(v'.ownBlock=v.ownBlock\/v'.ownBlock=some w.heap.size\/v'.ownBlock=none):=by
  obtain⟨i,hi,qE⟩:=zbc.1 hc.size;simp only[Prod.mk.injEq]at qE
  have xq:i.zero=some (.int .u8 0):=by
    have:=hz.run w;simp[zeroValue,typeInfo,hi]at this;cases hq:i.zero with
    | none=>simp[hq]at this
    | some u=>simp[hq]at this;rw[this]
  obtain⟨v',w',iw,h1,h2,h3⟩:=Lib.run_append_own_string (P:=P) w 0 t u ty e i hs.und hu.und hi xq qE.1 qE.2 v xs.length (xs.map B) oI ⟨news.toArray⟩ (by rw[size_mk];unfold maxLen;omega) (by rw[size_mk];omega) (zai _);have e1:Lib.strCells ⟨news.toArray⟩=news.map B:=by simp only[Lib.strCells];rfl
  rw[e1,size_mk]at h1;refine⟨v',w',iw,by rw[zad,zak];exact h1,h2,?_⟩
  rcases oI.2 with⟨rfl,h0⟩ | ⟨g,cap,cur,rfl,hbg,hg,hnc,hcm,hcs,ava⟩
  . by_cases hm:news.length=0
    . rw[h3.2 ⟨rfl,by rw[size_mk];exact hm⟩];exact .inl rfl
    have hr:=run_append_nil_string (P:=P) w t u ty e i (.int .u8 0) hs.und hu.und hi xq ⟨news.toArray⟩ (by rw[size_mk];omega) (by rw[size_mk];omega) (by rw[size_mk,qE.2];omega);have hx:xs.length=0:=h0;rw[iw]at hr;injection hr with hr _
    rw[hr];exact .inr (.inl rfl)
  by_cases hroom:xs.length+news.length<=cap
  . have hcs':cur.size=cap:=by simpa using hcs
    have hr:=Lib.run_append_room_string (P:=P) w t u ty e i hs.und hu.und hi qE.1 g xs.length cap cur hg ⟨news.toArray⟩ (by rw[size_mk];exact hroom) (by rw[size_mk];omega);rw[iw]at hr;injection hr with hr _
    rw[hr];exact .inl rfl
  have holds: ∀j u,(xs.map B)[j]? =some u->w.cell? ((⟨g,0,none⟩:Addr).add j)=some u:=oI.cells (g:=g) rfl;have hr:=Lib.run_append_grow_string (P:=P) w t u ty e i (.int .u8 0) hs.und hu.und hi xq ⟨g,0,none⟩ xs.length cap (xs.map B) (by rw[qE.1];simp) holds ⟨news.toArray⟩ (by rw[size_mk];omega) (by rw[size_mk];omega) (by rw[size_mk,qE.2];exact growslice_fits oM oM);rw[iw]at hr;injection hr with hr _
  rw[hr];exact .inr (.inl rfl)
def OM {u:Td} [hs:dn P t e] [hu:lX P u] [hc:Cells P e 1 1] [hz:Zero P e (.int .u8 0)] {xs news:L8}
    (H:Sep w0 S rs w) (hat:At rs (mD e v xs) put) (h63:xs.length+news.length<=140737488355328) (hx:evF σ x=v:=by exact rfl) (hy:evF σ y=str news:=by exact rfl) (hd:Nat.blt d n=true:=by exact rfl)
    (h: ∀v' w',Sep w0 S (put (mD e v' (xs++news))) w'->FL P r n ops Q rest (upd σ d v') w'):
    FL P r n ops Q (⟨some d,.call {callee:=.builtin .append,args:= #[x,y],argTypes:= #[t,u]},ty,pos,after,none⟩::rest) σ w:=by
  obtain⟨F,hp,_,_⟩:=H.focus hat;obtain⟨v',w',iw,oI,hg,hb⟩:=YI (P:=P) (t:=t) (u:=u) (ty:=ty) (news:=news) hp.1 h63;refine dD (v:=v') (w':=w') (λ_ _ _ _=>?_) hd (h v' w' (H.Dp hat hg oI hb));simp only[execOp,resolve,invoke,builtin,zbj,zbl,zan,zce,zav,zci,hx,hy,iw]
end rules
variable {P:Program} {r:Option Nat} {n:Nat} {ops:AO} {Q:Post} {σ:St} {w:Wd} {ty:Td} {pos:String} {after:Array Edge} {guard:Option (Nat×Bool)} {lv:List Bool} {pd:LNB}
def tq (fB:dX n ops=true) (e:Nat) (pd':LNB) {x:Od} (ho:ops[e]? =some ⟨some d,.assign x,ty,pos,after,guard⟩:=by exact rfl)
    (hw:Region.wanted ⟨some d,.assign x,ty,pos,after,guard⟩ (bY ops σ)=true:=by kernel_rfl) (hx:evF σ x=v:=by exact rfl) (dN:fE ops lv (pd.map (·.1)) e=true:=by kernel_rfl)
    (oH:pd.filter (λp=> !((above ops e).contains p.1))=pd':=by exact pD) (h:jo P ops (upd σ d v) w pd'/\FG P r n ops Q (lv.set e true) pd' (upd σ d v) w):FG P r n ops Q lv pd σ w:=
  vK (C:=λv' w'=>v'=v/\w'=w) fB e pd' ho hw ⟨v,w,Gives.assign hx,rfl,rfl⟩ dN oH (λv' w' h'=>by rw[h'.1,h'.2];exact h)
variable {l:L8} {i:Nat}
open Go.Proofs.Tryz
section
attribute [local irreducible] FW FL FG FGn jJ jO fC lJ Qfn Gives
def abf (P:Program) (fn:Func) (s:ChangeSpec) (c:OpenClaim):Bool:=
 c.wf (OpenSpec.ofChange s)&&laidOutB P&&mapsRowed P&&
 fn.params.all (P.readableRec ·)&&namedTie P c.named s.vars&&
 (c.stops==[])&&(P.stops==[])&&(c.knobs==[])&&(P.stopKnobs==[])
def abg (P:Program) (fn:Func) (s:ChangeSpec) (c:OpenClaim):Bool:=
 (c.maps==(fn.params.toList++s.plain.varTypes P).any (P.mapsRec ·))&&(c.ifaces==(fn.params.toList++s.plain.varTypes P).any (P.ifacesRec ·))&&(c.mapsOut==P.mapsAmong fn.resultTypes.toList)&&
 (c.loops==(fn.params.toList++s.plain.varTypes P).any (P.loopsFrom ·))&&(c.wideKeys==(fn.params.toList++s.plain.varTypes P++fn.resultTypes.toList).any (P.wideKeysFrom ·))&&
 s.vars.all (P.varReadable ·)&&fn.resultTypes.all (λt=>P.readableRec t&&decide (t<P.types.size))&&(c.ifacesOut==fn.resultTypes.toList.any (P.ifacesRec ·))&&(c.loopsOut==fn.resultTypes.toList.any (P.loopsFrom ·))&&(c.plainKeys==P.plainKeys)&&c.shortTexts.isNone
def abh (P:Program) (fn:Func) (s:ChangeSpec) (c:OpenClaim):Bool:=
 P.stopsHeard&&P.mayEnter&&(c.lifted==P.liftsFinal)&&(P.make==some c.make)&&(c.kinds==(if c.domain.isEmpty then []else fn.params.toList.map λt=>match P.underlying t with | some (.int k)=>some k | _=>none))&&(c.pinned==c.pinnedBy)&&
 (c.veiled==(fn.params.toList++s.plain.varTypes P++fn.resultTypes.toList).any (P.veiledRec ·))&&c.veiledFits P fn.params.toList (fn.params.toList++s.plain.varTypes P++fn.resultTypes.toList)
def afz {f:FuncId} {fn:Func} {s:ChangeSpec} {c:OpenClaim} (h4:(c.inPlace==P.inPlace f)=true) (h5:(c.unfollowed==P.unfollowed f)=true) (h6:(c.recurses==P.recurses f)=true) (h7:(c.named==P.varsNamed f)=true) (h1:abf P fn s c=true) (h2:abg P fn s c=true) (h3:abh P fn s c=true):joinedFacts P f fn s c=true:=by
 simp only[abf,zbr]at h1;simp only[abg,zbr]at h2;simp only[abh,zbr]at h3;simp only[joinedFacts,zbr];simp only[h1,h2,h3,h4,h5,h6,h7,and_self,and_true,true_and];exact h3.1.1.1.2
def LP (l:L8):Nat:=if l.length=2 then(l.getD 0 0).toNat%32 else if l.length=3 then(l.getD 0 0).toNat%16 else if l.length=4 then(l.getD 0 0).toNat%8 else(l.getD 0 0).toNat
def vY (l:L8) (i:Nat):Nat:=((l.take i).drop 1).foldl (λn c=>64*n+c.toNat%64) (LP l)
def Tf (l:L8):vY l 1=LP l:=by
 unfold vY;rw[zbu (by rw[zah];omega)];rfl
def AV (h1:1<=i) (h:i<l.length):vY l (i+1)=64*vY l i+(l.getD i 0).toNat%64:=by
 unfold vY;rw[zat,zab h,zel (by rw[zah];omega),List.foldl_append];simp[zaz,zab h]
def aiI (h1:1<=i) (h4:i<=4) (h:i<=l.length):vY l i<67108864:=by
 have a:vY l 1<=255:=by
  rw[Tf];have:=(l.getD 0 0).toNat_lt;unfold LP
  repeat' split
  all_goals omega
 have hi:i=1\/i=2\/i=3\/i=4:=oM;have s2:1<l.length->vY l 2=64*vY l 1+(l.getD 1 0).toNat%64:=AV oM;have s3:2<l.length->vY l 3=64*vY l 2+(l.getD 2 0).toNat%64:=AV oM;have s4:3<l.length->vY l 4=64*vY l 3+(l.getD 3 0).toNat%64:=AV oM
 rcases hi with rfl | rfl | rfl | rfl<;>omega
def afA (h1:1<=l.length) (h4:l.length<=4):vY l l.length=yD l:=by
 match l,h1,h4 with
 | [a],_,_=>rfl
 | [a,b],_,_=>rfl
 | [a,b,c],_,_=>rfl
 | [a,b,c,d],_,_=>rfl
section
variable {w:Wd} {l:L8}
def afB (h1:1<=l.length) (h4:l.length<=4):aQ prog 312 [str l] w λv w'=>v=I32 (yD l)/\w=w':=by
 have H:=Sep.aH w;have h8:=(l.getD 0 0).toNat_lt;refine dh func312 ?_;refine V2 ?_;refine Vv (Gives.zu (i:=0) rfl rfl oM) (O2 ?_);refine Qn (dB (λ_:Unit=>[(0,str l),(3,I (LP l))]) (λ_ w'=>Sep w noB [] w'/\w=w') ?_ ?_)
 .refine Cz (λk=>?_) (λk=>?_)
  .have e0:LP l=(l.getD 0 0).toNat%32:=by unfold LP;rw[zac oM]
   refine V1 ?_;refine Vv (Gives.Qe (b:=32) rfl rfl oM) (V1 ?_);exact au () ⟨rfl,by rw[e0];rfl,trivial⟩ ⟨H,rfl⟩
  refine Cz (λk=>?_) (λk=>?_)
  .have e0:LP l=(l.getD 0 0).toNat%16:=by unfold LP;rw[zaa oM,zac oM]
   refine V1 ?_;refine Vv (Gives.Qe (b:=16) rfl rfl oM) (V1 ?_);exact au () ⟨rfl,by rw[e0];rfl,trivial⟩ ⟨H,rfl⟩
  refine Cz (λk=>?_) (λk=>?_)
  .have e0:LP l=(l.getD 0 0).toNat%8:=by unfold LP;rw[zaa oM,zaa oM,zac oM]
   refine V1 ?_;refine Vv (Gives.Qe (b:=8) rfl rfl oM) (V1 ?_);exact au () ⟨rfl,by rw[e0];rfl,trivial⟩ ⟨H,rfl⟩
  have e0:LP l=(l.getD 0 0).toNat:=by unfold LP;rw[zaa oM,zaa oM,zaa oM]
  refine V0 ?_;exact au () ⟨rfl,by rw[e0];rfl,trivial⟩ ⟨H,rfl⟩
 intro _ τ k hI;obtain⟨k,rfl⟩:=hI;refine Lp ?_;refine V1 ?_;refine aI (λi:Nat=>[(0,str l),(3,I (vY l i)),(4,I i)]) (λi w'=>(1<=i/\i<=l.length)/\w=w') (λi _=>l.length-i) 1 ⟨rfl,by rw[Tf];rfl,rfl,trivial⟩ ⟨⟨zbi _,h1⟩,rfl⟩ (λi τ _ hI=>?_);obtain⟨⟨hi1,Ku⟩,rfl⟩:=hI;have hb:=aiI hi1 oM Ku;refine Lp ?_;refine Cz (λk=>?_) (λk=>?_)
 .have aX:i<l.length:=oM
  have hs:=AV hi1 aX;have h9:=(l.getD i 0).toNat_lt;refine V6 ?_;refine Vv (Gives.Qe (b:=64) rfl rfl oM) (V5 ?_);exact aj (i+1) ⟨rfl,by rw[hs,Int.natCast_add,Int.natCast_mul];rfl,rfl,trivial⟩ ⟨⟨oM,oM⟩,rfl⟩ oM
 have he:i=l.length:=oM;refine V1 ?_;refine Vv (Gives.U8 rfl oM) ?_;rw[he,afA h1 h4];refine V1 ?_;exact⟨rfl,rfl⟩
theorem ank (r:Int) (hr: -2147483648<=r/\r<=2147483647):Rk prog 313 [I32 r] w (.tuple #[str ((Kc r).getD []),.bool (Kc r).isSome]):=by
 have H:=Sep.aH w;refine dh func313 ?_
 by_cases hv:r<0\/1114111<r\/(55296<=r/\r<=57343)
 .have hp:Kc r=none:=zac hv
  rw[hp];refine Sz (λk=>?_) (λk=>?_)
  .refine V5 ?_
   exact⟨rfl,H.kept⟩
  refine Sz (λk=>?_) (λk=>?_)
  .refine V3 ?_
   exact⟨rfl,H.kept⟩
  refine Sz (λk=>?_) (λk=>?_)
  .refine Cz (λk=>?_) (λk=>?_)
   .refine V2 ?_
    exact⟨rfl,H.kept⟩
   omega
  omega
 have hp:Kc r=some (encodeRune r):=zaa hv;rw[hp];obtain⟨n,rfl⟩: ∃n:Nat,r=n:=⟨r.toNat,oM⟩;refine O5 ?_;refine Qn (dB (λ_:Unit=>[(4,I n)]) (λ_ w'=>Sep w noB [] w') ?_ ?_)
 .refine Sz (λk=>?_) (λk=>?_)
  .omega
  refine Sz (λk=>?_) (λk=>?_)
  .omega
  refine Sz (λk=>?_) (λk=>?_)
  .refine Cz (λk=>?_) (λk=>?_)
   .omega
   refine V0 ?_;exact au () tR H
  refine V2 ?_;exact au () tR H
 rintro _ τ k k;refine Lp ?_;refine V2 ?_;refine Bs k [Value.int .u8 (((n:Int).toNat.toUInt8).toNat:Int)] (λb _ k _=>?_);refine Cz (λS=>?_) (λS=>?_)
 .have he:[Value.int .u8 ((((240+(n/262144:Nat):Int)).toNat.toUInt8).toNat:Int),Value.int .u8 ((((128+(n/4096%64:Nat):Int)).toNat.toUInt8).toNat:Int),Value.int .u8 ((((128+(n/64%64:Nat):Int)).toNat.toUInt8).toNat:Int),Value.int .u8 ((((128+(n%64:Nat):Int)).toNat.toUInt8).toNat:Int)]=(encodeRune n).map λu=>Value.int .u8 u.toNat:=by rw[encodeRune,encodeRuneZ_four oM oM];rfl
  refine V1 ?_;refine Vv (Gives.GZ (b:=262144) rfl rfl oM oM) (V3 ?_);refine Vv (Gives.GZ (b:=4096) rfl rfl oM oM) (Vv (Gives.Qe (b:=64) rfl rfl oM) ?_);refine V3 ?_;refine Vv (Gives.GZ (b:=64) rfl rfl oM oM) (Vv (Gives.Qe (b:=64) rfl rfl oM) ?_);refine V3 ?_;refine Vv (Gives.Qe (b:=64) rfl rfl oM) (V2 ?_);refine Bs k [Value.int .u8 ((((240+(n/262144:Nat):Int)).toNat.toUInt8).toNat:Int),Value.int .u8 ((((128+(n/4096%64:Nat):Int)).toNat.toUInt8).toNat:Int),Value.int .u8 ((((128+(n/64%64:Nat):Int)).toNat.toUInt8).toNat:Int),Value.int .u8 ((((128+(n%64:Nat):Int)).toNat.toUInt8).toNat:Int)] (λb2 _ S _=>?_);refine V2 ?_;refine Vv (Gives.Oq (l:=encodeRune n) rfl (by rw[<-he];exact Sep.lV S At0 rfl)) ?_;refine V2 ?_;exact⟨rfl,S.kept⟩
 refine Cz (λS=>?_) (λS=>?_)
 .have he:[Value.int .u8 ((((224+(n/4096:Nat):Int)).toNat.toUInt8).toNat:Int),Value.int .u8 ((((128+(n/64%64:Nat):Int)).toNat.toUInt8).toNat:Int),Value.int .u8 ((((128+(n%64:Nat):Int)).toNat.toUInt8).toNat:Int)]=(encodeRune n).map λu=>Value.int .u8 u.toNat:=by rw[encodeRune,encodeRuneZ_three oM];rfl
  refine V1 ?_;refine Vv (Gives.GZ (b:=4096) rfl rfl oM oM) (V3 ?_);refine Vv (Gives.GZ (b:=64) rfl rfl oM oM) (Vv (Gives.Qe (b:=64) rfl rfl oM) ?_);refine V3 ?_;refine Vv (Gives.Qe (b:=64) rfl rfl oM) (V2 ?_);refine Bs k [Value.int .u8 ((((224+(n/4096:Nat):Int)).toNat.toUInt8).toNat:Int),Value.int .u8 ((((128+(n/64%64:Nat):Int)).toNat.toUInt8).toNat:Int),Value.int .u8 ((((128+(n%64:Nat):Int)).toNat.toUInt8).toNat:Int)] (λb2 _ S _=>?_);refine V2 ?_;refine Vv (Gives.Oq (l:=encodeRune n) rfl (by rw[<-he];exact Sep.lV S At0 rfl)) ?_;refine V2 ?_;exact⟨rfl,S.kept⟩
 refine Cz (λS=>?_) (λS=>?_)
 .have he:[Value.int .u8 ((((192+(n/64:Nat):Int)).toNat.toUInt8).toNat:Int),Value.int .u8 ((((128+(n%64:Nat):Int)).toNat.toUInt8).toNat:Int)]=(encodeRune n).map λu=>Value.int .u8 u.toNat:=by rw[encodeRune,encodeRuneZ_two oM oM];rfl
  refine V1 ?_;refine Vv (Gives.GZ (b:=64) rfl rfl oM oM) (V3 ?_);refine Vv (Gives.Qe (b:=64) rfl rfl oM) (V2 ?_);refine Bs k [Value.int .u8 ((((192+(n/64:Nat):Int)).toNat.toUInt8).toNat:Int),Value.int .u8 ((((128+(n%64:Nat):Int)).toNat.toUInt8).toNat:Int)] (λb2 _ S _=>?_);refine V2 ?_;refine Vv (Gives.Oq (l:=encodeRune n) rfl (by rw[<-he];exact Sep.lV S At0 rfl)) ?_;refine V2 ?_;exact⟨rfl,S.kept⟩
 have he:[Value.int .u8 (((n:Int).toNat.toUInt8).toNat:Int)]=(encodeRune n).map λu=>Value.int .u8 u.toNat:=by rw[encodeRune,encodeRuneZ_one oM oM];rfl
 refine V1 ?_;refine Vv (Gives.Oq (l:=encodeRune n) rfl (by rw[<-he];exact Sep.lV k At0 rfl)) ?_;refine V2 ?_;exact⟨rfl,k.kept⟩
def lg (l:L8):Nat×Nat:=(iq l).getD (0,0)
def acY (l:L8):Value:=.tuple #[I32 (lg l).1,I (lg l).2,.bool (iq l).isSome]
def abj (h:(iq l).isSome=true):iq l=some (lg l):=by
 unfold lg;cases e:iq l with
 | none=>rw[e]at h;cases h
 | some x=>rfl
def aiJ (h:(iq l).isSome=true):1<=(lg l).2/\(lg l).2<=4/\(lg l).2<=l.length:=by
 obtain⟨a,b,c,_,_⟩:=AP (r:=(lg l).1) (n:=(lg l).2) (abj h);exact⟨a,b,c⟩
def abk (iJ:l≠[]):validD l=if(iq l).isSome=true then validD (l.drop (lg l).2)else false:=by
 rw[ET iJ];unfold lg;cases iq l<;>rfl
def U9:okL l n↔(Kc (yD (l.take n))).isSome=true/\(Kc (yD (l.take n))).getD []=l.take n:=by
 unfold okL;cases h:Kc (yD (l.take n))with
 | none=>simp
 | some x=>simp
def ak8 (l:L8):yD l<67108864:=by
 unfold yD
 split
 .rename_i a;have:=a.toNat_lt;omega
 all_goals omega
def aiK (l:L8) (hl:l.length<=9223372036854775807):Rk prog 231 [str l] w (acY l):=by
 have H:=Sep.aH w;refine dh func231 ?_;refine V4 ?_;refine aI (λn:Nat=>[(0,str l),(5,I n)]) (λn w'=>((1<=n/\n<=5)/\∀j,1<=j->j<n->j<=l.length->¬okL l j)/\Sep w noB [] w') (λn _=>5-n) 1 tR ⟨⟨⟨zbi _,oM⟩,λj h1 h2=>oM⟩,H⟩ (λn τ w6 hI=>?_);obtain⟨⟨⟨h1,h5⟩,mE⟩,H6⟩:=hI;refine Lp ?_;refine Sz (λSa=>?_) (λSa=>?_)
 .refine Cz (λIe=>?_) (λIe=>?_)
  .have h4:n<=4/\n<=l.length:=oM
   have Bj:(l.take n).length=n:=by rw[zah];omega
   have Mq:=ak8 (l.take n);refine V3 ?_;refine eG (afB (l:=l.take n) oM oM) (h:=?_);refine Kz (ank (yD (l.take n)) oM) (λwa Ha _=>?_);refine V7 ?_;refine dL (t:=29) rfl (λSb=>?_) (λSb=>?_)
   .have ac9:(Kc (yD (l.take n))).isSome=true:=Sb
    refine Cz (λIf=>?_) (λIf=>?_)
    .have Kw:iq l=some (yD (l.take n),n):=AL h1 h4.1 h4.2 (U9.2 ⟨ac9,If⟩)
     refine V5 ?_;exact⟨by unfold acY lg;rw[Kw];rfl,Ha.kept⟩
    have aoa: ¬okL l n:=λh=>If (U9.1 h).2;refine V3 ?_;exact aj (n+1) tR ⟨⟨⟨oM,oM⟩,λj a b c=>by
    rcases zdo j n with h | h
    .exact mE j a h c
    have :j=n:=by omega
    subst this;exact aoa⟩,Ha⟩ oM
   have aoa: ¬okL l n:=λh=>by rw[(U9.1 h).1]at Sb;cases Sb
   refine V4 ?_;exact aj (n+1) tR ⟨⟨⟨oM,oM⟩,λj a b c=>by
   rcases zdo j n with h | h
   .exact mE j a h c
   have :j=n:=by omega
   subst this;exact aoa⟩,Ha⟩ oM
  have Li:iq l=none:=Ke λj a b c=>by
   rcases zdo j n with h | h
   .exact mE j a h c
   exfalso;omega
  refine V3 ?_;exact⟨by unfold acY lg;rw[Li];rfl,H6.kept⟩
 have hn5:n=5:=oM;have Li:iq l=none:=Ke λj a b c=>mE j a oM c;refine V4 ?_;exact⟨by unfold acY lg;rw[Li];rfl,H6.kept⟩
def Tg (l:L8) (hl:l.length<=9223372036854775807):Rk Tryz.prog 167 [str l] w (.bool (validD l)):=by
 have H:=Sep.aH w;refine dh Tryz.func167 ?_;refine V1 ?_;refine aI (λm:L8=>[(0,str m)]) (λm w'=>(m.length<=l.length/\validD m=validD l)/\Sep w noB [] w') (λm _=>m.length) l tR ⟨⟨zbi _,rfl⟩,H⟩ (λm τ _ hI=>?_);obtain⟨⟨hm1,CU⟩,k⟩:=hI;refine Lp ?_;refine Cz (λS=>?_) (λS=>?_)
 .have iJ:m≠[]:=λe=>by rw[e]at S;simp at S
  have dK:=abk iJ;refine Kz (aiK m oM) (λ_ S _=>?_);refine O9 ?_;refine Qn (Cd rfl (λI=>?_) (λI=>?_))
  .have hv:validD l=false:=by rw[<-CU,dK,zaa (by simpa using I)]
   refine V1 ?_;exact⟨by rw[hv];rfl,S.kept⟩
  have hs:(iq m).isSome=true:=by simpa using I
  have rW:=aiJ hs;refine V4 ?_;exact aj (m.drop (lg m).2) tR ⟨⟨by rw[zbo];omega,by rw[<-CU,dK,zac hs]⟩,S⟩ (by rw[zbo];omega)
 have he:m=[]:=zbg oM;have hv:validD l=true:=by rw[<-CU,he];rfl
 refine V1 ?_;exact⟨by rw[hv];rfl,k.kept⟩
end
def OO (c:UInt8):jF c=if c.toNat=34 then [92,34]else if c.toNat=92 then [92,92]else if c.toNat=8 then [92,98]else if c.toNat=12 then [92,102]else if c.toNat=10 then [92,110]else if c.toNat=13 then [92,114]else if c.toNat=9 then [92,116]
    else if c.toNat<32 then [92,117,48,48,nE (c.toNat/16),nE (c.toNat%16)]else [c]:=by
  have e: ∀k:UInt8,(c=k)=(c.toNat=k.toNat):=λk=>propext UInt8.toNat_inj.symm;have e2:(c<32)=(c.toNat<32):=propext UInt8.lt_iff_toNat_lt;unfold jF;simp only[e,e2];rfl
def abl (c:UInt8):(jF c).length<=6:=by
 unfold jF
 repeat' split
 all_goals simp
def G5 (l:L8) (i:Nat):L8:=34::(l.take i).flatMap jF
def YJ (l:L8) (i:Nat):(G5 l i).length<=6*i+1:=by
 have h:=Cw abl (l.take i);have h2:(l.take i).length<=i:=by rw[zah];omega
 unfold G5;simp only[zaq];omega
section
variable {w:Wd} {l:L8}
def Ki (l:L8):L8×Int:=if validD l=true then(vV l,0)else([],40)
end
def afC (e:nS c=some d):d<16:=by
 have:=c.toNat_lt;unfold nS at e
 repeat' split at e
 all_goals first | (injection e with e;omega) | cases e
section
variable {w:Wd} {l:L8}
end
def qw (l:L8) (i:Nat) (out:L8):L8×Nat×Int:=sW (l.length+1-i) (l.drop i) i out
def Ti {out:L8} (h:l.length<=i):qw l i out=([],0,3):=by
 unfold qw;rw[zbu h];cases l.length+1-i<;>rfl
def abm {f:Nat} {out:L8} (hf:l.length-i<f):sW f (l.drop i) i out=qw l i out:=by
 rcases zdo i (l.length+1)with h | h
 .exact afs (by rw[zbo];omega) (by rw[zbo];omega)
 rw[Ti oM,zbu oM];cases f<;>rfl
def drop_cons (h:i<l.length):l.drop i=l.getD i 0::l.drop (i+1):=by
 rw[zbn h,zaz,zab h];rfl
def EY {out:L8} (h:i<l.length) (hc:c=l.getD i 0):qw l i out=
    if c=34 then(out,i+1,0)else if c<32 then([],0,41)else if c=92 then(if(yE (l.drop i)).2.2≠0 then([],0,(yE (l.drop i)).2.2)else qw l (i+(yE (l.drop i)).2.1) (out++(yE (l.drop i)).1))
    else if(iq (l.drop i)).isSome=true then qw l (i+(lg (l.drop i)).2) (out++(l.drop i).take (lg (l.drop i)).2)else([],0,if acV (l.drop i)then 3 else 40):=by
  have hd:=drop_cons h;rw[<-hc]at hd
  have af3: ∀n o,1<=n->sW (l.length-i) ((l.drop i).drop n) (i+n) o=qw l (i+n) o:=λn o hn=>by
    rw[zfx];exact abm oM
  rw[show qw l i out=sW (l.length-i+1) (l.drop i) i out by unfold qw;congr 1;omega];rw[hd]at af3 ⊢;rw[sW]
  by_cases h1:c=34
  . rw[zac h1,zac h1]
  rw[zaa h1,zaa h1]
  by_cases h2:c<32
  . rw[zac h2,zac h2]
  rw[zaa h2,zaa h2]
  by_cases h3:c=92
  . rw[zac h3,zac h3]
    dsimp only
    by_cases h4:(yE (c::l.drop (i+1))).2.2≠0
    . rw[zac h4,zac h4]
    rw[zaa h4,zaa h4];refine af3 _ _ ?_
    rcases OG (c::l.drop (i+1))with⟨e,h0,hx⟩ | ⟨b,n,hn,hx⟩
    . rw[hx]at h4;exact zas h0 h4
    rw[hx];exact hn
  rw[zaa h3,zaa h3];unfold lg;cases hn:iq (c::l.drop (i+1))with
  | none=>rfl
  | some x=>
    obtain⟨r,n⟩:=x;obtain⟨H,_,_,_,_⟩:=AP hn;exact af3 n _ H
def Ml (r:Int):(encodeRune r).length<=4:=by
 unfold encodeRune encodeRuneZ
 repeat' split
 all_goals simp
section
variable {w:Wd} {l:L8}
end
def aD (t:bR):LV:=[I t.kind,.bool t.null]
def ah (c:aC):LV:=[.bool c.null,I c.n,str c.s]
def aN (x:bL):LV:=[I x.kind,I x.n,str x.s]
def aM (c:bT):LV:=[I c.id,str c.name,I c.type.kind,.bool c.type.null,.bool c.dflt.null,I c.dflt.n,str c.dflt.s]
def agg (cs:LV):Value:=.agg cs.toArray
def abn {a b:L8}:(((⟨a.toArray⟩:ByteArray).toList==(⟨b.toArray⟩:ByteArray).toList)=true)↔a=b:=by
 rw[ByteArray.toList_mk,ByteArray.toList_mk];simp
section
variable {P:Program} {w:Wd} {d:Nat} {f:Field} {fs:List Field} {xs ys:LV} {u v:Value} {e:Bool}
def Kj (hn:(f.name != "_")=true) (h1:OneCell P f.type) (hu:xs[f.offset]? =some u) (hv:ys[f.offset]? =some v) (he:(Op.equalIn d f.type u v).run P w=.ok e w):
    (Op.eqFields d xs.toArray ys.toArray (f::fs)).run P w=if e=true then(Op.eqFields d xs.toArray ys.toArray fs).run P w else .ok false w:=by
  have hn':f.name≠ "_" :=by simpa using hn
  simp only[Op.eqFields,zac hn',zbj,Dy hu,Dy hv,zan,he];cases e<;>simp
def apn {k:Nat} {us vs:LV} (hn:(f.name != "_")=true) (h1:Agg P f.type k) (hu:(xs.drop f.offset).take k=us) (hv:(ys.drop f.offset).take k=vs) (he:(Op.equalIn d f.type (.agg us.toArray) (.agg vs.toArray)).run P w=.ok e w):
    (Op.eqFields d xs.toArray ys.toArray (f::fs)).run P w=if e=true then(Op.eqFields d xs.toArray ys.toArray fs).run P w else .ok false w:=by
  have hn':f.name≠ "_" :=by simpa using hn
  simp only[Op.eqFields,zac hn',zbj,J7 hu,J7 hv,zan,he];cases e<;>simp
def aiL:(Op.eqFields d xs.toArray ys.toArray []).run P w=.ok true w:=rfl
def OP (a b:Int) (h:P.underlying t=some (.int .i64)):(Op.equalIn (d+1) t (I a) (I b)).run P w=.ok (decide (a=b)) w:=by
 rw[show I a=.int .i64 a from rfl,show I b=.int .i64 b from rfl,run_equalIn_int w d t .i64 .i64 a b h];rfl
def aiM (a b:Bool) (h:P.underlying t=some .bool):(Op.equalIn (d+1) t (.bool a) (.bool b)).run P w=.ok (decide (a=b)) w:=by
 rw[run_equalIn_bool' w d t a b h];cases a<;>cases b<;>rfl
def abo (a b:L8) (h:P.underlying t=some .string):(Op.equalIn (d+1) t (str a) (str b)).run P w=.ok (decide (a=b)) w:=by
 rw[show str a=.string ⟨a.toArray⟩from rfl,show str b=.string ⟨b.toArray⟩from rfl,run_equalIn_string w d t _ _ h]
 congr 1
 rw[zdu,abn,decide_eq_true_eq]
end
def aiN {d:Nat} (a b:aC) (w:Wd):(Op.equalIn (d+2) 47 (.agg (ah a).toArray) (.agg (ah b).toArray)).run Tryz.prog w=.ok (decide (a=b)) w:=by
 rw[run_equalIn_agg w (d+1) _ _ _ kR kR];simp only[Program.fieldsOf,Tryz.underlying47];rw[Kj rfl apg rfl rfl (aiM a.null b.null kR),Kj rfl apf rfl rfl (OP a.n b.n kR),Kj rfl ani rfl rfl (abo a.s b.s kR),aiL];have e:(a=b)=(a.null=b.null/\a.n=b.n/\a.s=b.s):=propext ⟨λh=>by subst h;exact⟨rfl,rfl,rfl⟩,λh=>aC.ext' h.1 h.2.1 h.2.2⟩;simp only[e]
 by_cases h1:a.null=b.null<;>by_cases h2:a.n=b.n<;>by_cases h3:a.s=b.s<;>simp[h1,h2,h3]
def eqType {d:Nat} (a b:bR) (w:Wd):(Op.equalIn (d+2) 45 (.agg (aD a).toArray) (.agg (aD b).toArray)).run Tryz.prog w=.ok (decide (a=b)) w:=by
 rw[run_equalIn_agg w (d+1) _ _ _ kR kR];simp only[Program.fieldsOf,Tryz.underlying45];rw[Kj rfl anh rfl rfl (OP a.kind b.kind kR),Kj rfl apg rfl rfl (aiM a.null b.null kR),aiL];have e:(a=b)=(a.kind=b.kind/\a.null=b.null):=propext ⟨λh=>by subst h;exact⟨rfl,rfl⟩,λh=>bR.ext' h.1 h.2⟩;simp only[e]
 by_cases h1:a.kind=b.kind<;>by_cases h2:a.null=b.null<;>simp[h1,h2]
def anl {d:Nat} (a b:bL) (w:Wd):(Op.equalIn (d+2) 66 (.agg (aN a).toArray) (.agg (aN b).toArray)).run Tryz.prog w=.ok (decide (a=b)) w:=by
 rw[run_equalIn_agg w (d+1) _ _ _ kR kR];simp only[Program.fieldsOf,Tryz.underlying66];rw[Kj rfl anh rfl rfl (OP a.kind b.kind kR),Kj rfl apf rfl rfl (OP a.n b.n kR),Kj rfl ani rfl rfl (abo a.s b.s kR),aiL];have e:(a=b)=(a.kind=b.kind/\a.n=b.n/\a.s=b.s):=propext ⟨λh=>by subst h;exact⟨rfl,rfl,rfl⟩,λh=>bL.ext' h.1 h.2.1 h.2.2⟩;simp only[e]
 by_cases h1:a.kind=b.kind<;>by_cases h2:a.n=b.n<;>by_cases h3:a.s=b.s<;>simp[h1,h2,h3]
def apo {d:Nat} (a b:bT) (w:Wd):(Op.equalIn (d+3) 49 (.agg (aM a).toArray) (.agg (aM b).toArray)).run Tryz.prog w=.ok (decide (a=b)) w:=by
 rw[run_equalIn_agg w (d+2) _ _ _ kR kR];simp only[Program.fieldsOf,Tryz.underlying49];rw[Kj rfl anh rfl rfl (OP a.id b.id kR),Kj rfl ani rfl rfl (abo a.name b.name kR),apn (k:=2) rfl aph rfl rfl (eqType a.type b.type w),apn (k:=3) rfl apj rfl rfl (aiN a.dflt b.dflt w),aiL];have e:(a=b)=(a.id=b.id/\a.name=b.name/\a.type=b.type/\a.dflt=b.dflt):=propext ⟨λh=>by subst h;exact⟨rfl,rfl,rfl,rfl⟩,λh=>bT.ext' h.1 h.2.1 h.2.2.1 h.2.2.2⟩;simp only[e]
 by_cases h1:a.id=b.id<;>by_cases h2:a.name=b.name<;>by_cases h3:a.type=b.type<;>by_cases h4:a.dflt=b.dflt<;>simp[h1,h2,h3,h4]
instance:EqData Tryz.prog 47 aC ah:=⟨λa b w=>aiN (d:=9998) a b w,kR⟩
instance:EqData Tryz.prog 45 bR aD:=⟨λa b w=>eqType (d:=9998) a b w,kR⟩
instance:EqData Tryz.prog 66 bL aN:=⟨λa b w=>anl (d:=9998) a b w,kR⟩
instance:EqData Tryz.prog 49 bT aM:=⟨λa b w=>apo (d:=9997) a b w,kR⟩
end
variable {b k:Nat} {E T:Td}
section rules
variable {P:Program} {r:Option Nat} {n:Nat} {ops:AO} {Q:Post} {rest:LO} {σ:St} {w w' w0:Wd} {S:NP} {rs:List HP} {put:HP->List HP} {ty:Td} {pos:String} {after:Array Edge} {guard:Option (Nat×Bool)} {lv:List Bool} {pd pd':LNB}
def fQ [Agg P T k] {cs:LV} (H:Sep w0 S rs w) (hx:evF σ x=.pointer (some ⟨b,0,none⟩):=by exact rfl)
    (hat:At rs (blk b cs E) put:=by exact aT) (hk:cs.length=k:=by exact rfl) (hd:Nat.blt d n=true:=by exact rfl) (h:FL P r n ops Q rest (upd σ d (.agg cs.toArray)) w):
    FL P r n ops Q (⟨some d,.load T x,ty,pos,after,none⟩::rest) σ w:=
  Gi H hx hat (us:=cs) (by rw[zde,<-hk,zbq]) hk hd h
def jU (fB:dX n ops=true) (i:Nat) [Agg P T k] {cs:LV} (H:Sep w0 S rs w) (ho:ops[i]? =some ⟨some d,.load T x,ty,pos,after,guard⟩:=by exact rfl)
    (hw:Region.wanted ⟨some d,.load T x,ty,pos,after,guard⟩ (bY ops σ)=true:=by kernel_rfl) (hx:evF σ x=.pointer (some ⟨b,0,none⟩):=by exact rfl)
    (hat:At rs (blk b cs E) put:=by exact aT) (hk:cs.length=k:=by exact rfl) (dN:lN ops lv (pd.map (·.1)) i=true:=by kernel_rfl)
    (h:FG P r n ops Q (lv.set i true) ((i,false)::pd) (upd σ d (.agg cs.toArray)) w):FG P r n ops Q lv pd σ w:=
  akL fB i H ho hw hx hat (us:=cs) (by rw[zde,<-hk,zbq]) hk dN h
def iB [Agg P T k] {cs us:LV} (H:Sep w0 S rs w) (hx:evF σ x=.pointer (some ⟨b,0,none⟩):=by exact rfl) (hy:evF σ y=.agg us.toArray:=by exact rfl)
    (hat:At rs (blk b cs E) put:=by exact aT) (hk:us.length=k:=by exact rfl) (hl:cs.length=k:=by exact rfl) (hv:us.all Value.oneCell'=true:=by exact rfl)
    (h: ∀w',Sep w0 S (put (blk b us E)) w'->FL P r n ops Q rest σ w'):
    FL P r n ops Q (⟨none,.store T x y,ty,pos,after,none⟩::rest) σ w:=
  Rh H hx hy hk (λu hu=>zba.1 hv u hu) hat oM (by rw[zdh,zbw,zbu oM,zbt]) h
def Qf [h1:Agg P T k] {cs us:LV} (H:Sep w0 S rs w) (hx:ρ x=.pointer (some ⟨b,0,none⟩)) (hy:ρ y=.agg us.toArray)
    (hat:At rs (blk b cs E) put) (hk:us.length=k) (hl:cs.length=k) (hv:us.all Value.oneCell'=true): ∃w',PE P ρ (.store T x y) ty w w'/\Sep w0 S (put (blk b us E)) w':=by
  have hb:=H.obj hat;have dK:=run_storeCells_at P b 0 E us 0 cs.toArray w hb (by simp;omega) (λu hu=>zba.1 hv u hu);have hs:cs.take 0++us++cs.drop (0+us.length)=us:=by rw[zdh,zbw,zbu oM,zbt]
  refine⟨w.setRow b (cs.take 0++us++cs.drop (0+us.length)).toArray,λ_ _ _ _=>?_,?_⟩
  . simp only[zfb]at dK
    simp[execOp,hx,hy,Instr.storeAt,Instr.sureAddr,storeVar,h1.size,Value.cells,hk];simp[hk]at dK;rw[dK];simp
  rw[hs];refine H.setObj hat ⟨rfl,rfl,rfl,sM,λj hj hS=>?_⟩ ?_
  . simp only[World.setRow,zdm];rw[zaa (λe=>hS e.symm)]
  simp only[World.setRow,zdm,if_true,hb,zdv]
def bM (fB:dX n ops=true) (e:Nat) (pd':LNB) [Agg P T k] {cs us:LV} (H:Sep w0 S rs w) (ho:ops[e]? =some ⟨none,.store T x y,ty,pos,after,guard⟩:=by exact rfl)
    (hw:Region.wanted ⟨none,.store T x y,ty,pos,after,guard⟩ (bY ops σ)=true:=by kernel_rfl) (hx:evF σ x=.pointer (some ⟨b,0,none⟩):=by exact rfl) (hy:evF σ y=.agg us.toArray:=by exact rfl)
    (hat:At rs (blk b cs E) put:=by exact aT) (hk:us.length=k:=by exact rfl) (hl:cs.length=k:=by exact rfl) (hv:us.all Value.oneCell'=true:=by exact rfl)
    (dN:fE ops lv (pd.map (·.1)) e=true:=by kernel_rfl) (oH:pd.filter (λp=> !((above ops e).contains p.1))=pd':=by exact pD)
    (h: ∀w',Sep w0 S (put (blk b us E)) w'->jo P ops σ w' pd'/\FG P r n ops Q (lv.set e true) pd' σ w'):FG P r n ops Q lv pd σ w:=
  XL fB e pd' ho hw (Qf H hx hy hat hk hl hv) dN oH h
end rules
end Go.Proofs.Mw
