/-
 Words are read back as the steps that wrote them;both ways to read a word say the same. No program stands here.
-/
import Derived.Test.YtjcgliljofbopaaGreatDoorNv6
set_option linter.all false
set_option maxRecDepth 4000
namespace Go.Proofs.Mw
open Go.Lib
/-! Numbers. -/
def tH (c:UInt8):Bool:=decide (48<=c.toNat/\c.toNat<=57)
def mQ:L8->Nat->Option Nat
 | [],acc=>some acc
 | c::r,acc=>if tH c=true then mQ r (10*acc+(c.toNat-48))else none
def Ky: ∀(l m:L8) (acc:Nat),mQ (l++m) acc=(mQ l acc).bind λa=>mQ m a
 | [],_,_=>rfl
 | c::l,m,acc=>by
  simp only[zcd,mQ]
  split
  .exact Ky l m _
  rfl
variable {d:Nat}
def Di (h:d<10):(UInt8.ofNat (48+d)).toNat=48+d:=by
 simp;omega
def xG (u:Nat):mQ (decDigits u) 0=some u:=by
 induction u using Nat.strongRecOn with
 | _ u ih=>
  rw[decDigits]
  split
  .rename_i h
   have e:=Di h;simp only[mQ,tH,e];rw[zac (by simp;omega)]
   congr 1;omega
  rename_i h;rw[Ky,ih (u/10) oM];have e:=Di (show u%10<10 from oM);simp only[zdy,mQ,tH,e];rw[zac (by simp;omega)]
  congr 1;omega
def qM (u:Nat):decDigits u≠[]:=by
 rw[decDigits]
 split<;>simp
def pE (u:Nat): ∀c∈decDigits u,tH c=true:=by
 induction u using Nat.strongRecOn with
 | _ u ih=>
  rw[decDigits]
  split
  .rename_i h
   intro c hc;simp only[zau]at hc;subst hc;unfold tH;rw[Di h];simp;omega
  rename_i h;intro c hc
  rcases zbk.1 hc with hc | hc
  .exact ih (u/10) oM c hc
  simp only[zau]at hc;subst hc;unfold tH;rw[Di (show u%10<10 from oM)];simp;omega
def xW: ∀(k u:Nat),u<10^(k+1)->(decDigits u).length<=k+1
 | 0,u,h=>by rw[decDigits,dif_pos (by simpa using h)];simp
 | k+1,u,h=>by
  rw[decDigits]
  split
  .simp
  have:=xW k (u/10) (by rw[Nat.pow_succ]at h;omega);rw[zad,zae];omega
def N7: ∀(l:L8) (acc n:Nat),mQ l acc=some n->acc<=n
 | [],acc,n,h=>by simp[mQ]at h;omega
 | c::r,acc,n,h=>by
  simp only[mQ]at h
  split at h
  .have:=N7 r _ n h;omega
  cases h
def Ab: ∀(l:L8) (acc n:Nat),mQ l acc=some n->n<18446744073709551616->parseUint10 acc l=.ok n
 | [],acc,n,h,_=>by simp[mQ]at h;simp[parseUint10,h]
 | c::r,acc,n,h,hn=>by
  simp only[mQ]at h
  split at h
  .rename_i hc
   have rG:=N7 r _ n h;have hc':48<=c.toNat/\c.toNat<=57:=by simpa[tH]using hc
   rw[parseUint10,zac hc',zab oM,zab oM];rw[Nat.mul_comm]at h;exact Ab r _ n h hn
  cases h
def mR (w:L8):Int:=match parseIntB 64 w with
 | .ok v=>v
 | .range=>intSat 64 w
 | _=>0
def N8 {u:Nat}: ∃c r,decDigits u=c::r/\tH c=true:=by
 cases h:decDigits u with
 | nil=>exact zar h (qM u)
 | cons c r=>exact⟨c,r,rfl,pE u c (by rw[h];exact zao)⟩
def Ru {u:Nat} (h:u<18446744073709551616):parseUintB 64 (decDigits u)=.ok u:=by
 rw[parseUintB_64,parseMag,zab (qM u),Ab _ 0 u (xG u) h]
variable {n:Int}
def xH (h0: -9223372036854775808<=n) (h1:n<=9223372036854775807):mR (itoa n)=n:=by
 by_cases hn:n<0
 .have e:itoa n=45::decDigits n.natAbs:=zac hn
  unfold mR;rw[e,parseIntB_minus,Ru oM];simp only[signedC];rw[zab (by simp;omega)];simp only;omega
 have e0:itoa n=decDigits n.toNat:=zab hn;obtain⟨c,r,e,hc⟩:=N8 (u:=n.toNat);have hc':48<=c.toNat/\c.toNat<=57:=by simpa[tH]using hc
 have hp:=Ru (u:=n.toNat) oM;unfold mR;rw[e0];rw[e]at hp ⊢;rw[parseIntB_plain _ _ _ oM oM,hp];simp only[signlessC];rw[zab (by simp;omega)];simp only;omega
/-! Bytes. -/
def vS (c:UInt8):Option Nat:=if 48<=c.toNat/\c.toNat<=57 then some (c.toNat-48)else if 97<=c.toNat/\c.toNat<=102 then some (c.toNat-87)else none
def sV:L8->L8
 | a::b::t=>((vS a).getD 0*16+(vS b).getD 0).toUInt8::sV t
 | _=>[]
def XQ (h:d<16):vS (ni d)=some d:=by
 have : ∀d:Fin 16,vS (ni d.val)=some d.val:=by decide
 exact this ⟨d,h⟩
def aeD (c:UInt8):(c.toNat/16*16+c.toNat%16).toUInt8=c:=by
 rw[abV];have:=c.toNat_lt;omega
def Rv: ∀s:L8,sV (yY s)=s
 | []=>rfl
 | c::s=>by
  have:=c.toNat_lt;show sV (ni (c.toNat/16)::ni (c.toNat%16)::yY s)=_
  rw[sV,XQ oM,XQ oM,Rv s];simp only[zde,aeD]
/-! Words. -/
def abY:L8:=[116,114,117,101]
def Uw:L8:=[102,97,108,115,101]
def Gd (w:L8):L8:=let s:=sV (w.drop 1);if 120::yY s=w/\s.length<=1024 then s else []
def fA (w:L8):bI:=
 match lN.findIdx? (λx=>decide (x=w))with
 | some i=>⟨7+i,0,[]⟩
 | none=>match [1,3,4,5].find? (λk:Int=>decide (oh k=w))with
  | some k=>⟨6,k,[]⟩
  | none=>if w=abY then⟨3,1,[]⟩else if w=Uw then⟨3,0,[]⟩
   else if w.head?=some 35 then⟨1,mR (w.drop 1),[]⟩
   else if w.head?=some 34 then⟨4,0,(Uv w).1⟩
   else if w.head?=some 120 then⟨5,0,Gd w⟩
   else⟨2,mR w,[]⟩
def aal: ∀x∈lN,∃c r,x=c::r/\c≠35/\c≠34/\c≠120/\¬(48<=c.toNat/\c.toNat<=57)/\(c=45->r=[]):=by
 intro x hx;simp only[lN,zba,zan,or_false]at hx
 rcases hx with rfl | rfl | rfl | rfl | rfl | rfl | rfl | rfl | rfl | rfl | rfl | rfl<;>exact⟨_,_,rfl,dC,dC,dC,dC,dC⟩
variable {c:UInt8}
def ajY {r:L8} (h:c=35\/c=34\/c=120\/(48<=c.toNat/\c.toNat<=57)\/(c=45/\r≠[])):lN.findIdx? (λx=>decide (x=c::r))=none:=by
 rw[zcx];intro x hx;obtain⟨c',r',rfl,h1,h2,h3,h4,h5⟩:=aal x hx;simp only[List.cons.injEq,decide_eq_false_iff_not,not_and];rintro rfl rfl
 rcases h with h | h | h | h | ⟨h,h6⟩
 .exact h1 h
 .exact h2 h
 .exact h3 h
 .exact h4 h
 exact h6 (h5 h)
def ajZ {r:L8} (h:c≠110):[1,3,4,5].find? (λk:Int=>decide (oh k=c::r))=none:=by
 rw[zfp];intro k hk;simp only[zba,zan,or_false]at hk;simp only[decide_eq_true_eq]
 rcases hk with rfl | rfl | rfl | rfl<;>(intro e;injection e with e _;exact h e.symm)
def Rw (n:Int): ∃c r,itoa n=c::r/\((48<=c.toNat/\c.toNat<=57)\/(c=45/\r≠[])):=by
 unfold itoa
 split
 .exact⟨_,_,rfl,.inr ⟨rfl,qM _⟩⟩
 obtain⟨c,r,e,hc⟩:=N8 (u:=n.toNat);exact⟨c,r,e,.inl (by simpa[tH]using hc)⟩
def Ad {r:L8} (h:c=35\/c=34\/c=120\/(48<=c.toNat/\c.toNat<=57)\/(c=45/\r≠[])):
    fA (c::r)=if c=35 then⟨1,mR r,[]⟩else if c=34 then⟨4,0,(Uv (c::r)).1⟩else if c=120 then⟨5,0,Gd (c::r)⟩else⟨2,mR (c::r),[]⟩:=by
  have hc:c≠110/\c≠116/\c≠102:=by
    rcases h with rfl | rfl | rfl | h | ⟨rfl,_⟩
    . decide
    . decide
    . decide
    . refine⟨?_,?_,?_⟩<;>(rintro rfl;exact zar h dC)
    decide
  unfold fA;rw[ajY h];dsimp only;rw[ajZ hc.1];dsimp only;rw[zab (by unfold abY;intro e;injection e with e _;exact hc.2.1 e),zab (by unfold Uw;intro e;injection e with e _;exact hc.2.2 e)];simp only[List.head?_cons,Option.some.injEq,zeq,zdd]
def aam {x:bI} (h:dP x=true) (h0: -9223372036854775808<=x.n) (h1:x.n<=9223372036854775807):fA (gU x)=x:=by
 obtain⟨k,n,s⟩:=x;unfold dP at h;unfold gU;dsimp only at h h0 h1 |-
 by_cases k1:k=1
 .subst k1
  rw[zac rfl]at h ⊢;simp only[decide_eq_true_eq]at h;rw[Ad (.inl rfl),zac rfl,xH h0 h1,h.1]
 rw[zab k1]at h |-
 by_cases k2:k=2
 .subst k2
  rw[zac rfl]at h ⊢;simp only[decide_eq_true_eq]at h;obtain⟨c,r,e,hc⟩:=Rw n;have hp:=xH h0 h1;rw[e]at hp ⊢;rw[Ad (.inr (.inr (.inr hc))),zab,zab,zab,hp,h]
  all_goals (rcases hc with hc | ⟨rfl,_⟩<;>first | decide | (rintro rfl;exact zar hc dC))
 rw[zab k2]at h |-
 by_cases k3:k=3
 .subst k3
  rw[zac rfl]at h ⊢;simp only[decide_eq_true_eq]at h;obtain⟨rfl,ha,hb⟩:=h;have :n=0\/n=1:=by omega
  rcases this with rfl | rfl<;>rfl
 rw[zab k3]at h |-
 by_cases k4:k=4
 .subst k4
  rw[zac rfl]at h ⊢;simp only[decide_eq_true_eq]at h;have hu:=ahE h.2.2;have e:=BQ s;rw[e]at hu ⊢;rw[Ad (.inr (.inl rfl)),zab dC,zac rfl,hu,h.1]
 rw[zab k4]at h |-
 by_cases k5:k=5
 .subst k5
  rw[zac rfl]at h ⊢;simp only[decide_eq_true_eq]at h;rw[Ad (.inr (.inr (.inl rfl))),zab dC,zab dC,zac rfl];unfold Gd;simp only[zeq,zdd,Rv,true_and];rw[zac h.2,h.1]
 rw[zab k5]at h |-
 by_cases k6:k=6
 .subst k6
  rw[zac rfl]at h ⊢;simp only[decide_eq_true_eq]at h;obtain⟨rfl,hn⟩:=h;have :n=1\/n=3\/n=4\/n=5:=by omega
  rcases this with rfl | rfl | rfl | rfl<;>rfl
 rw[zab k6]at h ⊢;simp only[decide_eq_true_eq]at h;obtain⟨ha,hb,rfl,rfl⟩:=h;have :k=7\/k=8\/k=9\/k=10\/k=11\/k=12\/k=13\/k=14\/k=15\/k=16\/k=17\/k=18:=by omega
 rcases this with rfl | rfl | rfl | rfl | rfl | rfl | rfl | rfl | rfl | rfl | rfl | rfl<;>rfl
/-! Expressions as texts. -/
def cB (sep:UInt8):L8->List (L8)
 | []=>[[]]
 | c::l=>if c=sep then []::cB sep l else match cB sep l with
  | w::ws=>(c::w)::ws
  | []=>[[c]]
def sG (x:bI) (w:L8):Bool:=dP x&&decide (gU x=w)
def readAll:List (L8)->Option (List bI)
 | []=>some []
 | w::l=>if sG (fA w) w=true then(readAll l).map (fA w:: ·)else none
def d9 (s:L8):List bI×Int:=
 if 1048576<s.length\/64<=s.count 32 then([],5)else if s=[]then([],0)else match readAll (cB 32 s)with
  | some l=>(l,0)
  | none=>([],4)
def KA (w:L8): -9223372036854775808<=mR w/\mR w<=9223372036854775807:=by
 unfold mR
 split
 .rename_i v h
  obtain⟨h1,h2⟩:=parseIntB_bounds h;simp at h1 h2;omega
 .unfold intSat
  split<;>simp
 omega
def aan {w:L8} (h:dP (fA w)=true): -9223372036854775808<=(fA w).n/\(fA w).n<=9223372036854775807:=by
 unfold fA at h |-
 split
 .dsimp only;omega
 split
 .rename_i k hk
  have:=zev hk;simp at this;dsimp only;omega
 repeat' split
 all_goals first | exact KA _ | (dsimp only;omega)
def JF {x:bI} {w:L8}:sG x w=true↔dP x=true/\gU x=w:=by
 unfold sG;rw[zbq,decide_eq_true_eq]
/-! Words have no blanks. -/
def Dj (n:Int): ∀c∈itoa n,c≠32:=by
 intro c hc e;subst e
 have key: ∀u,(32:UInt8)∉decDigits u:=λu h=>by
  have:=pE u _ h;simp[tH]at this
 unfold itoa at hc
 split at hc
 .rcases zba.1 hc with h | h
  .exact zar h dC
  exact key _ h
 exact key _ hc
def aeE (c:UInt8): ∀x∈iM c,x≠32:=by
 have h1:ni (c.toNat/16)≠32:=Dg (by have:=c.toNat_lt;omega);have h2:ni (c.toNat%16)≠32:=Dg oM;unfold iM jy
 repeat' split
 all_goals (intro x hx;simp only[zba,zan,or_false]at hx)
 all_goals first
  | (rcases hx with rfl | rfl | rfl | rfl | rfl | rfl<;>first | decide | assumption)
  | (rcases hx with rfl | rfl<;>decide)
  | (subst hx;assumption)
def aao (c:UInt8):(iM c).length<=6:=by
 unfold iM jy
 repeat' split
 all_goals simp
def BR {f:UInt8->L8} {k:Nat} (h: ∀c,(f c).length<=k): ∀s:L8,(s.flatMap f).length<=k*s.length
 | []=>sM
 | c::s=>by
  have h1:=h c;have h2:=BR h s;rw[zbh,zad,zas,Nat.mul_succ];omega
def aj0 {x:bI} (h:dP x=true): ∀c∈gU x,c≠32:=by
 obtain⟨k,n,s⟩:=x;unfold dP at h;unfold gU;dsimp only at h |-
 by_cases k1:k=1
 .rw[zac k1]
  intro c hc
  rcases zba.1 hc with rfl | hc
  .decide
  exact Dj n c hc
 rw[zab k1]at h |-
 by_cases k2:k=2
 .rw[zac k2];exact Dj n
 rw[zab k2]at h |-
 by_cases k3:k=3
 .rw[zac k3]
  split<;>decide
 rw[zab k3]at h |-
 by_cases k4:k=4
 .rw[zac k4,BQ]
  intro c hc
  rcases zba.1 hc with rfl | hc
  .decide
  rcases zbk.1 hc with hc | hc
  .obtain⟨y,_,hy⟩:=zca.1 hc
   exact aeE y c hy
  simp only[zau]at hc;subst hc;decide
 rw[zab k4]at h |-
 by_cases k5:k=5
 .rw[zac k5]
  intro c hc
  rcases zba.1 hc with rfl | hc
  .decide
  obtain⟨y,_,hy⟩:=zca.1 hc;simp only[zba,zan,or_false]at hy
  rcases hy with rfl | rfl
  .exact Dg (by have:=y.toNat_lt;omega)
  exact Dg oM
 rw[zab k5]at h |-
 by_cases k6:k=6
 .subst k6
  rw[zac rfl]at h ⊢;simp only[decide_eq_true_eq]at h;obtain⟨_,hn⟩:=h;have :n=1\/n=3\/n=4\/n=5:=by omega
  rcases this with rfl | rfl | rfl | rfl<;>decide
 rw[zab k6]at h ⊢;simp only[decide_eq_true_eq]at h;obtain⟨ha,hb,_,_⟩:=h;have :k=7\/k=8\/k=9\/k=10\/k=11\/k=12\/k=13\/k=14\/k=15\/k=16\/k=17\/k=18:=by omega
 rcases this with rfl | rfl | rfl | rfl | rfl | rfl | rfl | rfl | rfl | rfl | rfl | rfl<;>decide
def BS {n:Int} (h0: -9223372036854775808<=n) (h1:n<=9223372036854775807):(itoa n).length<=20:=by
 unfold itoa
 split
 .have:=xW 18 n.natAbs (by simp;omega)
  simp;omega
 have:=xW 18 n.toNat (by simp;omega);omega
def N9 {x:bI} (h:dP x=true) (h0: -9223372036854775808<=x.n) (h1:x.n<=9223372036854775807):(gU x).length<=6146/\gU x≠[]:=by
 obtain⟨k,n,s⟩:=x;unfold dP at h;unfold gU;dsimp only at h h0 h1 ⊢;have hi:=BS h0 h1;obtain⟨c,r,ei,_⟩:=Rw n
 by_cases k1:k=1
 .rw[zac k1];exact⟨by simp;omega,sM⟩
 rw[zab k1]at h |-
 by_cases k2:k=2
 .rw[zac k2];exact⟨oM,by rw[ei];simp⟩
 rw[zab k2]at h |-
 by_cases k3:k=3
 .rw[zac k3]
  split<;>exact⟨dC,dC⟩
 rw[zab k3]at h |-
 by_cases k4:k=4
 .rw[zac k4]at h |-
  simp only[decide_eq_true_eq]at h;rw[BQ];have:=BR aao s;exact⟨by simp only[zas,zad,zcb];omega,sM⟩
 rw[zab k4]at h |-
 by_cases k5:k=5
 .rw[zac k5]at h |-
  simp only[decide_eq_true_eq]at h;have :(yY s).length<=2*s.length:=BR (f:=λc:UInt8=>[ni (c.toNat/16),ni (c.toNat%16)]) (λc=>by simp) s;exact⟨by simp only[zas];omega,sM⟩
 rw[zab k5]at h |-
 by_cases k6:k=6
 .subst k6
  rw[zac rfl]at h ⊢;simp only[decide_eq_true_eq]at h;obtain⟨_,hn⟩:=h;have :n=1\/n=3\/n=4\/n=5:=by omega
  rcases this with rfl | rfl | rfl | rfl<;>exact⟨dC,dC⟩
 rw[zab k6]at h ⊢;simp only[decide_eq_true_eq]at h;obtain⟨ha,hb,_,_⟩:=h;have :k=7\/k=8\/k=9\/k=10\/k=11\/k=12\/k=13\/k=14\/k=15\/k=16\/k=17\/k=18:=by omega
 rcases this with rfl | rfl | rfl | rfl | rfl | rfl | rfl | rfl | rfl | rfl | rfl | rfl<;>exact⟨dC,dC⟩
/-! Split and join. -/
def XT (sep:UInt8): ∀l:L8,cB sep l≠[]
 | []=>by simp[cB]
 | c::l=>by
  unfold cB
  split
  .simp
  split<;>simp
def pX {sep c:UInt8} {l:L8} (h:c≠sep): ∃w ws,cB sep l=w::ws/\cB sep (c::l)=(c::w)::ws:=by
 cases e:cB sep l with
 | nil=>exact zar e (XT sep l)
 | cons w ws=>exact⟨w,ws,rfl,by rw[cB,zab h,e]⟩
def Ew {sep:UInt8} {w:L8} (h: ∀c∈w,c≠sep):cB sep w=[w]:=by
 induction w with
 | nil=>rfl
 | cons c w ih=>
  obtain⟨a,b,e1,e2⟩:=pX (l:=w) (h c zao);rw[ih λx hx=>h x (zat _ hx)]at e1;injection e1 with e1 e3
  rw[e2,<-e1,<-e3]
def JG {sep:UInt8} {w l:L8} (h: ∀c∈w,c≠sep):cB sep (w++sep::l)=w::cB sep l:=by
 induction w with
 | nil=>rw[zbu,cB,zac rfl]
 | cons c w ih=>
  obtain⟨a,b,e1,e2⟩:=pX (l:=w++sep::l) (h c zao);rw[ih λx hx=>h x (zat _ hx)]at e1;injection e1 with e1 e3
  rw[zcd,e2,<-e1,<-e3]
def Ey {sep:UInt8}: ∀{ws:List (L8)},ws≠[]->(∀w∈ws,∀c∈w,c≠sep)->cB sep (iZ sep ws)=ws
 | [],h,_=>zar rfl h
 | [w],_,h=>Ew (h w zao)
 | w::w'::ws,_,h=>by
  show cB sep (w++sep::iZ sep (w'::ws))=_
  rw[JG (h w zao),Ey sM λx hx=>h x (zat _ hx)]
def Ez (sep:UInt8): ∀l:L8,iZ sep (cB sep l)=l
 | []=>rfl
 | c::l=>by
  have ih:=Ez sep l
  by_cases h:c=sep
  .rw[cB,zac h]
   obtain⟨w,ws,e⟩: ∃w ws,cB sep l=w::ws:=by
    cases e:cB sep l with
    | nil=>exact zar e (XT sep l)
    | cons w ws=>exact⟨w,ws,rfl⟩
   rw[e]at ih ⊢;show []++sep::iZ sep (w::ws)=_
   rw[ih,h];rfl
  obtain⟨w,ws,e1,e2⟩:=pX (l:=l) h;rw[e2];rw[e1]at ih;cases ws with
  | nil=>show c::w=_;rw[<-ih];rfl
  | cons w' ws=>show(c::w)++sep::iZ sep (w'::ws)=_;rw[<-ih];rfl
def xI (sep:UInt8): ∀l:L8,(cB sep l).length=l.count sep+1
 | []=>rfl
 | c::l=>by
  have ih:=xI sep l
  by_cases h:c=sep
  .rw[cB,zac h,zas,ih,h,List.count_cons_self]
  obtain⟨w,ws,e1,e2⟩:=pX (l:=l) h;rw[e1]at ih;rw[e2,List.count_cons_of_ne h];simpa using ih
def BU (sep:UInt8) {k:Nat}: ∀{ws:List (L8)},(∀w∈ws,w.length<=k)->(iZ sep ws).length<=(k+1)*ws.length
 | [],_=>by simp[iZ]
 | [w],h=>by have:=h w zao;simp[iZ];omega
 | w::w'::ws,h=>by
  have h1:=h w zao;have h2:=BU sep (ws:=w'::ws) λx hx=>h x (zat _ hx);show(w++sep::iZ sep (w'::ws)).length<=_
  simp only[zad,zas]at h2 ⊢;rw[Nat.mul_succ];omega
def DV: ∀{l:List bI},(∀x∈l,dP x=true/\ -9223372036854775808<=x.n/\x.n<=9223372036854775807)->readAll (l.map gU)=some l
 | [],_=>rfl
 | x::l,h=>by
  obtain⟨h1,h2,h3⟩:=h x zao;have e:=aam h1 h2 h3;rw[zav,readAll,e,zac (JF.2 ⟨h1,rfl⟩),DV λy hy=>h y (zat _ hy)];rfl
def Gf: ∀{ws:List (L8)} {l:List bI},readAll ws=some l->l.map gU=ws/\∀x∈l,dP x=true/\ -9223372036854775808<=x.n/\x.n<=9223372036854775807
 | [],l,h=>by simp[readAll]at h;subst h;exact⟨rfl,λ_ h=>by cases h⟩
 | w::ws,l,h=>by
  rw[readAll]at h
  split at h
  .rename_i hg
   obtain⟨m,hm,rfl⟩:=zbc.1 h;obtain⟨h1,h2⟩:=JF.1 hg;obtain⟨h3,h4⟩:=Gf hm;refine⟨by rw[zav,h2,h3],λx hx=>?_⟩
   rcases zba.1 hx with rfl | hx
   .exact⟨h1,aan h1⟩
   exact h4 x hx
  cases h
def Ob {l:List bI} (h: ∀x∈l,dP x=true/\ -9223372036854775808<=x.n/\x.n<=9223372036854775807) (hl:l.length<=64):iO l=(iZ 32 (l.map gU),0)/\d9 (iZ 32 (l.map gU))=(l,0)/\(l≠[]->(iZ 32 (l.map gU)).count 32=l.length-1):=by
 refine⟨?_,?_⟩
 .unfold iO
  rw[zab oM,zab];rw[Bool.not_eq_false,zaz];exact λx hx=>(h x hx).1
 by_cases h0:l=[]
 .subst h0;exact⟨rfl,λh=>zar rfl h⟩
 have iN:l.map gU≠[]:=by simpa using h0
 have hnb: ∀w∈l.map gU,∀c∈w,c≠32:=λw hw=>by
  obtain⟨x,hx,rfl⟩:=zaq.1 hw;exact aj0 (h x hx).1
 have hs:=Ey iN hnb;have hc:=xI 32 (iZ 32 (l.map gU));rw[hs,zaf]at hc
 have hlen:(iZ 32 (l.map gU)).length<=(6146+1)*(l.map gU).length:=BU 32 λw hw=>by
  obtain⟨x,hx,rfl⟩:=zaq.1 hw;exact(N9 (h x hx).1 (h x hx).2.1 (h x hx).2.2).1
 rw[zaf]at hlen
 have tu:iZ 32 (l.map gU)≠[]:=by
  intro e;rw[e]at hs;have :l.map gU=[[]]:=hs.symm;cases l with
  | nil=>exact h0 rfl
  | cons x l=>
   simp only[zav,List.cons.injEq]at this;exact(N9 (h x zao).1 (h x zao).2.1 (h x zao).2.2).2 this.1
 refine⟨?_,λ_=>oM⟩;unfold d9;rw[zab oM,zab tu,hs,DV h]
def aap {s:L8} {l:List bI} (h:d9 s=(l,0)):iO l=(s,0):=by
 unfold d9 at h
 split at h
 .injection h with _ h;cases h
 rename_i hb
 split at h
 .rename_i h0
  injection h with h _
  subst h;subst h0;rfl
 split at h
 .rename_i m hm
  injection h with h _
  subst h;obtain⟨h1,h2⟩:=Gf hm;have hc:=xI 32 s;rw[<-h1,zaf]at hc;have:=(Ob h2 oM).1;rw[this,h1,Ez]
 injection h with _ h;cases h
def I (n:Int):Value:=.int .i64 n
def I32 (n:Int):Value:=.int .i32 n
def B (c:UInt8):Value:=.int .u8 c.toNat
def fits (n:Int):Prop:= -9223372036854775808<=n/\n<=9223372036854775807
def aj1 {α:Type} {f:α->Value} (h: ∀x,(f x).oneCell'=true) (l:List α): ∀u∈l.map f,u.oneCell'=true:=λu hu=>by
 obtain⟨x,_,rfl⟩:=zaq.1 hu;exact h x
def aof (h0:0<=n):IntKind.u8.wrap n=((n.toNat.toUInt8).toNat:Int):=by
 rw[IntKind.wrap_u8];simp;omega
def wrap32 (h: -2147483648<=n/\n<=2147483647):IntKind.i32.wrap n=n:=by
 rw[IntKind.wrap_i32];omega
variable {s t:Td} {j:IntKind}
def wrap64 (h: -9223372036854775808<=n/\n<=9223372036854775807):IntKind.i64.wrap n=n:=IntWalk.i64_in _ h
section
section gives
variable {P:Program} {ρ:Od->Value} {ty:Td} {w:Wd} {x y:Od} {T U:Td} {k:IntKind}
def Gives.Pp {a b:Nat} (hx:ρ x=.int k a) (hy:ρ y=.int k b) (h0:b≠0):Gives P ρ (.binOp .rem T x y U) ty w (.int k ((a%b:Nat):Int)) w:=by
 have:=Gives.rem (P:=P) (ty:=ty) (w:=w) (T:=T) (U:=U) hx hy oM
 rwa [zes oM,<-Int.natCast_emod]at this
def Gives.Gg {a b:Nat} (hx:ρ x=.int .i64 a) (hy:ρ y=.int .i64 b) (h0:b≠0) (h:a<=9223372036854775807):Gives P ρ (.binOp .quo T x y U) ty w (.int .i64 ((a/b:Nat):Int)) w:=by
 have:=Gives.quo (P:=P) (ty:=ty) (w:=w) (T:=T) (U:=U) hx hy oM;have e:a/b<=a:=Nat.div_le_self a b;have e2:(a:Int).tdiv (b:Int)=((a/b:Nat):Int):=by rw[zet oM];rfl
 obtain⟨q,hq⟩: ∃q,q=a/b:=⟨_,rfl⟩;rw[<-hq]at e e2 |-
 rwa [e2,IntWalk.i64_in (q:Int) oM]at this
def Gives.aog [hs:mV P s .u8] [ht:mV P t .i64] (hx:ρ x=.int .u8 c.toNat):Gives P ρ (.convert s t x) ty w (.int .i64 c.toNat) w:=by
 have:=Gives.conv (P:=P) (ty:=ty) (w:=w) (s:=s) (t:=t) (k:=.i64) hx;have hc:=c.toNat_lt
 rwa [IntWalk.i64_in _ oM]at this
def Gives.aj2 {a:Int} [hs:mV P s j] [ht:mV P t .i64] (hx:ρ x=.int j a) (h: -9223372036854775808<=a/\a<=9223372036854775807):Gives P ρ (.convert s t x) ty w (.int .i64 a) w:=by
 have:=Gives.conv (P:=P) (ty:=ty) (w:=w) (s:=s) (t:=t) (k:=.i64) hx
 rwa [IntWalk.i64_in _ h]at this
def Gives.Ux {a:Int} [hs:mV P s j] [ht:mV P t .i32] (hx:ρ x=.int j a) (h: -2147483648<=a/\a<=2147483647):Gives P ρ (.convert s t x) ty w (.int .i32 a) w:=by
 have:=Gives.conv (P:=P) (ty:=ty) (w:=w) (s:=s) (t:=t) (k:=.i32) hx
 rwa [wrap32 h]at this
def Gives.ahF {a:Int} [hs:mV P s j] [ht:mV P t .u8] (hx:ρ x=.int j a) (h:0<=a):Gives P ρ (.convert s t x) ty w (.int .u8 (a.toNat.toUInt8).toNat) w:=by
 have:=Gives.conv (P:=P) (ty:=ty) (w:=w) (s:=s) (t:=t) (k:=.u8) hx
 rwa [aof h]at this
end gives
end
variable {x y:Od} {ρ:Od->Value} {v:Value} {e:Td}
open Go.RowKit
section rules
variable {P:Program} {r:Option Nat} {n:Nat} {ops:AO} {Q:Post} {rest:LO} {σ:St} {w w' w0:Wd} {S:NP} {rs:List HP} {put:HP->List HP} {ty:Td} {pos:String} {after:Array Edge} {guard:Option (Nat×Bool)} {lv:List Bool} {pd pd':LNB}
def l8 (e:Nat) (v:Value) (xs:L8):HP:=uR e 1 v xs.length (xs.map B)
def aoh (xs:L8): ∀u∈xs.map B,u.oneCell'=true:=aj1 (λ_=>rfl) xs
def DW {t e b c:Td} [hs:cO P t e] [hc:Cells P e 1 1] [hz:Zero P e (.int .u8 0)] {xs news:L8}
    (H:Sep w0 S (blk b (news.map B) e::rs) w) (hx:ρ x=v) (hy:ρ y=.slice (some ⟨b,0,none⟩) c c) (hc':c=news.length) (hat:At rs (l8 e v xs) put) (h63:xs.length+news.length<=140737488355328):
    ∃v' w',Gives P ρ (.call {callee:=.builtin .append,args:= #[x,y],argTypes:= #[t,t]}) ty w v' w'/\Sep w0 S (put (l8 e v' (xs++news))) w':=by
  subst hc';have hr:gY w (some ⟨b,0,none⟩) news.length 1 (news.map B):=Sep.lK H At0 sM;have H2:=H.bH;obtain⟨F,hp,_,_⟩:=H2.focus hat;obtain⟨v',w',iq,oq,hg,hb⟩:=uS (P:=P) (ty:=ty) t e (z:=.int .u8 0) dC rfl v xs.length (xs.map B) hp.1 (some ⟨b,0,none⟩) news.length news.length (news.map B) hr (aoh news) (by unfold maxLen;omega) oM;refine⟨v',w',λ_ _ _ _=>?_,?_⟩
  . simp only[execOp,resolve,invoke,builtin,zbi,zbl,zam,zcc,zav,zcl,hx,hy,iq]
  refine H2.CS hat hg ?_ (by rcases hb with e | e<;>simp[e]);rw[<-zai]at oq;rw[zad];exact oq
def pY {b c:Td} [hs:cO P t e] [hc:Cells P e 1 1] [hz:Zero P e (.int .u8 0)] {xs news:L8}
    (H:Sep w0 S (blk b (news.map B) e::rs) w) (hat:At rs (l8 e v xs) put) (h63:xs.length+news.length<=140737488355328) (hx:evF σ x=v:=by exact rfl) (hy:evF σ y=.slice (some ⟨b,0,none⟩) c c:=by exact rfl) (hc':c=news.length:=by exact rfl) (hd:Nat.blt d n=true:=by exact rfl)
    (h: ∀v' w',Sep w0 S (put (l8 e v' (xs++news))) w'->FL P r n ops Q rest (upd σ d v') w'):
    FL P r n ops Q (⟨some d,.call {callee:=.builtin .append,args:= #[x,y],argTypes:= #[t,t]},ty,pos,after,none⟩::rest) σ w:=by
  obtain⟨v',w',hg,hs'⟩:=DW (P:=P) (t:=t) (ty:=ty) H hx hy hc' hat h63;exact dw hg hd (h v' w' hs')
def aeF (eZ:dS n ops=true) (i:Nat) (pd':LNB) {b c:Td} [hs:cO P t e] [hc:Cells P e 1 1] [hz:Zero P e (.int .u8 0)] {xs news:L8}
    (H:Sep w0 S (blk b (news.map B) e::rs) w) (hat:At rs (l8 e v xs) put) (h63:xs.length+news.length<=140737488355328)
    (ho:ops[i]? =some ⟨some d,.call {callee:=.builtin .append,args:= #[x,y],argTypes:= #[t,t]},ty,pos,after,guard⟩:=by exact rfl)
    (hw:Region.wanted ⟨some d,.call {callee:=.builtin .append,args:= #[x,y],argTypes:= #[t,t]},ty,pos,after,guard⟩ (bU ops σ)=true:=by kernel_rfl)
    (hx:evF σ x=v:=by exact rfl) (hy:evF σ y=.slice (some ⟨b,0,none⟩) c c:=by exact rfl) (hc':c=news.length:=by exact rfl) (dX:fu ops lv (pd.map (·.1)) i=true:=by kernel_rfl) (oo:pd.filter (λp=> !((above ops i).contains p.1))=pd':=by exact pD)
    (h: ∀v' w',Sep w0 S (put (l8 e v' (xs++news))) w'->jm P ops (upd σ d v') w' pd'/\FG P r n ops Q (lv.set i true) pd' (upd σ d v') w'):FG P r n ops Q lv pd σ w:=
  uW eZ i pd' ho hw (DW (P:=P) (t:=t) (ty:=ty) H hx hy hc' hat h63) dX oo h
def Sep.XU (H:Sep w0 S rs w) (e:Nat):Sep w0 S (l8 e (.slice none 0 0) []::rs) w:=H.fT e 1
def Gives.amg [hs:cO P s e] [he:mV P e .u8] [hd:lQ P t] {xs:L8} (H:Sep w0 S rs w) (hat:At rs (l8 e v xs) put) (hx:ρ x=v):Gives P ρ (.convert s t x) ty w (str xs) w:=by
 obtain⟨A,c,rfl,_,_,_⟩:=Sep.xq H hat;exact Gives.NR hx (Sep.rowAt H hat)
def XV {t u ty e:Td} [hs:cO P t e] [hu:lQ P u] [hc:Cells P e 1 1] [hz:Zero P e (.int .u8 0)] {v:Value} {xs news:L8}
    (oq:w.ownsRow 0 e 1 v xs.length (xs.map B)) (h63:xs.length+news.length<=140737488355328):
    ∃v' w',(Builtin.append_ #[t,u] ty #[v,str news]).run P w=.ok v' w'/\w'.ownsRow 0 e 1 v' (xs++news).length ((xs++news).map B)/\w.grownBy w' v.ownBlock/\(v'.ownBlock=v.ownBlock\/v'.ownBlock=some w.heap.size\/v'.ownBlock=none):=by
  obtain⟨i,hi,qx⟩:=zbc.1 hc.size;simp only[Prod.mk.injEq]at qx
  have vL:i.zero=some (.int .u8 0):=by
    have:=hz.run w;simp[zeroValue,typeInfo,hi]at this;cases hq:i.zero with
    | none=>simp[hq]at this
    | some u=>simp[hq]at this;rw[this]
  obtain⟨v',w',iq,h1,h2,h3⟩:=Lib.run_append_own_string (P:=P) w 0 t u ty e i hs.und hu.und hi vL qx.1 qx.2 v xs.length (xs.map B) oq ⟨news.toArray⟩ (by rw[size_mk];unfold maxLen;omega) (by rw[size_mk];omega) (zak _);have e1:Lib.strCells ⟨news.toArray⟩=news.map B:=by simp only[Lib.strCells];rfl
  rw[e1,size_mk]at h1;refine⟨v',w',iq,by rw[zad,zai];exact h1,h2,?_⟩
  rcases oq.2 with⟨rfl,h0⟩ | ⟨g,cap,cur,rfl,hbg,hg,hnc,hcm,hcs,atV⟩
  . by_cases hm:news.length=0
    . rw[h3.2 ⟨rfl,by rw[size_mk];exact hm⟩];exact .inl rfl
    have hr:=run_append_nil_string (P:=P) w t u ty e i (.int .u8 0) hs.und hu.und hi vL ⟨news.toArray⟩ (by rw[size_mk];omega) (by rw[size_mk];omega) (by rw[size_mk,qx.2];omega);have hx:xs.length=0:=h0;rw[iq]at hr;injection hr with hr _
    rw[hr];exact .inr (.inl rfl)
  by_cases hroom:xs.length+news.length<=cap
  . have hcs':cur.size=cap:=by simpa using hcs
    have hr:=Lib.run_append_room_string (P:=P) w t u ty e i hs.und hu.und hi qx.1 g xs.length cap cur hg ⟨news.toArray⟩ (by rw[size_mk];exact hroom) (by rw[size_mk];omega);rw[iq]at hr;injection hr with hr _
    rw[hr];exact .inl rfl
  have holds: ∀j u,(xs.map B)[j]? =some u->w.cell? ((⟨g,0,none⟩:Addr).add j)=some u:=oq.cells (g:=g) rfl;have hr:=Lib.run_append_grow_string (P:=P) w t u ty e i (.int .u8 0) hs.und hu.und hi vL ⟨g,0,none⟩ xs.length cap (xs.map B) (by rw[qx.1];simp) holds ⟨news.toArray⟩ (by rw[size_mk];omega) (by rw[size_mk];omega) (by rw[size_mk,qx.2];exact growslice_fits oM oM);rw[iq]at hr;injection hr with hr _
  rw[hr];exact .inr (.inl rfl)
def Oc {u:Td} [hs:cO P t e] [hu:lQ P u] [hc:Cells P e 1 1] [hz:Zero P e (.int .u8 0)] {xs news:L8}
    (H:Sep w0 S rs w) (hat:At rs (l8 e v xs) put) (h63:xs.length+news.length<=140737488355328) (hx:evF σ x=v:=by exact rfl) (hy:evF σ y=str news:=by exact rfl) (hd:Nat.blt d n=true:=by exact rfl)
    (h: ∀v' w',Sep w0 S (put (l8 e v' (xs++news))) w'->FL P r n ops Q rest (upd σ d v') w'):
    FL P r n ops Q (⟨some d,.call {callee:=.builtin .append,args:= #[x,y],argTypes:= #[t,u]},ty,pos,after,none⟩::rest) σ w:=by
  obtain⟨F,hp,_,_⟩:=H.focus hat;obtain⟨v',w',iq,oq,hg,hb⟩:=XV (P:=P) (t:=t) (u:=u) (ty:=ty) (news:=news) hp.1 h63;refine dw (v:=v') (w':=w') (λ_ _ _ _=>?_) hd (h v' w' (H.CS hat hg oq hb));simp only[execOp,resolve,invoke,builtin,zbi,zbl,zam,zcc,zav,zcl,hx,hy,iq]
end rules
variable {P:Program} {r:Option Nat} {n:Nat} {ops:AO} {Q:Post} {σ:St} {w:Wd} {ty:Td} {pos:String} {after:Array Edge} {guard:Option (Nat×Bool)} {lv:List Bool} {pd:LNB}
def sH (eZ:dS n ops=true) (e:Nat) (pd':LNB) {x:Od} (ho:ops[e]? =some ⟨some d,.assign x,ty,pos,after,guard⟩:=by exact rfl)
    (hw:Region.wanted ⟨some d,.assign x,ty,pos,after,guard⟩ (bU ops σ)=true:=by kernel_rfl) (hx:evF σ x=v:=by exact rfl) (dX:fu ops lv (pd.map (·.1)) e=true:=by kernel_rfl)
    (oo:pd.filter (λp=> !((above ops e).contains p.1))=pd':=by exact pD) (h:jm P ops (upd σ d v) w pd'/\FG P r n ops Q (lv.set e true) pd' (upd σ d v) w):FG P r n ops Q lv pd σ w:=
  uW (C:=λv' w'=>v'=v/\w'=w) eZ e pd' ho hw ⟨v,w,Gives.assign hx,rfl,rfl⟩ dX oo (λv' w' h'=>by rw[h'.1,h'.2];exact h)
variable {l:L8} {i:Nat}
open Go.Proofs.Tryz
section
attribute [local irreducible] FW FL FG FGn jK jO fI lU Qfn Gives
def aaq (P:Program) (fn:Func) (s:ChangeSpec) (c:OpenClaim):Bool:=
 c.wf (OpenSpec.ofChange s)&&laidOutB P&&mapsRowed P&&
 fn.params.all (P.readableRec ·)&&namedTie P c.named s.vars&&
 (c.stops==[])&&(P.stops==[])&&(c.knobs==[])&&(P.stopKnobs==[])
def aar (P:Program) (fn:Func) (s:ChangeSpec) (c:OpenClaim):Bool:=
 (c.maps==(fn.params.toList++s.plain.varTypes P).any (P.mapsRec ·))&&(c.ifaces==(fn.params.toList++s.plain.varTypes P).any (P.ifacesRec ·))&&(c.mapsOut==P.mapsAmong fn.resultTypes.toList)&&
 (c.loops==(fn.params.toList++s.plain.varTypes P).any (P.loopsFrom ·))&&(c.wideKeys==(fn.params.toList++s.plain.varTypes P++fn.resultTypes.toList).any (P.wideKeysFrom ·))&&
 s.vars.all (P.varReadable ·)&&fn.resultTypes.all (λt=>P.readableRec t&&decide (t<P.types.size))&&(c.ifacesOut==fn.resultTypes.toList.any (P.ifacesRec ·))&&(c.loopsOut==fn.resultTypes.toList.any (P.loopsFrom ·))&&(c.plainKeys==P.plainKeys)&&c.shortTexts.isNone
def aas (P:Program) (fn:Func) (s:ChangeSpec) (c:OpenClaim):Bool:=
 P.stopsHeard&&P.mayEnter&&(c.lifted==P.liftsFinal)&&(P.make==some c.make)&&(c.kinds==(if c.domain.isEmpty then []else fn.params.toList.map λt=>match P.underlying t with | some (.int k)=>some k | _=>none))&&(c.pinned==c.pinnedBy)&&
 (c.veiled==(fn.params.toList++s.plain.varTypes P++fn.resultTypes.toList).any (P.veiledRec ·))&&c.veiledFits P fn.params.toList (fn.params.toList++s.plain.varTypes P++fn.resultTypes.toList)
def aeG {f:FuncId} {fn:Func} {s:ChangeSpec} {c:OpenClaim} (h4:(c.inPlace==P.inPlace f)=true) (h5:(c.unfollowed==P.unfollowed f)=true) (h6:(c.recurses==P.recurses f)=true) (h7:(c.named==P.varsNamed f)=true) (h1:aaq P fn s c=true) (h2:aar P fn s c=true) (h3:aas P fn s c=true):joinedFacts P f fn s c=true:=by
 simp only[aaq,zbq]at h1;simp only[aar,zbq]at h2;simp only[aas,zbq]at h3;simp only[joinedFacts,zbq];simp only[h1,h2,h3,h4,h5,h6,h7,and_self,and_true,true_and];exact h3.1.1.1.2
def KS (l:L8):Nat:=if l.length=2 then(l.getD 0 0).toNat%32 else if l.length=3 then(l.getD 0 0).toNat%16 else if l.length=4 then(l.getD 0 0).toNat%8 else(l.getD 0 0).toNat
def vI (l:L8) (i:Nat):Nat:=((l.take i).drop 1).foldl (λn c=>64*n+c.toNat%64) (KS l)
def Rx (l:L8):vI l 1=KS l:=by
 unfold vI;rw[zbv (by rw[zah];omega)];rfl
def Ae (h1:1<=i) (h:i<l.length):vI l (i+1)=64*vI l i+(l.getD i 0).toNat%64:=by
 unfold vI;rw[zay,zaa h,zej (by rw[zah];omega),List.foldl_append];simp[zax,zaa h]
def ahG (h1:1<=i) (h4:i<=4) (h:i<=l.length):vI l i<67108864:=by
 have a:vI l 1<=255:=by
  rw[Rx];have:=(l.getD 0 0).toNat_lt;unfold KS
  repeat' split
  all_goals omega
 have hi:i=1\/i=2\/i=3\/i=4:=oM;have s2:1<l.length->vI l 2=64*vI l 1+(l.getD 1 0).toNat%64:=Ae oM;have s3:2<l.length->vI l 3=64*vI l 2+(l.getD 2 0).toNat%64:=Ae oM;have s4:3<l.length->vI l 4=64*vI l 3+(l.getD 3 0).toNat%64:=Ae oM
 rcases hi with rfl | rfl | rfl | rfl<;>omega
def aeH (h1:1<=l.length) (h4:l.length<=4):vI l l.length=xU l:=by
 match l,h1,h4 with
 | [a],_,_=>rfl
 | [a,b],_,_=>rfl
 | [a,b,c],_,_=>rfl
 | [a,b,c,d],_,_=>rfl
section
variable {w:Wd} {l:L8}
def aeI (h1:1<=l.length) (h4:l.length<=4):aR prog 269 [str l] w λv w'=>v=I32 (xU l)/\w=w':=by
 have H:=Sep.aF w;have h8:=(l.getD 0 0).toNat_lt;refine cK func269 ?_;refine Zb2 ?_;refine Vv (Gives.yT (i:=0) rfl rfl oM) (Za2 ?_);refine Qn (dD (λ_:Unit=>[(0,str l),(3,I (KS l))]) (λ_ w'=>Sep w noB [] w'/\w=w') ?_ ?_)
 .refine Cz (λk=>?_) (λk=>?_)
  .have e0:KS l=(l.getD 0 0).toNat%32:=by unfold KS;rw[zac oM]
   refine Zb1 ?_;refine Vv (Gives.Pp (b:=32) rfl rfl oM) (Zb1 ?_);exact au () ⟨rfl,by rw[e0];rfl,trivial⟩ ⟨H,rfl⟩
  refine Cz (λk=>?_) (λk=>?_)
  .have e0:KS l=(l.getD 0 0).toNat%16:=by unfold KS;rw[zab oM,zac oM]
   refine Zb1 ?_;refine Vv (Gives.Pp (b:=16) rfl rfl oM) (Zb1 ?_);exact au () ⟨rfl,by rw[e0];rfl,trivial⟩ ⟨H,rfl⟩
  refine Cz (λk=>?_) (λk=>?_)
  .have e0:KS l=(l.getD 0 0).toNat%8:=by unfold KS;rw[zab oM,zab oM,zac oM]
   refine Zb1 ?_;refine Vv (Gives.Pp (b:=8) rfl rfl oM) (Zb1 ?_);exact au () ⟨rfl,by rw[e0];rfl,trivial⟩ ⟨H,rfl⟩
  have e0:KS l=(l.getD 0 0).toNat:=by unfold KS;rw[zab oM,zab oM,zab oM]
  refine Zb0 ?_;exact au () ⟨rfl,by rw[e0];rfl,trivial⟩ ⟨H,rfl⟩
 intro _ τ k hI;obtain⟨k,rfl⟩:=hI;refine Lp ?_;refine Zb1 ?_;refine aI (λi:Nat=>[(0,str l),(3,I (vI l i)),(4,I i)]) (λi w'=>(1<=i/\i<=l.length)/\w=w') (λi _=>l.length-i) 1 ⟨rfl,by rw[Rx];rfl,rfl,trivial⟩ ⟨⟨zbj _,h1⟩,rfl⟩ (λi τ _ hI=>?_);obtain⟨⟨hi1,JR⟩,rfl⟩:=hI;have hb:=ahG hi1 oM JR;refine Lp ?_;refine Cz (λk=>?_) (λk=>?_)
 .have aS:i<l.length:=oM
  have hs:=Ae hi1 aS;have h9:=(l.getD i 0).toNat_lt;refine Zb6 ?_;refine Vv (Gives.Pp (b:=64) rfl rfl oM) (Zb5 ?_);exact aj (i+1) ⟨rfl,by rw[hs,Int.natCast_add,Int.natCast_mul];rfl,rfl,trivial⟩ ⟨⟨oM,oM⟩,rfl⟩ oM
 have he:i=l.length:=oM;refine Zb1 ?_;refine Vv (Gives.Ux rfl oM) ?_;rw[he,aeH h1 h4];refine Zb1 ?_;exact⟨rfl,rfl⟩
def amh (r:Int) (hr: -2147483648<=r/\r<=2147483647):Rk prog 270 [I32 r] w (.tuple #[str ((JD r).getD []),.bool (JD r).isSome]):=by
 have H:=Sep.aF w;refine cK func270 ?_
 by_cases hv:r<0\/1114111<r\/(55296<=r/\r<=57343)
 .have hp:JD r=none:=zac hv
  rw[hp];refine Sz (λk=>?_) (λk=>?_)
  .refine Zb5 ?_
   exact⟨rfl,H.kept⟩
  refine Sz (λk=>?_) (λk=>?_)
  .refine Zb3 ?_
   exact⟨rfl,H.kept⟩
  refine Sz (λk=>?_) (λk=>?_)
  .refine Cz (λk=>?_) (λk=>?_)
   .refine Zb2 ?_
    exact⟨rfl,H.kept⟩
   omega
  omega
 have hp:JD r=some (encodeRune r):=zab hv;rw[hp];obtain⟨n,rfl⟩: ∃n:Nat,r=n:=⟨r.toNat,oM⟩;refine Za5 ?_;refine Qn (dD (λ_:Unit=>[(4,I n)]) (λ_ w'=>Sep w noB [] w') ?_ ?_)
 .refine Sz (λk=>?_) (λk=>?_)
  .omega
  refine Sz (λk=>?_) (λk=>?_)
  .omega
  refine Sz (λk=>?_) (λk=>?_)
  .refine Cz (λk=>?_) (λk=>?_)
   .omega
   refine Zb0 ?_;exact au () tR H
  refine Zb2 ?_;exact au () tR H
 rintro _ τ k k;refine Lp ?_;refine Zb2 ?_;refine Bs k [Value.int .u8 (((n:Int).toNat.toUInt8).toNat:Int)] (λb _ k _=>?_);refine Cz (λS=>?_) (λS=>?_)
 .have he:[Value.int .u8 ((((240+(n/262144:Nat):Int)).toNat.toUInt8).toNat:Int),Value.int .u8 ((((128+(n/4096%64:Nat):Int)).toNat.toUInt8).toNat:Int),Value.int .u8 ((((128+(n/64%64:Nat):Int)).toNat.toUInt8).toNat:Int),Value.int .u8 ((((128+(n%64:Nat):Int)).toNat.toUInt8).toNat:Int)]=(encodeRune n).map λu=>Value.int .u8 u.toNat:=by rw[encodeRune,encodeRuneZ_four oM oM];rfl
  refine Zb1 ?_;refine Vv (Gives.Gg (b:=262144) rfl rfl oM oM) (Zb3 ?_);refine Vv (Gives.Gg (b:=4096) rfl rfl oM oM) (Vv (Gives.Pp (b:=64) rfl rfl oM) ?_);refine Zb3 ?_;refine Vv (Gives.Gg (b:=64) rfl rfl oM oM) (Vv (Gives.Pp (b:=64) rfl rfl oM) ?_);refine Zb3 ?_;refine Vv (Gives.Pp (b:=64) rfl rfl oM) (Zb2 ?_);refine Bs k [Value.int .u8 ((((240+(n/262144:Nat):Int)).toNat.toUInt8).toNat:Int),Value.int .u8 ((((128+(n/4096%64:Nat):Int)).toNat.toUInt8).toNat:Int),Value.int .u8 ((((128+(n/64%64:Nat):Int)).toNat.toUInt8).toNat:Int),Value.int .u8 ((((128+(n%64:Nat):Int)).toNat.toUInt8).toNat:Int)] (λb2 _ S _=>?_);refine Zb2 ?_;refine Vv (Gives.NR (l:=encodeRune n) rfl (by rw[<-he];exact Sep.lK S At0 rfl)) ?_;refine Zb2 ?_;exact⟨rfl,S.kept⟩
 refine Cz (λS=>?_) (λS=>?_)
 .have he:[Value.int .u8 ((((224+(n/4096:Nat):Int)).toNat.toUInt8).toNat:Int),Value.int .u8 ((((128+(n/64%64:Nat):Int)).toNat.toUInt8).toNat:Int),Value.int .u8 ((((128+(n%64:Nat):Int)).toNat.toUInt8).toNat:Int)]=(encodeRune n).map λu=>Value.int .u8 u.toNat:=by rw[encodeRune,encodeRuneZ_three oM];rfl
  refine Zb1 ?_;refine Vv (Gives.Gg (b:=4096) rfl rfl oM oM) (Zb3 ?_);refine Vv (Gives.Gg (b:=64) rfl rfl oM oM) (Vv (Gives.Pp (b:=64) rfl rfl oM) ?_);refine Zb3 ?_;refine Vv (Gives.Pp (b:=64) rfl rfl oM) (Zb2 ?_);refine Bs k [Value.int .u8 ((((224+(n/4096:Nat):Int)).toNat.toUInt8).toNat:Int),Value.int .u8 ((((128+(n/64%64:Nat):Int)).toNat.toUInt8).toNat:Int),Value.int .u8 ((((128+(n%64:Nat):Int)).toNat.toUInt8).toNat:Int)] (λb2 _ S _=>?_);refine Zb2 ?_;refine Vv (Gives.NR (l:=encodeRune n) rfl (by rw[<-he];exact Sep.lK S At0 rfl)) ?_;refine Zb2 ?_;exact⟨rfl,S.kept⟩
 refine Cz (λS=>?_) (λS=>?_)
 .have he:[Value.int .u8 ((((192+(n/64:Nat):Int)).toNat.toUInt8).toNat:Int),Value.int .u8 ((((128+(n%64:Nat):Int)).toNat.toUInt8).toNat:Int)]=(encodeRune n).map λu=>Value.int .u8 u.toNat:=by rw[encodeRune,encodeRuneZ_two oM oM];rfl
  refine Zb1 ?_;refine Vv (Gives.Gg (b:=64) rfl rfl oM oM) (Zb3 ?_);refine Vv (Gives.Pp (b:=64) rfl rfl oM) (Zb2 ?_);refine Bs k [Value.int .u8 ((((192+(n/64:Nat):Int)).toNat.toUInt8).toNat:Int),Value.int .u8 ((((128+(n%64:Nat):Int)).toNat.toUInt8).toNat:Int)] (λb2 _ S _=>?_);refine Zb2 ?_;refine Vv (Gives.NR (l:=encodeRune n) rfl (by rw[<-he];exact Sep.lK S At0 rfl)) ?_;refine Zb2 ?_;exact⟨rfl,S.kept⟩
 have he:[Value.int .u8 (((n:Int).toNat.toUInt8).toNat:Int)]=(encodeRune n).map λu=>Value.int .u8 u.toNat:=by rw[encodeRune,encodeRuneZ_one oM oM];rfl
 refine Zb1 ?_;refine Vv (Gives.NR (l:=encodeRune n) rfl (by rw[<-he];exact Sep.lK k At0 rfl)) ?_;refine Zb2 ?_;exact⟨rfl,k.kept⟩
def jW (l:L8):Nat×Nat:=(ig l).getD (0,0)
def abZ (l:L8):Value:=.tuple #[I32 (jW l).1,I (jW l).2,.bool (ig l).isSome]
def aat (h:(ig l).isSome=true):ig l=some (jW l):=by
 unfold jW;cases e:ig l with
 | none=>rw[e]at h;cases h
 | some x=>rfl
def ahH (h:(ig l).isSome=true):1<=(jW l).2/\(jW l).2<=4/\(jW l).2<=l.length:=by
 obtain⟨a,b,c,_,_⟩:=z8 (r:=(jW l).1) (n:=(jW l).2) (aat h);exact⟨a,b,c⟩
def aau (iN:l≠[]):validD l=if(ig l).isSome=true then validD (l.drop (jW l).2)else false:=by
 rw[Ev iN];unfold jW;cases ig l<;>rfl
def Uy:okL l n↔(JD (xU (l.take n))).isSome=true/\(JD (xU (l.take n))).getD []=l.take n:=by
 unfold okL;cases h:JD (xU (l.take n))with
 | none=>simp
 | some x=>simp
def aj3 (l:L8):xU l<67108864:=by
 unfold xU
 split
 .rename_i a;have:=a.toNat_lt;omega
 all_goals omega
def ahI (l:L8) (hl:l.length<=9223372036854775807):Rk prog 216 [str l] w (abZ l):=by
 have H:=Sep.aF w;refine cK func216 ?_;refine Zb4 ?_;refine aI (λn:Nat=>[(0,str l),(5,I n)]) (λn w'=>((1<=n/\n<=5)/\∀j,1<=j->j<n->j<=l.length->¬okL l j)/\Sep w noB [] w') (λn _=>5-n) 1 tR ⟨⟨⟨zbj _,oM⟩,λj h1 h2=>oM⟩,H⟩ (λn τ w6 hI=>?_);obtain⟨⟨⟨h1,h5⟩,l9⟩,H6⟩:=hI;refine Lp ?_;refine Sz (λSa=>?_) (λSa=>?_)
 .refine Cz (λIe=>?_) (λIe=>?_)
  .have h4:n<=4/\n<=l.length:=oM
   have AJ:(l.take n).length=n:=by rw[zah];omega
   have Lj:=aj3 (l.take n);refine Zb3 ?_;refine eB (aeI (l:=l.take n) oM oM) (h:=?_);refine Kz (amh (xU (l.take n)) oM) (λwa Ha _=>?_);refine Zb7 ?_;refine dH (t:=29) rfl (λSb=>?_) (λSb=>?_)
   .have ab9:(JD (xU (l.take n))).isSome=true:=Sb
    refine Cz (λIf=>?_) (λIf=>?_)
    .have Lv:ig l=some (xU (l.take n),n):=zZ h1 h4.1 h4.2 (Uy.2 ⟨ab9,If⟩)
     refine Zb5 ?_;exact⟨by unfold abZ jW;rw[Lv];rfl,Ha.kept⟩
    have am5: ¬okL l n:=λh=>If (Uy.1 h).2;refine Zb3 ?_;exact aj (n+1) tR ⟨⟨⟨oM,oM⟩,λj a b c=>by
    rcases zdm j n with h | h
    .exact l9 j a h c
    have :j=n:=by omega
    subst this;exact am5⟩,Ha⟩ oM
   have am5: ¬okL l n:=λh=>by rw[(Uy.1 h).1]at Sb;cases Sb
   refine Zb4 ?_;exact aj (n+1) tR ⟨⟨⟨oM,oM⟩,λj a b c=>by
   rcases zdm j n with h | h
   .exact l9 j a h c
   have :j=n:=by omega
   subst this;exact am5⟩,Ha⟩ oM
  have KG:ig l=none:=JE λj a b c=>by
   rcases zdm j n with h | h
   .exact l9 j a h c
   exfalso;omega
  refine Zb3 ?_;exact⟨by unfold abZ jW;rw[KG];rfl,H6.kept⟩
 have hn5:n=5:=oM;have KG:ig l=none:=JE λj a b c=>l9 j a oM c;refine Zb4 ?_;exact⟨by unfold abZ jW;rw[KG];rfl,H6.kept⟩
def Ry (l:L8) (hl:l.length<=9223372036854775807):Rk Tryz.prog 146 [str l] w (.bool (validD l)):=by
 have H:=Sep.aF w;refine cK Tryz.func146 ?_;refine Zb1 ?_;refine aI (λm:L8=>[(0,str m)]) (λm w'=>(m.length<=l.length/\validD m=validD l)/\Sep w noB [] w') (λm _=>m.length) l tR ⟨⟨zbj _,rfl⟩,H⟩ (λm τ _ hI=>?_);obtain⟨⟨hm1,Dn⟩,k⟩:=hI;refine Lp ?_;refine Cz (λS=>?_) (λS=>?_)
 .have iN:m≠[]:=λe=>by rw[e]at S;simp at S
  have dJ:=aau iN;refine Kz (ahI m oM) (λ_ S _=>?_);refine Za9 ?_;refine Qn (Cd rfl (λI=>?_) (λI=>?_))
  .have hv:validD l=false:=by rw[<-Dn,dJ,zab (by simpa using I)]
   refine Zb1 ?_;exact⟨by rw[hv];rfl,S.kept⟩
  have hs:(ig m).isSome=true:=by simpa using I
  have rG:=ahH hs;refine Zb4 ?_;exact aj (m.drop (jW m).2) tR ⟨⟨by rw[zbo];omega,by rw[<-Dn,dJ,zac hs]⟩,S⟩ (by rw[zbo];omega)
 have he:m=[]:=zbg oM;have hv:validD l=true:=by rw[<-Dn,he];rfl
 refine Zb1 ?_;exact⟨by rw[hv];rfl,k.kept⟩
end
def Oe (c:UInt8):jy c=if c.toNat=34 then [92,34]else if c.toNat=92 then [92,92]else if c.toNat=8 then [92,98]else if c.toNat=12 then [92,102]else if c.toNat=10 then [92,110]else if c.toNat=13 then [92,114]else if c.toNat=9 then [92,116]
    else if c.toNat<32 then [92,117,48,48,ni (c.toNat/16),ni (c.toNat%16)]else [c]:=by
  have e: ∀k:UInt8,(c=k)=(c.toNat=k.toNat):=λk=>propext UInt8.toNat_inj.symm;have e2:(c<32)=(c.toNat<32):=propext UInt8.lt_iff_toNat_lt;unfold jy;simp only[e,e2];rfl
def aav (c:UInt8):(jy c).length<=6:=by
 unfold jy
 repeat' split
 all_goals simp
def Gh (l:L8) (i:Nat):L8:=34::(l.take i).flatMap jy
def XW (l:L8) (i:Nat):(Gh l i).length<=6*i+1:=by
 have h:=BR aav (l.take i);have h2:(l.take i).length<=i:=by rw[zah];omega
 unfold Gh;simp only[zas];omega
section
variable {w:Wd} {l:L8}
def JH (l:L8):L8×Int:=if validD l=true then(vF l,0)else([],40)
end
def aeJ (e:nJ c=some d):d<16:=by
 have:=c.toNat_lt;unfold nJ at e
 repeat' split at e
 all_goals first | (injection e with e;omega) | cases e
section
variable {w:Wd} {l:L8}
end
def qj (l:L8) (i:Nat) (out:L8):L8×Nat×Int:=sF (l.length+1-i) (l.drop i) i out
def Rz {out:L8} (h:l.length<=i):qj l i out=([],0,3):=by
 unfold qj;rw[zbv h];cases l.length+1-i<;>rfl
def aaw {f:Nat} {out:L8} (hf:l.length-i<f):sF f (l.drop i) i out=qj l i out:=by
 rcases zdm i (l.length+1)with h | h
 .exact aez (by rw[zbo];omega) (by rw[zbo];omega)
 rw[Rz oM,zbv oM];cases f<;>rfl
def drop_cons (h:i<l.length):l.drop i=l.getD i 0::l.drop (i+1):=by
 rw[zbn h,zax,zaa h];rfl
def EA {out:L8} (h:i<l.length) (hc:c=l.getD i 0):qj l i out=
    if c=34 then(out,i+1,0)else if c<32 then([],0,41)else if c=92 then(if(xV (l.drop i)).2.2≠0 then([],0,(xV (l.drop i)).2.2)else qj l (i+(xV (l.drop i)).2.1) (out++(xV (l.drop i)).1))
    else if(ig (l.drop i)).isSome=true then qj l (i+(jW (l.drop i)).2) (out++(l.drop i).take (jW (l.drop i)).2)else([],0,if abW (l.drop i)then 3 else 40):=by
  have hd:=drop_cons h;rw[<-hc]at hd
  have ae8: ∀n o,1<=n->sF (l.length-i) ((l.drop i).drop n) (i+n) o=qj l (i+n) o:=λn o hn=>by
    rw[zfx];exact aaw oM
  rw[show qj l i out=sF (l.length-i+1) (l.drop i) i out by unfold qj;congr 1;omega];rw[hd]at ae8 ⊢;rw[sF]
  by_cases h1:c=34
  . rw[zac h1,zac h1]
  rw[zab h1,zab h1]
  by_cases h2:c<32
  . rw[zac h2,zac h2]
  rw[zab h2,zab h2]
  by_cases h3:c=92
  . rw[zac h3,zac h3]
    dsimp only
    by_cases h4:(xV (c::l.drop (i+1))).2.2≠0
    . rw[zac h4,zac h4]
    rw[zab h4,zab h4];refine ae8 _ _ ?_
    rcases NZ (c::l.drop (i+1))with⟨e,h0,hx⟩ | ⟨b,n,hn,hx⟩
    . rw[hx]at h4;exact zar h0 h4
    rw[hx];exact hn
  rw[zab h3,zab h3];unfold jW;cases hn:ig (c::l.drop (i+1))with
  | none=>rfl
  | some x=>
    obtain⟨r,n⟩:=x;obtain⟨H,_,_,_,_⟩:=z8 hn;exact ae8 n _ H
def Li (r:Int):(encodeRune r).length<=4:=by
 unfold encodeRune encodeRuneZ
 repeat' split
 all_goals simp
section
variable {w:Wd} {l:L8}
end
def aD (t:bM):LV:=[I t.kind,.bool t.null]
def ah (c:aC):LV:=[.bool c.null,I c.n,str c.s]
def aM (x:bI):LV:=[I x.kind,I x.n,str x.s]
def aP (c:bY):LV:=[I c.id,str c.name,I c.type.kind,.bool c.type.null,.bool c.dflt.null,I c.dflt.n,str c.dflt.s]
def agg (cs:LV):Value:=.agg cs.toArray
def aax {a b:L8}:(((⟨a.toArray⟩:ByteArray).toList==(⟨b.toArray⟩:ByteArray).toList)=true)↔a=b:=by
 rw[ByteArray.toList_mk,ByteArray.toList_mk];simp
section
variable {P:Program} {w:Wd} {d:Nat} {f:Field} {fs:List Field} {xs ys:LV} {u v:Value} {e:Bool}
def JI (hn:(f.name != "_")=true) (h1:OneCell P f.type) (hu:xs[f.offset]? =some u) (hv:ys[f.offset]? =some v) (he:(Op.equalIn d f.type u v).run P w=.ok e w):
    (Op.eqFields d xs.toArray ys.toArray (f::fs)).run P w=if e=true then(Op.eqFields d xs.toArray ys.toArray fs).run P w else .ok false w:=by
  have hn':f.name≠ "_" :=by simpa using hn
  simp only[Op.eqFields,zac hn',zbi,C9 hu,C9 hv,zam,he];cases e<;>simp
def aoi {k:Nat} {us vs:LV} (hn:(f.name != "_")=true) (h1:Agg P f.type k) (hu:(xs.drop f.offset).take k=us) (hv:(ys.drop f.offset).take k=vs) (he:(Op.equalIn d f.type (.agg us.toArray) (.agg vs.toArray)).run P w=.ok e w):
    (Op.eqFields d xs.toArray ys.toArray (f::fs)).run P w=if e=true then(Op.eqFields d xs.toArray ys.toArray fs).run P w else .ok false w:=by
  have hn':f.name≠ "_" :=by simpa using hn
  simp only[Op.eqFields,zac hn',zbi,JB hu,JB hv,zam,he];cases e<;>simp
def ahJ:(Op.eqFields d xs.toArray ys.toArray []).run P w=.ok true w:=rfl
def Og (a b:Int) (h:P.underlying t=some (.int .i64)):(Op.equalIn (d+1) t (I a) (I b)).run P w=.ok (decide (a=b)) w:=by
 rw[show I a=.int .i64 a from rfl,show I b=.int .i64 b from rfl,run_equalIn_int w d t .i64 .i64 a b h];rfl
def ahK (a b:Bool) (h:P.underlying t=some .bool):(Op.equalIn (d+1) t (.bool a) (.bool b)).run P w=.ok (decide (a=b)) w:=by
 rw[run_equalIn_bool' w d t a b h];cases a<;>cases b<;>rfl
def aay (a b:L8) (h:P.underlying t=some .string):(Op.equalIn (d+1) t (str a) (str b)).run P w=.ok (decide (a=b)) w:=by
 rw[show str a=.string ⟨a.toArray⟩from rfl,show str b=.string ⟨b.toArray⟩from rfl,run_equalIn_string w d t _ _ h]
 congr 1
 rw[zdt,aax,decide_eq_true_eq]
end
def ahL {d:Nat} (a b:aC) (w:Wd):(Op.equalIn (d+2) 41 (.agg (ah a).toArray) (.agg (ah b).toArray)).run Tryz.prog w=.ok (decide (a=b)) w:=by
 rw[run_equalIn_agg w (d+1) _ _ _ kR kR];simp only[Program.fieldsOf,Tryz.underlying41];rw[JI rfl aoc rfl rfl (ahK a.null b.null kR),JI rfl aob rfl rfl (Og a.n b.n kR),JI rfl amf rfl rfl (aay a.s b.s kR),ahJ];have e:(a=b)=(a.null=b.null/\a.n=b.n/\a.s=b.s):=propext ⟨λh=>by subst h;exact⟨rfl,rfl,rfl⟩,λh=>aC.ext' h.1 h.2.1 h.2.2⟩;simp only[e]
 by_cases h1:a.null=b.null<;>by_cases h2:a.n=b.n<;>by_cases h3:a.s=b.s<;>simp[h1,h2,h3]
def eqType {d:Nat} (a b:bM) (w:Wd):(Op.equalIn (d+2) 65 (.agg (aD a).toArray) (.agg (aD b).toArray)).run Tryz.prog w=.ok (decide (a=b)) w:=by
 rw[run_equalIn_agg w (d+1) _ _ _ kR kR];simp only[Program.fieldsOf,Tryz.underlying65];rw[JI rfl ame rfl rfl (Og a.kind b.kind kR),JI rfl aoc rfl rfl (ahK a.null b.null kR),ahJ];have e:(a=b)=(a.kind=b.kind/\a.null=b.null):=propext ⟨λh=>by subst h;exact⟨rfl,rfl⟩,λh=>bM.ext' h.1 h.2⟩;simp only[e]
 by_cases h1:a.kind=b.kind<;>by_cases h2:a.null=b.null<;>simp[h1,h2]
def ami {d:Nat} (a b:bI) (w:Wd):(Op.equalIn (d+2) 97 (.agg (aM a).toArray) (.agg (aM b).toArray)).run Tryz.prog w=.ok (decide (a=b)) w:=by
 rw[run_equalIn_agg w (d+1) _ _ _ kR kR];simp only[Program.fieldsOf,Tryz.underlying97];rw[JI rfl ame rfl rfl (Og a.kind b.kind kR),JI rfl aob rfl rfl (Og a.n b.n kR),JI rfl amf rfl rfl (aay a.s b.s kR),ahJ];have e:(a=b)=(a.kind=b.kind/\a.n=b.n/\a.s=b.s):=propext ⟨λh=>by subst h;exact⟨rfl,rfl,rfl⟩,λh=>bI.ext' h.1 h.2.1 h.2.2⟩;simp only[e]
 by_cases h1:a.kind=b.kind<;>by_cases h2:a.n=b.n<;>by_cases h3:a.s=b.s<;>simp[h1,h2,h3]
def aoj {d:Nat} (a b:bY) (w:Wd):(Op.equalIn (d+3) 67 (.agg (aP a).toArray) (.agg (aP b).toArray)).run Tryz.prog w=.ok (decide (a=b)) w:=by
 rw[run_equalIn_agg w (d+2) _ _ _ kR kR];simp only[Program.fieldsOf,Tryz.underlying67];rw[JI rfl ame rfl rfl (Og a.id b.id kR),JI rfl amf rfl rfl (aay a.name b.name kR),aoi (k:=2) rfl aoe rfl rfl (eqType a.type b.type w),aoi (k:=3) rfl aod rfl rfl (ahL a.dflt b.dflt w),ahJ];have e:(a=b)=(a.id=b.id/\a.name=b.name/\a.type=b.type/\a.dflt=b.dflt):=propext ⟨λh=>by subst h;exact⟨rfl,rfl,rfl,rfl⟩,λh=>bY.ext' h.1 h.2.1 h.2.2.1 h.2.2.2⟩;simp only[e]
 by_cases h1:a.id=b.id<;>by_cases h2:a.name=b.name<;>by_cases h3:a.type=b.type<;>by_cases h4:a.dflt=b.dflt<;>simp[h1,h2,h3,h4]
instance:EqData Tryz.prog 41 aC ah:=⟨λa b w=>ahL (d:=9998) a b w,kR⟩
instance:EqData Tryz.prog 65 bM aD:=⟨λa b w=>eqType (d:=9998) a b w,kR⟩
instance:EqData Tryz.prog 97 bI aM:=⟨λa b w=>ami (d:=9998) a b w,kR⟩
instance:EqData Tryz.prog 67 bY aP:=⟨λa b w=>aoj (d:=9997) a b w,kR⟩
end
variable {b k:Nat} {E T:Td}
section rules
variable {P:Program} {r:Option Nat} {n:Nat} {ops:AO} {Q:Post} {rest:LO} {σ:St} {w w' w0:Wd} {S:NP} {rs:List HP} {put:HP->List HP} {ty:Td} {pos:String} {after:Array Edge} {guard:Option (Nat×Bool)} {lv:List Bool} {pd pd':LNB}
def fE [Agg P T k] {cs:LV} (H:Sep w0 S rs w) (hx:evF σ x=.pointer (some ⟨b,0,none⟩):=by exact rfl)
    (hat:At rs (blk b cs E) put:=by exact aT) (hk:cs.length=k:=by exact rfl) (hd:Nat.blt d n=true:=by exact rfl) (h:FL P r n ops Q rest (upd σ d (.agg cs.toArray)) w):
    FL P r n ops Q (⟨some d,.load T x,ty,pos,after,none⟩::rest) σ w:=
  FK H hx hat (us:=cs) (by rw[zdd,<-hk,zbr]) hk hd h
def jM (eZ:dS n ops=true) (i:Nat) [Agg P T k] {cs:LV} (H:Sep w0 S rs w) (ho:ops[i]? =some ⟨some d,.load T x,ty,pos,after,guard⟩:=by exact rfl)
    (hw:Region.wanted ⟨some d,.load T x,ty,pos,after,guard⟩ (bU ops σ)=true:=by kernel_rfl) (hx:evF σ x=.pointer (some ⟨b,0,none⟩):=by exact rfl)
    (hat:At rs (blk b cs E) put:=by exact aT) (hk:cs.length=k:=by exact rfl) (dX:lF ops lv (pd.map (·.1)) i=true:=by kernel_rfl)
    (h:FG P r n ops Q (lv.set i true) ((i,false)::pd) (upd σ d (.agg cs.toArray)) w):FG P r n ops Q lv pd σ w:=
  ajL eZ i H ho hw hx hat (us:=cs) (by rw[zdd,<-hk,zbr]) hk dX h
def iy [Agg P T k] {cs us:LV} (H:Sep w0 S rs w) (hx:evF σ x=.pointer (some ⟨b,0,none⟩):=by exact rfl) (hy:evF σ y=.agg us.toArray:=by exact rfl)
    (hat:At rs (blk b cs E) put:=by exact aT) (hk:us.length=k:=by exact rfl) (hl:cs.length=k:=by exact rfl) (hv:us.all Value.oneCell'=true:=by exact rfl)
    (h: ∀w',Sep w0 S (put (blk b us E)) w'->FL P r n ops Q rest σ w'):
    FL P r n ops Q (⟨none,.store T x y,ty,pos,after,none⟩::rest) σ w:=
  QD H hx hy hk (λu hu=>zaz.1 hv u hu) hat oM (by rw[zdf,zbu,zbv oM,zbw]) h
def Pq [h1:Agg P T k] {cs us:LV} (H:Sep w0 S rs w) (hx:ρ x=.pointer (some ⟨b,0,none⟩)) (hy:ρ y=.agg us.toArray)
    (hat:At rs (blk b cs E) put) (hk:us.length=k) (hl:cs.length=k) (hv:us.all Value.oneCell'=true): ∃w',OV P ρ (.store T x y) ty w w'/\Sep w0 S (put (blk b us E)) w':=by
  have hb:=H.obj hat;have dJ:=run_storeCells_at P b 0 E us 0 cs.toArray w hb (by simp;omega) (λu hu=>zaz.1 hv u hu);have hs:cs.take 0++us++cs.drop (0+us.length)=us:=by rw[zdf,zbu,zbv oM,zbw]
  refine⟨w.setRow b (cs.take 0++us++cs.drop (0+us.length)).toArray,λ_ _ _ _=>?_,?_⟩
  . simp only[zfb]at dJ
    simp[execOp,hx,hy,Instr.storeAt,Instr.sureAddr,storeVar,h1.size,Value.cells,hk];simp[hk]at dJ;rw[dJ];simp
  rw[hs];refine H.setObj hat ⟨rfl,rfl,rfl,sM,λj hj hS=>?_⟩ ?_
  . simp only[World.setRow,zdk];rw[zab (λe=>hS e.symm)]
  simp only[World.setRow,zdk,if_true,hb,zdu]
def bN (eZ:dS n ops=true) (e:Nat) (pd':LNB) [Agg P T k] {cs us:LV} (H:Sep w0 S rs w) (ho:ops[e]? =some ⟨none,.store T x y,ty,pos,after,guard⟩:=by exact rfl)
    (hw:Region.wanted ⟨none,.store T x y,ty,pos,after,guard⟩ (bU ops σ)=true:=by kernel_rfl) (hx:evF σ x=.pointer (some ⟨b,0,none⟩):=by exact rfl) (hy:evF σ y=.agg us.toArray:=by exact rfl)
    (hat:At rs (blk b cs E) put:=by exact aT) (hk:us.length=k:=by exact rfl) (hl:cs.length=k:=by exact rfl) (hv:us.all Value.oneCell'=true:=by exact rfl)
    (dX:fu ops lv (pd.map (·.1)) e=true:=by kernel_rfl) (oo:pd.filter (λp=> !((above ops e).contains p.1))=pd':=by exact pD)
    (h: ∀w',Sep w0 S (put (blk b us E)) w'->jm P ops σ w' pd'/\FG P r n ops Q (lv.set e true) pd' σ w'):FG P r n ops Q lv pd σ w:=
  WK eZ e pd' ho hw (Pq H hx hy hat hk hl hv) dX oo h
end rules
end Go.Proofs.Mw
