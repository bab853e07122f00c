/-
 Words are read back as the steps that wrote them;both ways to read a word say the same. No program stands here.
-/
import Derived.Test.YtbfjonalkaophaaGreatDoorNk6
import Derived.Test.YtbfjonalkaophaaGreatDoorNk5
set_option linter.all false
set_option maxRecDepth 4000
namespace Go.Proofs.Mw
open Go.Lib
def uh (c:UInt8):Bool:=decide (48<=c.toNat/\c.toNat<=57)
def nM:L8->Nat->Option Nat
 | [],acc=>some acc
 | c::r,acc=>if uh c=true then nM r (10*acc+(c.toNat-48))else none
def KH: ∀(l m:L8) (h:Nat),nM (l++m) h=(nM l h).bind λa=>nM m a
 | [],_,_=>rfl
 | c::l,m,h=>by
  simp only[zcb,nM]
  split
  .exact KH l m _
  rfl
variable {d:Nat}
def Dt (h:d<10):(UInt8.ofNat (48+d)).toNat=48+d:=by
 simp;omega
def xX (u:Nat):nM (decDigits u) 0=some u:=by
 induction u using Nat.strongRecOn with
 | _ u i=>
  rw[decDigits]
  split
  .rename_i h
   have e:=Dt h;simp only[nM,uh,e];rw[zac kN]
   congr 1;omega
  rename_i h;rw[KH,i (u/10) oM];have e:=Dt (show u%10<10 from oM);simp only[zeb,nM,uh,e];rw[zac kN]
  congr 1;omega
def qX (u:Nat):decDigits u≠[]:=by
 rw[decDigits]
 split<;>simp
def pR (u:Nat): ∀c∈decDigits u,uh c=true:=by
 induction u using Nat.strongRecOn with
 | _ u i=>
  rw[decDigits]
  split
  .rename_i h
   intro c a;simp only[zaw]at a;subst a;unfold uh;rw[Dt h];simp;omega
  rename_i h;intro c a
  rcases zbh.1 a with a | a
  .exact i (u/10) oM c a
  simp only[zaw]at a;subst a;unfold uh;rw[Dt (show u%10<10 from oM)];simp;omega
def yJ: ∀(k u:Nat),u<10^(k+1)->(decDigits u).length<=k+1
 | 0,u,h=>by rw[decDigits,dif_pos Iy];simp
 | k+1,u,h=>by
  rw[decDigits]
  split
  .simp
  have:=yJ k (u/10) (by rw[Nat.pow_succ]at h;omega);rw[zad,zaf];omega
def NR: ∀(l:L8) (a n:Nat),nM l a=some n->a<=n
 | [],a,n,h=>by simp[nM]at h;omega
 | c::r,a,n,h=>by
  simp only[nM]at h
  split at h
  .have:=NR r _ n h;omega
  cases h
def AP: ∀(l:L8) (a n:Nat),nM l a=some n->n<18446744073709551616->parseUint10 a l=.ok n
 | [],a,n,h,_=>by simp[nM]at h;simp[parseUint10,h]
 | c::r,a,n,h,hn=>by
  simp only[nM]at h
  split at h
  .rename_i g
   have i:=NR r _ n h;have b:48<=c.toNat/\c.toNat<=57:=by simpa[uh]using g
   rw[parseUint10,zac b,zab oM,zab oM];rw[Nat.mul_comm]at h;exact AP r _ n h hn
  cases h
def nN (w:L8):Int:=match parseIntB 64 w with
 | .ok v=>v
 | .range=>intSat 64 w
 | _=>0
def NS {u:Nat}: ∃c r,decDigits u=c::r/\uh c=true:=by
 cases h:decDigits u with
 | nil=>exact zas h (qX u)
 | cons c r=>exact⟨c,r,rfl,pR u c (by rw[h];exact zak)⟩
def Q6 {u:Nat} (h:u<18446744073709551616):parseUintB 64 (decDigits u)=.ok u:=by
 rw[parseUintB_64,parseMag,zab (qX u),AP _ 0 u (xX u) h]
variable {n:Int}
def xY (j: -9223372036854775808<=n) (m:n<=9223372036854775807):nN (itoa n)=n:=by
 by_cases h:n<0
 .have e:itoa n=45::decDigits n.natAbs:=zac h
  unfold nN;rw[e,parseIntB_minus,Q6 oM];simp only[signedC];rw[zab kN];simp only;omega
 have b:itoa n=decDigits n.toNat:=zab h;obtain⟨c,r,e,g⟩:=NS (u:=n.toNat);have i:48<=c.toNat/\c.toNat<=57:=by simpa[uh]using g
 have a:=Q6 (u:=n.toNat) oM;unfold nN;rw[b];rw[e]at a ⊢;rw[parseIntB_plain _ _ _ oM oM,a];simp only[signlessC];rw[zab kN];simp only;omega
def xB (c:UInt8):Option Nat:=if 48<=c.toNat/\c.toNat<=57 then some (c.toNat-48)else if 97<=c.toNat/\c.toNat<=102 then some (c.toNat-87)else none
def tX:L8->L8
 | a::b::t=>((xB a).getD 0*16+(xB b).getD 0).toUInt8::tX t
 | _=>[]
def Xz (h:d<16):xB (nU d)=some d:=by
 have : ∀d:Fin 16,xB (nU d.val)=some d.val:=by decide
 exact this ⟨d,h⟩
def adF (c:UInt8):(c.toNat/16*16+c.toNat%16).toUInt8=c:=by
 rw[abd];have:=c.toNat_lt;omega
def Q7: ∀s:L8,tX (zC s)=s
 | []=>rfl
 | c::s=>by
  have:=c.toNat_lt;show tX (nU (c.toNat/16)::nU (c.toNat%16)::zC s)=_
  rw[tX,Xz oM,Xz oM,Q7 s];simp only[zdg,adF]
def abf:L8:=[116,114,117,101]
def Uj:L8:=[102,97,108,115,101]
def Gd (w:L8):L8:=let s:=tX (w.drop 1);if 120::zC s=w/\s.length<=1024 then s else []
def gB (w:L8):bH:=
 match mo.findIdx? (λx=>decide (x=w))with
 | some i=>⟨7+i,0,[]⟩
 | none=>match [1,3,4,5].find? (λk:Int=>decide (oN k=w))with
  | some k=>⟨6,k,[]⟩
  | none=>if w=abf then⟨3,1,[]⟩else if w=Uj then⟨3,0,[]⟩
   else if w.head?=some 35 then⟨1,nN (w.drop 1),[]⟩
   else if w.head?=some 34 then⟨4,0,(Ui w).1⟩
   else if w.head?=some 120 then⟨5,0,Gd w⟩
   else⟨2,nN w,[]⟩
def ZN: ∀x∈mo,∃c r,x=c::r/\c≠35/\c≠34/\c≠120/\¬(48<=c.toNat/\c.toNat<=57)/\(c=45->r=[]):=by
 intro x h;simp only[mo,zax,zal,or_false]at h
 rcases h with rfl | rfl | rfl | rfl | rfl | rfl | rfl | rfl | rfl | rfl | rfl | rfl<;>exact⟨_,_,rfl,dC,dC,dC,dC,dC⟩
variable {c:UInt8}
def aiw {r:L8} (h:c=35\/c=34\/c=120\/(48<=c.toNat/\c.toNat<=57)\/(c=45/\r≠[])):mo.findIdx? (λx=>decide (x=c::r))=none:=by
 rw[zdc];intro x o;obtain⟨p,q,rfl,a,b,g,i,j⟩:=ZN x o;simp only[List.cons.injEq,decide_eq_false_iff_not,not_and];rintro rfl rfl
 rcases h with h | h | h | h | ⟨h,m⟩
 .exact a h
 .exact b h
 .exact g h
 .exact i h
 exact m (j h)
def aix {r:L8} (h:c≠110):[1,3,4,5].find? (λk:Int=>decide (oN k=c::r))=none:=by
 rw[zfb];intro k a;simp only[zax,zal,or_false]at a;simp only[decide_eq_true_eq]
 rcases a with rfl | rfl | rfl | rfl<;>(intro e;injection e with e _;exact h e.symm)
def Q8 (n:Int): ∃c r,itoa n=c::r/\((48<=c.toNat/\c.toNat<=57)\/(c=45/\r≠[])):=by
 unfold itoa
 split
 .exact⟨_,_,rfl,.inr ⟨rfl,qX _⟩⟩
 obtain⟨c,r,e,h⟩:=NS (u:=n.toNat);exact⟨c,r,e,.inl (by simpa[uh]using h)⟩
def AQ {r:L8} (h:c=35\/c=34\/c=120\/(48<=c.toNat/\c.toNat<=57)\/(c=45/\r≠[])):
    gB (c::r)=if c=35 then⟨1,nN r,[]⟩else if c=34 then⟨4,0,(Ui (c::r)).1⟩else if c=120 then⟨5,0,Gd (c::r)⟩else⟨2,nN (c::r),[]⟩:=by
  have a:c≠110/\c≠116/\c≠102:=by
    rcases h with rfl | rfl | rfl | h | ⟨rfl,_⟩
    . decide
    . decide
    . decide
    . refine⟨?_,?_,?_⟩<;>(rintro rfl;exact zas h dC)
    decide
  unfold gB;rw[aiw h];dsimp only;rw[aix a.1];dsimp only;rw[zab (by unfold abf;intro e;injection e with e _;exact a.2.1 e),zab (by unfold Uj;intro e;injection e with e _;exact a.2.2 e)];simp only[List.head?_cons,Option.some.injEq,zev,zdh]
def ZO {x:bH} (h:eX x=true) (b: -9223372036854775808<=x.n) (g:x.n<=9223372036854775807):gB (iE x)=x:=by
 obtain⟨k,n,s⟩:=x;unfold eX at h;unfold iE;dsimp only at h b g |-
 by_cases m:k=1
 .subst m
  rw[zac rfl]at h ⊢;simp only[decide_eq_true_eq]at h;rw[AQ (.inl rfl),zac rfl,xY b g,h.1]
 rw[zab m]at h |-
 by_cases o:k=2
 .subst o
  rw[zac rfl]at h ⊢;simp only[decide_eq_true_eq]at h;obtain⟨c,r,e,a⟩:=Q8 n;have i:=xY b g;rw[e]at i ⊢;rw[AQ (.inr (.inr (.inr a))),zab,zab,zab,i,h]
  all_goals (rcases a with a | ⟨rfl,_⟩<;>first | decide | (rintro rfl;exact zas a dC))
 rw[zab o]at h |-
 by_cases p:k=3
 .subst p
  rw[zac rfl]at h ⊢;simp only[decide_eq_true_eq]at h;obtain⟨rfl,H,A⟩:=h;have :n=0\/n=1:=by omega
  rcases this with rfl | rfl<;>rfl
 rw[zab p]at h |-
 by_cases q:k=4
 .subst q
  rw[zac rfl]at h ⊢;simp only[decide_eq_true_eq]at h;have j:=agO h.2.2;have e:=BS s;rw[e]at j ⊢;rw[AQ (.inr (.inl rfl)),zab dC,zac rfl,j,h.1]
 rw[zab q]at h |-
 by_cases t:k=5
 .subst t
  rw[zac rfl]at h ⊢;simp only[decide_eq_true_eq]at h;rw[AQ (.inr (.inr (.inl rfl))),zab dC,zab dC,zac rfl];unfold Gd;simp only[zev,zdh,Q7,true_and];rw[zac h.2,h.1]
 rw[zab t]at h |-
 by_cases z:k=6
 .subst z
  rw[zac rfl]at h ⊢;simp only[decide_eq_true_eq]at h;obtain⟨rfl,C⟩:=h;have :n=1\/n=3\/n=4\/n=5:=by omega
  rcases this with rfl | rfl | rfl | rfl<;>rfl
 rw[zab z]at h ⊢;simp only[decide_eq_true_eq]at h;obtain⟨H,A,rfl,rfl⟩:=h;have :k=7\/k=8\/k=9\/k=10\/k=11\/k=12\/k=13\/k=14\/k=15\/k=16\/k=17\/k=18:=by omega
 rcases this with rfl | rfl | rfl | rfl | rfl | rfl | rfl | rfl | rfl | rfl | rfl | rfl<;>rfl
def dK (sep:UInt8):L8->List (L8)
 | []=>[[]]
 | c::l=>if c=sep then []::dK sep l else match dK sep l with
  | w::ws=>(c::w)::ws
  | []=>[[c]]
def tF (x:bH) (w:L8):Bool:=eX x&&decide (iE x=w)
def readAll:List (L8)->Option (List bH)
 | []=>some []
 | w::l=>if tF (gB w) w=true then(readAll l).map (gB w:: ·)else none
def fE (s:L8):List bH×Int:=
 if 1048576<s.length\/64<=s.count 32 then([],5)else if s=[]then([],0)else match readAll (dK 32 s)with
  | some l=>(l,0)
  | none=>([],4)
def KI (w:L8): -9223372036854775808<=nN w/\nN w<=9223372036854775807:=by
 unfold nN
 split
 .rename_i v h
  obtain⟨a,b⟩:=parseIntB_bounds h;simp at a b;omega
 .unfold intSat
  split<;>simp
 omega
def ZP {w:L8} (h:eX (gB w)=true): -9223372036854775808<=(gB w).n/\(gB w).n<=9223372036854775807:=by
 unfold gB at h |-
 split
 .dsimp only;omega
 split
 .rename_i k a
  have:=zek a;simp at this;dsimp only;omega
 repeat' split
 all_goals first | exact KI _ | (dsimp only;omega)
def JL {x:bH} {w:L8}:tF x w=true↔eX x=true/\iE x=w:=by
 unfold tF;rw[zbr,decide_eq_true_eq]
def Du (n:Int): ∀c∈itoa n,c≠32:=by
 intro c a e;subst e
 have key: ∀u,(32:UInt8)∉decDigits u:=λu h=>by
  have:=pR u _ h;simp[uh]at this
 unfold itoa at a
 split at a
 .rcases zax.1 a with h | h
  .exact zas h dC
  exact key _ h
 exact key _ a
def adG (c:UInt8): ∀x∈jc c,x≠32:=by
 have a:nU (c.toNat/16)≠32:=Dr (by have:=c.toNat_lt;omega);have b:nU (c.toNat%16)≠32:=Dr oM;unfold jc jT
 repeat' split
 all_goals (intro x h;simp only[zax,zal,or_false]at h)
 all_goals first
  | (rcases h with rfl | rfl | rfl | rfl | rfl | rfl<;>first | decide | assumption)
  | (rcases h with rfl | rfl<;>decide)
  | (subst h;assumption)
def ZQ (c:UInt8):(jc c).length<=6:=by
 unfold jc jT
 repeat' split
 all_goals simp
def BU {f:UInt8->L8} {k:Nat} (h: ∀c,(f c).length<=k): ∀s:L8,(s.flatMap f).length<=k*s.length
 | []=>sM
 | c::s=>by
  have a:=h c;have b:=BU h s;rw[zbi,zad,zat,Nat.mul_succ];omega
def aiy {x:bH} (h:eX x=true): ∀c∈iE x,c≠32:=by
 obtain⟨k,n,s⟩:=x;unfold eX at h;unfold iE;dsimp only at h |-
 by_cases g:k=1
 .rw[zac g]
  intro c a
  rcases zax.1 a with rfl | a
  .decide
  exact Du n c a
 rw[zab g]at h |-
 by_cases i:k=2
 .rw[zac i];exact Du n
 rw[zab i]at h |-
 by_cases j:k=3
 .rw[zac j]
  split<;>decide
 rw[zab j]at h |-
 by_cases m:k=4
 .rw[zac m,BS]
  intro c a
  rcases zax.1 a with rfl | a
  .decide
  rcases zbh.1 a with a | a
  .obtain⟨y,_,b⟩:=zcc.1 a
   exact adG y c b
  simp only[zaw]at a;subst a;decide
 rw[zab m]at h |-
 by_cases o:k=5
 .rw[zac o]
  intro c a
  rcases zax.1 a with rfl | a
  .decide
  obtain⟨y,_,b⟩:=zcc.1 a;simp only[zax,zal,or_false]at b
  rcases b with rfl | rfl
  .exact Dr (by have:=y.toNat_lt;omega)
  exact Dr oM
 rw[zab o]at h |-
 by_cases p:k=6
 .subst p
  rw[zac rfl]at h ⊢;simp only[decide_eq_true_eq]at h;obtain⟨_,z⟩:=h;have :n=1\/n=3\/n=4\/n=5:=by omega
  rcases this with rfl | rfl | rfl | rfl<;>decide
 rw[zab p]at h ⊢;simp only[decide_eq_true_eq]at h;obtain⟨q,t,_,_⟩:=h;have :k=7\/k=8\/k=9\/k=10\/k=11\/k=12\/k=13\/k=14\/k=15\/k=16\/k=17\/k=18:=by omega
 rcases this with rfl | rfl | rfl | rfl | rfl | rfl | rfl | rfl | rfl | rfl | rfl | rfl<;>decide
def BX {n:Int} (h: -9223372036854775808<=n) (a:n<=9223372036854775807):(itoa n).length<=20:=by
 unfold itoa
 split
 .have:=yJ 18 n.natAbs kN
  simp;omega
 have:=yJ 18 n.toNat kN;omega
def NT {x:bH} (h:eX x=true) (a: -9223372036854775808<=x.n) (b:x.n<=9223372036854775807):(iE x).length<=6146/\iE x≠[]:=by
 obtain⟨k,n,s⟩:=x;unfold eX at h;unfold iE;dsimp only at h a b ⊢;have hi:=BX a b;obtain⟨c,r,e,_⟩:=Q8 n
 by_cases g:k=1
 .rw[zac g];exact⟨by simp;omega,sM⟩
 rw[zab g]at h |-
 by_cases i:k=2
 .rw[zac i];exact⟨oM,by rw[e];simp⟩
 rw[zab i]at h |-
 by_cases j:k=3
 .rw[zac j]
  split<;>exact⟨dC,dC⟩
 rw[zab j]at h |-
 by_cases m:k=4
 .rw[zac m]at h |-
  simp only[decide_eq_true_eq]at h;rw[BS];have:=BU ZQ s;exact⟨by simp only[zat,zad,zci];omega,sM⟩
 rw[zab m]at h |-
 by_cases o:k=5
 .rw[zac o]at h |-
  simp only[decide_eq_true_eq]at h;have :(zC s).length<=2*s.length:=BU (f:=λc:UInt8=>[nU (c.toNat/16),nU (c.toNat%16)]) (λc=>by simp) s;exact⟨by simp only[zat];omega,sM⟩
 rw[zab o]at h |-
 by_cases p:k=6
 .subst p
  rw[zac rfl]at h ⊢;simp only[decide_eq_true_eq]at h;obtain⟨_,z⟩:=h;have :n=1\/n=3\/n=4\/n=5:=by omega
  rcases this with rfl | rfl | rfl | rfl<;>exact⟨dC,dC⟩
 rw[zab p]at h ⊢;simp only[decide_eq_true_eq]at h;obtain⟨q,t,_,_⟩:=h;have :k=7\/k=8\/k=9\/k=10\/k=11\/k=12\/k=13\/k=14\/k=15\/k=16\/k=17\/k=18:=by omega
 rcases this with rfl | rfl | rfl | rfl | rfl | rfl | rfl | rfl | rfl | rfl | rfl | rfl<;>exact⟨dC,dC⟩
def XB (s:UInt8): ∀l:L8,dK s l≠[]
 | []=>by simp[dK]
 | c::l=>by
  unfold dK
  split
  .simp
  split<;>simp
def qg {sep c:UInt8} {l:L8} (h:c≠sep): ∃w ws,dK sep l=w::ws/\dK sep (c::l)=(c::w)::ws:=by
 cases e:dK sep l with
 | nil=>exact zas e (XB sep l)
 | cons w ws=>exact⟨w,ws,rfl,by rw[dK,zab h,e]⟩
def EG {sep:UInt8} {w:L8} (h: ∀c∈w,c≠sep):dK sep w=[w]:=by
 induction w with
 | nil=>rfl
 | cons c w m=>
  obtain⟨a,b,e,g⟩:=qg (l:=w) (h c zak);rw[m λx j=>h x (zap _ j)]at e;injection e with e i
  rw[g,<-e,<-i]
def JM {sep:UInt8} {w l:L8} (h: ∀c∈w,c≠sep):dK sep (w++sep::l)=w::dK sep l:=by
 induction w with
 | nil=>rw[zby,dK,zac rfl]
 | cons c w m=>
  obtain⟨a,b,e,g⟩:=qg (l:=w++sep::l) (h c zak);rw[m λx j=>h x (zap _ j)]at e;injection e with e i
  rw[zcb,g,<-e,<-i]
def EH {s:UInt8}: ∀{ws:List (L8)},ws≠[]->(∀w∈ws,∀c∈w,c≠s)->dK s (jo s ws)=ws
 | [],h,_=>zas rfl h
 | [w],_,h=>EG (h w zak)
 | w::w'::ws,_,h=>by
  show dK s (w++s::jo s (w'::ws))=_
  rw[JM (h w zak),EH sM λx a=>h x (zap _ a)]
def EI (s:UInt8): ∀l:L8,jo s (dK s l)=l
 | []=>rfl
 | c::l=>by
  have i:=EI s l
  by_cases h:c=s
  .rw[dK,zac h]
   obtain⟨w,ws,e⟩: ∃w ws,dK s l=w::ws:=by
    cases e:dK s l with
    | nil=>exact zas e (XB s l)
    | cons w ws=>exact⟨w,ws,rfl⟩
   rw[e]at i ⊢;show []++s::jo s (w::ws)=_
   rw[i,h];rfl
  obtain⟨w,ws,a,b⟩:=qg (l:=l) h;rw[b];rw[a]at i;cases ws with
  | nil=>show c::w=_;rw[<-i];rfl
  | cons w' ws=>show(c::w)++s::jo s (w'::ws)=_;rw[<-i];rfl
def xZ (s:UInt8): ∀l:L8,(dK s l).length=l.count s+1
 | []=>rfl
 | c::l=>by
  have i:=xZ s l
  by_cases h:c=s
  .rw[dK,zac h,zat,i,h,List.count_cons_self]
  obtain⟨w,ws,e,a⟩:=qg (l:=l) h;rw[e]at i;rw[a,List.count_cons_of_ne h];simpa using i
def BZ (s:UInt8) {k:Nat}: ∀{ws:List (L8)},(∀w∈ws,w.length<=k)->(jo s ws).length<=(k+1)*ws.length
 | [],_=>by simp[jo]
 | [w],h=>by have:=h w zak;simp[jo];omega
 | w::w'::ws,h=>by
  have c:=h w zak;have a:=BZ s (ws:=w'::ws) λx b=>h x (zap _ b);show(w++s::jo s (w'::ws)).length<=_
  simp only[zad,zat]at a ⊢;rw[Nat.mul_succ];omega
def D8: ∀{l:List bH},(∀x∈l,eX x=true/\ -9223372036854775808<=x.n/\x.n<=9223372036854775807)->readAll (l.map iE)=some l
 | [],_=>rfl
 | x::l,h=>by
  obtain⟨a,b,c⟩:=h x zak;have e:=ZO a b c;rw[zbc,readAll,e,zac (JL.2 ⟨a,rfl⟩),D8 λy g=>h y (zap _ g)];rfl
def Gf: ∀{ws:List (L8)} {l:List bH},readAll ws=some l->l.map iE=ws/\∀x∈l,eX x=true/\ -9223372036854775808<=x.n/\x.n<=9223372036854775807
 | [],l,h=>by simp[readAll]at h;subst h;exact⟨rfl,λ_ h=>by cases h⟩
 | w::ws,l,h=>by
  rw[readAll]at h
  split at h
  .rename_i j
   obtain⟨m,o,rfl⟩:=zbb.1 h;obtain⟨b,c⟩:=JL.1 j;obtain⟨g,i⟩:=Gf o;refine⟨by rw[zbc,c,g],λx a=>?_⟩
   rcases zax.1 a with rfl | a
   .exact⟨b,ZP b⟩
   exact i x a
  cases h
def NU {l:List bH} (h: ∀x∈l,eX x=true/\ -9223372036854775808<=x.n/\x.n<=9223372036854775807) (s:l.length<=64):jd l=(jo 32 (l.map iE),0)/\fE (jo 32 (l.map iE))=(l,0)/\(l≠[]->(jo 32 (l.map iE)).count 32=l.length-1):=by
 refine⟨?_,?_⟩
 .unfold jd
  rw[zab oM,zab];rw[Bool.not_eq_false,zaz];exact λx a=>(h x a).1
 by_cases i:l=[]
 .subst i;exact⟨rfl,λh=>zas rfl h⟩
 have m:l.map iE≠[]:=by simpa using i
 have j: ∀w∈l.map iE,∀c∈w,c≠32:=λw p=>by
  obtain⟨x,a,rfl⟩:=zav.1 p;exact aiy (h x a).1
 have g:=EH m j;have q:=xZ 32 (jo 32 (l.map iE));rw[g,zae]at q
 have b:(jo 32 (l.map iE)).length<=(6146+1)*(l.map iE).length:=BZ 32 λw p=>by
  obtain⟨x,a,rfl⟩:=zav.1 p;exact(NT (h x a).1 (h x a).2.1 (h x a).2.2).1
 rw[zae]at b
 have o:jo 32 (l.map iE)≠[]:=by
  intro e;rw[e]at g;have :l.map iE=[[]]:=g.symm;cases l with
  | nil=>exact i rfl
  | cons x l=>
   simp only[zbc,List.cons.injEq]at this;exact(NT (h x zak).1 (h x zak).2.1 (h x zak).2.2).2 this.1
 refine⟨?_,λ_=>oM⟩;unfold fE;rw[zab oM,zab o,g,D8 h]
def ZR {s:L8} {l:List bH} (h:fE s=(l,0)):jd l=(s,0):=by
 unfold fE at h
 split at h
 .injection h with _ h;cases h
 rename_i j
 split at h
 .rename_i b
  injection h with h _
  subst h;subst b;rfl
 split at h
 .rename_i m i
  injection h with h _
  subst h;obtain⟨a,c⟩:=Gf i;have g:=xZ 32 s;rw[<-a,zae]at g;have:=(NU c oM).1;rw[this,a,EI]
 injection h with _ h;cases h
def I (n:Int):Value:=.int .i64 n
def I32 (n:Int):Value:=.int .i32 n
def B (c:UInt8):Value:=.int .u8 c.toNat
def cB (n:Int):Prop:= -9223372036854775808<=n/\n<=9223372036854775807
def aiz {g:Type} {f:g->Value} (h: ∀x,(f x).oneCell'=true) (l:List g): ∀u∈l.map f,u.oneCell'=true:=λu a=>by
 obtain⟨x,_,rfl⟩:=zav.1 a;exact h x
def alG (h:0<=n):IntKind.u8.wrap n=((n.toNat.toUInt8).toNat:Int):=by
 rw[IntKind.wrap_u8];simp;omega
def wrap32 (h: -2147483648<=n/\n<=2147483647):IntKind.i32.wrap n=n:=by
 rw[IntKind.wrap_i32];omega
variable {s t:Td} {j:IntKind}
def wrap64 (h: -9223372036854775808<=n/\n<=9223372036854775807):IntKind.i64.wrap n=n:=IntWalk.i64_in _ h
section
section gives
variable {P:Program} {ρ:Od->Value} {ty:Td} {w:Wd} {x y:Od} {T U:Td} {k:IntKind}
def ah.NV {a b:Nat} (h:ρ x=.int k a) (c:ρ y=.int k b) (g:b≠0):ah P ρ (.binOp .rem T x y U) ty w (.int k ((a%b:Nat):Int)) w:=by
 have:=ah.rem (P:=P) (ty:=ty) (w:=w) (T:=T) (U:=U) h c oM
 rwa [zey oM,<-Int.natCast_emod]at this
def ah.JN {a b:Nat} (i:ρ x=.int .i64 a) (j:ρ y=.int .i64 b) (m:b≠0) (h:a<=9223372036854775807):ah P ρ (.binOp .quo T x y U) ty w (.int .i64 ((a/b:Nat):Int)) w:=by
 have:=ah.quo (P:=P) (ty:=ty) (w:=w) (T:=T) (U:=U) i j oM;have e:a/b<=a:=Nat.div_le_self a b;have c:(a:Int).tdiv (b:Int)=((a/b:Nat):Int):=by rw[zez oM];rfl
 obtain⟨q,g⟩: ∃q,q=a/b:=⟨_,rfl⟩;rw[<-g]at e c |-
 rwa [c,IntWalk.i64_in (q:Int) oM]at this
def ah.alH [b:nO P s .u8] [g:nO P t .i64] (h:ρ x=.int .u8 c.toNat):ah P ρ (.convert s t x) ty w (.int .i64 c.toNat) w:=by
 have:=ah.conv (P:=P) (ty:=ty) (w:=w) (s:=s) (t:=t) (k:=.i64) h;have a:=c.toNat_lt
 rwa [IntWalk.i64_in _ oM]at this
def ah.aiA {a:Int} [c:nO P s j] [g:nO P t .i64] (b:ρ x=.int j a) (h: -9223372036854775808<=a/\a<=9223372036854775807):ah P ρ (.convert s t x) ty w (.int .i64 a) w:=by
 have:=ah.conv (P:=P) (ty:=ty) (w:=w) (s:=s) (t:=t) (k:=.i64) b
 rwa [IntWalk.i64_in _ h]at this
def ah.Uk {a:Int} [c:nO P s j] [g:nO P t .i32] (b:ρ x=.int j a) (h: -2147483648<=a/\a<=2147483647):ah P ρ (.convert s t x) ty w (.int .i32 a) w:=by
 have:=ah.conv (P:=P) (ty:=ty) (w:=w) (s:=s) (t:=t) (k:=.i32) b
 rwa [wrap32 h]at this
def ah.agP {a:Int} [c:nO P s j] [g:nO P t .u8] (b:ρ x=.int j a) (h:0<=a):ah P ρ (.convert s t x) ty w (.int .u8 (a.toNat.toUInt8).toNat) w:=by
 have:=ah.conv (P:=P) (ty:=ty) (w:=w) (s:=s) (t:=t) (k:=.u8) b
 rwa [alG h]at this
end gives
end
variable {x y:Od} {ρ:Od->Value} {v:Value} {e:Td}
open Go.RowKit
section rules
variable {P:Program} {r:Option Nat} {n:Nat} {ops:AO} {Q:Post} {rest:LO} {σ:St} {w w' w0:Wd} {S:NP} {rs:List HP} {put:HP->List HP} {ty:Td} {pos:String} {after:Array Edge} {guard:Option (Nat×Bool)} {lv:List Bool} {pd pd':LNB}
def mY (e:Nat) (v:Value) (xs:L8):HP:=vE e 1 v xs.length (xs.map B)
def alI (xs:L8): ∀u∈xs.map B,u.oneCell'=true:=aiz (λ_=>rfl) xs
def D9 {t e b c:Td} [G:dR P t e] [E:Cells P e 1 1] [J:Zero P e (.int .u8 0)] {xs n:L8}
    (H:Sep w0 S (blk b (n.map B) e::rs) w) (C:ρ x=v) (D:ρ y=.slice (some ⟨b,0,none⟩) c c) (j:c=n.length) (a:At rs (mY e v xs) put) (o:xs.length+n.length<=140737488355328):
    ∃i w',ah P ρ (.call {callee:=.builtin .append,args:= #[x,y],argTypes:= #[t,t]}) ty w i w'/\Sep w0 S (put (mY e i (xs++n))) w':=by
  subst j;have A:iU w (some ⟨b,0,none⟩) n.length 1 (n.map B):=Sep.mg H At0 sM;have m:=H.bN;obtain⟨F,s,_,_⟩:=m.bG a;obtain⟨i,w',g,h,q,p⟩:=vF (P:=P) (ty:=ty) t e (z:=.int .u8 0) dC rfl v xs.length (xs.map B) s.1 (some ⟨b,0,none⟩) n.length n.length (n.map B) A (alI n) kS oM;refine⟨i,w',λ_ _ _ _=>?_,?_⟩
  . simp only[execOp,resolve,invoke,builtin,zbj,zbl,zar,zch,zbc,zcn,C,D,g]
  refine m.CY a q ?_ (by rcases p with e | e<;>simp[e]);rw[<-zan]at h;rw[zad];exact h
def qh {b c:Td} [z:dR P t e] [s:Cells P e 1 1] [A:Zero P e (.int .u8 0)] {xs news:L8}
    (H:Sep w0 S (blk b (news.map B) e::rs) w) (i:At rs (mY e v xs) put) (g:xs.length+news.length<=140737488355328) (p:evF σ x=v:=by exact rfl) (q:evF σ y=.slice (some ⟨b,0,none⟩) c c:=by exact rfl) (hc':c=news.length:=by exact rfl) (m:Nat.blt d n=true:=by exact rfl)
    (h: ∀a w',Sep w0 S (put (mY e a (xs++news))) w'->FL P r n ops Q rest (upd σ d a) w'):
    FL P r n ops Q (⟨some d,.call {callee:=.builtin .append,args:= #[x,y],argTypes:= #[t,t]},ty,pos,after,none⟩::rest) σ w:=by
  obtain⟨a,w',o,j⟩:=D9 (P:=P) (t:=t) (ty:=ty) H p q hc' i g;exact eu o m (h a w' j)
def adH (o:eY n ops=true) (i:Nat) (pd':LNB) {b c:Td} [F:dR P t e] [E:Cells P e 1 1] [G:Zero P e (.int .u8 0)] {xs news:L8}
    (H:Sep w0 S (blk b (news.map B) e::rs) w) (g:At rs (mY e v xs) put) (a:xs.length+news.length<=140737488355328)
    (z:ops[i]? =some ⟨some d,.call {callee:=.builtin .append,args:= #[x,y],argTypes:= #[t,t]},ty,pos,after,guard⟩:=by exact rfl)
    (A:Region.wanted ⟨some d,.call {callee:=.builtin .append,args:= #[x,y],argTypes:= #[t,t]},ty,pos,after,guard⟩ (dG ops σ)=true:=by kernel_rfl)
    (C:evF σ x=v:=by exact rfl) (D:evF σ y=.slice (some ⟨b,0,none⟩) c c:=by exact rfl) (j:c=news.length:=by exact rfl) (m:gy ops lv (pd.map (·.1)) i=true:=by kernel_rfl) (q:pd.filter (λp=> !((above ops i).contains p.1))=pd':=by exact pD)
    (h: ∀s w',Sep w0 S (put (mY e s (xs++news))) w'->jK P ops (upd σ d s) w' pd'/\FG P r n ops Q (lv.set i true) pd' (upd σ d s) w'):FG P r n ops Q lv pd σ w:=
  vJ o i pd' z A (D9 (P:=P) (t:=t) (ty:=ty) H C D j g a) m q h
def Sep.XC (H:Sep w0 S rs w) (e:Nat):Sep w0 S (mY e (.slice none 0 0) []::rs) w:=H.gQ e 1
def ah.aj7 [i:dR P s e] [g:nO P e .u8] [b:mD P t] {xs:L8} (H:Sep w0 S rs w) (h:At rs (mY e v xs) put) (a:ρ x=v):ah P ρ (.convert s t x) ty w (str xs) w:=by
 obtain⟨A,c,rfl,_,_,_⟩:=Sep.xM H h;exact ah.Nv a (Sep.rowAt H h)
def XD {t u ty e:Td} [s:dR P t e] [z:mD P u] [M:Cells P e 1 1] [W:Zero P e (.int .u8 0)] {v:Value} {xs news:L8}
    (m:w.ownsRow 0 e 1 v xs.length (xs.map B)) (K:xs.length+news.length<=140737488355328):
    ∃p w',(Builtin.append_ #[t,u] ty #[v,str news]).run P w=.ok p w'/\w'.ownsRow 0 e 1 p (xs++news).length ((xs++news).map B)/\w.grownBy w' v.ownBlock/\(p.ownBlock=v.ownBlock\/p.ownBlock=some w.heap.size\/p.ownBlock=none):=by
  obtain⟨i,hi,h⟩:=zbb.1 M.size;simp only[Prod.mk.injEq]at h
  have a:i.zero=some (.int .u8 0):=by
    have:=W.run w;simp[zeroValue,typeInfo,hi]at this;cases hq:i.zero with
    | none=>simp[hq]at this
    | some u=>simp[hq]at this;rw[this]
  obtain⟨p,w',c,C,G,J⟩:=Lib.run_append_own_string (P:=P) w 0 t u ty e i s.und z.und hi a h.1 h.2 v xs.length (xs.map B) m ⟨news.toArray⟩ (by rw[size_mk];unfold maxLen;omega) IG (zai _);have E:Lib.strCells ⟨news.toArray⟩=news.map B:=by simp only[Lib.strCells];rfl
  rw[E,size_mk]at C;refine⟨p,w',c,by rw[zad,zan];exact C,G,?_⟩
  rcases m.2 with⟨rfl,F⟩ | ⟨g,cap,q,rfl,L,O,V,N,H,A⟩
  . by_cases R:news.length=0
    . rw[J.2 ⟨rfl,by rw[size_mk];exact R⟩];exact .inl rfl
    have b:=run_append_nil_string (P:=P) w t u ty e i (.int .u8 0) s.und z.und hi a ⟨news.toArray⟩ IG IG (by rw[size_mk,h.2];omega);have X:xs.length=0:=F;rw[c]at b;injection b with b _
    rw[b];exact .inr (.inl rfl)
  by_cases o:xs.length+news.length<=cap
  . have D:q.size=cap:=by simpa using H
    have b:=Lib.run_append_room_string (P:=P) w t u ty e i s.und z.und hi h.1 g xs.length cap q O ⟨news.toArray⟩ (by rw[size_mk];exact o) IG;rw[c]at b;injection b with b _
    rw[b];exact .inl rfl
  have holds: ∀j u,(xs.map B)[j]? =some u->w.cell? ((⟨g,0,none⟩:Addr).add j)=some u:=m.cells (g:=g) rfl;have b:=Lib.run_append_grow_string (P:=P) w t u ty e i (.int .u8 0) s.und z.und hi a ⟨g,0,none⟩ xs.length cap (xs.map B) (by rw[h.1];simp) holds ⟨news.toArray⟩ IG IG (by rw[size_mk,h.2];exact growslice_fits oM oM);rw[c]at b;injection b with b _
  rw[b];exact .inr (.inl rfl)
def NW {u:Td} [A:dR P t e] [C:mD P u] [z:Cells P e 1 1] [D:Zero P e (.int .u8 0)] {xs news:L8}
    (H:Sep w0 S rs w) (a:At rs (mY e v xs) put) (i:xs.length+news.length<=140737488355328) (q:evF σ x=v:=by exact rfl) (s:evF σ y=str news:=by exact rfl) (m:Nat.blt d n=true:=by exact rfl)
    (h: ∀g w',Sep w0 S (put (mY e g (xs++news))) w'->FL P r n ops Q rest (upd σ d g) w'):
    FL P r n ops Q (⟨some d,.call {callee:=.builtin .append,args:= #[x,y],argTypes:= #[t,u]},ty,pos,after,none⟩::rest) σ w:=by
  obtain⟨F,p,_,_⟩:=H.bG a;obtain⟨g,w',c,b,o,j⟩:=XD (P:=P) (t:=t) (u:=u) (ty:=ty) (news:=news) p.1 i;refine eu (v:=g) (w':=w') (λ_ _ _ _=>?_) m (h g w' (H.CY a o b j));simp only[execOp,resolve,invoke,builtin,zbj,zbl,zar,zch,zbc,zcn,q,s,c]
end rules
variable {P:Program} {r:Option Nat} {n:Nat} {ops:AO} {Q:Post} {σ:St} {w:Wd} {ty:Td} {pos:String} {after:Array Edge} {guard:Option (Nat×Bool)} {lv:List Bool} {pd:LNB}
def rA (b:eY n ops=true) (e:Nat) (pd':LNB) {x:Od} (j:ops[e]? =some ⟨some d,.assign x,ty,pos,after,guard⟩:=by exact rfl)
    (m:Region.wanted ⟨some d,.assign x,ty,pos,after,guard⟩ (dG ops σ)=true:=by kernel_rfl) (o:evF σ x=v:=by exact rfl) (a:gy ops lv (pd.map (·.1)) e=true:=by kernel_rfl)
    (c:pd.filter (λp=> !((above ops e).contains p.1))=pd':=by exact pD) (h:jK P ops (upd σ d v) w pd'/\FG P r n ops Q (lv.set e true) pd' (upd σ d v) w):FG P r n ops Q lv pd σ w:=
  vJ (C:=λi w'=>i=v/\w'=w) b e pd' j m ⟨v,w,ah.assign o,rfl,rfl⟩ a c (λi w' g=>by rw[g.1,g.2];exact h)
variable {l:L8} {i:Nat}
open Go.Proofs.Tryz
section
attribute [local irreducible] FW FL FG FGn jX lg gD l7 Qfn ah
def ZT (P:Program) (fn:Func) (s:ChangeSpec) (c:OpenClaim):Bool:=
 c.wf (OpenSpec.ofChange s)&&laidOutB P&&mapsRowed P&&
 fn.params.all (P.readableRec ·)&&namedTie P c.named s.vars&&
 (c.stops==[])&&(P.stops==[])&&(c.knobs==[])&&(P.stopKnobs==[])
def ZU (P:Program) (fn:Func) (s:ChangeSpec) (c:OpenClaim):Bool:=
 (c.maps==(fn.params.toList++s.plain.varTypes P).any (P.mapsRec ·))&&(c.ifaces==(fn.params.toList++s.plain.varTypes P).any (P.ifacesRec ·))&&(c.mapsOut==P.mapsAmong fn.resultTypes.toList)&&
 (c.loops==(fn.params.toList++s.plain.varTypes P).any (P.loopsFrom ·))&&(c.wideKeys==(fn.params.toList++s.plain.varTypes P++fn.resultTypes.toList).any (P.wideKeysFrom ·))&&
 s.vars.all (P.varReadable ·)&&fn.resultTypes.all (λt=>P.readableRec t&&decide (t<P.types.size))&&(c.ifacesOut==fn.resultTypes.toList.any (P.ifacesRec ·))&&(c.loopsOut==fn.resultTypes.toList.any (P.loopsFrom ·))&&(c.plainKeys==P.plainKeys)&&c.shortTexts.isNone
def ZW (P:Program) (fn:Func) (s:ChangeSpec) (c:OpenClaim):Bool:=
 P.stopsHeard&&P.mayEnter&&(c.lifted==P.liftsFinal)&&(P.make==some c.make)&&(c.kinds==(if c.domain.isEmpty then []else fn.params.toList.map λt=>match P.underlying t with | some (.int k)=>some k | _=>none))&&(c.pinned==c.pinnedBy)&&
 (c.veiled==(fn.params.toList++s.plain.varTypes P++fn.resultTypes.toList).any (P.veiledRec ·))&&c.veiledFits P fn.params.toList (fn.params.toList++s.plain.varTypes P++fn.resultTypes.toList)
def adI {f:FuncId} {o:Func} {s:ChangeSpec} {c:OpenClaim} (g:(c.inPlace==P.inPlace f)=true) (i:(c.unfollowed==P.unfollowed f)=true) (j:(c.recurses==P.recurses f)=true) (m:(c.named==P.varsNamed f)=true) (a:ZT P o s c=true) (b:ZU P o s c=true) (h:ZW P o s c=true):joinedFacts P f o s c=true:=by
 simp only[ZT,zbr]at a;simp only[ZU,zbr]at b;simp only[ZW,zbr]at h;simp only[joinedFacts,zbr];simp only[a,b,h,g,i,j,m,and_self,and_true,true_and];exact h.1.1.1.2
def KY (l:L8):Nat:=if l.length=2 then(l.getD 0 0).toNat%32 else if l.length=3 then(l.getD 0 0).toNat%16 else if l.length=4 then(l.getD 0 0).toNat%8 else(l.getD 0 0).toNat
def vZ (l:L8) (i:Nat):Nat:=((l.take i).drop 1).foldl (λn c=>64*n+c.toNat%64) (KY l)
def Q9 (l:L8):vZ l 1=KY l:=by
 unfold vZ;rw[zbv Io];rfl
def AU (a:1<=i) (h:i<l.length):vZ l (i+1)=64*vZ l i+(l.getD i 0).toNat%64:=by
 unfold vZ;rw[zaq,zaa h,zeo Io,List.foldl_append];simp[zao,zaa h]
def agQ (b:1<=i) (c:i<=4) (h:i<=l.length):vZ l i<67108864:=by
 have a:vZ l 1<=255:=by
  rw[Q9];have:=(l.getD 0 0).toNat_lt;unfold KY
  repeat' split
  all_goals omega
 have hi:i=1\/i=2\/i=3\/i=4:=oM;have s:1<l.length->vZ l 2=64*vZ l 1+(l.getD 1 0).toNat%64:=AU oM;have s3:2<l.length->vZ l 3=64*vZ l 2+(l.getD 2 0).toNat%64:=AU oM;have g:3<l.length->vZ l 4=64*vZ l 3+(l.getD 3 0).toNat%64:=AU oM
 rcases hi with rfl | rfl | rfl | rfl<;>omega
def adJ (h:1<=l.length) (g:l.length<=4):vZ l l.length=yH l:=by
 match l,h,g with
 | [a],_,_=>rfl
 | [a,b],_,_=>rfl
 | [a,b,c],_,_=>rfl
 | [a,b,c,d],_,_=>rfl
section
variable {w:Wd} {l:L8}
def adK (j:1<=l.length) (s:l.length<=4):aX prog 352 [str l] w λv w'=>v=I32 (yH l)/\w=w':=by
 have H:=Sep.aI w;have D:=(l.getD 0 0).toNat_lt;refine dL func352 ?_;refine V2 ?_;refine Vv (ah.zw (i:=0) rfl rfl oM) (O2 ?_);refine Qn (dU (λ_:Unit=>[(0,str l),(3,I (KY l))]) (λ_ w'=>Sep w noB [] w'/\w=w') ?_ ?_)
 .refine Cz (λm=>?_) (λm=>?_)
  .have e:KY l=(l.getD 0 0).toNat%32:=by unfold KY;rw[zac oM]
   refine V1 ?_;refine Vv (ah.NV (b:=32) rfl rfl oM) (V1 ?_);exact aA () ⟨rfl,by rw[e];rfl,trivial⟩ ⟨H,rfl⟩
  refine Cz (λo=>?_) (λo=>?_)
  .have e:KY l=(l.getD 0 0).toNat%16:=by unfold KY;rw[zab oM,zac oM]
   refine V1 ?_;refine Vv (ah.NV (b:=16) rfl rfl oM) (V1 ?_);exact aA () ⟨rfl,by rw[e];rfl,trivial⟩ ⟨H,rfl⟩
  refine Cz (λp=>?_) (λp=>?_)
  .have e:KY l=(l.getD 0 0).toNat%8:=by unfold KY;rw[zab oM,zab oM,zac oM]
   refine V1 ?_;refine Vv (ah.NV (b:=8) rfl rfl oM) (V1 ?_);exact aA () ⟨rfl,by rw[e];rfl,trivial⟩ ⟨H,rfl⟩
  have e:KY l=(l.getD 0 0).toNat:=by unfold KY;rw[zab oM,zab oM,zab oM]
  refine V0 ?_;exact aA () ⟨rfl,by rw[e];rfl,trivial⟩ ⟨H,rfl⟩
 intro _ A G a;obtain⟨C,rfl⟩:=a;refine Lp ?_;refine V1 ?_;refine aM (λi:Nat=>[(0,str l),(3,I (vZ l i)),(4,I i)]) (λi w'=>(1<=i/\i<=l.length)/\w=w') (λi _=>l.length-i) 1 ⟨rfl,by rw[Q9];rfl,rfl,trivial⟩ ⟨⟨zbk _,j⟩,rfl⟩ (λi A J a=>?_);obtain⟨⟨h,c⟩,rfl⟩:=a;have F:=agQ h oM c;refine Lp ?_;refine Cz (λq=>?_) (λq=>?_)
 .have g:i<l.length:=oM
  have z:=AU h g;have E:=(l.getD i 0).toNat_lt;refine V6 ?_;refine Vv (ah.NV (b:=64) rfl rfl oM) (V5 ?_);exact ak (i+1) ⟨rfl,by rw[z,Int.natCast_add,Int.natCast_mul];rfl,rfl,trivial⟩ ⟨⟨oM,oM⟩,rfl⟩ oM
 have t:i=l.length:=oM;refine V1 ?_;refine Vv (ah.Uk rfl oM) ?_;rw[t,adJ j s];refine V1 ?_;exact⟨rfl,rfl⟩
theorem aj8 (r:Int) (J: -2147483648<=r/\r<=2147483647):Rk prog 353 [I32 r] w (.tuple #[str ((JJ r).getD []),.bool (JJ r).isSome]):=by
 have H:=Sep.aI w;refine dL func353 ?_
 by_cases p:r<0\/1114111<r\/(55296<=r/\r<=57343)
 .have c:JJ r=none:=zac p
  rw[c];refine Sz (λg=>?_) (λg=>?_)
  .refine V5 ?_
   exact⟨rfl,H.au⟩
  refine Sz (λS=>?_) (λS=>?_)
  .refine V3 ?_
   exact⟨rfl,H.au⟩
  refine Sz (λD=>?_) (λD=>?_)
  .refine Cz (λs=>?_) (λs=>?_)
   .refine V2 ?_
    exact⟨rfl,H.au⟩
   omega
  omega
 have c:JJ r=some (encodeRune r):=zab p;rw[c];obtain⟨n,rfl⟩: ∃n:Nat,r=n:=⟨r.toNat,oM⟩;refine O5 ?_;refine Qn (dU (λ_:Unit=>[(4,I n)]) (λ_ w'=>Sep w noB [] w') ?_ ?_)
 .refine Sz (λE=>?_) (λE=>?_)
  .omega
  refine Sz (λF=>?_) (λF=>?_)
  .omega
  refine Sz (λG=>?_) (λG=>?_)
  .refine Cz (λt=>?_) (λt=>?_)
   .omega
   refine V0 ?_;exact aA () tR H
  refine V2 ?_;exact aA () tR H
 rintro _ R K q;refine Lp ?_;refine V2 ?_;refine Bs q [Value.int .u8 (((n:Int).toNat.toUInt8).toNat:Int)] (λb L a _=>?_);refine Cz (λz=>?_) (λz=>?_)
 .have h:[Value.int .u8 ((((240+(n/262144:Nat):Int)).toNat.toUInt8).toNat:Int),Value.int .u8 ((((128+(n/4096%64:Nat):Int)).toNat.toUInt8).toNat:Int),Value.int .u8 ((((128+(n/64%64:Nat):Int)).toNat.toUInt8).toNat:Int),Value.int .u8 ((((128+(n%64:Nat):Int)).toNat.toUInt8).toNat:Int)]=(encodeRune n).map λu=>Value.int .u8 u.toNat:=by rw[encodeRune,encodeRuneZ_four oM oM];rfl
  refine V1 ?_;refine Vv (ah.JN (b:=262144) rfl rfl oM oM) (V3 ?_);refine Vv (ah.JN (b:=4096) rfl rfl oM oM) (Vv (ah.NV (b:=64) rfl rfl oM) ?_);refine V3 ?_;refine Vv (ah.JN (b:=64) rfl rfl oM oM) (Vv (ah.NV (b:=64) rfl rfl oM) ?_);refine V3 ?_;refine Vv (ah.NV (b:=64) rfl rfl oM) (V2 ?_);refine Bs a [Value.int .u8 ((((240+(n/262144:Nat):Int)).toNat.toUInt8).toNat:Int),Value.int .u8 ((((128+(n/4096%64:Nat):Int)).toNat.toUInt8).toNat:Int),Value.int .u8 ((((128+(n/64%64:Nat):Int)).toNat.toUInt8).toNat:Int),Value.int .u8 ((((128+(n%64:Nat):Int)).toNat.toUInt8).toNat:Int)] (λo M i _=>?_);refine V2 ?_;refine Vv (ah.Nv (l:=encodeRune n) rfl (by rw[<-h];exact Sep.mg i At0 rfl)) ?_;refine V2 ?_;exact⟨rfl,i.au⟩
 refine Cz (λA=>?_) (λA=>?_)
 .have h:[Value.int .u8 ((((224+(n/4096:Nat):Int)).toNat.toUInt8).toNat:Int),Value.int .u8 ((((128+(n/64%64:Nat):Int)).toNat.toUInt8).toNat:Int),Value.int .u8 ((((128+(n%64:Nat):Int)).toNat.toUInt8).toNat:Int)]=(encodeRune n).map λu=>Value.int .u8 u.toNat:=by rw[encodeRune,encodeRuneZ_three oM];rfl
  refine V1 ?_;refine Vv (ah.JN (b:=4096) rfl rfl oM oM) (V3 ?_);refine Vv (ah.JN (b:=64) rfl rfl oM oM) (Vv (ah.NV (b:=64) rfl rfl oM) ?_);refine V3 ?_;refine Vv (ah.NV (b:=64) rfl rfl oM) (V2 ?_);refine Bs a [Value.int .u8 ((((224+(n/4096:Nat):Int)).toNat.toUInt8).toNat:Int),Value.int .u8 ((((128+(n/64%64:Nat):Int)).toNat.toUInt8).toNat:Int),Value.int .u8 ((((128+(n%64:Nat):Int)).toNat.toUInt8).toNat:Int)] (λo N j _=>?_);refine V2 ?_;refine Vv (ah.Nv (l:=encodeRune n) rfl (by rw[<-h];exact Sep.mg j At0 rfl)) ?_;refine V2 ?_;exact⟨rfl,j.au⟩
 refine Cz (λC=>?_) (λC=>?_)
 .have h:[Value.int .u8 ((((192+(n/64:Nat):Int)).toNat.toUInt8).toNat:Int),Value.int .u8 ((((128+(n%64:Nat):Int)).toNat.toUInt8).toNat:Int)]=(encodeRune n).map λu=>Value.int .u8 u.toNat:=by rw[encodeRune,encodeRuneZ_two oM oM];rfl
  refine V1 ?_;refine Vv (ah.JN (b:=64) rfl rfl oM oM) (V3 ?_);refine Vv (ah.NV (b:=64) rfl rfl oM) (V2 ?_);refine Bs a [Value.int .u8 ((((192+(n/64:Nat):Int)).toNat.toUInt8).toNat:Int),Value.int .u8 ((((128+(n%64:Nat):Int)).toNat.toUInt8).toNat:Int)] (λo O m _=>?_);refine V2 ?_;refine Vv (ah.Nv (l:=encodeRune n) rfl (by rw[<-h];exact Sep.mg m At0 rfl)) ?_;refine V2 ?_;exact⟨rfl,m.au⟩
 have h:[Value.int .u8 (((n:Int).toNat.toUInt8).toNat:Int)]=(encodeRune n).map λu=>Value.int .u8 u.toNat:=by rw[encodeRune,encodeRuneZ_one oM oM];rfl
 refine V1 ?_;refine Vv (ah.Nv (l:=encodeRune n) rfl (by rw[<-h];exact Sep.mg a At0 rfl)) ?_;refine V2 ?_;exact⟨rfl,a.au⟩
def lJ (l:L8):Nat×Nat:=(iI l).getD (0,0)
def abg (l:L8):Value:=.tuple #[I32 (lJ l).1,I (lJ l).2,.bool (iI l).isSome]
def ZX (h:(iI l).isSome=true):iI l=some (lJ l):=by
 unfold lJ;cases e:iI l with
 | none=>rw[e]at h;cases h
 | some x=>rfl
def agR (h:(iI l).isSome=true):1<=(lJ l).2/\(lJ l).2<=4/\(lJ l).2<=l.length:=by
 obtain⟨a,b,c,_,_⟩:=AL (r:=(lJ l).1) (n:=(lJ l).2) (ZX h);exact⟨a,b,c⟩
def ZY (h:l≠[]):validD l=if(iI l).isSome=true then validD (l.drop (lJ l).2)else false:=by
 rw[EF h];unfold lJ;cases iI l<;>rfl
def Ul:okL l n↔(JJ (yH (l.take n))).isSome=true/\(JJ (yH (l.take n))).getD []=l.take n:=by
 unfold okL;cases h:JJ (yH (l.take n))with
 | none=>simp
 | some x=>simp
def aiB (l:L8):yH l<67108864:=by
 unfold yH
 split
 .rename_i a;have:=a.toNat_lt;omega
 all_goals omega
def agS (l:L8) (N:l.length<=9223372036854775807):Rk prog 310 [str l] w (abg l):=by
 have H:=Sep.aI w;refine dL func310 ?_;refine V4 ?_;refine aM (λn:Nat=>[(0,str l),(5,I n)]) (λn w'=>((1<=n/\n<=5)/\∀j,1<=j->j<n->j<=l.length->¬okL l j)/\Sep w noB [] w') (λn _=>5-n) 1 tR ⟨⟨⟨zbk _,oM⟩,λj A L=>oM⟩,H⟩ (λn V O F=>?_);obtain⟨⟨⟨A,M⟩,m⟩,z⟩:=F;refine Lp ?_;refine Sz (λE=>?_) (λE=>?_)
 .refine Cz (λD=>?_) (λD=>?_)
  .have C:n<=4/\n<=l.length:=oM
   have K:(l.take n).length=n:=by rw[zah];omega
   have J:=aiB (l.take n);refine V3 ?_;refine fF (adK (l:=l.take n) oM oM) (h:=?_);refine Kz (aj8 (yH (l.take n)) oM) (λR p _=>?_);refine V7 ?_;refine eO (t:=29) rfl (λS=>?_) (λS=>?_)
   .have o:(JJ (yH (l.take n))).isSome=true:=S
    refine Cz (λq=>?_) (λq=>?_)
    .have s:iI l=some (yH (l.take n),n):=AJ A C.1 C.2 (Ul.2 ⟨o,q⟩)
     refine V5 ?_;exact⟨by unfold abg lJ;rw[s];rfl,p.au⟩
    have i: ¬okL l n:=λh=>q (Ul.1 h).2;refine V3 ?_;exact ak (n+1) tR ⟨⟨⟨oM,oM⟩,λj a b c=>by
    rcases zdp j n with h | h
    .exact m j a h c
    have :j=n:=by omega
    subst this;exact i⟩,p⟩ oM
   have i: ¬okL l n:=λh=>by rw[(Ul.1 h).1]at S;cases S
   refine V4 ?_;exact ak (n+1) tR ⟨⟨⟨oM,oM⟩,λj a b c=>by
   rcases zdp j n with h | h
   .exact m j a h c
   have :j=n:=by omega
   subst this;exact i⟩,p⟩ oM
  have g:iI l=none:=JK λj a b c=>by
   rcases zdp j n with h | h
   .exact m j a h c
   exfalso;omega
  refine V3 ?_;exact⟨by unfold abg lJ;rw[g];rfl,z.au⟩
 have G:n=5:=oM;have g:iI l=none:=JK λj a b c=>m j a oM c;refine V4 ?_;exact⟨by unfold abg lJ;rw[g];rfl,z.au⟩
def Ra (l:L8) (z:l.length<=9223372036854775807):Rk Tryz.prog 244 [str l] w (.bool (validD l)):=by
 have H:=Sep.aI w;refine dL Tryz.func244 ?_;refine V1 ?_;refine aM (λm:L8=>[(0,str m)]) (λm w'=>(m.length<=l.length/\validD m=validD l)/\Sep w noB [] w') (λm _=>m.length) l tR ⟨⟨zbk _,rfl⟩,H⟩ (λm D A p=>?_);obtain⟨⟨t,a⟩,o⟩:=p;refine Lp ?_;refine Cz (λh=>?_) (λh=>?_)
 .have c:m≠[]:=λe=>by rw[e]at h;simp at h
  have b:=ZY c;refine Kz (agS m oM) (λC i _=>?_);refine O9 ?_;refine Qn (Cd rfl (λk=>?_) (λk=>?_))
  .have g:validD l=false:=by rw[<-a,b,zab (by simpa using k)]
   refine V1 ?_;exact⟨by rw[g];rfl,i.au⟩
  have j:(iI m).isSome=true:=by simpa using k
  have s:=agR j;refine V4 ?_;exact ak (m.drop (lJ m).2) tR ⟨⟨by rw[zbm];omega,by rw[<-a,b,zac j]⟩,i⟩ Iz
 have q:m=[]:=zbf oM;have g:validD l=true:=by rw[<-a,q];rfl
 refine V1 ?_;exact⟨by rw[g];rfl,o.au⟩
end
def NY (c:UInt8):jT c=if c.toNat=34 then [92,34]else if c.toNat=92 then [92,92]else if c.toNat=8 then [92,98]else if c.toNat=12 then [92,102]else if c.toNat=10 then [92,110]else if c.toNat=13 then [92,114]else if c.toNat=9 then [92,116]
    else if c.toNat<32 then [92,117,48,48,nU (c.toNat/16),nU (c.toNat%16)]else [c]:=by
  have e: ∀k:UInt8,(c=k)=(c.toNat=k.toNat):=λk=>propext UInt8.toNat_inj.symm;have h:(c<32)=(c.toNat<32):=propext UInt8.lt_iff_toNat_lt;unfold jT;simp only[e,h];rfl
def Z0 (c:UInt8):(jT c).length<=6:=by
 unfold jT
 repeat' split
 all_goals simp
def Gg (l:L8) (i:Nat):L8:=34::(l.take i).flatMap jT
def XE (l:L8) (i:Nat):(Gg l i).length<=6*i+1:=by
 have h:=BU Z0 (l.take i);have a:(l.take i).length<=i:=by rw[zah];omega
 unfold Gg;simp only[zat];omega
section
variable {w:Wd} {l:L8}
def JO (l:L8):L8×Int:=if validD l=true then(vW l,0)else([],40)
end
def adL (e:oo c=some d):d<16:=by
 have:=c.toNat_lt;unfold oo at e
 repeat' split at e
 all_goals first | (injection e with e;omega) | cases e
section
variable {w:Wd} {l:L8}
end
def qz (l:L8) (i:Nat) (out:L8):L8×Nat×Int:=tu (l.length+1-i) (l.drop i) i out
def Rb {o:L8} (h:l.length<=i):qz l i o=([],0,3):=by
 unfold qz;rw[zbv h];cases l.length+1-i<;>rfl
def Z4 {f:Nat} {o:L8} (a:l.length-i<f):tu f (l.drop i) i o=qz l i o:=by
 rcases zdp i (l.length+1)with h | h
 .exact adB Iz Iz
 rw[Rb oM,zbv oM];cases f<;>rfl
def drop_cons (h:i<l.length):l.drop i=l.getD i 0::l.drop (i+1):=by
 rw[zbn h,zao,zaa h];rfl
def EJ {out:L8} (h:i<l.length) (H:c=l.getD i 0):qz l i out=
    if c=34 then(out,i+1,0)else if c<32 then([],0,41)else if c=92 then(if(yI (l.drop i)).2.2≠0 then([],0,(yI (l.drop i)).2.2)else qz l (i+(yI (l.drop i)).2.1) (out++(yI (l.drop i)).1))
    else if(iI (l.drop i)).isSome=true then qz l (i+(lJ (l.drop i)).2) (out++(l.drop i).take (lJ (l.drop i)).2)else([],0,if abe (l.drop i)then 3 else 40):=by
  have t:=drop_cons h;rw[<-H]at t
  have a: ∀n o,1<=n->tu (l.length-i) ((l.drop i).drop n) (i+n) o=qz l (i+n) o:=λn o q=>by
    rw[zga];exact Z4 oM
  rw[show qz l i out=tu (l.length-i+1) (l.drop i) i out by unfold qz;congr 1;omega];rw[t]at a ⊢;rw[tu]
  by_cases j:c=34
  . rw[zac j,zac j]
  rw[zab j,zab j]
  by_cases m:c<32
  . rw[zac m,zac m]
  rw[zab m,zab m]
  by_cases p:c=92
  . rw[zac p,zac p]
    dsimp only
    by_cases g:(yI (c::l.drop (i+1))).2.2≠0
    . rw[zac g,zac g]
    rw[zab g,zab g];refine a _ _ ?_
    rcases NQ (c::l.drop (i+1))with⟨e,z,s⟩ | ⟨b,n,q,s⟩
    . rw[s]at g;exact zas z g
    rw[s];exact q
  rw[zab p,zab p];unfold lJ;cases q:iI (c::l.drop (i+1))with
  | none=>rfl
  | some x=>
    obtain⟨r,n⟩:=x;obtain⟨k,_,_,_,_⟩:=AL q;exact a n _ k
def Lm (r:Int):(encodeRune r).length<=4:=by
 unfold encodeRune encodeRuneZ
 repeat' split
 all_goals simp
section
variable {w:Wd} {l:L8}
end
def aG (t:bZ):LV:=[I t.kind,.bool t.null]
def aj (c:aF):LV:=[.bool c.null,I c.n,str c.s]
def aQ (x:bH):LV:=[I x.kind,I x.n,str x.s]
def aL (c:bF):LV:=[I c.id,str c.name,I c.type.kind,.bool c.type.null,.bool c.dflt.null,I c.dflt.n,str c.dflt.s]
def agg (cs:LV):Value:=.agg cs.toArray
def Z5 {a b:L8}:(((⟨a.toArray⟩:ByteArray).toList==(⟨b.toArray⟩:ByteArray).toList)=true)↔a=b:=by
 rw[ByteArray.toList_mk,ByteArray.toList_mk];simp
section
variable {P:Program} {w:Wd} {d:Nat} {f:Field} {fs:List Field} {xs ys:LV} {u v:Value} {e:Bool}
def JQ (b:(f.name != "_")=true) (i:OneCell P f.type) (c:xs[f.offset]? =some u) (g:ys[f.offset]? =some v) (a:(Op.equalIn d f.type u v).run P w=.ok e w):
    (Op.eqFields d xs.toArray ys.toArray (f::fs)).run P w=if e=true then(Op.eqFields d xs.toArray ys.toArray fs).run P w else .ok false w:=by
  have h:f.name≠ "_" :=by simpa using b
  simp only[Op.eqFields,zac h,zbj,Dj c,Dj g,zar,a];cases e<;>simp
def alJ {k:Nat} {u v:LV} (b:(f.name != "_")=true) (i:Agg P f.type k) (c:(xs.drop f.offset).take k=u) (g:(ys.drop f.offset).take k=v) (a:(Op.equalIn d f.type (.agg u.toArray) (.agg v.toArray)).run P w=.ok e w):
    (Op.eqFields d xs.toArray ys.toArray (f::fs)).run P w=if e=true then(Op.eqFields d xs.toArray ys.toArray fs).run P w else .ok false w:=by
  have h:f.name≠ "_" :=by simpa using b
  simp only[Op.eqFields,zac h,zbj,JC c,JC g,zar,a];cases e<;>simp
def agT:(Op.eqFields d xs.toArray ys.toArray []).run P w=.ok true w:=rfl
def NZ (a b:Int) (h:P.underlying t=some (.int .i64)):(Op.equalIn (d+1) t (I a) (I b)).run P w=.ok (decide (a=b)) w:=by
 rw[show I a=.int .i64 a from rfl,show I b=.int .i64 b from rfl,run_equalIn_int w d t .i64 .i64 a b h];rfl
def agU (a b:Bool) (h:P.underlying t=some .bool):(Op.equalIn (d+1) t (.bool a) (.bool b)).run P w=.ok (decide (a=b)) w:=by
 rw[run_equalIn_bool' w d t a b h];cases a<;>cases b<;>rfl
def Z6 (a b:L8) (h:P.underlying t=some .string):(Op.equalIn (d+1) t (str a) (str b)).run P w=.ok (decide (a=b)) w:=by
 rw[show str a=.string ⟨a.toArray⟩from rfl,show str b=.string ⟨b.toArray⟩from rfl,run_equalIn_string w d t _ _ h]
 congr 1
 rw[zdx,Z5,decide_eq_true_eq]
end
def agV {d:Nat} (a b:aF) (w:Wd):(Op.equalIn (d+2) 48 (.agg (aj a).toArray) (.agg (aj b).toArray)).run Tryz.prog w=.ok (decide (a=b)) w:=by
 rw[run_equalIn_agg w (d+1) _ _ _ kR kR];simp only[Program.fieldsOf,Tryz.underlying48];rw[JQ rfl alD rfl rfl (agU a.null b.null kR),JQ rfl alC rfl rfl (NZ a.n b.n kR),JQ rfl aj6 rfl rfl (Z6 a.s b.s kR),agT];have e:(a=b)=(a.null=b.null/\a.n=b.n/\a.s=b.s):=propext ⟨λh=>by subst h;exact⟨rfl,rfl,rfl⟩,λh=>aF.ext' h.1 h.2.1 h.2.2⟩;simp only[e]
 by_cases c:a.null=b.null<;>by_cases g:a.n=b.n<;>by_cases i:a.s=b.s<;>simp[c,g,i]
def eqType {d:Nat} (a b:bZ) (w:Wd):(Op.equalIn (d+2) 46 (.agg (aG a).toArray) (.agg (aG b).toArray)).run Tryz.prog w=.ok (decide (a=b)) w:=by
 rw[run_equalIn_agg w (d+1) _ _ _ kR kR];simp only[Program.fieldsOf,Tryz.underlying46];rw[JQ rfl aj5 rfl rfl (NZ a.kind b.kind kR),JQ rfl alD rfl rfl (agU a.null b.null kR),agT];have e:(a=b)=(a.kind=b.kind/\a.null=b.null):=propext ⟨λh=>by subst h;exact⟨rfl,rfl⟩,λh=>bZ.ext' h.1 h.2⟩;simp only[e]
 by_cases c:a.kind=b.kind<;>by_cases g:a.null=b.null<;>simp[c,g]
def aj9 {d:Nat} (a b:bH) (w:Wd):(Op.equalIn (d+2) 41 (.agg (aQ a).toArray) (.agg (aQ b).toArray)).run Tryz.prog w=.ok (decide (a=b)) w:=by
 rw[run_equalIn_agg w (d+1) _ _ _ kR kR];simp only[Program.fieldsOf,Tryz.underlying41];rw[JQ rfl aj5 rfl rfl (NZ a.kind b.kind kR),JQ rfl alC rfl rfl (NZ a.n b.n kR),JQ rfl aj6 rfl rfl (Z6 a.s b.s kR),agT];have e:(a=b)=(a.kind=b.kind/\a.n=b.n/\a.s=b.s):=propext ⟨λh=>by subst h;exact⟨rfl,rfl,rfl⟩,λh=>bH.ext' h.1 h.2.1 h.2.2⟩;simp only[e]
 by_cases c:a.kind=b.kind<;>by_cases g:a.n=b.n<;>by_cases i:a.s=b.s<;>simp[c,g,i]
def alK {d:Nat} (a b:bF) (w:Wd):(Op.equalIn (d+3) 50 (.agg (aL a).toArray) (.agg (aL b).toArray)).run Tryz.prog w=.ok (decide (a=b)) w:=by
 rw[run_equalIn_agg w (d+2) _ _ _ kR kR];simp only[Program.fieldsOf,Tryz.underlying50];rw[JQ rfl aj5 rfl rfl (NZ a.id b.id kR),JQ rfl aj6 rfl rfl (Z6 a.name b.name kR),alJ (k:=2) rfl alE rfl rfl (eqType a.type b.type w),alJ (k:=3) rfl alF rfl rfl (agV a.dflt b.dflt w),agT];have e:(a=b)=(a.id=b.id/\a.name=b.name/\a.type=b.type/\a.dflt=b.dflt):=propext ⟨λh=>by subst h;exact⟨rfl,rfl,rfl,rfl⟩,λh=>bF.ext' h.1 h.2.1 h.2.2.1 h.2.2.2⟩;simp only[e]
 by_cases c:a.id=b.id<;>by_cases g:a.name=b.name<;>by_cases i:a.type=b.type<;>by_cases j:a.dflt=b.dflt<;>simp[c,g,i,j]
instance:EqData Tryz.prog 48 aF aj:=⟨λa b w=>agV (d:=9998) a b w,kR⟩
instance:EqData Tryz.prog 46 bZ aG:=⟨λa b w=>eqType (d:=9998) a b w,kR⟩
instance:EqData Tryz.prog 41 bH aQ:=⟨λa b w=>aj9 (d:=9998) a b w,kR⟩
instance:EqData Tryz.prog 50 bF aL:=⟨λa b w=>alK (d:=9997) a b w,kR⟩
end
variable {b k:Nat} {E T:Td}
section rules
variable {P:Program} {r:Option Nat} {n:Nat} {ops:AO} {Q:Post} {rest:LO} {σ:St} {w w' w0:Wd} {S:NP} {rs:List HP} {put:HP->List HP} {ty:Td} {pos:String} {after:Array Edge} {guard:Option (Nat×Bool)} {lv:List Bool} {pd pd':LNB}
def gF [Agg P T k] {cs:LV} (H:Sep w0 S rs w) (i:evF σ x=.pointer (some ⟨b,0,none⟩):=by exact rfl)
    (a:At rs (blk b cs E) put:=by exact aT) (c:cs.length=k:=by exact rfl) (g:Nat.blt d n=true:=by exact rfl) (h:FL P r n ops Q rest (upd σ d (.agg cs.toArray)) w):
    FL P r n ops Q (⟨some d,.load T x,ty,pos,after,none⟩::rest) σ w:=
  FD H i a (us:=cs) (by rw[zdh,<-c,zbo]) c g h
def gY (g:eY n ops=true) (i:Nat) [Agg P T k] {cs:LV} (H:Sep w0 S rs w) (m:ops[i]? =some ⟨some d,.load T x,ty,pos,after,guard⟩:=by exact rfl)
    (o:Region.wanted ⟨some d,.load T x,ty,pos,after,guard⟩ (dG ops σ)=true:=by kernel_rfl) (p:evF σ x=.pointer (some ⟨b,0,none⟩):=by exact rfl)
    (a:At rs (blk b cs E) put:=by exact aT) (j:cs.length=k:=by exact rfl) (c:lU ops lv (pd.map (·.1)) i=true:=by kernel_rfl)
    (h:FG P r n ops Q (lv.set i true) ((i,false)::pd) (upd σ d (.agg cs.toArray)) w):FG P r n ops Q lv pd σ w:=
  aic g i H m o p a (us:=cs) (by rw[zdh,<-j,zbo]) j c h
def iF [Agg P T k] {cs us:LV} (H:Sep w0 S rs w) (g:evF σ x=.pointer (some ⟨b,0,none⟩):=by exact rfl) (i:evF σ y=.agg us.toArray:=by exact rfl)
    (a:At rs (blk b cs E) put:=by exact aT) (hk:us.length=k:=by exact rfl) (j:cs.length=k:=by exact rfl) (hv:us.all Value.oneCell'=true:=by exact rfl)
    (h: ∀w',Sep w0 S (put (blk b us E)) w'->FL P r n ops Q rest σ w'):
    FL P r n ops Q (⟨none,.store T x y,ty,pos,after,none⟩::rest) σ w:=
  Qb H g i hk (λu c=>zaz.1 hv u c) a oM (by rw[zdl,zby,zbv oM,zbt]) h
def OW [i:Agg P T k] {cs C:LV} (H:Sep w0 S rs w) (s:ρ x=.pointer (some ⟨b,0,none⟩)) (t:ρ y=.agg C.toArray)
    (a:At rs (blk b cs E) put) (g:C.length=k) (A:cs.length=k) (q:C.all Value.oneCell'=true): ∃w',Oq P ρ (.store T x y) ty w w'/\Sep w0 S (put (blk b C E)) w':=by
  have c:=H.obj a;have h:=run_storeCells_at P b 0 E C 0 cs.toArray w c kN (λu p=>zaz.1 q u p);have o:cs.take 0++C++cs.drop (0+C.length)=C:=by rw[zdl,zby,zbv oM,zbt]
  refine⟨w.setRow b (cs.take 0++C++cs.drop (0+C.length)).toArray,λ_ _ _ _=>?_,?_⟩
  . simp only[zfi]at h
    simp[execOp,s,t,Instr.storeAt,Instr.sureAddr,storeVar,i.size,Value.cells,g];simp[g]at h;rw[h];simp
  rw[o];refine H.setObj a ⟨rfl,rfl,rfl,sM,λj z m=>?_⟩ ?_
  . simp only[World.setRow,zcw];rw[zab (λe=>m e.symm)]
  simp only[World.setRow,zcw,if_true,c,zdk]
def cu (g:eY n ops=true) (e:Nat) (pd':LNB) [Agg P T k] {cs us:LV} (H:Sep w0 S rs w) (o:ops[e]? =some ⟨none,.store T x y,ty,pos,after,guard⟩:=by exact rfl)
    (s:Region.wanted ⟨none,.store T x y,ty,pos,after,guard⟩ (dG ops σ)=true:=by kernel_rfl) (t:evF σ x=.pointer (some ⟨b,0,none⟩):=by exact rfl) (z:evF σ y=.agg us.toArray:=by exact rfl)
    (a:At rs (blk b cs E) put:=by exact aT) (j:us.length=k:=by exact rfl) (m:cs.length=k:=by exact rfl) (q:us.all Value.oneCell'=true:=by exact rfl)
    (c:gy ops lv (pd.map (·.1)) e=true:=by kernel_rfl) (i:pd.filter (λp=> !((above ops e).contains p.1))=pd':=by exact pD)
    (h: ∀w',Sep w0 S (put (blk b us E)) w'->jK P ops σ w' pd'/\FG P r n ops Q (lv.set e true) pd' σ w'):FG P r n ops Q lv pd σ w:=
  Ww g e pd' o s (OW H t z a j m q) c i h
end rules
end Go.Proofs.Mw
