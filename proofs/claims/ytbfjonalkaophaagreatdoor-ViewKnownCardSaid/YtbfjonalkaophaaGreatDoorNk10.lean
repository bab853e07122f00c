/-
 Orders told by a number:cells,texts,rows. No program stands here.
-/
import Derived.Test.YtbfjonalkaophaaGreatDoorNk9
set_option linter.all false
set_option maxRecDepth 4000
namespace Go.Proofs.Mw
open Go.Lib Go.Proofs.Tryz
attribute [local irreducible] FW FL FG FGn jX lg gD l7 Qfn ah
structure ET {α:Type} (f:α->α->Int):Prop where
 eq0: ∀a b,f a b=0↔a=b
 anti: ∀a b,f b a= -f a b
 trans: ∀a b c,f a b<0->f b c<0->f a c<0
section
variable {α:Type} {f:α->α->Int}
def ET.self (h:ET f) (a:α):f a a=0:=(h.eq0 a a).2 rfl
def ET.irr (h:ET f) {a b:α} (k:f a b<0):a≠b:=λe=>by rw[(h.eq0 a b).2 e]at k;omega
def ET.asymm (h:ET f) {a b:α} (k:f a b<0): ¬f b a<0:=by rw[h.anti];omega
def ET.gt (h:ET f) {a b:α} (S: ¬f a b<0) (k:a≠b):f b a<0:=by
 have:=mt (h.eq0 a b).1 k;rw[h.anti];omega
end
def q8 {α:Type} (f:α->α->Int):List α->List α->Int
 | [],[]=>0
 | [],_::_=> -1
 | _::_,[]=>1
 | a::r,b::s=>if f a b≠0 then f a b else q8 f r s
def aak {α:Type} {f:α->α->Int} (h:ET f):ET (q8 f) where
 eq0:=λa=>by
  induction a with
  | nil=>intro b;cases b<;>simp[q8]
  | cons x r i=>
   intro b;cases b with
   | nil=>simp[q8]
   | cons y s=>
    rw[q8]
    by_cases e:f x y=0
    .rw[zab (not_not_intro e),i,(h.eq0 x y).1 e];simp
    rw[zac e];have:=mt (h.eq0 x y).2 e;simp[e,this]
 anti:=λa=>by
  induction a with
  | nil=>intro b;cases b<;>simp[q8]
  | cons x r i=>
   intro b;cases b with
   | nil=>simp[q8]
   | cons y s=>
    rw[q8,q8];have q:=h.anti x y
    by_cases e:f x y=0
    .rw[zab oM,zab oM,i]
    rw[zac oM,zac e,q]
 trans:=λa=>by
  induction a with
  | nil=>
   intro b c S k;cases b with
   | nil=>simp[q8]at S
   | cons y s=>
    cases c with
    | nil=>simp[q8]at k
    | cons z t=>simp[q8]
  | cons x r i=>
   intro b c S k;cases b with
   | nil=>simp[q8]at S
   | cons y s=>
    cases c with
    | nil=>simp[q8]at k
    | cons z t=>
     rw[q8]at S k |-
     by_cases g:f x y=0
     .have m:=(h.eq0 x y).1 g
      subst m;rw[zab (not_not_intro g)]at S
      by_cases d:f x z=0
      .rw[zab (not_not_intro d)]at k |-
       exact i s t S k
      rw[zac d]at k ⊢;exact k
     rw[zac g]at S
     by_cases d:f y z=0
     .have n:=(h.eq0 y z).1 d
      subst n;rw[zac g];exact S
     rw[zac d]at k;have p:=h.trans x y z S k;rw[zac oM];exact p
def abn (a b:UInt8):Int:=if a<b then -1 else if b<a then 1 else 0
def EU (a b:UInt8):abn a b=if a.toNat<b.toNat then -1 else if b.toNat<a.toNat then 1 else 0:=by unfold abn;simp only[UInt8.lt_iff_toNat_lt]
def aec:ET abn where
 eq0:=λa b=>by
  rw[EU,<-UInt8.toNat_inj]
  split
  .omega
  split<;>omega
 anti:=λa b=>by
  rw[EU,EU]
  split<;>split<;>(try split)<;>omega
 trans:=λa b c h k=>by
  rw[EU]at h k |-
  split at h<;>split at k<;>(try split at h)<;>(try split at k)<;>(try omega)
def Pb: ∀a b:L8,compareBytes a b=q8 abn a b
 | [],[]=>rfl
 | [],_::_=>rfl
 | _::_,[]=>rfl
 | a::r,b::s=>by
  rw[compareBytes,q8,Pb r s];unfold abn
  by_cases h:a<b
  .simp[h]
  by_cases k:b<a
  .simp[h,k]
  simp[h,k]
def GA:ET compareBytes:=by
 have e:compareBytes=q8 abn:=funext λa=>funext λb=>Pb a b;rw[e];exact aak aec
def ahe {a b:aF}:a=b↔a.null=b.null/\a.n=b.n/\a.s=b.s:=⟨λh=>by subst h;exact⟨rfl,rfl,rfl⟩,fun⟨k,S,c⟩=>by cases a;cases b;simp_all⟩
def EW:ET nV where
 eq0:=λa b=>by
  unfold nV;rw[ahe]
  by_cases d:a.null=b.null
  .rw[zac d]
   by_cases k:a.n<b.n
   .rw[zac k];constructor
    .intro h;omega
    intro h;omega
   rw[zab k]
   by_cases S:b.n<a.n
   .rw[zac S];constructor
    .intro h;omega
    intro h;omega
   rw[zab S,GA.eq0];exact⟨λh=>⟨d,oM,h⟩,λh=>h.2.2⟩
  rw[zab d];constructor
  .intro h;split at h<;>omega
  intro h;exact zas h.1 d
 anti:=λa b=>by
  unfold nV
  by_cases d:a.null=b.null
  .rw[zac d,zac d.symm,GA.anti a.s b.s]
   by_cases k:a.n<b.n
   .rw[zac k,zab oM,zac k];omega
   rw[zab k]
   by_cases S:b.n<a.n
   .simp[k,S]
   simp[k,S]
  rw[zab d,zab (λe=>d e.symm)];cases ha:a.null<;>cases hb:b.null<;>simp_all
 trans:=λa b c k S=>by
  unfold nV at k S ⊢;cases ha:a.null<;>cases hb:b.null<;>cases hc:c.null<;>simp only[ha,hb,hc,if_true,if_false,reduceCtorEq,Bool.true_eq_false,Bool.false_eq_true]at k S |- <;>(try omega)
  all_goals
   split at k<;>split at S<;>(try split at k)<;>(try split at S)<;>(try omega)<;>(try (rw[zac oM];omega))
   rw[zab oM,zab oM];exact GA.trans _ _ _ k S
def jU:List aF->List aF->Int:=q8 nV
def gL:ET jU:=aak EW
structure aH where
 row:List aF
 w:Int
def aH.ext' {a b:aH} (h:a.row=b.row) (k:a.w=b.w):a=b:=by cases a;cases b;simp_all
def wtL:List aH->List aF->Int
 | [],_=>0
 | x::l,r=>(if x.row=r then x.w else 0)+wtL l r
def iG (a b:List aH) (r:List aF):wtL (a++b) r=wtL a r+wtL b r:=by
 induction a with
 | nil=>simp[wtL]
 | cons x a i=>rw[zcb,wtL,wtL,i];omega
variable {l:List aH} {r:List aF}
def uj (h: ∀x∈l,x.row≠r):wtL l r=0:=by
 induction l with
 | nil=>rfl
 | cons x l i=>rw[wtL,zab (h x zak),i λy k=>h y (zap _ k)];rfl
def oP (ks:List (List aF)):Prop:=ks.Pairwise λa b=>jU a b<0
def zJ (r:List aF):List (List aF)->List (List aF)
 | []=>[r]
 | k::ks=>if jU r k<0 then r::k::ks else if r=k then k::ks else k::zJ r ks
def Cr {x:List aF}: ∀{S:List (List aF)},x∈zJ r S↔x=r\/x∈S
 | []=>by simp[zJ]
 | k::S=>by
  rw[zJ]
  split
  .simp
  split
  .rename_i h;subst h;simp
  rw[zax,Cr,zax,or_left_comm]
def zK: ∀{c:List (List aF)},oP c->oP (zJ r c)
 | [],_=>List.pairwise_singleton _ _
 | k::c,h=>by
  obtain⟨d,g⟩:=zcs.1 h;rw[zJ]
  split
  .rename_i S
   refine zcs.2 ⟨λy b=>?_,h⟩
   rcases zax.1 b with e | e
   .subst e;exact S
   exact gL.trans _ _ _ S (d y e)
  rename_i S
  split
  .exact h
  rename_i a;refine zcs.2 ⟨λy b=>?_,zK g⟩
  rcases Cr.1 b with e | e
  .subst e;exact gL.gt S a
  exact d y e
def zL: ∀{a b:List (List aF)},oP a->oP b->(∀x,x∈a↔x∈b)->a=b
 | [],[],_,_,_=>rfl
 | [],y::b,_,_,h=>zas ((h y).2 zak) zal
 | x::a,[],_,_,h=>zas ((h x).1 zak) zal
 | x::a,y::b,ha,hb,h=>by
  obtain⟨k,g⟩:=zcs.1 ha;obtain⟨S,i⟩:=zcs.1 hb
  have m:x=y:=by
   rcases zax.1 ((h x).1 zak)with e | e
   .exact e
   rcases zax.1 ((h y).2 zak)with d | d
   .exact d.symm
   exact zas (S x e) (gL.asymm (k y d))
  subst m;rw[zL g i λz=>?_];constructor
  .intro c
   rcases zax.1 ((h z).1 (zap _ c))with e | e
   .exact zas e (gL.irr (k z c)).symm
   exact e
  intro c
  rcases zax.1 ((h z).2 (zap _ c))with e | e
  .exact zas e (gL.irr (S z c)).symm
  exact e
def ni:List aH->List (List aF)
 | []=>[]
 | x::l=>zJ x.row (ni l)
def r9: ∀{l:List aH},r∈ni l↔∃x∈l,x.row=r
 | []=>by simp[ni]
 | x::l=>by
  rw[ni,Cr,r9];simp only[zax,exists_eq_or_imp,eq_comm (a:=r)]
def nk: ∀l:List aH,oP (ni l)
 | []=>List.Pairwise.nil
 | x::l=>zK (nk l)
def GD (f:List aF->Int) (ks:List (List aF)):List aH:=(ks.filter λr=>decide (f r≠0)).map λr=>⟨r,f r⟩
def dJ (l:List aH):List aH×Int:=if(ni l).all (λr=>bM (wtL l r))=true then(GD (wtL l) (ni l),0)else([],50)
def isZ (z:List aH):Prop:=oP (z.map (·.row))/\(∀x∈z,x.w≠0)/\∀x∈z,bM x.w=true
def aal:bM 0=true:=dC
def akQ {f g:List aF->Int} {a b:List (List aF)} (S:oP a) (c:oP b) (k: ∀r,f r=g r) (h: ∀r,f r≠0->(r∈a↔r∈b)):GD f a=GD g b:=by
 have e:f=g:=funext k;subst e;unfold GD;rw[zL (S.sublist zec) (c.sublist zec) λr=>?_];simp only[zca,decide_eq_true_eq];exact and_congr_left λd=>h r d
def uV:(ni l).all (λr=>bM (wtL l r))=true↔∀r,bM (wtL l r)=true:=by
 rw[zaz];constructor
 .intro h r
  by_cases k:r∈ni l
  .exact h r k
  rw[uj λx S e=>k (r9.2 ⟨x,S,e⟩)];exact aal
 exact λh r _=>h r
def GH (h:wtL l r≠0):r∈ni l:=by
 refine Classical.byContradiction λk=>h (uj λx S e=>k (r9.2 ⟨x,S,e⟩))
variable {a b:List aH}
def yN (h: ∀r,wtL a r=wtL b r):dJ a=dJ b:=by
 unfold dJ
 by_cases k: ∀r,bM (wtL a r)=true
 .rw[zac (uV.2 k),zac (uV.2 λr=>by rw[<-h];exact k r)]
  rw[akQ (nk a) (nk b) h λr S=>⟨λ_=>GH (by rw[<-h];exact S),λ_=>GH S⟩]
 rw[zab (mt uV.1 k),zab (mt uV.1 λc=>k λr=>by rw[h];exact c r)]
def Cu:(dJ l).2=0↔∀r,bM (wtL l r)=true:=by
 unfold dJ
 by_cases k: ∀r,bM (wtL l r)=true
 .rw[zac (uV.2 k)];exact⟨λ_=>k,λ_=>rfl⟩
 rw[zab (mt uV.1 k)];exact⟨λh=>zas h dC,λh=>zas h k⟩
def qF (h:(dJ l).2≠0):dJ l=([],50):=by
 unfold dJ at h |-
 split
 .rename_i k;rw[zac k]at h;exact zas rfl h
 rfl
def RA (h:(dJ l).2=0):dJ l=(GD (wtL l) (ni l),0):=zac (uV.2 (Cu.1 h))
def ahf (f:List aF->Int) (k:List (List aF)):(GD f k).map (·.row)=k.filter λr=>decide (f r≠0):=by
 unfold GD;rw[zdn];exact List.map_id _
def GI {f:List aF->Int} {c:List (List aF)} {x:aH}:x∈GD f c↔x.row∈c/\f x.row≠0/\x.w=f x.row:=by
 unfold GD;rw[zav];constructor
 .rintro⟨r,a,rfl⟩
  obtain⟨h,k⟩:=zca.1 a;exact⟨h,zbe k,rfl⟩
 rintro⟨h,k,S⟩;exact⟨x.row,zca.2 ⟨h,zau k⟩,aH.ext' rfl S.symm⟩
def sj {l:List aH}:isZ (dJ l).1:=by
 by_cases h:(dJ l).2=0
 .rw[RA h]
  refine⟨?_,λx k=>?_,λx k=>?_⟩
  .show oP ((GD _ _).map (·.row))
   rw[ahf];exact(nk l).sublist zec
  .obtain⟨_,a,S⟩:=GI.1 k;rw[S];exact a
  obtain⟨_,_,S⟩:=GI.1 k;rw[S];exact Cu.1 h _
 rw[qF h];exact⟨List.Pairwise.nil,λx k=>zas k zal,λx k=>zas k zal⟩
def EX: ∀{z:List aH},(z.map (·.row)).Nodup->∀x∈z,wtL z x.row=x.w
 | [],_,x,hx=>zas hx zal
 | y::z,h,x,hx=>by
  rw[zbc,zfg]at h;rw[wtL]
  rcases zax.1 hx with e | e
  .subst e
   rw[zac rfl,uj λu S e=>h.1 (by rw[<-e];exact zdj S)];omega
  rw[zab λk=>h.1 (by rw[k];exact zdj e),EX h.2 x e];omega
def oQ {S:List (List aF)} (h:oP S):S.Nodup:=h.imp λk=>gL.irr k
def Cv (h:(dJ l).2=0) (r:List aF):wtL (dJ l).1 r=wtL l r:=by
 have S:=sj (l:=l);rw[RA h]at S |-
 by_cases k:wtL l r=0
 .rw[k]
  exact uj λx a e=>(GI.1 a).2.1 (by rw[e];exact k)
 exact EX (oQ S.1) ⟨r,wtL l r⟩ (GI.2 ⟨GH k,k,rfl⟩)
def ajc {z:List aH} (h:isZ z) (r:List aF):bM (wtL z r)=true:=by
 by_cases S: ∃x∈z,x.row=r
 .obtain⟨x,k,rfl⟩:=S
  rw[EX (oQ h.1) x k];exact h.2.2 x k
 rw[uj λx k e=>S ⟨x,k,e⟩];exact aal
def GJ {z:List aH} (h:isZ z):dJ z=(z,0):=by
 have c:ni z=z.map (·.row):=zL (nk z) h.1 λr=>by rw[r9,zav]
 have b:(dJ z).2=0:=Cu.2 (ajc h);rw[RA b,c];unfold GD;have a:=EX (oQ h.1)
 have e: ∀l:List aH,(∀x∈l,x∈z)->((l.map (·.row)).filter λr=>decide (wtL z r≠0)).map (λr=>(⟨r,wtL z r⟩:aH))=l:=λl=>by
  induction l with
  | nil=>intro _;rfl
  | cons x l i=>
   intro S;have k:=S x zak;rw[zbc,List.filter_cons_of_pos (by rw[a x k];exact zau (h.2.1 x k)),zbc,i λy d=>S y (zap _ d),a x k]
 rw[e z λx k=>k]
def Uu (a b:List aH):List aH×Int:=dJ (a++b)
def aed (h:(dJ a).2=0):dJ ((dJ a).1++b)=dJ (a++b):=yN λr=>by rw[iG,iG,Cv h]
def abo (h:(dJ b).2=0):dJ (a++(dJ b).1)=dJ (a++b):=yN λr=>by rw[iG,iG,Cv h]
structure bT where
 key:List aF
 vals:List aF
 w:Int
def EY (x:bT) (i:Nat):Int:=if i=0 then x.w else if(x.vals.getD (i-1) cell0).null=true then 0 else x.w*(x.vals.getD (i-1) cell0).n
def jV:List bT->List aF->Nat->Int
 | [],_,_=>0
 | x::l,k,i=>(if x.key=k then EY x i else 0)+jV l k i
def uW (a b:List bT) (k:List aF) (i:Nat):jV (a++b) k i=jV a k i+jV b k i:=by
 induction a with
 | nil=>simp[jV]
 | cons x a h=>rw[zcb,jV,jV,h];omega
variable {i:Nat}
def uX {l:List bT} {k:List aF} (h: ∀x∈l,x.key≠k):jV l k i=0:=by
 induction l with
 | nil=>rfl
 | cons x l a=>rw[jV,zab (h x zak),a λy S=>h y (zap _ S)];rfl
def sw:List bT->List (List aF)
 | []=>[]
 | x::l=>zJ x.key (sw l)
def ql: ∀{l:List bT},r∈sw l↔∃x∈l,x.key=r
 | []=>by simp[sw]
 | x::l=>by
  rw[sw,Cr,ql];simp only[zax,exists_eq_or_imp,eq_comm (a:=r)]
def um: ∀l:List bT,oP (sw l)
 | []=>List.Pairwise.nil
 | x::l=>zK (um l)
def Ef {l:List bT} {k:List aF} (h:jV l k i≠0):k∈sw l:=
 Classical.byContradiction λS=>h (uX λx a e=>S (ql.2 ⟨x,a,e⟩))
def qC (keys sums:Nat) (x:bT):Bool:=decide (x.key.length=keys/\x.vals.length=sums)&&x.vals.all λc=>decide (c.s=[]/\¬(c.null=true/\c.n≠0))
def xq (sums:Nat) (l:List bT):Bool:=(sw l).all λk=>(List.range (sums+1)).all λi=>bM (jV l k i)
def uY {sums:Nat} {l:List bT}:xq sums l=true↔∀k i,i<=sums->bM (jV l k i)=true:=by
 unfold xq;rw[zaz];constructor
 .intro h k i hi
  by_cases S:k∈sw l
  .exact zaz.1 (h k S) i (zeg.2 oM)
  rw[uX λx a e=>S (ql.2 ⟨x,a,e⟩)];exact aal
 intro h k _;rw[zaz];exact λi hi=>h k i (by have:=zeg.1 hi;omega)
def gW (n:Int):aF:=⟨false,n,[]⟩
def abp (sums:Nat) (l:List bT) (k:List aF):List aF:=k++(List.range (sums+1)).map λi=>gW (jV l k i)
def mE (sums:Nat) (l:List bT):List aH:=((sw l).filter λk=>decide (jV l k 0≠0)).map λk=>⟨abp sums l k,1⟩
def LA: ∀{a b:List aF} (x y:List aF),a.length=b.length->jU a b<0->jU (a++x) (b++y)<0
 | [],[],_,_,_,h=>zas h (by simp[jU,q8])
 | [],_::_,_,_,h,_=>by simp at h
 | _::_,[],_,_,h,_=>by simp at h
 | c::a,d::b,x,y,hl,h=>by
  unfold jU at h ⊢;rw[zcb,zcb];rw[q8]at h |-
  split at h
  .rename_i e;rw[zac e];exact h
  rename_i e;rw[zab e];exact LA x y (by simpa using hl) h
def LB {keys sums:Nat} {l:List bT} (h: ∀x∈l,x.key.length=keys):isZ (mE sums l):=by
 have c: ∀k∈sw l,k.length=keys:=λk c=>by
  obtain⟨x,S,rfl⟩:=ql.1 c;exact h x S
 refine⟨?_,λx S=>?_,λx S=>?_⟩
 .unfold mE
  rw[zdn];show List.Pairwise _ (List.map (λk=>abp sums l k) _)
  rw[zft];have i:=((um l).sublist (zec (p:=λk=>decide (jV l k 0≠0))));refine List.Pairwise.imp_of_mem (λ{a b} e g d=>?_) i;exact LA _ _ (by rw[c a (zca.1 e).1,c b (zca.1 g).1]) d
 .unfold mE at S
  obtain⟨k,_,rfl⟩:=zav.1 S;show(1:Int)≠0
  decide
 unfold mE at S;obtain⟨k,_,rfl⟩:=zav.1 S;show bM 1=true
 decide
def yu (l:List aH):List aH:=l.map λx=>⟨x.row, -x.w⟩
def XW (l:List aH) (r:List aF):wtL (yu l) r= -wtL l r:=by
 induction l with
 | nil=>rfl
 | cons x l i=>
  show wtL (⟨x.row, -x.w⟩::yu l) r=_
  rw[wtL,wtL,i];dsimp only
  split<;>omega
def aam {keys sums:Nat} {l:List bT} (h: ∀x∈l,x.key.length=keys) (r:List aF):wtL (mE sums l) r=0\/wtL (mE sums l) r=1:=by
 by_cases a: ∃x∈mE sums l,x.row=r
 .obtain⟨x,S,rfl⟩:=a
  rw[EX (oQ (LB h).1) x S];unfold mE at S;obtain⟨k,_,rfl⟩:=zav.1 S;exact .inr rfl
 exact .inl (uj λx S e=>a ⟨x,S,e⟩)
def wA (v:Int):Int:=v%18446744073709551616
def wB (v:Int):Int:=v/18446744073709551616%18446744073709551616
def wC (v:Int):Int:=v/340282366920938463463374607431768211456%18446744073709551616
def nu (v:Int):(0<=wA v/\wA v<18446744073709551616)/\(0<=wB v/\wB v<18446744073709551616)/\0<=wC v/\wC v<18446744073709551616:=by
 unfold wA wB wC;omega
def K6 (v:Int):v/340282366920938463463374607431768211456=v/18446744073709551616/18446744073709551616:=oM
def ahg {n:Int} (h: -9223372036854775808<=n) (k:n<9223372036854775808):wB n=(if n<0 then 18446744073709551615 else 0)/\wC n=if n<0 then 18446744073709551615 else 0:=by
 unfold wB wC;rw[K6]
 split<;>omega
def aee (x y:Int):wA (x+y)=(wA x+wA y)%18446744073709551616/\wB (x+y)=(wB x+wB y+(wA x+wA y)/18446744073709551616)%18446744073709551616/\
    wC (x+y)=(wC x+wC y+(wB x+wB y+(wA x+wA y)/18446744073709551616)/18446744073709551616)%18446744073709551616:=by
  have h: ∀v:Int,wC v=v/18446744073709551616/18446744073709551616%18446744073709551616:=λv=>by unfold wC;rw[K6]
  rw[h,h,h];unfold wA wB;have e:(x+y)/18446744073709551616=x/18446744073709551616+y/18446744073709551616+(x%18446744073709551616+y%18446744073709551616)/18446744073709551616:=oM;rw[e]
  generalize x/18446744073709551616=p
  generalize y/18446744073709551616=q
  generalize (x%18446744073709551616+y%18446744073709551616)/18446744073709551616=c
  refine⟨oM,oM,?_⟩;omega
def yw (v:Int):Int:=if wA v<9223372036854775808 then wA v else wA v-18446744073709551616
def aef {v:Int} (m: -3138550867693340381917894711603833208051177722232017256448<=v) (n:v<3138550867693340381917894711603833208051177722232017256448):
    (wA (yw v)=wA v/\wB (yw v)=wB v/\wC (yw v)=wC v)↔bM v=true:=by
  have S: ∀v:Int,wC v=v/18446744073709551616/18446744073709551616%18446744073709551616:=λv=>by unfold wC;rw[K6]
  have d: -9223372036854775808<=yw v/\yw v<=9223372036854775807:=by
    have:=(nu v).1;unfold yw
    split<;>omega
  unfold bM;rw[decide_eq_true_iff];constructor
  . intro ⟨a,b,c⟩
    rw[S,S]at c;unfold wA at a;unfold wB at b
    generalize p:yw v=u at *
    have g:u/18446744073709551616/18446744073709551616=v/18446744073709551616/18446744073709551616:=oM;have i:u/18446744073709551616=v/18446744073709551616:=oM;have k:u=v:=oM;rw[<-k];exact d
  intro h
  have e:yw v=v:=by
    unfold yw wA
    split<;>omega
  rw[e];exact⟨rfl,rfl,rfl⟩
def Cy {a b:Int} (S:cB a) (c:cB b): -85070591730234615865843651857942052864<=a*b/\a*b<=85070591730234615865843651857942052864:=by
 have h:a.natAbs<=9223372036854775808:=by unfold cB at S;omega
 have k:b.natAbs<=9223372036854775808:=by unfold cB at c;omega
 have d:(a*b).natAbs<=9223372036854775808*9223372036854775808:=by rw[Int.natAbs_mul];exact Nat.mul_le_mul h k
 omega
def aeg {a b:Int} (g:cB a) (i:cB b):wA (a*b)=wA a*wA b%18446744073709551616/\
    wB (a*b)=(wA a*wA b/18446744073709551616-(((if b<0 then wA a else 0)+if a<0 then wA b else 0)%18446744073709551616))%18446744073709551616/\
    wC (a*b)=if wB (a*b)<9223372036854775808 then 0 else 18446744073709551615:=by
  obtain⟨n,q⟩:=Cy g i;have c:wA a=if a<0 then a+18446744073709551616 else a:=by unfold cB at g;unfold wA;split<;>omega
  have d:wA b=if b<0 then b+18446744073709551616 else b:=by unfold cB at i;unfold wA;split<;>omega
  have e:wA a*wA b=a*b+(if a<0 then 18446744073709551616*b else 0)+(if b<0 then 18446744073709551616*a else 0)+(if a<0/\b<0 then 340282366920938463463374607431768211456 else 0):=by
    rw[c,d]
    by_cases k:a<0<;>by_cases S:b<0
    . rw[zac k,zac S,zac k,zac S,zac ⟨k,S⟩,Int.add_mul,Int.mul_add,Int.mul_add];omega
    . rw[zac k,zab S,zac k,zab S,zab (λh=>S h.2),Int.add_mul];omega
    . rw[zab k,zac S,zab k,zac S,zab (λh=>k h.1),Int.mul_add];omega
    rw[zab k,zab S,zab k,zab S,zab (λh=>k h.1)];omega
  generalize a*b=p at *
  have m: ∀v:Int,wC v=v/18446744073709551616/18446744073709551616%18446744073709551616:=λv=>by unfold wC;rw[K6]
  refine⟨?_,?_,?_⟩
  . rw[e]
    unfold wA
    by_cases k:a<0<;>by_cases S:b<0<;>simp only[k,S,if_true,if_false,and_self,and_false,false_and]<;>omega
  . rw[e,c,d]
    unfold wB
    by_cases k:a<0<;>by_cases S:b<0<;>simp only[k,S,if_true,if_false,and_self,and_false,false_and]<;>omega
  rw[m];unfold wB
  split<;>omega
def CB (s:List aH):Prop:=s.Pairwise λa b=>jU a.row b.row<=0
def GK {a b c:List aF} (h:jU a b<=0) (k:jU b c<0):jU a c<0:=by
 rcases Int.lt_or_lt_of_ne (a:=jU a b) (b:=0) |> λf=>(Decidable.em (jU a b=0)).imp id f with e | e | e
 .rw[(gL.eq0 a b).1 e];exact k
 .exact gL.trans _ _ _ e k
 omega
def GL {a b c:List aF} (h:jU a b<0) (k:jU b c<=0):jU a c<0:=by
 rcases Decidable.em (jU b c=0)with e | e
 .rw[<-(gL.eq0 b c).1 e];exact h
 exact gL.trans _ _ _ h oM
structure xH (l o s:List aH):Prop where
 wt: ∀r,wtL o r+wtL s r=wtL l r
 srt:CB s
 oz:isZ o
 lt: ∀x∈o,∀y∈s,jU x.row y.row<0
def Uv (h:a.Perm b) (r:List aF):wtL a r=wtL b r:=by
 induction h with
 | nil=>rfl
 | cons x _ i=>rw[wtL,wtL,i]
 | swap x y l=>rw[wtL,wtL,wtL,wtL];omega
 | trans _ _ k S=>exact k.trans S
def xH.start {s:List aH} (k:s.Perm l) (S:CB s):xH l [] s:=
 ⟨λr=>by rw[wtL,Uv k];omega,S,⟨List.Pairwise.nil,λ_ h=>zas h zal,λ_ h=>zas h zal⟩,λ_ h=>zas h zal⟩
def xH.done {o:List aH} (h:xH l o []):dJ l=(o,0):=by
 rw[<-GJ h.oz];exact yN λr=>by rw[<-h.wt r];simp[wtL]
variable {l o s:List aH} {x:aH} {j:Nat}
def xH.first (h:xH l o s) (d:s[0]? =some x) (v: ∀y,s[j]? =some y->y.row≠x.row):wtL (s.take j) x.row=wtL l x.row/\∀y∈s.drop j,jU x.row y.row<0:=by
 have u: ∀y∈s.drop j,jU x.row y.row<0:=by
  intro y S;obtain⟨z,t,r⟩: ∃z t,s.drop j=z::t:=List.exists_cons_of_ne_nil (List.ne_nil_of_mem S)
  have k:s[j]? =some z:=by
   have:=zay (λq=>q[0]?) r;simpa[zco]using this
  have g:0<j:=by
   rcases zeh j with e | e
   .subst e;rw[d]at k;injection k with k;subst k;exact zas rfl (v x d)
   exact e
  have c:=h.srt;have H:CB (s.take j++s.drop j):=by rw[zbs];exact c
  obtain⟨_,b,n⟩:=List.pairwise_append.1 H;have p:x∈s.take j:=zag (i:=0) (by rw[zcq,zac g];exact d);have A:=n x p z (by rw[r];exact zak);have m:=v z k
  have a:jU x.row z.row<0:=by
   have:=mt (gL.eq0 x.row z.row).1 λe=>m e.symm;omega
  rw[r]at S b
  rcases zax.1 S with e | e
  .rw[e];exact a
  exact GL a ((zcs.1 b).1 y e)
 refine⟨?_,u⟩;have C:wtL s x.row=wtL (s.take j) x.row+wtL (s.drop j) x.row:=by rw[<-iG,zbs]
 have D:wtL (s.drop j) x.row=0:=uj λy S e=>gL.irr (u y S) e.symm;have E:wtL o x.row=0:=uj λy S e=>gL.irr (h.lt y S x (zag d)) e;have:=h.wt x.row;omega
def xH.bad (h:xH l o s) (a:s[0]? =some x) (S: ∀y,s[j]? =some y->y.row≠x.row) (k:bM (wtL (s.take j) x.row)≠true):dJ l=([],50):=by
 refine qF λe=>k ?_;rw[(h.first a S).1];exact Cu.1 e _
def xH.step (h:xH l o s) (n:s[0]? =some x) (S: ∀y∈s.take j,y.row=x.row) (H: ∀y,s[j]? =some y->y.row≠x.row) (v:bM (wtL (s.take j) x.row)=true):
    xH l (if wtL (s.take j) x.row≠0 then o++[⟨x.row,wtL (s.take j) x.row⟩]else o) (s.drop j):=by
  obtain⟨A,q⟩:=h.first n H;have c:CB (s.drop j):=h.srt.sublist (List.drop_sublist _ _)
  have m: ∀r,wtL s r=(if x.row=r then wtL (s.take j) x.row else 0)+wtL (s.drop j) r:=λr=>by
    have :wtL s r=wtL (s.take j) r+wtL (s.drop j) r:=by rw[<-iG,zbs]
    by_cases e:x.row=r
    . rw[zac e,<-e];rw[<-e]at this;exact this
    rw[zab e,this,uj λy k p=>e (by rw[<-S y k];exact p)]
  by_cases d:wtL (s.take j) x.row≠0
  . rw[zac d]
    refine⟨λr=>?_,c,⟨?_,λy k=>?_,λy k=>?_⟩,λy k z g=>?_⟩
    . rw[iG,<-h.wt r,m r,wtL,wtL];dsimp only;omega
    . unfold oP
      rw[zan,List.pairwise_append];refine⟨h.oz.1,List.pairwise_singleton _ _,λa u b i=>?_⟩;obtain⟨y,k,rfl⟩:=zav.1 u;simp at i;subst i;exact h.lt y k x (zag n)
    . rcases zbh.1 k with e | e
      . exact h.oz.2.1 y e
      rw[zaw]at e;subst e;exact d
    . rcases zbh.1 k with e | e
      . exact h.oz.2.2 y e
      rw[zaw]at e;subst e;exact v
    rcases zbh.1 k with e | e
    . exact h.lt y e z (zeq g)
    rw[zaw]at e;subst e;exact q z g
  rw[zab d];refine⟨λr=>?_,c,h.oz,λy k z g=>h.lt y k z (zeq g)⟩;have t:wtL (s.take j) x.row=0:=Decidable.of_not_not d;rw[<-h.wt r,m r,t]
  split<;>omega
def iJ:List aH->Bool
 | []=>true
 | [x]=>decide (x.w≠0)
 | x::y::l=>decide (x.w≠0/\jU x.row y.row<0)&&iJ (y::l)
def yO: ∀{z:List aH},isZ z->iJ z=true
 | [],_=>rfl
 | [x],h=>zau (h.2.1 x zak)
 | x::y::l,h=>by
  obtain⟨a,S,b⟩:=h;obtain⟨c,d⟩:=zcs.1 a;rw[iJ,yO (z:=y::l) ⟨d,λz k=>S z (zap _ k),λz k=>b z (zap _ k)⟩,Bool.and_true];exact zau ⟨S x zak,c _ zak⟩
def yP {z:List aH}:iJ z=true↔(∀x∈z,x.w≠0)/\∀(i:Nat) x y,z[i]? =some x->z[i+1]? =some y->jU x.row y.row<0:=by
 match z with
 | []=>simp[iJ]
 | [x]=>simp[iJ]
 | x::y::l=>
  rw[iJ,zbr,decide_eq_true_eq,yP (z:=y::l)];constructor
  .rintro⟨⟨S,c⟩,d,g⟩
   refine⟨λa h=>?_,λi a b h k=>?_⟩
   .rcases zax.1 h with e | e
    .rw[e];exact S
    exact d a e
   cases i with
   | zero=>simp at h k;subst h;subst k;exact c
   | succ i=>exact g i a b Iy (by simpa using k)
  rintro⟨S,c⟩;exact⟨⟨S x zak,c 0 x y rfl rfl⟩,λa h=>S a (zap _ h),λi a b h k=>c (i+1) a b Iy (by simpa using k)⟩
def shl:Int->Nat->Int
 | v,0=>v
 | v,i+1=>shl v i/4294967296
def dgt (v:Int) (i:Nat):Int:=shl v i%4294967296
def KO (v:Int):List Int:=(List.range 6).map (dgt v)
def nW (v:Int) (i:Nat):0<=dgt v i/\dgt v i<4294967296:=by unfold dgt;omega
def EZ (v:Int) (i:Nat):shl v i=4294967296*shl v (i+1)+dgt v i:=by
 show shl v i=4294967296*(shl v i/4294967296)+shl v i%4294967296
 omega
def RB (x y:Int): ∀i,shl (x+y) i-shl x i-shl y i=0\/shl (x+y) i-shl x i-shl y i=1
 | 0=>.inl (by show x+y-x-y=0;omega)
 | i+1=>by
  have h:=RB x y i;show shl (x+y) i/4294967296-shl x i/4294967296-shl y i/4294967296=0\/shl (x+y) i/4294967296-shl x i/4294967296-shl y i/4294967296=1
  omega
def ahh (x y:Int) (i:Nat):dgt (x+y) i=(dgt x i+dgt y i+(shl (x+y) i-shl x i-shl y i))%4294967296/\
    shl (x+y) (i+1)-shl x (i+1)-shl y (i+1)=(dgt x i+dgt y i+(shl (x+y) i-shl x i-shl y i))/4294967296:=by
  have h:=RB x y i;unfold dgt;show _/\shl (x+y) i/4294967296-shl x i/4294967296-shl y i/4294967296=_
  omega
def aan (v:Int): ∀i,shl (-1-v) i= -1-shl v i
 | 0=>rfl
 | i+1=>by
  show shl (-1-v) i/4294967296= -1-shl v i/4294967296
  rw[aan v i];omega
def ahi (v:Int) (i:Nat):dgt (-1-v) i=4294967295-dgt v i:=by
 unfold dgt;rw[aan];omega
variable {y:Int}
def Uw {x:Int}: ∀i,shl x i<shl y i->x<y
 | 0,h=>h
 | i+1,h=>Uw i (by have h:shl x i/4294967296<shl y i/4294967296:=h;omega)
def aeh {x:Int} (h:shl x (i+1)=shl y (i+1)) (k:dgt x i<dgt y i):x<y:=by
 refine Uw i ?_;rw[EZ x i,EZ y i,h];omega
def ajd {x:Int} (h:shl x (i+1)=shl y (i+1)) (k:dgt x i=dgt y i):shl x i=shl y i:=by
 rw[EZ x i,EZ y i,h,k]
def aao {v:Int} (k: -3138550867693340381917894711603833208051177722232017256448<=v) (S:v<3138550867693340381917894711603833208051177722232017256448):
    shl v 6=(if v<0 then -1 else 0)/\(2147483648<=dgt v 5↔v<0):=by
  have h:shl v 6=v/4294967296/4294967296/4294967296/4294967296/4294967296/4294967296:=rfl;have e:dgt v 5=v/4294967296/4294967296/4294967296/4294967296/4294967296%4294967296:=rfl;rw[h,e];constructor
  . split<;>omega
  omega
def DJ (b:Bool):L8:=if b=true then [116,114,117,101]else [102,97,108,115,101]
def yQ (c:aF):L8:=DJ c.null++(32::(itoa c.n++(32::(itoa (c.s.length:Int)++(32::c.s)))))
def fJ (k:List aF):L8:=k.flatMap yQ
def iA (k:List aF):Prop:=∀c∈k,(-9223372036854775808<=c.n/\c.n<=9223372036854775807)/\c.s.length<=1000000
def CF: ∀{a b x y:L8},(∀c∈a,c≠32)->(∀c∈b,c≠32)->a++32::x=b++32::y->a=b/\x=y
 | [],[],x,y,_,_,h=>by simpa using h
 | [],d::b,x,y,_,hb,h=>by
  simp only[zby,zcb,List.cons.injEq]at h;exact zas h.1.symm (hb d zak)
 | c::a,[],x,y,ha,_,h=>by
  simp only[zby,zcb,List.cons.injEq]at h;exact zas h.1 (ha c zak)
 | c::a,d::b,x,y,ha,hb,h=>by
  simp only[zcb,List.cons.injEq]at h;obtain⟨S,e⟩:=CF (a:=a) (b:=b) (λz k=>ha z (zap _ k)) (λz k=>hb z (zap _ k)) h.2;exact⟨by rw[h.1,S],e⟩
def Ux (b:Bool): ∀c∈DJ b,c≠32:=by cases b<;>decide
def abq {a b:Bool} (h:DJ a=DJ b):a=b:=by cases a<;>cases b<;>first | rfl | exact zas h dC
def Uy {a b:Int} (k: -9223372036854775808<=a/\a<=9223372036854775807) (S: -9223372036854775808<=b/\b<=9223372036854775807) (h:itoa a=itoa b):a=b:=by
 rw[<-xY k.1 k.2,h,xY S.1 S.2]
def UA (c:aF) (x:L8):yQ c++x≠[]:=by
 unfold yQ DJ;cases c.null<;>simp
def abr {c d:aF} {x y:L8} (m:(-9223372036854775808<=c.n/\c.n<=9223372036854775807)/\c.s.length<=1000000) (p:(-9223372036854775808<=d.n/\d.n<=9223372036854775807)/\d.s.length<=1000000)
    (h:yQ c++x=yQ d++y):c=d/\x=y:=by
  unfold yQ at h;simp only[zbp,zcb]at h;obtain⟨k,S⟩:=CF (Ux _) (Ux _) h;obtain⟨a,b⟩:=CF (Du _) (Du _) S;obtain⟨e,g⟩:=CF (Du _) (Du _) b;have u:=Uy m.1 p.1 a
  have q:c.s.length=d.s.length:=by
    have:=Uy oM oM e;omega
  obtain⟨r,i⟩:=List.append_inj g q;refine⟨?_,i⟩;have t:=abq k;cases c;cases d;simp_all
def CG: ∀{a b:List aF},iA a->iA b->fJ a=fJ b->a=b
 | [],[],_,_,_=>rfl
 | [],d::b,_,_,h=>by
  unfold fJ at h;rw[zfa,zbi]at h;exact zas h.symm (UA d _)
 | c::a,[],_,_,h=>by
  unfold fJ at h;rw[zfa,zbi]at h;exact zas h (UA c _)
 | c::a,d::b,ha,hb,h=>by
  unfold fJ at h;rw[zbi,zbi]at h;obtain⟨S,e⟩:=abr (ha c zak) (hb d zak) h;rw[S,CG (a:=a) (b:=b) (λz k=>ha z (zap _ k)) (λz k=>hb z (zap _ k)) e]
def Pd (c:aF) (h:(-9223372036854775808<=c.n/\c.n<=9223372036854775807)/\c.s.length<=1000000):(yQ c).length<=1000100:=by
 have k:=BX h.1.1 h.1.2;have S:=BX (n:=(c.s.length:Int)) oM oM;have a:(DJ c.null).length<=5:=by cases c.null<;>decide
 unfold yQ;simp only[zad,zat];omega
def tH {α:Type} (w:Wd) (fv:Value) (enc:α->Value) (p:α->Bool):Prop:=
 ∃f fs cs,fv=.func (.func f) (List.toArray fs) (List.toArray cs)/\qB prog f/\∀x w',aS noB w w'->aX prog f (fs++[enc x]++cs) w' λv w''=>v=.bool (p x)/\aS noB w' w''
variable {fv:Value}
def tH.aK {α:Type} {w w':Wd} {enc:α->Value} {p:α->Bool} (h:tH w fv enc p) (d:aS noB w w'):tH w' fv enc p:=by
 obtain⟨f,fs,cs,a,b,c⟩:=h;exact⟨f,fs,cs,a,b,λx S k=>c x S (d.Lv k)⟩
def zM (o:Option Nat):Int:=match o with | none=> -1 | some i=>i
def CJ {α:Type} {l:List α} {p:α->Bool}:decide (zM (l.findIdx? p)≥0)=l.any p:=by
 cases h:l.findIdx? p with
 | none=>
  rw[zdc]at h;show decide ((-1:Int)≥0)=_
  rw[eq_comm,show decide ((-1:Int)≥0)=false from rfl,List.any_eq_false];intro x a;rw[h x a];simp
 | some i=>
  obtain⟨k,S,_⟩:=zcr.1 h;show decide ((i:Int)≥0)=_
  rw[eq_comm,zau (show(i:Int)≥0 from oM),zgc];exact⟨_,zgd k,S⟩
variable {w:Wd}
variable {v:Value}
def UC {l:List bF} {p:bF->Bool} (F:aP w v aL 7 l) (J:tH w fv (λx=>agg (aL x)) p):Rk prog 254 [v,fv] w (I (zM (l.findIdx? p))):=by
 obtain⟨A,m,rfl,⟨N,G⟩,M⟩:=F;obtain⟨f,u,cs,rfl,C,a⟩:=J;have H:=Sep.aI w;refine dn func254 ?_;refine V4 ?_;refine aM (λi:Nat=>[(0,.slice A l.length m),(1,.func (.func f) u.toArray cs.toArray),(7,I l.length),(8,I i)]) (λi L=>(i<=l.length/\∀(j:Nat) y,j<i->l[j]? =some y->p y=false)/\Sep w noB [] L) (λi _=>l.length-i) 0 tR ⟨⟨zai _,λj y E=>oM⟩,H⟩ (λi R P z=>?_);obtain⟨⟨hi,S⟩,b⟩:=z;refine Lp ?_;refine Cz (λd=>?_) (λd=>?_)
 .have n:i<l.length:=oM
  obtain⟨x,t⟩:=aN n;refine V7 ?_;refine fQ rfl (a x _ b.au) rfl rfl (λO Q K=>?_);obtain⟨rfl,g⟩:=K;have r:=b.aK g;refine Qn (Cd rfl (λc=>?_) (λc=>?_))
  .have h:l.findIdx? p=some i:=uI S t c
   refine V2 ?_;exact⟨by rw[h];rfl,r.au⟩
  have q:=c;refine V2 ?_;exact ak (i+1) tR ⟨⟨oM,λj y E k=>by
  by_cases e:j=i
  .subst e;rw[t]at k;injection k with k;rw[<-k];exact zdr _▸q
  exact S j y oM k⟩,r⟩ oM
 have D:i=l.length:=oM;have h:l.findIdx? p=none:=qZ λj y k=>S j y IJ k;refine V1 ?_;exact⟨by rw[h];rfl,b.au⟩
def abt {l:List bZ} {p:bZ->Bool} (F:aP w v aG 2 l) (J:tH w fv (λx=>agg (aG x)) p):Rk prog 308 [v,fv] w (I (zM (l.findIdx? p))):=by
 obtain⟨A,m,rfl,⟨N,G⟩,M⟩:=F;obtain⟨f,u,cs,rfl,C,a⟩:=J;have H:=Sep.aI w;refine dn func308 ?_;refine V4 ?_;refine aM (λi:Nat=>[(0,.slice A l.length m),(1,.func (.func f) u.toArray cs.toArray),(7,I l.length),(8,I i)]) (λi L=>(i<=l.length/\∀(j:Nat) y,j<i->l[j]? =some y->p y=false)/\Sep w noB [] L) (λi _=>l.length-i) 0 tR ⟨⟨zai _,λj y E=>oM⟩,H⟩ (λi R P z=>?_);obtain⟨⟨hi,S⟩,b⟩:=z;refine Lp ?_;refine Cz (λd=>?_) (λd=>?_)
 .have n:i<l.length:=oM
  obtain⟨x,t⟩:=aN n;refine V7 ?_;refine fQ rfl (a x _ b.au) rfl rfl (λO Q K=>?_);obtain⟨rfl,g⟩:=K;have r:=b.aK g;refine Qn (Cd rfl (λc=>?_) (λc=>?_))
  .have h:l.findIdx? p=some i:=uI S t c
   refine V2 ?_;exact⟨by rw[h];rfl,r.au⟩
  have q:=c;refine V2 ?_;exact ak (i+1) tR ⟨⟨oM,λj y E k=>by
  by_cases e:j=i
  .subst e;rw[t]at k;injection k with k;rw[<-k];exact zdr _▸q
  exact S j y oM k⟩,r⟩ oM
 have D:i=l.length:=oM;have h:l.findIdx? p=none:=qZ λj y k=>S j y IJ k;refine V1 ?_;exact⟨by rw[h];rfl,b.au⟩
def Bf {l:List bZ} {p:bZ->Bool} (k:aP w v aG 2 l) (S:tH w fv (λx=>agg (aG x)) p):Rk prog 239 [v,fv] w (.bool (l.any p)):=by
 have H:=Sep.aI w;refine dn func239 ?_;refine Kz (abt (k.aK H.au) (S.aK H.au)) (λb h a=>?_);refine V2 ?_;exact⟨by rw[<-CJ];rfl,h.au⟩
def aei {l:List (Int)} (x:Int) (C:aP w v intCells 1 l):Rk prog 309 [v,I x] w (I (zM (l.findIdx? λy=>decide (x=y)))):=by
 obtain⟨A,m,rfl,⟨G,D⟩,F⟩:=C;have H:=Sep.aI w;obtain⟨p,n⟩: ∃p:Int->Bool,p=λy=>decide (x=y):=⟨_,rfl⟩;rw[<-n];refine dn func309 ?_;refine V4 ?_;refine aM (λi:Nat=>[(0,.slice A l.length m),(1,I x),(7,I l.length),(8,I i)]) (λi E=>(i<=l.length/\∀(j:Nat) y,j<i->l[j]? =some y->p y=false)/\Sep w noB [] E) (λi _=>l.length-i) 0 tR ⟨⟨zai _,λj y u=>oM⟩,H⟩ (λi K J r=>?_);obtain⟨⟨hi,k⟩,b⟩:=r;refine Lp ?_;refine Cz (λd=>?_) (λd=>?_)
 .have g:i<l.length:=oM
  obtain⟨y,S⟩:=aN g;refine Cz (λc=>?_) (λc=>?_)
  .have h:l.findIdx? p=some i:=uI k S (by rw[n];simpa using c)
   refine V2 ?_;exact⟨by rw[h];rfl,b.au⟩
  have q:p y=false:=by rw[n];simpa using c
  refine V2 ?_;exact ak (i+1) tR ⟨⟨oM,λj z u a=>by
  by_cases e:j=i
  .subst e;rw[S]at a;injection a with a;rw[<-a];exact q
  exact k j z oM a⟩,b⟩ oM
 have t:i=l.length:=oM;have h:l.findIdx? p=none:=qZ λj y S=>k j y (by have:=fP S;omega) S;refine V1 ?_;exact⟨by rw[h];rfl,b.au⟩
def abu {l:List (L8)} (x:L8) (C:aP w v gG 1 l):Rk prog 212 [v,str x] w (I (zM (l.findIdx? λy=>decide (x=y)))):=by
 obtain⟨A,m,rfl,⟨G,D⟩,F⟩:=C;have H:=Sep.aI w;obtain⟨p,n⟩: ∃p:L8->Bool,p=λy=>decide (x=y):=⟨_,rfl⟩;rw[<-n];refine dn func212 ?_;refine V4 ?_;refine aM (λi:Nat=>[(0,.slice A l.length m),(1,str x),(7,I l.length),(8,I i)]) (λi E=>(i<=l.length/\∀(j:Nat) y,j<i->l[j]? =some y->p y=false)/\Sep w noB [] E) (λi _=>l.length-i) 0 tR ⟨⟨zai _,λj y u=>oM⟩,H⟩ (λi K J r=>?_);obtain⟨⟨hi,k⟩,b⟩:=r;refine Lp ?_;refine Cz (λd=>?_) (λd=>?_)
 .have g:i<l.length:=oM
  obtain⟨y,S⟩:=aN g;refine Cz (λc=>?_) (λc=>?_)
  .have h:l.findIdx? p=some i:=uI k S (by rw[n];simpa using c)
   refine V2 ?_;exact⟨by rw[h];rfl,b.au⟩
  have q:p y=false:=by rw[n];simpa using c
  refine V2 ?_;exact ak (i+1) tR ⟨⟨oM,λj z u a=>by
  by_cases e:j=i
  .subst e;rw[S]at a;injection a with a;rw[<-a];exact q
  exact k j z oM a⟩,b⟩ oM
 have t:i=l.length:=oM;have h:l.findIdx? p=none:=qZ λj y S=>k j y (by have:=fP S;omega) S;refine V1 ?_;exact⟨by rw[h];rfl,b.au⟩
def abv {l:List (aF)} (x:aF) (J:aP w v aj 3 l):Rk prog 361 [v,agg (aj x)] w (I (zM (l.findIdx? λy=>decide (x=y)))):=by
 obtain⟨A,m,rfl,⟨N,K⟩,M⟩:=J;have H:=Sep.aI w;obtain⟨p,g⟩: ∃p:aF->Bool,p=λy=>decide (x=y):=⟨_,rfl⟩;rw[<-g];refine dn func361 ?_;refine Sr (bK H (h:=λt P u O=>?_));refine V4 ?_;refine aM (λi:Nat=>[(0,.slice A l.length m),(3,.pointer (some ⟨t,0,none⟩)),(7,I l.length),(8,I i)]) (λi L=>(i<=l.length/\∀(j:Nat) y,j<i->l[j]? =some y->p y=false)/\Sep w noB [blk t (aj x) 48] L) (λi _=>l.length-i) 0 tR ⟨⟨zai _,λj y G=>oM⟩,u⟩ (λi T Q E=>?_);obtain⟨⟨hi,S⟩,C⟩:=E;refine Lp ?_;refine Cz (λD=>?_) (λD=>?_)
 .have d:i<l.length:=oM
  obtain⟨y,a⟩:=aN d;refine Dz (λr R q=>?_);refine V5 ?_;refine Gp r 5 rfl rfl (λ_=>(ah.aib (enc:=aj) _ _ rfl rfl)) (fZ r kR ?_);refine Cz (λc=>?_) (λc=>?_)
  .have k:l.findIdx? p=some i:=uI S a (by rw[g];simpa using c)
   refine V2 ?_;exact⟨by rw[k];rfl,q.au⟩
  have n:p y=false:=by rw[g];simpa using c
  refine V2 ?_;exact ak (i+1) tR ⟨⟨oM,λj z G b=>by
  by_cases e:j=i
  .subst e;rw[a]at b;injection b with b;rw[<-b];exact n
  exact S j z oM b⟩,q⟩ oM
 have F:i=l.length:=oM;have k:l.findIdx? p=none:=qZ λj y a=>S j y (by have:=fP a;omega) a;refine V1 ?_;exact⟨by rw[k];rfl,C.au⟩
def XY {l:List (Int)} (x:Int) (k:aP w v intCells 1 l):Rk prog 241 [v,I x] w (.bool (l.any λy=>decide (x=y))):=by
 have H:=Sep.aI w;refine dn func241 ?_;refine Kz (aei x (k.aK H.au)) (λa h S=>?_);refine V2 ?_;exact⟨by rw[<-CJ];rfl,h.au⟩
def UD {l:List (aF)} (x:aF) (a:aP w v aj 3 l):Rk prog 320 [v,agg (aj x)] w (.bool (l.any λy=>decide (x=y))):=by
 have H:=Sep.aI w;refine dn func320 ?_;refine Sr (bK H (h:=λb e k c=>?_));refine Kz (abv x (a.aK k.au)) (λg S d=>?_);refine V2 ?_;exact⟨by rw[<-CJ];rfl,S.au⟩
variable {cols:List bF}
def UE {l:List bH} (h:(gH cols l).2=0):l.length<=64/\∃t,runT cols [] l=some [t]/\gH cols l=(t,0):=by
 unfold gH at h |-
 split at h
 .cases h
 rename_i k;rw[zab k];refine⟨oM,?_⟩
 split at h
 .rename_i t S;exact⟨t,S,by first | rfl | rw[S]⟩
 cases h
def Pe {S t:List bZ} {x:bH} (h:stepT cols S x=some t) (k:x.kind=1): ∃i,jM cols x.n=some i:=by
 cases hf:jM cols x.n with
 | some i=>exact⟨i,rfl⟩
 | none=>
  unfold stepT at h;dsimp only at h
  split at h
  .cases h
  rw[zac ((Cm _).2 oM)]at h;unfold iW at h;rw[zac k,hf]at h;cases h
def ahj {S t:List bZ} {x:bH} (h:stepT cols S x=some t):eG x.kind<=S.length:=by
 refine Classical.byContradiction λk=>?_;rw[Ch (.inr oM)]at h;cases h
attribute [local irreducible] gH d9
theorem CK {l:List bH} {vc vl vr:Value} (hc:aP w vc aL 7 cols) (hl:aP w vl aQ 3 l) (hr:aP w vr aj 3 r) (hf:mO r) (hx: ∀x∈l,cB x.n):
    Rk Tryz.prog 180 [vc,vl,vr] w (.tuple #[agg (aj (j6 cols l r).1),I (j6 cols l r).2]):=by
  have M:=hc;have hll:=hl;have hrr:=hr;obtain⟨A,m,rfl,⟨hm,Gj⟩,hA⟩:=hc;obtain⟨C,n,rfl,⟨hn,hn'⟩,hC⟩:=hl;obtain⟨D,q,rfl,⟨hq,hq'⟩,hD⟩:=hr;have H:=Sep.aI w;obtain⟨E,ay⟩: ∃E,E=j6 cols l r:=⟨_,rfl⟩;rw[<-ay];unfold j6 at ay;refine AB Tryz.func180 ?_;refine Az (λb1 w2 H2 k1=>?_);refine Kz (JW (M.aK H2.au) (hll.aK H2.au)) (λw7 H7 k6=>?_);refine Az (λb11 wa Ha ka=>?_);refine Tz (λwb Hb=>?_);refine Cz (λIe=>?_) (λIe=>?_)
  . have k:E=(cell0,(gH cols l).2):=by rw[ay,zac Ie]
    refine Sr (Vb (aj cell0) ?_);refine Mv ?_;refine Tz (λwc Hc=>?_);refine V1 ?_;exact⟨_,dD Hc,by rw[k];rfl,Hc.au⟩
  have L:(gH cols l).2=0:=by simpa using Ie
  obtain⟨h64,t,akf,htt⟩:=UE L;rw[zab (by simpa using L)]at ay;refine Kz (N9 (M.aK Hb.au) (hrr.aK Hb.au)) (λwd Hd kb=>?_);refine Cz (λIf=>?_) (λIf=>?_)
  . have k:E=(cell0,d9 cols r):=by rw[ay,zac If]
    refine Sr (Vb (aj cell0) ?_);refine Mv ?_;refine Tz (λwe He=>?_);refine V1 ?_;exact⟨_,dD He,by rw[k];rfl,He.au⟩
  have F:d9 cols r=0:=by simpa using If
  rw[zab (by simpa using F)]at ay;obtain⟨hlen,_⟩:=aac F;refine V2 ?_;have Hf:=Sep.iX Hd.bN 48 3 aj;refine aM (λx:Nat×List aF×Value=>[(0,.slice A cols.length m),(1,.slice C l.length n),(2,.slice D r.length q),(6,.pointer (some ⟨b1,0,none⟩)),(11,x.2.2),(12,I x.1)]) (λx w'=>(x.1<=l.length/\(∃V,Typed V x.2.1/\runT cols V (l.drop x.1)=some [t])/\x.2.1.length<=x.1/\tV cols r x.2.1 (l.drop x.1)=tV cols r [] l)/\Sep w noB [aY 48 3 aj x.2.2 x.2.1,blk b1 (aj cell0) 48] w') (λx _=>l.length-x.1) (0,[],_) tR ⟨⟨zai _,⟨[],Typed.nil,akf⟩,zbk _,rfl⟩,Hf⟩ (λx τ wf hI=>?_);obtain⟨i,d,v0⟩:=x;obtain⟨⟨hi,⟨V,K,G⟩,hsl,S⟩,Hf⟩:=hI;dsimp only at hi K G hsl S Hf;obtain⟨B,cb,rfl,hcb,hB⟩:=Sep.bX Hf At0;refine Lp ?_;refine Cz (λIg=>?_) (λIg=>?_)
  . have Q:i<l.length:=oM
    obtain⟨x,u⟩:=aN Q
    have o:l.drop i=x::l.drop (i+1):=by
      rw[zbn Q];rw[zaa Q]at u;injection u with u;rw[u]
    rw[o,runT]at G;rw[o,tV]at S;obtain⟨ts',v,anu⟩:=zdt.1 G;have hfx:=hx x (zag u);obtain⟨he,hg⟩:=Om F hf hfx K v;rw[he]at S;have htk:=Rh x.kind;have hle:=ahj v;rw[K.1]at hle;obtain⟨rg,e⟩: ∃rg,rg=ag2 cols r d x:=⟨_,rfl⟩;rw[<-e]at S hg;unfold ag2 at e;refine V8 ?_;refine fF (Ob _) (h:=?_);refine Dz (λSa wg Hg=>?_);refine V10 ?_;refine Gb Sa 10 (aj ⟨false,x.n,x.s⟩) ?_;refine rX Sa 11 [(10,true),(9,false),(8,true),(7,true),(6,true),(5,true),(4,false),(3,true),(2,true),(1,true),(0,true)] Hg (h:=λbt wh Hh=>⟨av ((bE rfl kR (ah.dY rfl Hh hC u rfl) rfl (av (av (av (av ((bE rfl kR (ah.dY rfl Hh hC u rfl) rfl (av (av (av (av (dw))))))))))))),?_⟩);refine cu Sa 12 _ Hh (h:=λwi Hi=>⟨sT,?_⟩);refine fZ Sa kR ?_;refine ig (dU (λz:aF=>[(0,.slice A cols.length m),(1,.slice C l.length n),(2,.slice D r.length q),(6,.pointer (some ⟨b1,0,none⟩)),(11,.slice B d.length cb),(12,I i),(13,I d.length),(14,I (eG x.kind)),(15,.pointer (some ⟨bt,0,none⟩))]) (λz w'=>rg=some z/\Sep w noB [blk bt (aj z) 48,aY 48 3 aj (.slice B d.length cb) d,blk b1 (aj cell0) 48] w') ?_ ?_)
    . refine Cz (λIh=>?_) (λIh=>?_)
      . obtain⟨ci,N⟩:=Pe v Ih
        have hcI:KZ cols x.n=(ci:Int):=by unfold KZ;rw[N]
        have anv:=Gh N;obtain⟨c0,hc0⟩:=aN (l:=r) (i:=ci) oM;have Z:eG x.kind=0:=by rw[Ih];rfl
        have g:rg=some c0:=by
          rw[e,zac Z];unfold xk;rw[zac Ih,N,zdg,jP hc0]
        refine Kz (KM x.n (M.aK Hi.au)) (λwj Hj kc=>?_);rw[hcI];refine Tz (λwk Hk=>?_);refine V0 ?_;exact aA c0 tR ⟨g,Hk⟩
      refine Cz (λIi=>?_) (λIi=>?_)
      . have Z:eG x.kind=0:=by rw[Ii];rfl
        have g:rg=some cK:=by
          rw[e,zac Z];unfold xk;rw[zab oM,zac Ii]
        refine V0 ?_;refine Vb (aj cK) ?_;refine Tz (λwl Hl=>?_);refine V0 ?_;exact aA cK tR ⟨g,Hl⟩
      refine Cz (λIj=>?_) (λIj=>?_)
      . have hk1:1<=eG x.kind:=oM
        obtain⟨a,ha⟩:=aN (l:=d) (i:=d.length-eG x.kind) oM;obtain⟨b,hb⟩:=aN (l:=d) (i:=d.length-1) oM;obtain⟨ta,hta⟩:=aN (l:=V) (i:=d.length-eG x.kind) (by have:=K.1;omega);obtain⟨tb,htb⟩:=aN (l:=V) (i:=d.length-1) (by have:=K.1;omega);have oa:=K.2 _ ta a hta ha;have ob:=K.2 _ tb b htb hb;have hsa:=Oj oa.1;rw[zab oM,jP ha,jP hb]at e;refine Dz (λJ wm Hm=>?_);refine V8 ?_;refine Gc J 8 ((d.length-eG x.kind:Nat):Int) ?_;refine V1 ?_;refine GS (Gt rfl (ah.iK rfl (eF Hm At1) ha) ?_);refine V2 ?_;refine Gc J 13 ((d.length-1:Nat):Int) ?_;refine V1 ?_;refine GS (Gt rfl (ah.iK rfl (eF Hm At1) hb) ?_);refine jw J (e1:=16) (e2:=20) kR ?_ ?_
        . refine JI J 16 [] rfl kR (Oh x.kind a b oa.2 ob.2 oM) rfl kR kR (λv' wn hv=>?_)
          obtain⟨⟨Y,rfl,O⟩,P⟩:=hv;have Hn:=Hm.aK P;refine⟨sT,?_⟩;refine V3 ?_;refine rX J 20 _ Hn (h:=λbm wo Ho=>⟨sT,?_⟩);refine cu J 21 _ Ho (h:=λwp Hp=>⟨sT,?_⟩);refine O3 ?_;refine Qn (Cd rfl (λW=>?_) (λW=>?_))
          . have R:rg=none:=by
              rw[e];cases hg2:lK x.kind a b with
              | none=>rfl
              | some y=>rw[hg2]at W;cases W
            rw[R]at S;have p:none=tV cols r [] l:=S;rw[<-p]at ay;have k:E=(cell0,50):=ay;refine Sr (Vb (aj cell0) ?_);refine Tz (λwq Hq=>?_);refine V1 ?_;exact⟨_,dD Hq,by rw[k];rfl,Hq.au⟩
          obtain⟨y,hy⟩: ∃y,lK x.kind a b=some y:=by
            cases hg2:lK x.kind a b with
            | none=>rw[hg2]at W;cases W
            | some y=>exact⟨y,rfl⟩
          have g:rg=some Y:=by rw[e,hy,O y hy]
          refine Tz (λwr Hr=>?_);refine V0 ?_;exact aA Y tR ⟨g,Hr.bN⟩
        refine jR J 20 [(15,false),(14,true),(13,true),(12,true),(11,true),(10,false),(9,true),(8,true),(7,true),(6,true),(5,true),(4,false),(3,true),(2,true),(1,true),(0,true)] Hm (h:=λbm ws Hs=>⟨(bE rfl kR (ah.iK rfl (eF Hs At2) hb) rfl (av (av (av (av ((bE rfl kR (ah.iK rfl (eF Hs At2) ha) rfl (av (av (av (av (av ((bE rfl kR (ah.dY rfl Hs hC u rfl) rfl (av (av (av (av (dw))))))))))))))))))),?_⟩);refine p8 J 16 [] rfl kR (Oh x.kind a b oa.2 ob.2 oM) rfl kR kR (λv' wt hv=>?_);obtain⟨⟨Y,rfl,O⟩,P⟩:=hv;have Ht:=Hs.aK P;refine⟨sT,?_⟩;refine V3 ?_;refine cu J 21 _ Ht (h:=λwu Hu=>⟨sT,?_⟩);refine O3 ?_;refine Qn (Cd rfl (λX=>?_) (λX=>?_))
        . have R:rg=none:=by
            rw[e];cases hg2:lK x.kind a b with
            | none=>rfl
            | some y=>rw[hg2]at X;cases X
          rw[R]at S;have p:none=tV cols r [] l:=S;rw[<-p]at ay;have k:E=(cell0,50):=ay;refine Sr (Vb (aj cell0) ?_);refine Tz (λwv Hv=>?_);refine V1 ?_;exact⟨_,dD Hv,by rw[k];rfl,Hv.au⟩
        obtain⟨y,hy⟩: ∃y,lK x.kind a b=some y:=by
          cases hg2:lK x.kind a b with
          | none=>rw[hg2]at X;cases X
          | some y=>exact⟨y,rfl⟩
        have g:rg=some Y:=by rw[e,hy,O y hy]
        refine Tz (λww Hw=>?_);refine V0 ?_;exact aA Y tR ⟨g,Hw.bN⟩
      have Z:eG x.kind=0:=oM
      have g:rg=some ⟨false,x.n,x.s⟩:=by
        rw[e,zac Z];unfold xk;rw[zab oM,zab oM]
      refine V0 ?_;exact aA ⟨false,x.n,x.s⟩ tR ⟨g,Hi⟩
    rintro c τ wx ⟨hrc,Hx⟩;refine Lp ?_;refine Dz (λSc wy Hy=>?_);refine V3 ?_;obtain⟨hTy,hfc⟩:=hg c hrc;rw[hrc]at S;have p:tV cols r (d.take (d.length-eG x.kind)++[c]) (l.drop (i+1))=tV cols r [] l:=S;refine Gc Sc 3 ((d.length-eG x.kind:Nat):Int) ?_;refine V2 ?_;refine Gz Sc 6 _ Hy ([c].flatMap aj) (h:=λb wz Hz=>⟨sT,?_⟩);have j:=Sep.alN (m:=d.length-eG x.kind) Hz At2 oM;have T:(d.take (d.length-eG x.kind)).length=d.length-eG x.kind:=by rw[zah];omega
    refine gZ Sc 7 _ j (news:=[c]) At1 (by rw[T];unfold maxLen;simp;omega) (by rw[T];simp;omega) (dW (λ_=>rfl) [c]) (h:=λv2 wD HA=>⟨sT,?_⟩);refine rA Sc 8 _ (h:=⟨sT,?_⟩);refine V3 ?_;exact ak (i+1,d.take (d.length-eG x.kind)++[c],v2) tR ⟨⟨dO,⟨ts',hTy,anu⟩,by dsimp only;rw[zad,T];simp;omega,p⟩,HA.bN⟩ dO
  have Gq:i=l.length:=oM;rw[Gq,zds,runT]at G;rw[Gq,zds,tV]at S;rw[<-S]at ay;have aki:V=[t]:=by injection G
  have h1:d.length=1:=by rw[<-K.1,aki];rfl
  obtain⟨c,f⟩:=zfq.1 h1;have hg0:d[0]? =some c:=by rw[f];rfl
  have k:E=(c,0):=by rw[ay,f];rfl
  refine V1 ?_;refine Vv (ah.fT (i:=0) rfl rfl hB oM) (Vv (ah.iK (i:=0) rfl hB hg0) ?_);refine Tz (λwE HB=>?_);refine V1 ?_;exact⟨_,dD HB,by rw[k];rfl,HB.au⟩
end Go.Proofs.Mw
