/-
 Orders told by a number:cells,texts,rows. No program stands here.
-/
import Derived.Test.YtbkjpdboaclopaaGreatDoorNd9
set_option linter.all false
set_option maxRecDepth 4000
namespace Go.Proofs.Mw
open Go.Lib Go.Proofs.Tryz
attribute [local irreducible] FW FL FG FGn jJ jO fC lJ Qfn Gives
structure FD {α:Type} (f:α->α->Int):Prop where
 eq0: ∀a b,f a b=0↔a=b
 anti: ∀a b,f b a= -f a b
 trans: ∀a b c,f a b<0->f b c<0->f a c<0
section
variable {α:Type} {f:α->α->Int}
def FD.self (h:FD f) (a:α):f a a=0:=(h.eq0 a a).2 rfl
def FD.irr (h:FD f) {a b:α} (hl:f a b<0):a≠b:=λe=>by rw[(h.eq0 a b).2 e]at hl;omega
def FD.asymm (h:FD f) {a b:α} (hl:f a b<0): ¬f b a<0:=by rw[h.anti];omega
def FD.gt (h:FD f) {a b:α} (hn: ¬f a b<0) (iJ:a≠b):f b a<0:=by
 have:=mt (h.eq0 a b).1 iJ;rw[h.anti];omega
end
def qZ {α:Type} (f:α->α->Int):List α->List α->Int
 | [],[]=>0
 | [],_::_=> -1
 | _::_,[]=>1
 | a::r,b::s=>if f a b≠0 then f a b else qZ f r s
def abT {α:Type} {f:α->α->Int} (h:FD f):FD (qZ f) where
 eq0:=λa=>by
  induction a with
  | nil=>intro b;cases b<;>simp[qZ]
  | cons x r ih=>
   intro b;cases b with
   | nil=>simp[qZ]
   | cons y s=>
    rw[qZ]
    by_cases e:f x y=0
    .rw[zaa (not_not_intro e),ih,(h.eq0 x y).1 e];simp
    rw[zac e];have:=mt (h.eq0 x y).2 e;simp[e,this]
 anti:=λa=>by
  induction a with
  | nil=>intro b;cases b<;>simp[qZ]
  | cons x r ih=>
   intro b;cases b with
   | nil=>simp[qZ]
   | cons y s=>
    rw[qZ,qZ];have ha:=h.anti x y
    by_cases e:f x y=0
    .rw[zaa oM,zaa oM,ih]
    rw[zac oM,zac e,ha]
 trans:=λa=>by
  induction a with
  | nil=>
   intro b c h1 h2;cases b with
   | nil=>simp[qZ]at h1
   | cons y s=>
    cases c with
    | nil=>simp[qZ]at h2
    | cons z t=>simp[qZ]
  | cons x r ih=>
   intro b c h1 h2;cases b with
   | nil=>simp[qZ]at h1
   | cons y s=>
    cases c with
    | nil=>simp[qZ]at h2
    | cons z t=>
     rw[qZ]at h1 h2 |-
     by_cases e1:f x y=0
     .have exy:=(h.eq0 x y).1 e1
      subst exy;rw[zaa (not_not_intro e1)]at h1
      by_cases e2:f x z=0
      .rw[zaa (not_not_intro e2)]at h2 |-
       exact ih s t h1 h2
      rw[zac e2]at h2 ⊢;exact h2
     rw[zac e1]at h1
     by_cases e2:f y z=0
     .have eyz:=(h.eq0 y z).1 e2
      subst eyz;rw[zac e1];exact h1
     rw[zac e2]at h2;have h3:=h.trans x y z h1 h2;rw[zac oM];exact h3
def adn (a b:UInt8):Int:=if a<b then -1 else if b<a then 1 else 0
def FE (a b:UInt8):adn a b=if a.toNat<b.toNat then -1 else if b.toNat<a.toNat then 1 else 0:=by unfold adn;simp only[UInt8.lt_iff_toNat_lt]
def agb:FD adn where
 eq0:=λa b=>by
  rw[FE,<-UInt8.toNat_inj]
  split
  .omega
  split<;>omega
 anti:=λa b=>by
  rw[FE,FE]
  split<;>split<;>(try split)<;>omega
 trans:=λa b c h1 h2=>by
  rw[FE]at h1 h2 |-
  split at h1<;>split at h2<;>(try split at h1)<;>(try split at h2)<;>(try omega)
def Qu: ∀a b:L8,compareBytes a b=qZ adn a b
 | [],[]=>rfl
 | [],_::_=>rfl
 | _::_,[]=>rfl
 | a::r,b::s=>by
  rw[compareBytes,qZ,Qu r s];unfold adn
  by_cases h1:a<b
  .simp[h1]
  by_cases h2:b<a
  .simp[h1,h2]
  simp[h1,h2]
def Ji:FD compareBytes:=by
 have e:compareBytes=qZ adn:=funext λa=>funext λb=>Qu a b;rw[e];exact abT agb
def ajL {a b:aC}:a=b↔a.null=b.null/\a.n=b.n/\a.s=b.s:=⟨λh=>by subst h;exact⟨rfl,rfl,rfl⟩,fun⟨h1,h2,h3⟩=>by cases a;cases b;simp_all⟩
def FH:FD nG where
 eq0:=λa b=>by
  unfold nG;rw[ajL]
  by_cases hn:a.null=b.null
  .rw[zac hn]
   by_cases h1:a.n<b.n
   .rw[zac h1];constructor
    .intro h;omega
    intro h;omega
   rw[zaa h1]
   by_cases h2:b.n<a.n
   .rw[zac h2];constructor
    .intro h;omega
    intro h;omega
   rw[zaa h2,Ji.eq0];exact⟨λh=>⟨hn,oM,h⟩,λh=>h.2.2⟩
  rw[zaa hn];constructor
  .intro h;split at h<;>omega
  intro h;exact zas h.1 hn
 anti:=λa b=>by
  unfold nG
  by_cases hn:a.null=b.null
  .rw[zac hn,zac hn.symm,Ji.anti a.s b.s]
   by_cases h1:a.n<b.n
   .rw[zac h1,zaa oM,zac h1];omega
   rw[zaa h1]
   by_cases h2:b.n<a.n
   .simp[h1,h2]
   simp[h1,h2]
  rw[zaa hn,zaa (λe=>hn e.symm)];cases ha:a.null<;>cases hb:b.null<;>simp_all
 trans:=λa b c h1 h2=>by
  unfold nG at h1 h2 ⊢;cases ha:a.null<;>cases hb:b.null<;>cases hc:c.null<;>simp only[ha,hb,hc,if_true,if_false,reduceCtorEq,Bool.true_eq_false,Bool.false_eq_true]at h1 h2 |- <;>(try omega)
  all_goals
   split at h1<;>split at h2<;>(try split at h1)<;>(try split at h2)<;>(try omega)<;>(try (rw[zac oM];omega))
   rw[zaa oM,zaa oM];exact Ji.trans _ _ _ h1 h2
def jK:List aC->List aC->Int:=qZ nG
def fT:FD jK:=abT FH
structure aG where
 row:List aC
 w:Int
def aG.ext' {a b:aG} (h1:a.row=b.row) (h2:a.w=b.w):a=b:=by cases a;cases b;simp_all
def wtL:List aG->List aC->Int
 | [],_=>0
 | x::l,r=>(if x.row=r then x.w else 0)+wtL l r
def jh (a b:List aG) (r:List aC):wtL (a++b) r=wtL a r+wtL b r:=by
 induction a with
 | nil=>simp[wtL]
 | cons x a ih=>rw[zcb,wtL,wtL,ih];omega
variable {l:List aG} {r:List aC}
def uj (h: ∀x∈l,x.row≠r):wtL l r=0:=by
 induction l with
 | nil=>rfl
 | cons x l ih=>rw[wtL,zaa (h x zao),ih λy hy=>h y (zau _ hy)];rfl
def oK (ks:List (List aC)):Prop:=ks.Pairwise λa b=>jK a b<0
def yN (r:List aC):List (List aC)->List (List aC)
 | []=>[r]
 | k::ks=>if jK r k<0 then r::k::ks else if r=k then k::ks else k::yN r ks
def zN {x:List aC}: ∀{ks:List (List aC)},x∈yN r ks↔x=r\/x∈ks
 | []=>by simp[yN]
 | k::ks=>by
  rw[yN]
  split
  .simp
  split
  .rename_i h;subst h;simp
  rw[zbb,zN,zbb,or_left_comm]
def zO: ∀{ks:List (List aC)},oK ks->oK (yN r ks)
 | [],_=>List.pairwise_singleton _ _
 | k::ks,h=>by
  obtain⟨h1,h2⟩:=zdt.1 h;rw[yN]
  split
  .rename_i hl
   refine zdt.2 ⟨λy hy=>?_,h⟩
   rcases zbb.1 hy with e | e
   .subst e;exact hl
   exact fT.trans _ _ _ hl (h1 y e)
  rename_i hl
  split
  .exact h
  rename_i iJ;refine zdt.2 ⟨λy hy=>?_,zO h2⟩
  rcases zN.1 hy with e | e
  .subst e;exact fT.gt hl iJ
  exact h1 y e
def zQ: ∀{a b:List (List aC)},oK a->oK b->(∀x,x∈a↔x∈b)->a=b
 | [],[],_,_,_=>rfl
 | [],y::b,_,_,h=>zas ((h y).2 zao) zam
 | x::a,[],_,_,h=>zas ((h x).1 zao) zam
 | x::a,y::b,ha,hb,h=>by
  obtain⟨Vj,Vz⟩:=zdt.1 ha;obtain⟨Fv,hb2⟩:=zdt.1 hb
  have hxy:x=y:=by
   rcases zbb.1 ((h x).1 zao)with e | e
   .exact e
   rcases zbb.1 ((h y).2 zao)with e' | e'
   .exact e'.symm
   exact zas (Fv x e) (fT.asymm (Vj y e'))
  subst hxy;rw[zQ Vz hb2 λz=>?_];constructor
  .intro hz
   rcases zbb.1 ((h z).1 (zau _ hz))with e | e
   .exact zas e (fT.irr (Vj z hz)).symm
   exact e
  intro hz
  rcases zbb.1 ((h z).2 (zau _ hz))with e | e
  .exact zas e (fT.irr (Fv z hz)).symm
  exact e
def lY:List aG->List (List aC)
 | []=>[]
 | x::l=>yN x.row (lY l)
def su: ∀{l:List aG},r∈lY l↔∃x∈l,x.row=r
 | []=>by simp[lY]
 | x::l=>by
  rw[lY,zN,su];simp only[zbb,exists_eq_or_imp,eq_comm (a:=r)]
def mH: ∀l:List aG,oK (lY l)
 | []=>List.Pairwise.nil
 | x::l=>zO (mH l)
def Jj (f:List aC->Int) (ks:List (List aC)):List aG:=(ks.filter λr=>decide (f r≠0)).map λr=>⟨r,f r⟩
def cO (l:List aG):List aG×Int:=if(lY l).all (λr=>aY (wtL l r))=true then(Jj (wtL l) (lY l),0)else([],50)
def isZ (z:List aG):Prop:=oK (z.map (·.row))/\(∀x∈z,x.w≠0)/\∀x∈z,aY x.w=true
def abU:aY 0=true:=dC
def aoE {f g:List aC->Int} {a b:List (List aC)} (ha:oK a) (hb:oK b) (hfg: ∀r,f r=g r) (h: ∀r,f r≠0->(r∈a↔r∈b)):Jj f a=Jj g b:=by
 have e:f=g:=funext hfg;subst e;unfold Jj;rw[zQ (ha.sublist zea) (hb.sublist zea) λr=>?_];simp only[zcf,decide_eq_true_eq];exact and_congr_left λhr=>h r hr
def uV:(lY l).all (λr=>aY (wtL l r))=true↔∀r,aY (wtL l r)=true:=by
 rw[zba];constructor
 .intro h r
  by_cases hm:r∈lY l
  .exact h r hm
  rw[uj λx hx e=>hm (su.2 ⟨x,hx,e⟩)];exact abU
 exact λh r _=>h r
def Jk (h:wtL l r≠0):r∈lY l:=by
 refine Classical.byContradiction λhm=>h (uj λx hx e=>hm (su.2 ⟨x,hx,e⟩))
variable {a b:List aG}
def Br (h: ∀r,wtL a r=wtL b r):cO a=cO b:=by
 unfold cO
 by_cases hf: ∀r,aY (wtL a r)=true
 .rw[zac (uV.2 hf),zac (uV.2 λr=>by rw[<-h];exact hf r)]
  rw[aoE (mH a) (mH b) h λr hr=>⟨λ_=>Jk (by rw[<-h];exact hr),λ_=>Jk hr⟩]
 rw[zaa (mt uV.1 hf),zaa (mt uV.1 λhg=>hf λr=>by rw[h];exact hg r)]
def CY:(cO l).2=0↔∀r,aY (wtL l r)=true:=by
 unfold cO
 by_cases hf: ∀r,aY (wtL l r)=true
 .rw[zac (uV.2 hf)];exact⟨λ_=>hf,λ_=>rfl⟩
 rw[zaa (mt uV.1 hf)];exact⟨λh=>zas h dC,λh=>zas h hf⟩
def qG (h:(cO l).2≠0):cO l=([],50):=by
 unfold cO at h |-
 split
 .rename_i hc;rw[zac hc]at h;exact zas rfl h
 rfl
def TD (h:(cO l).2=0):cO l=(Jj (wtL l) (lY l),0):=zac (uV.2 (CY.1 h))
def ajM (f:List aC->Int) (ks:List (List aC)):(Jj f ks).map (·.row)=ks.filter λr=>decide (f r≠0):=by
 unfold Jj;rw[zdj];exact List.map_id _
def Jl {f:List aC->Int} {ks:List (List aC)} {x:aG}:x∈Jj f ks↔x.row∈ks/\f x.row≠0/\x.w=f x.row:=by
 unfold Jj;rw[zar];constructor
 .rintro⟨r,hr,rfl⟩
  obtain⟨h1,h2⟩:=zcf.1 hr;exact⟨h1,zbd h2,rfl⟩
 rintro⟨h1,h2,h3⟩;exact⟨x.row,zcf.2 ⟨h1,zap h2⟩,aG.ext' rfl h3.symm⟩
def uW {l:List aG}:isZ (cO l).1:=by
 by_cases h:(cO l).2=0
 .rw[TD h]
  refine⟨?_,λx hx=>?_,λx hx=>?_⟩
  .show oK ((Jj _ _).map (·.row))
   rw[ajM];exact(mH l).sublist zea
  .obtain⟨_,h2,h3⟩:=Jl.1 hx;rw[h3];exact h2
  obtain⟨_,_,h3⟩:=Jl.1 hx;rw[h3];exact CY.1 h _
 rw[qG h];exact⟨List.Pairwise.nil,λx hx=>zas hx zam,λx hx=>zas hx zam⟩
def FI: ∀{z:List aG},(z.map (·.row)).Nodup->∀x∈z,wtL z x.row=x.w
 | [],_,x,hx=>zas hx zam
 | y::z,h,x,hx=>by
  rw[zav,zfa]at h;rw[wtL]
  rcases zbb.1 hx with e | e
  .subst e
   rw[zac rfl,uj λu hu e=>h.1 (by rw[<-e];exact zdp hu)];omega
  rw[zaa λe'=>h.1 (by rw[e'];exact zdp e),FI h.2 x e];omega
def oL {ks:List (List aC)} (h:oK ks):ks.Nodup:=h.imp λhl=>fT.irr hl
def abV (h:(cO l).2=0) (r:List aC):wtL (cO l).1 r=wtL l r:=by
 have hz:=uW (l:=l);rw[TD h]at hz |-
 by_cases hr:wtL l r=0
 .rw[hr]
  exact uj λx hx e=>(Jl.1 hx).2.1 (by rw[e];exact hr)
 exact FI (oL hz.1) ⟨r,wtL l r⟩ (Jl.2 ⟨Jk hr,hr,rfl⟩)
def amw {z:List aG} (h:isZ z) (r:List aC):aY (wtL z r)=true:=by
 by_cases hm: ∃x∈z,x.row=r
 .obtain⟨x,hx,rfl⟩:=hm
  rw[FI (oL h.1) x hx];exact h.2.2 x hx
 rw[uj λx hx e=>hm ⟨x,hx,e⟩];exact abU
def Qv {z:List aG} (h:isZ z):cO z=(z,0):=by
 have hk:lY z=z.map (·.row):=zQ (mH z) h.1 λr=>by rw[su,zar]
 have h0:(cO z).2=0:=CY.2 (amw h);rw[TD h0,hk];unfold Jj;have hw:=FI (oL h.1)
 have e: ∀l:List aG,(∀x∈l,x∈z)->((l.map (·.row)).filter λr=>decide (wtL z r≠0)).map (λr=>(⟨r,wtL z r⟩:aG))=l:=λl=>by
  induction l with
  | nil=>intro _;rfl
  | cons x l ih=>
   intro hl;have hx:=hl x zao;rw[zav,List.filter_cons_of_pos (by rw[hw x hx];exact zap (h.2.1 x hx)),zav,ih λy hy=>hl y (zau _ hy),hw x hx]
 rw[e z λx hx=>hx]
def ajN (a b:List aG):List aG×Int:=cO (a++b)
def agc (ha:(cO a).2=0):cO ((cO a).1++b)=cO (a++b):=Br λr=>by rw[jh,jh,abV ha]
def ado (hb:(cO b).2=0):cO (a++(cO b).1)=cO (a++b):=Br λr=>by rw[jh,jh,abV hb]
structure bD where
 key:List aC
 vals:List aC
 w:Int
def FJ (x:bD) (i:Nat):Int:=if i=0 then x.w else if(x.vals.getD (i-1) cell0).null=true then 0 else x.w*(x.vals.getD (i-1) cell0).n
def jL:List bD->List aC->Nat->Int
 | [],_,_=>0
 | x::l,k,i=>(if x.key=k then FJ x i else 0)+jL l k i
def uX (a b:List bD) (k:List aC) (i:Nat):jL (a++b) k i=jL a k i+jL b k i:=by
 induction a with
 | nil=>simp[jL]
 | cons x a ih=>rw[zcb,jL,jL,ih];omega
variable {i:Nat}
def uY {l:List bD} {k:List aC} (h: ∀x∈l,x.key≠k):jL l k i=0:=by
 induction l with
 | nil=>rfl
 | cons x l ih=>rw[jL,zaa (h x zao),ih λy hy=>h y (zau _ hy)];rfl
def sw:List bD->List (List aC)
 | []=>[]
 | x::l=>yN x.key (sw l)
def ql: ∀{l:List bD},r∈sw l↔∃x∈l,x.key=r
 | []=>by simp[sw]
 | x::l=>by
  rw[sw,zN,ql];simp only[zbb,exists_eq_or_imp,eq_comm (a:=r)]
def um: ∀l:List bD,oK (sw l)
 | []=>List.Pairwise.nil
 | x::l=>zO (um l)
def Ez {l:List bD} {k:List aC} (h:jL l k i≠0):k∈sw l:=
 Classical.byContradiction λhm=>h (uY λx hx e=>hm (ql.2 ⟨x,hx,e⟩))
def qA (keys sums:Nat) (x:bD):Bool:=decide (x.key.length=keys/\x.vals.length=sums)&&x.vals.all λc=>decide (c.s=[]/\¬(c.null=true/\c.n≠0))
def xw (sums:Nat) (l:List bD):Bool:=(sw l).all λk=>(List.range (sums+1)).all λi=>aY (jL l k i)
def uZ {sums:Nat} {l:List bD}:xw sums l=true↔∀k i,i<=sums->aY (jL l k i)=true:=by
 unfold xw;rw[zba];constructor
 .intro h k i hi
  by_cases hm:k∈sw l
  .exact zba.1 (h k hm) i (zeo.2 oM)
  rw[uY λx hx e=>hm (ql.2 ⟨x,hx,e⟩)];exact abU
 intro h k _;rw[zba];exact λi hi=>h k i (by have:=zeo.1 hi;omega)
def dw (n:Int):aC:=⟨false,n,[]⟩
def adp (sums:Nat) (l:List bD) (k:List aC):List aC:=k++(List.range (sums+1)).map λi=>dw (jL l k i)
def lZ (sums:Nat) (l:List bD):List aG:=((sw l).filter λk=>decide (jL l k 0≠0)).map λk=>⟨adp sums l k,1⟩
def MG: ∀{a b:List aC} (x y:List aC),a.length=b.length->jK a b<0->jK (a++x) (b++y)<0
 | [],[],_,_,_,h=>zas h (by simp[jK,qZ])
 | [],_::_,_,_,h,_=>by simp at h
 | _::_,[],_,_,h,_=>by simp at h
 | c::a,d::b,x,y,hl,h=>by
  unfold jK at h ⊢;rw[zcb,zcb];rw[qZ]at h |-
  split at h
  .rename_i e;rw[zac e];exact h
  rename_i e;rw[zaa e];exact MG x y (by simpa using hl) h
def MH {keys sums:Nat} {l:List bD} (h: ∀x∈l,x.key.length=keys):isZ (lZ sums l):=by
 have hk: ∀k∈sw l,k.length=keys:=λk hk=>by
  obtain⟨x,hx,rfl⟩:=ql.1 hk;exact h x hx
 refine⟨?_,λx hx=>?_,λx hx=>?_⟩
 .unfold lZ
  rw[zdj];show List.Pairwise _ (List.map (λk=>adp sums l k) _)
  rw[List.pairwise_map];have hs:=((um l).sublist (zea (p:=λk=>decide (jL l k 0≠0))));refine List.Pairwise.imp_of_mem (λ{a b} ha hb LU=>?_) hs;exact MG _ _ (by rw[hk a (zcf.1 ha).1,hk b (zcf.1 hb).1]) LU
 .unfold lZ at hx
  obtain⟨k,_,rfl⟩:=zar.1 hx;show(1:Int)≠0
  decide
 unfold lZ at hx;obtain⟨k,_,rfl⟩:=zar.1 hx;show aY 1=true
 decide
def yO (l:List aG):List aG:=l.map λx=>⟨x.row, -x.w⟩
def agd (l:List aG) (r:List aC):wtL (yO l) r= -wtL l r:=by
 induction l with
 | nil=>rfl
 | cons x l ih=>
  show wtL (⟨x.row, -x.w⟩::yO l) r=_
  rw[wtL,wtL,ih];dsimp only
  split<;>omega
def abW {keys sums:Nat} {l:List bD} (h: ∀x∈l,x.key.length=keys) (r:List aC):wtL (lZ sums l) r=0\/wtL (lZ sums l) r=1:=by
 by_cases hm: ∃x∈lZ sums l,x.row=r
 .obtain⟨x,hx,rfl⟩:=hm
  rw[FI (oL (MH h).1) x hx];unfold lZ at hx;obtain⟨k,_,rfl⟩:=zar.1 hx;exact .inr rfl
 exact .inl (uj λx hx e=>hm ⟨x,hx,e⟩)
def wA (v:Int):Int:=v%18446744073709551616
def wB (v:Int):Int:=v/18446744073709551616%18446744073709551616
def wC (v:Int):Int:=v/340282366920938463463374607431768211456%18446744073709551616
def mI (v:Int):(0<=wA v/\wA v<18446744073709551616)/\(0<=wB v/\wB v<18446744073709551616)/\0<=wC v/\wC v<18446744073709551616:=by
 unfold wA wB wC;omega
def L9 (v:Int):v/340282366920938463463374607431768211456=v/18446744073709551616/18446744073709551616:=oM
def ajO {n:Int} (h1: -9223372036854775808<=n) (h2:n<9223372036854775808):wB n=(if n<0 then 18446744073709551615 else 0)/\wC n=if n<0 then 18446744073709551615 else 0:=by
 unfold wB wC;rw[L9]
 split<;>omega
def agf (x y:Int):wA (x+y)=(wA x+wA y)%18446744073709551616/\wB (x+y)=(wB x+wB y+(wA x+wA y)/18446744073709551616)%18446744073709551616/\
    wC (x+y)=(wC x+wC y+(wB x+wB y+(wA x+wA y)/18446744073709551616)/18446744073709551616)%18446744073709551616:=by
  have hc: ∀v:Int,wC v=v/18446744073709551616/18446744073709551616%18446744073709551616:=λv=>by unfold wC;rw[L9]
  rw[hc,hc,hc];unfold wA wB;have e1:(x+y)/18446744073709551616=x/18446744073709551616+y/18446744073709551616+(x%18446744073709551616+y%18446744073709551616)/18446744073709551616:=oM;rw[e1]
  generalize x/18446744073709551616=p
  generalize y/18446744073709551616=q
  generalize (x%18446744073709551616+y%18446744073709551616)/18446744073709551616=c
  refine⟨oM,oM,?_⟩;omega
def yu (v:Int):Int:=if wA v<9223372036854775808 then wA v else wA v-18446744073709551616
def agh {v:Int} (h1: -3138550867693340381917894711603833208051177722232017256448<=v) (h2:v<3138550867693340381917894711603833208051177722232017256448):
    (wA (yu v)=wA v/\wB (yu v)=wB v/\wC (yu v)=wC v)↔aY v=true:=by
  have hc: ∀v:Int,wC v=v/18446744073709551616/18446744073709551616%18446744073709551616:=λv=>by unfold wC;rw[L9]
  have hl: -9223372036854775808<=yu v/\yu v<=9223372036854775807:=by
    have:=(mI v).1;unfold yu
    split<;>omega
  unfold aY;rw[decide_eq_true_iff];constructor
  . intro ⟨e1,e2,e3⟩
    rw[hc,hc]at e3;unfold wA at e1;unfold wB at e2
    generalize hu:yu v=u at *
    have hp1:u/18446744073709551616/18446744073709551616=v/18446744073709551616/18446744073709551616:=oM;have hp2:u/18446744073709551616=v/18446744073709551616:=oM;have Qh:u=v:=oM;rw[<-Qh];exact hl
  intro h
  have e:yu v=v:=by
    unfold yu wA
    split<;>omega
  rw[e];exact⟨rfl,rfl,rfl⟩
def CZ {a b:Int} (ha:fits a) (hb:fits b): -85070591730234615865843651857942052864<=a*b/\a*b<=85070591730234615865843651857942052864:=by
 have h1:a.natAbs<=9223372036854775808:=by unfold fits at ha;omega
 have h2:b.natAbs<=9223372036854775808:=by unfold fits at hb;omega
 have h3:(a*b).natAbs<=9223372036854775808*9223372036854775808:=by rw[Int.natAbs_mul];exact Nat.mul_le_mul h1 h2
 omega
def agi {a b:Int} (ha:fits a) (hb:fits b):wA (a*b)=wA a*wA b%18446744073709551616/\
    wB (a*b)=(wA a*wA b/18446744073709551616-(((if b<0 then wA a else 0)+if a<0 then wA b else 0)%18446744073709551616))%18446744073709551616/\
    wC (a*b)=if wB (a*b)<9223372036854775808 then 0 else 18446744073709551615:=by
  obtain⟨m1,m2⟩:=CZ ha hb;have hua:wA a=if a<0 then a+18446744073709551616 else a:=by unfold fits at ha;unfold wA;split<;>omega
  have hub:wA b=if b<0 then b+18446744073709551616 else b:=by unfold fits at hb;unfold wA;split<;>omega
  have hP:wA a*wA b=a*b+(if a<0 then 18446744073709551616*b else 0)+(if b<0 then 18446744073709551616*a else 0)+(if a<0/\b<0 then 340282366920938463463374607431768211456 else 0):=by
    rw[hua,hub]
    by_cases h1:a<0<;>by_cases h2:b<0
    . rw[zac h1,zac h2,zac h1,zac h2,zac ⟨h1,h2⟩,Int.add_mul,Int.mul_add,Int.mul_add];omega
    . rw[zac h1,zaa h2,zac h1,zaa h2,zaa (λh=>h2 h.2),Int.add_mul];omega
    . rw[zaa h1,zac h2,zaa h1,zac h2,zaa (λh=>h1 h.1),Int.mul_add];omega
    rw[zaa h1,zaa h2,zaa h1,zaa h2,zaa (λh=>h1 h.1)];omega
  generalize a*b=p at *
  have hc: ∀v:Int,wC v=v/18446744073709551616/18446744073709551616%18446744073709551616:=λv=>by unfold wC;rw[L9]
  refine⟨?_,?_,?_⟩
  . rw[hP]
    unfold wA
    by_cases h1:a<0<;>by_cases h2:b<0<;>simp only[h1,h2,if_true,if_false,and_self,and_false,false_and]<;>omega
  . rw[hP,hua,hub]
    unfold wB
    by_cases h1:a<0<;>by_cases h2:b<0<;>simp only[h1,h2,if_true,if_false,and_self,and_false,false_and]<;>omega
  rw[hc];unfold wB
  split<;>omega
def C8 (s:List aG):Prop:=s.Pairwise λa b=>jK a.row b.row<=0
def Jm {a b c:List aC} (h:jK a b<=0) (h2:jK b c<0):jK a c<0:=by
 rcases Int.lt_or_lt_of_ne (a:=jK a b) (b:=0) |> λf=>(Decidable.em (jK a b=0)).imp id f with e | e | e
 .rw[(fT.eq0 a b).1 e];exact h2
 .exact fT.trans _ _ _ e h2
 omega
def Jo {a b c:List aC} (h:jK a b<0) (h2:jK b c<=0):jK a c<0:=by
 rcases Decidable.em (jK b c=0)with e | e
 .rw[<-(fT.eq0 b c).1 e];exact h
 exact fT.trans _ _ _ h oM
structure xJ (l o s:List aG):Prop where
 wt: ∀r,wtL o r+wtL s r=wtL l r
 srt:C8 s
 oz:isZ o
 lt: ∀x∈o,∀y∈s,jK x.row y.row<0
def VY (h:a.Perm b) (r:List aC):wtL a r=wtL b r:=by
 induction h with
 | nil=>rfl
 | cons x _ ih=>rw[wtL,wtL,ih]
 | swap x y l=>rw[wtL,wtL,wtL,wtL];omega
 | trans _ _ h1 h2=>exact h1.trans h2
def xJ.start {s:List aG} (hp:s.Perm l) (hs:C8 s):xJ l [] s:=
 ⟨λr=>by rw[wtL,VY hp];omega,hs,⟨List.Pairwise.nil,λ_ h=>zas h zam,λ_ h=>zas h zam⟩,λ_ h=>zas h zam⟩
def xJ.done {o:List aG} (h:xJ l o []):cO l=(o,0):=by
 rw[<-Qv h.oz];exact Br λr=>by rw[<-h.wt r];simp[wtL]
variable {l o s:List aG} {x:aG} {j:Nat}
def xJ.first (h:xJ l o s) (hx:s[0]? =some x) (hn: ∀y,s[j]? =some y->y.row≠x.row):wtL (s.take j) x.row=wtL l x.row/\∀y∈s.drop j,jK x.row y.row<0:=by
 have hb: ∀y∈s.drop j,jK x.row y.row<0:=by
  intro y hy;obtain⟨z,t,hz⟩: ∃z t,s.drop j=z::t:=List.exists_cons_of_ne_nil (List.ne_nil_of_mem hy)
  have hzj:s[j]? =some z:=by
   have:=zay (λq=>q[0]?) hz;simpa[zcj]using this
  have hj0:0<j:=by
   rcases zef j with e | e
   .subst e;rw[hx]at hzj;injection hzj with hzj;subst hzj;exact zas rfl (hn x hx)
   exact e
  have arC:=h.srt;have hp:C8 (s.take j++s.drop j):=by rw[zbs];exact arC
  obtain⟨_,hp2,Qh⟩:=List.pairwise_append.1 hp;have hxm:x∈s.take j:=zag (i:=0) (by rw[zcu,zac hj0];exact hx);have hxz:=Qh x hxm z (by rw[hz];exact zao);have iJ:=hn z hzj
  have aX:jK x.row z.row<0:=by
   have:=mt (fT.eq0 x.row z.row).1 λe=>iJ e.symm;omega
  rw[hz]at hy hp2
  rcases zbb.1 hy with e | e
  .rw[e];exact aX
  exact Jo aX ((zdt.1 hp2).1 y e)
 refine⟨?_,hb⟩;have h1:wtL s x.row=wtL (s.take j) x.row+wtL (s.drop j) x.row:=by rw[<-jh,zbs]
 have h2:wtL (s.drop j) x.row=0:=uj λy hy e=>fT.irr (hb y hy) e.symm;have h3:wtL o x.row=0:=uj λy hy e=>fT.irr (h.lt y hy x (zag hx)) e;have:=h.wt x.row;omega
def xJ.bad (h:xJ l o s) (hx:s[0]? =some x) (hn: ∀y,s[j]? =some y->y.row≠x.row) (hf:aY (wtL (s.take j) x.row)≠true):cO l=([],50):=by
 refine qG λe=>hf ?_;rw[(h.first hx hn).1];exact CY.1 e _
def xJ.step (h:xJ l o s) (hx:s[0]? =some x) (jN: ∀y∈s.take j,y.row=x.row) (hn: ∀y,s[j]? =some y->y.row≠x.row) (hf:aY (wtL (s.take j) x.row)=true):
    xJ l (if wtL (s.take j) x.row≠0 then o++[⟨x.row,wtL (s.take j) x.row⟩]else o) (s.drop j):=by
  obtain⟨h1,h2⟩:=h.first hx hn;have hs2:C8 (s.drop j):=h.srt.sublist (List.drop_sublist _ _)
  have hw: ∀r,wtL s r=(if x.row=r then wtL (s.take j) x.row else 0)+wtL (s.drop j) r:=λr=>by
    have :wtL s r=wtL (s.take j) r+wtL (s.drop j) r:=by rw[<-jh,zbs]
    by_cases e:x.row=r
    . rw[zac e,<-e];rw[<-e]at this;exact this
    rw[zaa e,this,uj λy hy e2=>e (by rw[<-jN y hy];exact e2)]
  by_cases h0:wtL (s.take j) x.row≠0
  . rw[zac h0]
    refine⟨λr=>?_,hs2,⟨?_,λy hy=>?_,λy hy=>?_⟩,λy hy z hz=>?_⟩
    . rw[jh,<-h.wt r,hw r,wtL,wtL];dsimp only;omega
    . unfold oK
      rw[zak,List.pairwise_append];refine⟨h.oz.1,List.pairwise_singleton _ _,λa ha b hb=>?_⟩;obtain⟨y,hy,rfl⟩:=zar.1 ha;simp at hb;subst hb;exact h.lt y hy x (zag hx)
    . rcases zbk.1 hy with e | e
      . exact h.oz.2.1 y e
      rw[zaw]at e;subst e;exact h0
    . rcases zbk.1 hy with e | e
      . exact h.oz.2.2 y e
      rw[zaw]at e;subst e;exact hf
    rcases zbk.1 hy with e | e
    . exact h.lt y e z (zeg hz)
    rw[zaw]at e;subst e;exact h2 z hz
  rw[zaa h0];refine⟨λr=>?_,hs2,h.oz,λy hy z hz=>h.lt y hy z (zeg hz)⟩;have h5:wtL (s.take j) x.row=0:=Decidable.of_not_not h0;rw[<-h.wt r,hw r,h5]
  split<;>omega
def iy:List aG->Bool
 | []=>true
 | [x]=>decide (x.w≠0)
 | x::y::l=>decide (x.w≠0/\jK x.row y.row<0)&&iy (y::l)
def C9: ∀{z:List aG},isZ z->iy z=true
 | [],_=>rfl
 | [x],h=>zap (h.2.1 x zao)
 | x::y::l,h=>by
  obtain⟨h1,h2,h3⟩:=h;obtain⟨h4,h5⟩:=zdt.1 h1;rw[iy,C9 (z:=y::l) ⟨h5,λz hz=>h2 z (zau _ hz),λz hz=>h3 z (zau _ hz)⟩,Bool.and_true];exact zap ⟨h2 x zao,h4 _ zao⟩
def yP {z:List aG}:iy z=true↔(∀x∈z,x.w≠0)/\∀(i:Nat) x y,z[i]? =some x->z[i+1]? =some y->jK x.row y.row<0:=by
 match z with
 | []=>simp[iy]
 | [x]=>simp[iy]
 | x::y::l=>
  rw[iy,zbr,decide_eq_true_eq,yP (z:=y::l)];constructor
  .rintro⟨⟨h1,h2⟩,h3,h4⟩
   refine⟨λa ha=>?_,λi a b ha hb=>?_⟩
   .rcases zbb.1 ha with e | e
    .rw[e];exact h1
    exact h3 a e
   cases i with
   | zero=>simp at ha hb;subst ha;subst hb;exact h2
   | succ i=>exact h4 i a b (by simpa using ha) (by simpa using hb)
  rintro⟨h1,h2⟩;exact⟨⟨h1 x zao,h2 0 x y rfl rfl⟩,λa ha=>h1 a (zau _ ha),λi a b ha hb=>h2 (i+1) a b (by simpa using ha) (by simpa using hb)⟩
def shl:Int->Nat->Int
 | v,0=>v
 | v,i+1=>shl v i/4294967296
def dgt (v:Int) (i:Nat):Int:=shl v i%4294967296
def Lu (v:Int):List Int:=(List.range 6).map (dgt v)
def nI (v:Int) (i:Nat):0<=dgt v i/\dgt v i<4294967296:=by unfold dgt;omega
def FK (v:Int) (i:Nat):shl v i=4294967296*shl v (i+1)+dgt v i:=by
 show shl v i=4294967296*(shl v i/4294967296)+shl v i%4294967296
 omega
def TF (x y:Int): ∀i,shl (x+y) i-shl x i-shl y i=0\/shl (x+y) i-shl x i-shl y i=1
 | 0=>.inl (by show x+y-x-y=0;omega)
 | i+1=>by
  have ih:=TF x y i;show shl (x+y) i/4294967296-shl x i/4294967296-shl y i/4294967296=0\/shl (x+y) i/4294967296-shl x i/4294967296-shl y i/4294967296=1
  omega
def ajP (x y:Int) (i:Nat):dgt (x+y) i=(dgt x i+dgt y i+(shl (x+y) i-shl x i-shl y i))%4294967296/\
    shl (x+y) (i+1)-shl x (i+1)-shl y (i+1)=(dgt x i+dgt y i+(shl (x+y) i-shl x i-shl y i))/4294967296:=by
  have h:=TF x y i;unfold dgt;show _/\shl (x+y) i/4294967296-shl x i/4294967296-shl y i/4294967296=_
  omega
def abX (v:Int): ∀i,shl (-1-v) i= -1-shl v i
 | 0=>rfl
 | i+1=>by
  show shl (-1-v) i/4294967296= -1-shl v i/4294967296
  rw[abX v i];omega
def ajQ (v:Int) (i:Nat):dgt (-1-v) i=4294967295-dgt v i:=by
 unfold dgt;rw[abX];omega
variable {y:Int}
def VZ {x:Int}: ∀i,shl x i<shl y i->x<y
 | 0,h=>h
 | i+1,h=>VZ i (by have h:shl x i/4294967296<shl y i/4294967296:=h;omega)
def agj {x:Int} (h:shl x (i+1)=shl y (i+1)) (hd:dgt x i<dgt y i):x<y:=by
 refine VZ i ?_;rw[FK x i,FK y i,h];omega
def amx {x:Int} (h:shl x (i+1)=shl y (i+1)) (hd:dgt x i=dgt y i):shl x i=shl y i:=by
 rw[FK x i,FK y i,h,hd]
def abY {v:Int} (h1: -3138550867693340381917894711603833208051177722232017256448<=v) (h2:v<3138550867693340381917894711603833208051177722232017256448):
    shl v 6=(if v<0 then -1 else 0)/\(2147483648<=dgt v 5↔v<0):=by
  have e6:shl v 6=v/4294967296/4294967296/4294967296/4294967296/4294967296/4294967296:=rfl;have e5:dgt v 5=v/4294967296/4294967296/4294967296/4294967296/4294967296%4294967296:=rfl;rw[e6,e5];constructor
  . split<;>omega
  omega
def Ea (b:Bool):L8:=if b=true then [116,114,117,101]else [102,97,108,115,101]
def yQ (c:aC):L8:=Ea c.null++(32::(itoa c.n++(32::(itoa (c.s.length:Int)++(32::c.s)))))
def eU (k:List aC):L8:=k.flatMap yQ
def gI (k:List aC):Prop:=∀c∈k,(-9223372036854775808<=c.n/\c.n<=9223372036854775807)/\c.s.length<=1000000
def Da: ∀{a b x y:L8},(∀c∈a,c≠32)->(∀c∈b,c≠32)->a++32::x=b++32::y->a=b/\x=y
 | [],[],x,y,_,_,h=>by simpa using h
 | [],d::b,x,y,_,hb,h=>by
  simp only[zbw,zcb,List.cons.injEq]at h;exact zas h.1.symm (hb d zao)
 | c::a,[],x,y,ha,_,h=>by
  simp only[zbw,zcb,List.cons.injEq]at h;exact zas h.1 (ha c zao)
 | c::a,d::b,x,y,ha,hb,h=>by
  simp only[zcb,List.cons.injEq]at h;obtain⟨h1,h2⟩:=Da (a:=a) (b:=b) (λz hz=>ha z (zau _ hz)) (λz hz=>hb z (zau _ hz)) h.2;exact⟨by rw[h.1,h1],h2⟩
def Wh (b:Bool): ∀c∈Ea b,c≠32:=by cases b<;>decide
def adq {a b:Bool} (h:Ea a=Ea b):a=b:=by cases a<;>cases b<;>first | rfl | exact zas h dC
def Wi {a b:Int} (ha: -9223372036854775808<=a/\a<=9223372036854775807) (hb: -9223372036854775808<=b/\b<=9223372036854775807) (h:itoa a=itoa b):a=b:=by
 rw[<-yc ha.1 ha.2,h,yc hb.1 hb.2]
def Wj (c:aC) (x:L8):yQ c++x≠[]:=by
 unfold yQ Ea;cases c.null<;>simp
def ads {c d:aC} {x y:L8} (hc:(-9223372036854775808<=c.n/\c.n<=9223372036854775807)/\c.s.length<=1000000) (hd:(-9223372036854775808<=d.n/\d.n<=9223372036854775807)/\d.s.length<=1000000)
    (h:yQ c++x=yQ d++y):c=d/\x=y:=by
  unfold yQ at h;simp only[zbm,zcb]at h;obtain⟨h1,h2⟩:=Da (Wh _) (Wh _) h;obtain⟨h3,h4⟩:=Da (DN _) (DN _) h2;obtain⟨h5,h6⟩:=Da (DN _) (DN _) h4;have hn:=Wi hc.1 hd.1 h3
  have hl:c.s.length=d.s.length:=by
    have:=Wi oM oM h5;omega
  obtain⟨h7,h8⟩:=List.append_inj h6 hl;refine⟨?_,h8⟩;have hb:=adq h1;cases c;cases d;simp_all
def Db: ∀{a b:List aC},gI a->gI b->eU a=eU b->a=b
 | [],[],_,_,_=>rfl
 | [],d::b,_,_,h=>by
  unfold eU at h;rw[zfm,zbh]at h;exact zas h.symm (Wj d _)
 | c::a,[],_,_,h=>by
  unfold eU at h;rw[zfm,zbh]at h;exact zas h (Wj c _)
 | c::a,d::b,ha,hb,h=>by
  unfold eU at h;rw[zbh,zbh]at h;obtain⟨h1,h2⟩:=ads (ha c zao) (hb d zao) h;rw[h1,Db (a:=a) (b:=b) (λz hz=>ha z (zau _ hz)) (λz hz=>hb z (zau _ hz)) h2]
def Qw (c:aC) (h:(-9223372036854775808<=c.n/\c.n<=9223372036854775807)/\c.s.length<=1000000):(yQ c).length<=1000100:=by
 have h1:=Cx h.1.1 h.1.2;have h2:=Cx (n:=(c.s.length:Int)) oM oM;have h3:(Ea c.null).length<=5:=by cases c.null<;>decide
 unfold yQ;simp only[zad,zaq];omega
def tC {α:Type} (w:Wd) (fv:Value) (enc:α->Value) (p:α->Bool):Prop:=
 ∃f fs cs,fv=.func (.func f) (List.toArray fs) (List.toArray cs)/\qz prog f/\∀x w',Kept noB w w'->aQ prog f (fs++[enc x]++cs) w' λv w''=>v=.bool (p x)/\Kept noB w' w''
variable {fv:Value}
def tC.keep {α:Type} {w w':Wd} {enc:α->Value} {p:α->Bool} (h:tC w fv enc p) (hk:Kept noB w w'):tC w' fv enc p:=by
 obtain⟨f,fs,cs,h1,h2,h3⟩:=h;exact⟨f,fs,cs,h1,h2,λx w'' Pe=>h3 x w'' (hk.MF Pe)⟩
def zR (o:Option Nat):Int:=match o with | none=> -1 | some i=>i
def Dc {α:Type} {l:List α} {p:α->Bool}:decide (zR (l.findIdx? p)≥0)=l.any p:=by
 cases h:l.findIdx? p with
 | none=>
  rw[zda]at h;show decide ((-1:Int)≥0)=_
  rw[eq_comm,show decide ((-1:Int)≥0)=false from rfl,List.any_eq_false];intro x hx;rw[h x hx];simp
 | some i=>
  obtain⟨h1,h2,_⟩:=zcw.1 h;show decide ((i:Int)≥0)=_
  rw[eq_comm,zap (show(i:Int)≥0 from oM),zfz];exact⟨_,List.getElem_mem h1,h2⟩
variable {w:Wd}
variable {v:Value}
def Wm {l:List bT} {p:bT->Bool} (hl:aJ w v aM 7 l) (hp:tC w fv (λx=>agg (aM x)) p):Rk prog 178 [v,fv] w (I (zR (l.findIdx? p))):=by
 obtain⟨A,m,rfl,⟨hm,nX⟩,hA⟩:=hl;obtain⟨f,fs,cs,rfl,Fe,qY⟩:=hp;have H:=Sep.aH w;refine bU func178 ?_;refine V4 ?_;refine aI (λi:Nat=>[(0,.slice A l.length m),(1,.func (.func f) fs.toArray cs.toArray),(7,I l.length),(8,I i)]) (λi w'=>(i<=l.length/\∀(j:Nat) y,j<i->l[j]? =some y->p y=false)/\Sep w noB [] w') (λi _=>l.length-i) 0 tR ⟨⟨zai _,λj y hj=>oM⟩,H⟩ (λi τ w6 hI=>?_);obtain⟨⟨hi,uQ⟩,H6⟩:=hI;refine Lp ?_;refine Cz (λZg=>?_) (λZg=>?_)
 .have aX:i<l.length:=oM
  obtain⟨x,hx⟩:=get_some aX;refine V7 ?_;refine eY rfl (qY x _ H6.kept) rfl rfl (λv' wa hv=>?_);obtain⟨rfl,cK⟩:=hv;have Ha:=H6.keep cK;refine Qn (Cd rfl (λIe=>?_) (λIe=>?_))
  .have bX:l.findIdx? p=some i:=uJ uQ hx Ie
   refine V2 ?_;exact⟨by rw[bX];rfl,Ha.kept⟩
  have G9:=Ie;refine V2 ?_;exact aj (i+1) tR ⟨⟨oM,λj y hj hy=>by
  by_cases e:j=i
  .subst e;rw[hx]at hy;injection hy with hy;rw[<-hy];exact zdq _▸G9
  exact uQ j y oM hy⟩,Ha⟩ oM
 have jG:i=l.length:=oM;have bX:l.findIdx? p=none:=qX λj y hy=>uQ j y (by have:=fI hy;omega) hy;refine V1 ?_;exact⟨by rw[bX];rfl,H6.kept⟩
def adt {l:List bR} {p:bR->Bool} (hl:aJ w v aD 2 l) (hp:tC w fv (λx=>agg (aD x)) p):Rk prog 229 [v,fv] w (I (zR (l.findIdx? p))):=by
 obtain⟨A,m,rfl,⟨hm,nX⟩,hA⟩:=hl;obtain⟨f,fs,cs,rfl,Fe,qY⟩:=hp;have H:=Sep.aH w;refine bU func229 ?_;refine V4 ?_;refine aI (λi:Nat=>[(0,.slice A l.length m),(1,.func (.func f) fs.toArray cs.toArray),(7,I l.length),(8,I i)]) (λi w'=>(i<=l.length/\∀(j:Nat) y,j<i->l[j]? =some y->p y=false)/\Sep w noB [] w') (λi _=>l.length-i) 0 tR ⟨⟨zai _,λj y hj=>oM⟩,H⟩ (λi τ w6 hI=>?_);obtain⟨⟨hi,uQ⟩,H6⟩:=hI;refine Lp ?_;refine Cz (λZg=>?_) (λZg=>?_)
 .have aX:i<l.length:=oM
  obtain⟨x,hx⟩:=get_some aX;refine V7 ?_;refine eY rfl (qY x _ H6.kept) rfl rfl (λv' wa hv=>?_);obtain⟨rfl,cK⟩:=hv;have Ha:=H6.keep cK;refine Qn (Cd rfl (λIe=>?_) (λIe=>?_))
  .have bX:l.findIdx? p=some i:=uJ uQ hx Ie
   refine V2 ?_;exact⟨by rw[bX];rfl,Ha.kept⟩
  have G9:=Ie;refine V2 ?_;exact aj (i+1) tR ⟨⟨oM,λj y hj hy=>by
  by_cases e:j=i
  .subst e;rw[hx]at hy;injection hy with hy;rw[<-hy];exact zdq _▸G9
  exact uQ j y oM hy⟩,Ha⟩ oM
 have jG:i=l.length:=oM;have bX:l.findIdx? p=none:=qX λj y hy=>uQ j y (by have:=fI hy;omega) hy;refine V1 ?_;exact⟨by rw[bX];rfl,H6.kept⟩
def Bt {l:List bR} {p:bR->Bool} (hl:aJ w v aD 2 l) (hp:tC w fv (λx=>agg (aD x)) p):Rk prog 162 [v,fv] w (.bool (l.any p)):=by
 have H:=Sep.aH w;refine bU func162 ?_;refine Kz (adt (hl.keep H.kept) (hp.keep H.kept)) (λ_ k _=>?_);refine V2 ?_;exact⟨by rw[<-Dc];rfl,k.kept⟩
def agk {l:List (Int)} (x:Int) (hl:aJ w v intCells 1 l):Rk prog 230 [v,I x] w (I (zR (l.findIdx? λy=>decide (x=y)))):=by
 obtain⟨A,m,rfl,⟨hm,nX⟩,hA⟩:=hl;have H:=Sep.aH w;obtain⟨p,hp⟩: ∃p:Int->Bool,p=λy=>decide (x=y):=⟨_,rfl⟩;rw[<-hp];refine bU func230 ?_;refine V4 ?_;refine aI (λi:Nat=>[(0,.slice A l.length m),(1,I x),(7,I l.length),(8,I i)]) (λi w'=>(i<=l.length/\∀(j:Nat) y,j<i->l[j]? =some y->p y=false)/\Sep w noB [] w') (λi _=>l.length-i) 0 tR ⟨⟨zai _,λj y hj=>oM⟩,H⟩ (λi τ w6 hI=>?_);obtain⟨⟨hi,uQ⟩,H6⟩:=hI;refine Lp ?_;refine Cz (λZg=>?_) (λZg=>?_)
 .have aX:i<l.length:=oM
  obtain⟨y,hy⟩:=get_some aX;refine Cz (λIe=>?_) (λIe=>?_)
  .have bX:l.findIdx? p=some i:=uJ uQ hy (by rw[hp];simpa using Ie)
   refine V2 ?_;exact⟨by rw[bX];rfl,H6.kept⟩
  have G9:p y=false:=by rw[hp];simpa using Ie
  refine V2 ?_;exact aj (i+1) tR ⟨⟨oM,λj z hj hz=>by
  by_cases e:j=i
  .subst e;rw[hy]at hz;injection hz with hz;rw[<-hz];exact G9
  exact uQ j z oM hz⟩,H6⟩ oM
 have jG:i=l.length:=oM;have bX:l.findIdx? p=none:=qX λj y hy=>uQ j y (by have:=fI hy;omega) hy;refine V1 ?_;exact⟨by rw[bX];rfl,H6.kept⟩
def adu {l:List (L8)} (x:L8) (hl:aJ w v gP 1 l):Rk prog 280 [v,str x] w (I (zR (l.findIdx? λy=>decide (x=y)))):=by
 obtain⟨A,m,rfl,⟨hm,nX⟩,hA⟩:=hl;have H:=Sep.aH w;obtain⟨p,hp⟩: ∃p:L8->Bool,p=λy=>decide (x=y):=⟨_,rfl⟩;rw[<-hp];refine bU func280 ?_;refine V4 ?_;refine aI (λi:Nat=>[(0,.slice A l.length m),(1,str x),(7,I l.length),(8,I i)]) (λi w'=>(i<=l.length/\∀(j:Nat) y,j<i->l[j]? =some y->p y=false)/\Sep w noB [] w') (λi _=>l.length-i) 0 tR ⟨⟨zai _,λj y hj=>oM⟩,H⟩ (λi τ w6 hI=>?_);obtain⟨⟨hi,uQ⟩,H6⟩:=hI;refine Lp ?_;refine Cz (λZg=>?_) (λZg=>?_)
 .have aX:i<l.length:=oM
  obtain⟨y,hy⟩:=get_some aX;refine Cz (λIe=>?_) (λIe=>?_)
  .have bX:l.findIdx? p=some i:=uJ uQ hy (by rw[hp];simpa using Ie)
   refine V2 ?_;exact⟨by rw[bX];rfl,H6.kept⟩
  have G9:p y=false:=by rw[hp];simpa using Ie
  refine V2 ?_;exact aj (i+1) tR ⟨⟨oM,λj z hj hz=>by
  by_cases e:j=i
  .subst e;rw[hy]at hz;injection hz with hz;rw[<-hz];exact G9
  exact uQ j z oM hz⟩,H6⟩ oM
 have jG:i=l.length:=oM;have bX:l.findIdx? p=none:=qX λj y hy=>uQ j y (by have:=fI hy;omega) hy;refine V1 ?_;exact⟨by rw[bX];rfl,H6.kept⟩
def adv {l:List (aC)} (x:aC) (hl:aJ w v ah 3 l):Rk prog 321 [v,agg (ah x)] w (I (zR (l.findIdx? λy=>decide (x=y)))):=by
 obtain⟨A,m,rfl,⟨hm,nX⟩,hA⟩:=hl;have H:=Sep.aH w;obtain⟨p,hp⟩: ∃p:aC->Bool,p=λy=>decide (x=y):=⟨_,rfl⟩;rw[<-hp];refine bU func321 ?_;refine Sr (bB H (h:=λb1 w2 H2 k1=>?_));refine V4 ?_;refine aI (λi:Nat=>[(0,.slice A l.length m),(3,.pointer (some ⟨b1,0,none⟩)),(7,I l.length),(8,I i)]) (λi w'=>(i<=l.length/\∀(j:Nat) y,j<i->l[j]? =some y->p y=false)/\Sep w noB [blk b1 (ah x) 47] w') (λi _=>l.length-i) 0 tR ⟨⟨zai _,λj y hj=>oM⟩,H2⟩ (λi τ w8 hI=>?_);obtain⟨⟨hi,uQ⟩,H8⟩:=hI;refine Lp ?_;refine Cz (λIe=>?_) (λIe=>?_)
 .have aX:i<l.length:=oM
  obtain⟨y,hy⟩:=get_some aX;refine Dz (λSa wa Ha=>?_);refine V5 ?_;refine Gp Sa 5 rfl rfl (λ_=>(Gives.afd (enc:=ah) _ _ rfl rfl)) (fO Sa kR ?_);refine Cz (λIf=>?_) (λIf=>?_)
  .have bX:l.findIdx? p=some i:=uJ uQ hy (by rw[hp];simpa using If)
   refine V2 ?_;exact⟨by rw[bX];rfl,Ha.kept⟩
  have G9:p y=false:=by rw[hp];simpa using If
  refine V2 ?_;exact aj (i+1) tR ⟨⟨oM,λj z hj hz=>by
  by_cases e:j=i
  .subst e;rw[hy]at hz;injection hz with hz;rw[<-hz];exact G9
  exact uQ j z oM hz⟩,Ha⟩ oM
 have jG:i=l.length:=oM;have bX:l.findIdx? p=none:=qX λj y hy=>uQ j y (by have:=fI hy;omega) hy;refine V1 ?_;exact⟨by rw[bX];rfl,H8.kept⟩
def Zu {l:List (Int)} (x:Int) (hl:aJ w v intCells 1 l):Rk prog 164 [v,I x] w (.bool (l.any λy=>decide (x=y))):=by
 have H:=Sep.aH w;refine bU func164 ?_;refine Kz (agk x (hl.keep H.kept)) (λ_ k _=>?_);refine V2 ?_;exact⟨by rw[<-Dc];rfl,k.kept⟩
def Wn {l:List (aC)} (x:aC) (hl:aJ w v ah 3 l):Rk prog 241 [v,agg (ah x)] w (.bool (l.any λy=>decide (x=y))):=by
 have H:=Sep.aH w;refine bU func241 ?_;refine Sr (bB H (h:=λb1 _ k _=>?_));refine Kz (adv x (hl.keep k.kept)) (λ_ k _=>?_);refine V2 ?_;exact⟨by rw[<-Dc];rfl,k.kept⟩
variable {cols:List bT}
def Wo {l:List bL} (h:(iM cols l).2=0):l.length<=64/\∃t,runT cols [] l=some [t]/\iM cols l=(t,0):=by
 unfold iM at h |-
 split at h
 .cases h
 rename_i h64;rw[zaa h64];refine⟨oM,?_⟩
 split at h
 .rename_i t ht;exact⟨t,ht,by first | rfl | rw[ht]⟩
 cases h
def Qx {ts ts':List bR} {x:bL} (h:stepT cols ts x=some ts') (hk:x.kind=1): ∃i,oF cols x.n=some i:=by
 cases hf:oF cols x.n with
 | some i=>exact⟨i,rfl⟩
 | none=>
  unfold stepT at h;dsimp only at h
  split at h
  .cases h
  rw[zac ((CP _).2 oM)]at h;unfold qU at h;rw[zac hk,hf]at h;cases h
def ajR {ts ts':List bR} {x:bL} (h:stepT cols ts x=some ts'):dI x.kind<=ts.length:=by
 refine Classical.byContradiction λhn=>?_;rw[CK (.inr oM)]at h;cases h
attribute [local irreducible] iM fM
theorem Df {l:List bL} {vc vl vr:Value} (hc:aJ w vc aM 7 cols) (hl:aJ w vl aN 3 l) (hr:aJ w vr ah 3 r) (hf:jA r) (hx: ∀x∈l,fits x.n):
    Rk Tryz.prog 127 [vc,vl,vr] w (.tuple #[agg (ah (mR cols l r).1),I (mR cols l r).2]):=by
  have Pg:=hc;have Fw:=hl;have hrr:=hr;obtain⟨A,m,rfl,⟨hm,nX⟩,hA⟩:=hc;obtain⟨C,n,rfl,⟨hn,hn'⟩,hC⟩:=hl;obtain⟨D,q,rfl,⟨hq,hq'⟩,hD⟩:=hr;have H:=Sep.aH w;obtain⟨res,ak⟩: ∃res,res=mR cols l r:=⟨_,rfl⟩;rw[<-ak];unfold mR at ak;refine AJ Tryz.func127 ?_;refine Az (λb1 _ k _=>?_);refine Kz (Km (Pg.keep k.kept) (Fw.keep k.kept)) (λ_ _ _=>?_);refine Az (λb11 _ _ _=>?_);refine Tz (λ_ k=>?_);refine Cz (λS=>?_) (λS=>?_)
  . have bX:res=(cell0,(iM cols l).2):=by rw[ak,zac S]
    refine Sr (Vb (ah cell0) ?_);refine Mv ?_;refine Tz (λ_ d=>?_);refine V1 ?_;exact⟨_,bF d,by rw[bX];rfl,d.kept⟩
  have aiX:(iM cols l).2=0:=by simpa using S
  obtain⟨h64,t,iw,htt⟩:=Wo aiX;rw[zaa (by simpa using aiX)]at ak;refine Kz (OU (Pg.keep k.kept) (hrr.keep k.kept)) (λ_ d _=>?_);refine Cz (λS=>?_) (λS=>?_)
  . have bX:res=(cell0,fM cols r):=by rw[ak,zac S]
    refine Sr (Vb (ah cell0) ?_);refine Mv ?_;refine Tz (λ_ k=>?_);refine V1 ?_;exact⟨_,bF k,by rw[bX];rfl,k.kept⟩
  have tV:fM cols r=0:=by simpa using S
  rw[zaa (by simpa using tV)]at ak;obtain⟨hlen,_⟩:=abt tV;refine V2 ?_;have k:=Sep.iW d.bI 47 3 ah;refine aI (λx:Nat×List aC×Value=>[(0,.slice A cols.length m),(1,.slice C l.length n),(2,.slice D r.length q),(6,.pointer (some ⟨b1,0,none⟩)),(11,x.2.2),(12,I x.1)]) (λx w'=>(x.1<=l.length/\(∃ts,Typed ts x.2.1/\runT cols ts (l.drop x.1)=some [t])/\x.2.1.length<=x.1/\Cu cols r x.2.1 (l.drop x.1)=Cu cols r [] l)/\Sep w noB [aU 47 3 ah x.2.2 x.2.1,blk b1 (ah cell0) 47] w') (λx _=>l.length-x.1) (0,[],_) tR ⟨⟨zai _,⟨[],Typed.nil,iw⟩,zbi _,rfl⟩,k⟩ (λx τ _ hI=>?_);obtain⟨i,st,v0⟩:=x;obtain⟨⟨hi,⟨ts,hT,hts⟩,YS,dK⟩,k⟩:=hI;dsimp only at hi hT hts YS dK k;obtain⟨B,cb,rfl,Pv,hB⟩:=Sep.bH k At0;refine Lp ?_;refine Cz (λk=>?_) (λk=>?_)
  . have aX:i<l.length:=oM
    obtain⟨x,pG⟩:=get_some aX
    have hdr:l.drop i=x::l.drop (i+1):=by
      rw[zbn aX];rw[zab aX]at pG;injection pG with pG;rw[pG]
    rw[hdr,runT]at hts;rw[hdr,Cu]at dK;obtain⟨ts',tu,afP⟩:=zdr.1 hts;have hfx:=hx x (zag pG);obtain⟨he,hg⟩:=Pd tV hf hfx hT tu;rw[he]at dK;have yH:=Tm x.kind;have rW:=ajR tu;rw[hT.1]at rW;obtain⟨rg,YT⟩: ∃rg,rg=aiV cols r st x:=⟨_,rfl⟩;rw[<-YT]at dK hg;unfold aiV at YT;refine V8 ?_;refine eG (OV _) (h:=?_);refine Dz (λk _ d=>?_);refine V10 ?_;refine Gb k 10 (ah ⟨false,x.n,x.s⟩) ?_;refine r9 k 11 [(10,true),(9,false),(8,true),(7,true),(6,true),(5,true),(4,false),(3,true),(2,true),(1,true),(0,true)] d (h:=λbt _ d=>⟨ay ((bQ rfl kR (Gives.dG rfl d hC pG rfl) rfl (ay (ay (ay (ay ((bQ rfl kR (Gives.dG rfl d hC pG rfl) rfl (ay (ay (ay (ay (eF))))))))))))),?_⟩);refine bM k 12 _ d (h:=λ_ d=>⟨sT,?_⟩);refine fO k kR ?_;refine iK (dB (λz:aC=>[(0,.slice A cols.length m),(1,.slice C l.length n),(2,.slice D r.length q),(6,.pointer (some ⟨b1,0,none⟩)),(11,.slice B st.length cb),(12,I i),(13,I st.length),(14,I (dI x.kind)),(15,.pointer (some ⟨bt,0,none⟩))]) (λz w'=>rg=some z/\Sep w noB [blk bt (ah z) 47,aU 47 3 ah (.slice B st.length cb) st,blk b1 (ah cell0) 47] w') ?_ ?_)
    . refine Cz (λk=>?_) (λk=>?_)
      . obtain⟨ci,hci⟩:=Qx tu k
        have hcI:LQ cols x.n=(ci:Int):=by unfold LQ;rw[hci]
        have arF:=G6 hci;obtain⟨c0,S⟩:=get_some (l:=r) (i:=ci) oM;have h0:dI x.kind=0:=by rw[k];rfl
        have Qi:rg=some c0:=by
          rw[YT,zac h0];unfold xg;rw[zac k,hci,zdg,jy S]
        refine Kz (Lg x.n (Pg.keep d.kept)) (λ_ _ _=>?_);rw[hcI];refine Tz (λ_ S=>?_);refine V0 ?_;exact au c0 tR ⟨Qi,S⟩
      refine Cz (λS=>?_) (λS=>?_)
      . have h0:dI x.kind=0:=by rw[S];rfl
        have Qi:rg=some bK:=by
          rw[YT,zac h0];unfold xg;rw[zaa oM,zac S]
        refine V0 ?_;refine Vb (ah bK) ?_;refine Tz (λ_ S=>?_);refine V0 ?_;exact au bK tR ⟨Qi,S⟩
      refine Cz (λS=>?_) (λS=>?_)
      . have jH:1<=dI x.kind:=oM
        obtain⟨a,ha⟩:=get_some (l:=st) (i:=st.length-dI x.kind) oM;obtain⟨b,hb⟩:=get_some (l:=st) (i:=st.length-1) oM;obtain⟨ta,Zh⟩:=get_some (l:=ts) (i:=st.length-dI x.kind) (by have:=hT.1;omega);obtain⟨tb,VA⟩:=get_some (l:=ts) (i:=st.length-1) (by have:=hT.1;omega);have oa:=hT.2 _ ta a Zh ha;have ob:=hT.2 _ tb b VA hb;have hsa:=Pb oa.1;rw[zaa oM,jy ha,jy hb]at YT;refine Dz (λS _ k=>?_);refine V8 ?_;refine Gc S 8 ((st.length-dI x.kind:Nat):Int) ?_;refine V1 ?_;refine GS (Gt rfl (Gives.pF rfl (dP k At1) ha) ?_);refine V2 ?_;refine Gc S 13 ((st.length-1:Nat):Int) ?_;refine V1 ?_;refine GS (Gt rfl (Gives.pF rfl (dP k At1) hb) ?_);refine jQ S (e1:=16) (e2:=20) kR ?_ ?_
        . refine Ka S 16 [] rfl kR (OZ x.kind a b oa.2 ob.2 oM) rfl kR kR (λv' _ hv=>?_)
          obtain⟨⟨cm,rfl,hcm⟩,cK⟩:=hv;have e:=k.keep cK;refine⟨sT,?_⟩;refine V3 ?_;refine r9 S 20 _ e (h:=λbm _ e=>⟨sT,?_⟩);refine bM S 21 _ e (h:=λ_ _=>⟨sT,?_⟩);refine O3 ?_;refine Qn (Cd rfl (λe=>?_) (λe=>?_))
          . have hrn:rg=none:=by
              rw[YT];cases Vk:lq x.kind a b with
              | none=>rfl
              | some y=>rw[Vk]at e;cases e
            rw[hrn]at dK;have DZ:none=Cu cols r [] l:=dK;rw[<-DZ]at ak;have bX:res=(cell0,50):=ak;refine Sr (Vb (ah cell0) ?_);refine Tz (λ_ f=>?_);refine V1 ?_;exact⟨_,bF f,by rw[bX];rfl,f.kept⟩
          obtain⟨y,hy⟩: ∃y,lq x.kind a b=some y:=by
            cases Vk:lq x.kind a b with
            | none=>rw[Vk]at e;cases e
            | some y=>exact⟨y,rfl⟩
          have Qi:rg=some cm:=by rw[YT,hy,hcm y hy]
          refine Tz (λ_ f=>?_);refine V0 ?_;exact au cm tR ⟨Qi,f.bI⟩
        refine jE S 20 [(15,false),(14,true),(13,true),(12,true),(11,true),(10,false),(9,true),(8,true),(7,true),(6,true),(5,true),(4,false),(3,true),(2,true),(1,true),(0,true)] k (h:=λbm _ f=>⟨(bQ rfl kR (Gives.pF rfl (dP f At2) hb) rfl (ay (ay (ay (ay ((bQ rfl kR (Gives.pF rfl (dP f At2) ha) rfl (ay (ay (ay (ay (ay ((bQ rfl kR (Gives.dG rfl f hC pG rfl) rfl (ay (ay (ay (ay (eF))))))))))))))))))),?_⟩);refine p8 S 16 [] rfl kR (OZ x.kind a b oa.2 ob.2 oM) rfl kR kR (λv' _ hv=>?_);obtain⟨⟨cm,rfl,hcm⟩,cK⟩:=hv;have k:=f.keep cK;refine⟨sT,?_⟩;refine V3 ?_;refine bM S 21 _ k (h:=λ_ _=>⟨sT,?_⟩);refine O3 ?_;refine Qn (Cd rfl (λk=>?_) (λk=>?_))
        . have hrn:rg=none:=by
            rw[YT];cases Vk:lq x.kind a b with
            | none=>rfl
            | some y=>rw[Vk]at k;cases k
          rw[hrn]at dK;have DZ:none=Cu cols r [] l:=dK;rw[<-DZ]at ak;have bX:res=(cell0,50):=ak;refine Sr (Vb (ah cell0) ?_);refine Tz (λ_ f=>?_);refine V1 ?_;exact⟨_,bF f,by rw[bX];rfl,f.kept⟩
        obtain⟨y,hy⟩: ∃y,lq x.kind a b=some y:=by
          cases Vk:lq x.kind a b with
          | none=>rw[Vk]at k;cases k
          | some y=>exact⟨y,rfl⟩
        have Qi:rg=some cm:=by rw[YT,hy,hcm y hy]
        refine Tz (λ_ f=>?_);refine V0 ?_;exact au cm tR ⟨Qi,f.bI⟩
      have h0:dI x.kind=0:=oM
      have Qi:rg=some ⟨false,x.n,x.s⟩:=by
        rw[YT,zac h0];unfold xg;rw[zaa oM,zaa oM]
      refine V0 ?_;exact au ⟨false,x.n,x.s⟩ tR ⟨Qi,d⟩
    rintro c τ f ⟨Zi,f⟩;refine Lp ?_;refine Dz (λf _ d=>?_);refine V3 ?_;obtain⟨hTy,yK⟩:=hg c Zi;rw[Zi]at dK;have DZ:Cu cols r (st.take (st.length-dI x.kind)++[c]) (l.drop (i+1))=Cu cols r [] l:=dK;refine Gc f 3 ((st.length-dI x.kind:Nat):Int) ?_;refine V2 ?_;refine Gz f 6 _ d ([c].flatMap ah) (h:=λb _ d=>⟨sT,?_⟩);have abz:=Sep.aps (m:=st.length-dI x.kind) d At2 oM;have Bj:(st.take (st.length-dI x.kind)).length=st.length-dI x.kind:=by rw[zah];omega
    refine gH f 7 _ abz (news:=[c]) At1 (by rw[Bj];unfold maxLen;simp;omega) (by rw[Bj];simp;omega) (cells_one (λ_=>rfl) [c]) (h:=λv2 _ d=>⟨sT,?_⟩);refine tq f 8 _ (h:=⟨sT,?_⟩);refine V3 ?_;exact aj (i+1,st.take (st.length-dI x.kind)++[c],v2) tR ⟨⟨dO,⟨ts',hTy,afP⟩,by dsimp only;rw[zad,Bj];simp;omega,DZ⟩,d.bI⟩ dO
  have jG:i=l.length:=oM;rw[jG,zdz,runT]at hts;rw[jG,zdz,Cu]at dK;rw[<-dK]at ak;have anv:ts=[t]:=by injection hts
  have h1:st.length=1:=by rw[<-hT.1,anv];rfl
  obtain⟨c,d⟩:=zfo.1 h1;have hg0:st[0]? =some c:=by rw[d];rfl
  have bX:res=(c,0):=by rw[ak,d];rfl
  refine V1 ?_;refine Vv (Gives.fA (i:=0) rfl rfl hB oM) (Vv (Gives.pF (i:=0) rfl hB hg0) ?_);refine Tz (λ_ d=>?_);refine V1 ?_;exact⟨_,bF d,by rw[bX];rfl,d.kept⟩
end Go.Proofs.Mw
