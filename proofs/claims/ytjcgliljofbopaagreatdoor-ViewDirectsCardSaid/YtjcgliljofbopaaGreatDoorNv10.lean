/-
 Orders told by a number:cells,texts,rows. No program stands here.
-/
import Derived.Test.YtjcgliljofbopaaGreatDoorNv9
set_option linter.all false
set_option maxRecDepth 4000
namespace Go.Proofs.Mw
open Go.Lib Go.Proofs.Tryz
attribute [local irreducible] FW FL FG FGn jK jO fI lU Qfn Gives
structure ET {α:Type} (f:α->α->Int):Prop where
 eq0: ∀a b,f a b=0↔a=b
 anti: ∀a b,f b a= -f a b
 trans: ∀a b c,f a b<0->f b c<0->f a c<0
section
variable {α:Type} {f:α->α->Int}
def ET.self (h:ET f) (a:α):f a a=0:=(h.eq0 a a).2 rfl
def ET.irr (h:ET f) {a b:α} (hl:f a b<0):a≠b:=λe=>by rw[(h.eq0 a b).2 e]at hl;omega
def ET.asymm (h:ET f) {a b:α} (hl:f a b<0): ¬f b a<0:=by rw[h.anti];omega
def ET.gt (h:ET f) {a b:α} (hn: ¬f a b<0) (iN:a≠b):f b a<0:=by
 have:=mt (h.eq0 a b).1 iN;rw[h.anti];omega
end
def qQ {α:Type} (f:α->α->Int):List α->List α->Int
 | [],[]=>0
 | [],_::_=> -1
 | _::_,[]=>1
 | a::r,b::s=>if f a b≠0 then f a b else qQ f r s
def aa1 {α:Type} {f:α->α->Int} (h:ET f):ET (qQ f) where
 eq0:=λa=>by
  induction a with
  | nil=>intro b;cases b<;>simp[qQ]
  | cons x r ih=>
   intro b;cases b with
   | nil=>simp[qQ]
   | cons y s=>
    rw[qQ]
    by_cases e:f x y=0
    .rw[zab (not_not_intro e),ih,(h.eq0 x y).1 e];simp
    rw[zac e];have:=mt (h.eq0 x y).2 e;simp[e,this]
 anti:=λa=>by
  induction a with
  | nil=>intro b;cases b<;>simp[qQ]
  | cons x r ih=>
   intro b;cases b with
   | nil=>simp[qQ]
   | cons y s=>
    rw[qQ,qQ];have ha:=h.anti x y
    by_cases e:f x y=0
    .rw[zab oM,zab oM,ih]
    rw[zac oM,zac e,ha]
 trans:=λa=>by
  induction a with
  | nil=>
   intro b c h1 h2;cases b with
   | nil=>simp[qQ]at h1
   | cons y s=>
    cases c with
    | nil=>simp[qQ]at h2
    | cons z t=>simp[qQ]
  | cons x r ih=>
   intro b c h1 h2;cases b with
   | nil=>simp[qQ]at h1
   | cons y s=>
    cases c with
    | nil=>simp[qQ]at h2
    | cons z t=>
     rw[qQ]at h1 h2 |-
     by_cases e1:f x y=0
     .have exy:=(h.eq0 x y).1 e1
      subst exy;rw[zab (not_not_intro e1)]at h1
      by_cases e2:f x z=0
      .rw[zab (not_not_intro e2)]at h2 |-
       exact ih s t h1 h2
      rw[zac e2]at h2 ⊢;exact h2
     rw[zac e1]at h1
     by_cases e2:f y z=0
     .have eyz:=(h.eq0 y z).1 e2
      subst eyz;rw[zac e1];exact h1
     rw[zac e2]at h2;have h3:=h.trans x y z h1 h2;rw[zac oM];exact h3
def acr (a b:UInt8):Int:=if a<b then -1 else if b<a then 1 else 0
def EU (a b:UInt8):acr a b=if a.toNat<b.toNat then -1 else if b.toNat<a.toNat then 1 else 0:=by unfold acr;simp only[UInt8.lt_iff_toNat_lt]
def afi:ET acr where
 eq0:=λa b=>by
  rw[EU,<-UInt8.toNat_inj]
  split
  .omega
  split<;>omega
 anti:=λa b=>by
  rw[EU,EU]
  split<;>split<;>(try split)<;>omega
 trans:=λa b c h1 h2=>by
  rw[EU]at h1 h2 |-
  split at h1<;>split at h2<;>(try split at h1)<;>(try split at h2)<;>(try omega)
def PS: ∀a b:L8,compareBytes a b=qQ acr a b
 | [],[]=>rfl
 | [],_::_=>rfl
 | _::_,[]=>rfl
 | a::r,b::s=>by
  rw[compareBytes,qQ,PS r s];unfold acr
  by_cases h1:a<b
  .simp[h1]
  by_cases h2:b<a
  .simp[h1,h2]
  simp[h1,h2]
def GI:ET compareBytes:=by
 have e:compareBytes=qQ acr:=funext λa=>funext λb=>PS a b;rw[e];exact aa1 afi
def aiK {a b:aC}:a=b↔a.null=b.null/\a.n=b.n/\a.s=b.s:=⟨λh=>by subst h;exact⟨rfl,rfl,rfl⟩,fun⟨h1,h2,h3⟩=>by cases a;cases b;simp_all⟩
def EW:ET nk where
 eq0:=λa b=>by
  unfold nk;rw[aiK]
  by_cases hn:a.null=b.null
  .rw[zac hn]
   by_cases h1:a.n<b.n
   .rw[zac h1];constructor
    .intro h;omega
    intro h;omega
   rw[zab h1]
   by_cases h2:b.n<a.n
   .rw[zac h2];constructor
    .intro h;omega
    intro h;omega
   rw[zab h2,GI.eq0];exact⟨λh=>⟨hn,oM,h⟩,λh=>h.2.2⟩
  rw[zab hn];constructor
  .intro h;split at h<;>omega
  intro h;exact zar h.1 hn
 anti:=λa b=>by
  unfold nk
  by_cases hn:a.null=b.null
  .rw[zac hn,zac hn.symm,GI.anti a.s b.s]
   by_cases h1:a.n<b.n
   .rw[zac h1,zab oM,zac h1];omega
   rw[zab h1]
   by_cases h2:b.n<a.n
   .simp[h1,h2]
   simp[h1,h2]
  rw[zab hn,zab (λe=>hn e.symm)];cases ha:a.null<;>cases hb:b.null<;>simp_all
 trans:=λa b c h1 h2=>by
  unfold nk at h1 h2 ⊢;cases ha:a.null<;>cases hb:b.null<;>cases hc:c.null<;>simp only[ha,hb,hc,if_true,if_false,reduceCtorEq,Bool.true_eq_false,Bool.false_eq_true]at h1 h2 |- <;>(try omega)
  all_goals
   split at h1<;>split at h2<;>(try split at h1)<;>(try split at h2)<;>(try omega)<;>(try (rw[zac oM];omega))
   rw[zab oM,zab oM];exact GI.trans _ _ _ h1 h2
def jC:List aC->List aC->Int:=qQ nk
def fP:ET jC:=aa1 EW
structure aH where
 row:List aC
 w:Int
def aH.ext' {a b:aH} (h1:a.row=b.row) (h2:a.w=b.w):a=b:=by cases a;cases b;simp_all
def wtL:List aH->List aC->Int
 | [],_=>0
 | x::l,r=>(if x.row=r then x.w else 0)+wtL l r
def ji (a b:List aH) (r:List aC):wtL (a++b) r=wtL a r+wtL b r:=by
 induction a with
 | nil=>simp[wtL]
 | cons x a ih=>rw[zcd,wtL,wtL,ih];omega
variable {l:List aH} {r:List aC}
def tJ (h: ∀x∈l,x.row≠r):wtL l r=0:=by
 induction l with
 | nil=>rfl
 | cons x l ih=>rw[wtL,zab (h x zao),ih λy hy=>h y (zat _ hy)];rfl
def ow (ks:List (List aC)):Prop:=ks.Pairwise λa b=>jC a b<0
def yh (r:List aC):List (List aC)->List (List aC)
 | []=>[r]
 | k::ks=>if jC r k<0 then r::k::ks else if r=k then k::ks else k::yh r ks
def zm {x:List aC}: ∀{ks:List (List aC)},x∈yh r ks↔x=r\/x∈ks
 | []=>by simp[yh]
 | k::ks=>by
  rw[yh]
  split
  .simp
  split
  .rename_i h;subst h;simp
  rw[zba,zm,zba,or_left_comm]
def zn: ∀{ks:List (List aC)},ow ks->ow (yh r ks)
 | [],_=>List.pairwise_singleton _ _
 | k::ks,h=>by
  obtain⟨h1,h2⟩:=zds.1 h;rw[yh]
  split
  .rename_i hl
   refine zds.2 ⟨λy hy=>?_,h⟩
   rcases zba.1 hy with e | e
   .subst e;exact hl
   exact fP.trans _ _ _ hl (h1 y e)
  rename_i hl
  split
  .exact h
  rename_i iN;refine zds.2 ⟨λy hy=>?_,zn h2⟩
  rcases zm.1 hy with e | e
  .subst e;exact fP.gt hl iN
  exact h1 y e
def zo: ∀{a b:List (List aC)},ow a->ow b->(∀x,x∈a↔x∈b)->a=b
 | [],[],_,_,_=>rfl
 | [],y::b,_,_,h=>zar ((h y).2 zao) zan
 | x::a,[],_,_,h=>zar ((h x).1 zao) zan
 | x::a,y::b,ha,hb,h=>by
  obtain⟨UH,UW⟩:=zds.1 ha;obtain⟨EL,hb2⟩:=zds.1 hb
  have hxy:x=y:=by
   rcases zba.1 ((h x).1 zao)with e | e
   .exact e
   rcases zba.1 ((h y).2 zao)with e' | e'
   .exact e'.symm
   exact zar (EL x e) (fP.asymm (UH y e'))
  subst hxy;rw[zo UW hb2 λz=>?_];constructor
  .intro hz
   rcases zba.1 ((h z).1 (zat _ hz))with e | e
   .exact zar e (fP.irr (UH z hz)).symm
   exact e
  intro hz
  rcases zba.1 ((h z).2 (zat _ hz))with e | e
  .exact zar e (fP.irr (EL z hz)).symm
  exact e
def lS:List aH->List (List aC)
 | []=>[]
 | x::l=>yh x.row (lS l)
def uG: ∀{l:List aH},r∈lS l↔∃x∈l,x.row=r
 | []=>by simp[lS]
 | x::l=>by
  rw[lS,zm,uG];simp only[zba,exists_eq_or_imp,eq_comm (a:=r)]
def mh: ∀l:List aH,ow (lS l)
 | []=>List.Pairwise.nil
 | x::l=>zn (mh l)
def GJ (f:List aC->Int) (ks:List (List aC)):List aH:=(ks.filter λr=>decide (f r≠0)).map λr=>⟨r,f r⟩
def dh (l:List aH):List aH×Int:=if(lS l).all (λr=>aW (wtL l r))=true then(GJ (wtL l) (lS l),0)else([],50)
def isZ (z:List aH):Prop:=ow (z.map (·.row))/\(∀x∈z,x.w≠0)/\∀x∈z,aW x.w=true
def aa2:aW 0=true:=dC
def anC {f g:List aC->Int} {a b:List (List aC)} (ha:ow a) (hb:ow b) (hfg: ∀r,f r=g r) (h: ∀r,f r≠0->(r∈a↔r∈b)):GJ f a=GJ g b:=by
 have e:f=g:=funext hfg;subst e;unfold GJ;rw[zo (ha.sublist zdz) (hb.sublist zdz) λr=>?_];simp only[zcf,decide_eq_true_eq];exact and_congr_left λhr=>h r hr
def uH:(lS l).all (λr=>aW (wtL l r))=true↔∀r,aW (wtL l r)=true:=by
 rw[zaz];constructor
 .intro h r
  by_cases hm:r∈lS l
  .exact h r hm
  rw[tJ λx hx e=>hm (uG.2 ⟨x,hx,e⟩)];exact aa2
 exact λh r _=>h r
def GK (h:wtL l r≠0):r∈lS l:=by
 refine Classical.byContradiction λhm=>h (tJ λx hx e=>hm (uG.2 ⟨x,hx,e⟩))
variable {a b:List aH}
def AU (h: ∀r,wtL a r=wtL b r):dh a=dh b:=by
 unfold dh
 by_cases hf: ∀r,aW (wtL a r)=true
 .rw[zac (uH.2 hf),zac (uH.2 λr=>by rw[<-h];exact hf r)]
  rw[anC (mh a) (mh b) h λr hr=>⟨λ_=>GK (by rw[<-h];exact hr),λ_=>GK hr⟩]
 rw[zab (mt uH.1 hf),zab (mt uH.1 λhg=>hf λr=>by rw[h];exact hg r)]
def Cn:(dh l).2=0↔∀r,aW (wtL l r)=true:=by
 unfold dh
 by_cases hf: ∀r,aW (wtL l r)=true
 .rw[zac (uH.2 hf)];exact⟨λ_=>hf,λ_=>rfl⟩
 rw[zab (mt uH.1 hf)];exact⟨λh=>zar h dC,λh=>zar h hf⟩
def qz (h:(dh l).2≠0):dh l=([],50):=by
 unfold dh at h |-
 split
 .rename_i hc;rw[zac hc]at h;exact zar rfl h
 rfl
def RS (h:(dh l).2=0):dh l=(GJ (wtL l) (lS l),0):=zac (uH.2 (Cn.1 h))
def aiL (f:List aC->Int) (ks:List (List aC)):(GJ f ks).map (·.row)=ks.filter λr=>decide (f r≠0):=by
 unfold GJ;rw[zdh];exact List.map_id _
def L6 {f:List aC->Int} {ks:List (List aC)} {x:aH}:x∈GJ f ks↔x.row∈ks/\f x.row≠0/\x.w=f x.row:=by
 unfold GJ;rw[zaq];constructor
 .rintro⟨r,hr,rfl⟩
  obtain⟨h1,h2⟩:=zcf.1 hr;exact⟨h1,zbd h2,rfl⟩
 rintro⟨h1,h2,h3⟩;exact⟨x.row,zcf.2 ⟨h1,zap h2⟩,aH.ext' rfl h3.symm⟩
def yj {l:List aH}:isZ (dh l).1:=by
 by_cases h:(dh l).2=0
 .rw[RS h]
  refine⟨?_,λx hx=>?_,λx hx=>?_⟩
  .show ow ((GJ _ _).map (·.row))
   rw[aiL];exact(mh l).sublist zdz
  .obtain⟨_,h2,h3⟩:=L6.1 hx;rw[h3];exact h2
  obtain⟨_,_,h3⟩:=L6.1 hx;rw[h3];exact Cn.1 h _
 rw[qz h];exact⟨List.Pairwise.nil,λx hx=>zar hx zan,λx hx=>zar hx zan⟩
def EX: ∀{z:List aH},(z.map (·.row)).Nodup->∀x∈z,wtL z x.row=x.w
 | [],_,x,hx=>zar hx zan
 | y::z,h,x,hx=>by
  rw[zav,zfa]at h;rw[wtL]
  rcases zba.1 hx with e | e
  .subst e
   rw[zac rfl,tJ λu hu e=>h.1 (by rw[<-e];exact zdn hu)];omega
  rw[zab λe'=>h.1 (by rw[e'];exact zdn e),EX h.2 x e];omega
def oC {ks:List (List aC)} (h:ow ks):ks.Nodup:=h.imp λhl=>fP.irr hl
def aa3 (h:(dh l).2=0) (r:List aC):wtL (dh l).1 r=wtL l r:=by
 have hz:=yj (l:=l);rw[RS h]at hz |-
 by_cases hr:wtL l r=0
 .rw[hr]
  exact tJ λx hx e=>(L6.1 hx).2.1 (by rw[e];exact hr)
 exact EX (oC hz.1) ⟨r,wtL l r⟩ (L6.2 ⟨GK hr,hr,rfl⟩)
def als {z:List aH} (h:isZ z) (r:List aC):aW (wtL z r)=true:=by
 by_cases hm: ∃x∈z,x.row=r
 .obtain⟨x,hx,rfl⟩:=hm
  rw[EX (oC h.1) x hx];exact h.2.2 x hx
 rw[tJ λx hx e=>hm ⟨x,hx,e⟩];exact aa2
def PU {z:List aH} (h:isZ z):dh z=(z,0):=by
 have hk:lS z=z.map (·.row):=zo (mh z) h.1 λr=>by rw[uG,zaq]
 have h0:(dh z).2=0:=Cn.2 (als h);rw[RS h0,hk];unfold GJ;have hw:=EX (oC h.1)
 have e: ∀l:List aH,(∀x∈l,x∈z)->((l.map (·.row)).filter λr=>decide (wtL z r≠0)).map (λr=>(⟨r,wtL z r⟩:aH))=l:=λl=>by
  induction l with
  | nil=>intro _;rfl
  | cons x l ih=>
   intro hl;have hx:=hl x zao;rw[zav,List.filter_cons_of_pos (by rw[hw x hx];exact zap (h.2.1 x hx)),zav,ih λy hy=>hl y (zat _ hy),hw x hx]
 rw[e z λx hx=>hx]
def aiM (a b:List aH):List aH×Int:=dh (a++b)
def afj (ha:(dh a).2=0):dh ((dh a).1++b)=dh (a++b):=AU λr=>by rw[ji,ji,aa3 ha]
def acs (hb:(dh b).2=0):dh (a++(dh b).1)=dh (a++b):=AU λr=>by rw[ji,ji,aa3 hb]
structure bC where
 key:List aC
 vals:List aC
 w:Int
def EY (x:bC) (i:Nat):Int:=if i=0 then x.w else if(x.vals.getD (i-1) cell0).null=true then 0 else x.w*(x.vals.getD (i-1) cell0).n
def jD:List bC->List aC->Nat->Int
 | [],_,_=>0
 | x::l,k,i=>(if x.key=k then EY x i else 0)+jD l k i
def uI (a b:List bC) (k:List aC) (i:Nat):jD (a++b) k i=jD a k i+jD b k i:=by
 induction a with
 | nil=>simp[jD]
 | cons x a ih=>rw[zcd,jD,jD,ih];omega
variable {i:Nat}
def uJ {l:List bC} {k:List aC} (h: ∀x∈l,x.key≠k):jD l k i=0:=by
 induction l with
 | nil=>rfl
 | cons x l ih=>rw[jD,zab (h x zao),ih λy hy=>h y (zat _ hy)];rfl
def rQ:List bC->List (List aC)
 | []=>[]
 | x::l=>yh x.key (rQ l)
def qb: ∀{l:List bC},r∈rQ l↔∃x∈l,x.key=r
 | []=>by simp[rQ]
 | x::l=>by
  rw[rQ,zm,qb];simp only[zba,exists_eq_or_imp,eq_comm (a:=r)]
def tK: ∀l:List bC,ow (rQ l)
 | []=>List.Pairwise.nil
 | x::l=>zn (tK l)
def Ec {l:List bC} {k:List aC} (h:jD l k i≠0):k∈rQ l:=
 Classical.byContradiction λhm=>h (uJ λx hx e=>hm (qb.2 ⟨x,hx,e⟩))
def qo (keys sums:Nat) (x:bC):Bool:=decide (x.key.length=keys/\x.vals.length=sums)&&x.vals.all λc=>decide (c.s=[]/\¬(c.null=true/\c.n≠0))
def vO (sums:Nat) (l:List bC):Bool:=(rQ l).all λk=>(List.range (sums+1)).all λi=>aW (jD l k i)
def uK {sums:Nat} {l:List bC}:vO sums l=true↔∀k i,i<=sums->aW (jD l k i)=true:=by
 unfold vO;rw[zaz];constructor
 .intro h k i hi
  by_cases hm:k∈rQ l
  .exact zaz.1 (h k hm) i (zem.2 oM)
  rw[uJ λx hx e=>hm (qb.2 ⟨x,hx,e⟩)];exact aa2
 intro h k _;rw[zaz];exact λi hi=>h k i (by have:=zem.1 hi;omega)
def dn (n:Int):aC:=⟨false,n,[]⟩
def acu (sums:Nat) (l:List bC) (k:List aC):List aC:=k++(List.range (sums+1)).map λi=>dn (jD l k i)
def lT (sums:Nat) (l:List bC):List aH:=((rQ l).filter λk=>decide (jD l k 0≠0)).map λk=>⟨acu sums l k,1⟩
def L9: ∀{a b:List aC} (x y:List aC),a.length=b.length->jC a b<0->jC (a++x) (b++y)<0
 | [],[],_,_,_,h=>zar h (by simp[jC,qQ])
 | [],_::_,_,_,h,_=>by simp at h
 | _::_,[],_,_,h,_=>by simp at h
 | c::a,d::b,x,y,hl,h=>by
  unfold jC at h ⊢;rw[zcd,zcd];rw[qQ]at h |-
  split at h
  .rename_i e;rw[zac e];exact h
  rename_i e;rw[zab e];exact L9 x y (by simpa using hl) h
def Ma {keys sums:Nat} {l:List bC} (h: ∀x∈l,x.key.length=keys):isZ (lT sums l):=by
 have hk: ∀k∈rQ l,k.length=keys:=λk hk=>by
  obtain⟨x,hx,rfl⟩:=qb.1 hk;exact h x hx
 refine⟨?_,λx hx=>?_,λx hx=>?_⟩
 .unfold lT
  rw[zdh];show List.Pairwise _ (List.map (λk=>acu sums l k) _)
  rw[List.pairwise_map];have hs:=((tK l).sublist (zdz (p:=λk=>decide (jD l k 0≠0))));refine List.Pairwise.imp_of_mem (λ{a b} ha hb Oy=>?_) hs;exact L9 _ _ (by rw[hk a (zcf.1 ha).1,hk b (zcf.1 hb).1]) Oy
 .unfold lT at hx
  obtain⟨k,_,rfl⟩:=zaq.1 hx;show(1:Int)≠0
  decide
 unfold lT at hx;obtain⟨k,_,rfl⟩:=zaq.1 hx;show aW 1=true
 decide
def Av (l:List aH):List aH:=l.map λx=>⟨x.row, -x.w⟩
def afk (l:List aH) (r:List aC):wtL (Av l) r= -wtL l r:=by
 induction l with
 | nil=>rfl
 | cons x l ih=>
  show wtL (⟨x.row, -x.w⟩::Av l) r=_
  rw[wtL,wtL,ih];dsimp only
  split<;>omega
def aa4 {keys sums:Nat} {l:List bC} (h: ∀x∈l,x.key.length=keys) (r:List aC):wtL (lT sums l) r=0\/wtL (lT sums l) r=1:=by
 by_cases hm: ∃x∈lT sums l,x.row=r
 .obtain⟨x,hx,rfl⟩:=hm
  rw[EX (oC (Ma h).1) x hx];unfold lT at hx;obtain⟨k,_,rfl⟩:=zaq.1 hx;exact .inr rfl
 exact .inl (tJ λx hx e=>hm ⟨x,hx,e⟩)
def wA (v:Int):Int:=v%18446744073709551616
def wB (v:Int):Int:=v/18446744073709551616%18446744073709551616
def wC (v:Int):Int:=v/340282366920938463463374607431768211456%18446744073709551616
def mo (v:Int):(0<=wA v/\wA v<18446744073709551616)/\(0<=wB v/\wB v<18446744073709551616)/\0<=wC v/\wC v<18446744073709551616:=by
 unfold wA wB wC;omega
def K4 (v:Int):v/340282366920938463463374607431768211456=v/18446744073709551616/18446744073709551616:=oM
def aiN {n:Int} (h1: -9223372036854775808<=n) (h2:n<9223372036854775808):wB n=(if n<0 then 18446744073709551615 else 0)/\wC n=if n<0 then 18446744073709551615 else 0:=by
 unfold wB wC;rw[K4]
 split<;>omega
def afl (x y:Int):wA (x+y)=(wA x+wA y)%18446744073709551616/\wB (x+y)=(wB x+wB y+(wA x+wA y)/18446744073709551616)%18446744073709551616/\
    wC (x+y)=(wC x+wC y+(wB x+wB y+(wA x+wA y)/18446744073709551616)/18446744073709551616)%18446744073709551616:=by
  have hc: ∀v:Int,wC v=v/18446744073709551616/18446744073709551616%18446744073709551616:=λv=>by unfold wC;rw[K4]
  rw[hc,hc,hc];unfold wA wB;have e1:(x+y)/18446744073709551616=x/18446744073709551616+y/18446744073709551616+(x%18446744073709551616+y%18446744073709551616)/18446744073709551616:=oM;rw[e1]
  generalize x/18446744073709551616=p
  generalize y/18446744073709551616=q
  generalize (x%18446744073709551616+y%18446744073709551616)/18446744073709551616=c
  refine⟨oM,oM,?_⟩;omega
def xM (v:Int):Int:=if wA v<9223372036854775808 then wA v else wA v-18446744073709551616
def afm {v:Int} (h1: -3138550867693340381917894711603833208051177722232017256448<=v) (h2:v<3138550867693340381917894711603833208051177722232017256448):
    (wA (xM v)=wA v/\wB (xM v)=wB v/\wC (xM v)=wC v)↔aW v=true:=by
  have hc: ∀v:Int,wC v=v/18446744073709551616/18446744073709551616%18446744073709551616:=λv=>by unfold wC;rw[K4]
  have hl: -9223372036854775808<=xM v/\xM v<=9223372036854775807:=by
    have:=(mo v).1;unfold xM
    split<;>omega
  unfold aW;rw[decide_eq_true_iff];constructor
  . intro ⟨e1,e2,e3⟩
    rw[hc,hc]at e3;unfold wA at e1;unfold wB at e2
    generalize hu:xM v=u at *
    have hp1:u/18446744073709551616/18446744073709551616=v/18446744073709551616/18446744073709551616:=oM;have hp2:u/18446744073709551616=v/18446744073709551616:=oM;have Pv:u=v:=oM;rw[<-Pv];exact hl
  intro h
  have e:xM v=v:=by
    unfold xM wA
    split<;>omega
  rw[e];exact⟨rfl,rfl,rfl⟩
def Co {a b:Int} (ha:fits a) (hb:fits b): -85070591730234615865843651857942052864<=a*b/\a*b<=85070591730234615865843651857942052864:=by
 have h1:a.natAbs<=9223372036854775808:=by unfold fits at ha;omega
 have h2:b.natAbs<=9223372036854775808:=by unfold fits at hb;omega
 have h3:(a*b).natAbs<=9223372036854775808*9223372036854775808:=by rw[Int.natAbs_mul];exact Nat.mul_le_mul h1 h2
 omega
def afn {a b:Int} (ha:fits a) (hb:fits b):wA (a*b)=wA a*wA b%18446744073709551616/\
    wB (a*b)=(wA a*wA b/18446744073709551616-(((if b<0 then wA a else 0)+if a<0 then wA b else 0)%18446744073709551616))%18446744073709551616/\
    wC (a*b)=if wB (a*b)<9223372036854775808 then 0 else 18446744073709551615:=by
  obtain⟨m1,m2⟩:=Co ha hb;have hua:wA a=if a<0 then a+18446744073709551616 else a:=by unfold fits at ha;unfold wA;split<;>omega
  have hub:wA b=if b<0 then b+18446744073709551616 else b:=by unfold fits at hb;unfold wA;split<;>omega
  have hP:wA a*wA b=a*b+(if a<0 then 18446744073709551616*b else 0)+(if b<0 then 18446744073709551616*a else 0)+(if a<0/\b<0 then 340282366920938463463374607431768211456 else 0):=by
    rw[hua,hub]
    by_cases h1:a<0<;>by_cases h2:b<0
    . rw[zac h1,zac h2,zac h1,zac h2,zac ⟨h1,h2⟩,Int.add_mul,Int.mul_add,Int.mul_add];omega
    . rw[zac h1,zab h2,zac h1,zab h2,zab (λh=>h2 h.2),Int.add_mul];omega
    . rw[zab h1,zac h2,zab h1,zac h2,zab (λh=>h1 h.1),Int.mul_add];omega
    rw[zab h1,zab h2,zab h1,zab h2,zab (λh=>h1 h.1)];omega
  generalize a*b=p at *
  have hc: ∀v:Int,wC v=v/18446744073709551616/18446744073709551616%18446744073709551616:=λv=>by unfold wC;rw[K4]
  refine⟨?_,?_,?_⟩
  . rw[hP]
    unfold wA
    by_cases h1:a<0<;>by_cases h2:b<0<;>simp only[h1,h2,if_true,if_false,and_self,and_false,false_and]<;>omega
  . rw[hP,hua,hub]
    unfold wB
    by_cases h1:a<0<;>by_cases h2:b<0<;>simp only[h1,h2,if_true,if_false,and_self,and_false,false_and]<;>omega
  rw[hc];unfold wB
  split<;>omega
def Cq (s:List aH):Prop:=s.Pairwise λa b=>jC a.row b.row<=0
def GL {a b c:List aC} (h:jC a b<=0) (h2:jC b c<0):jC a c<0:=by
 rcases Int.lt_or_lt_of_ne (a:=jC a b) (b:=0) |> λf=>(Decidable.em (jC a b=0)).imp id f with e | e | e
 .rw[(fP.eq0 a b).1 e];exact h2
 .exact fP.trans _ _ _ e h2
 omega
def GN {a b c:List aC} (h:jC a b<0) (h2:jC b c<=0):jC a c<0:=by
 rcases Decidable.em (jC b c=0)with e | e
 .rw[<-(fP.eq0 b c).1 e];exact h
 exact fP.trans _ _ _ h oM
structure vX (l o s:List aH):Prop where
 wt: ∀r,wtL o r+wtL s r=wtL l r
 srt:Cq s
 oz:isZ o
 lt: ∀x∈o,∀y∈s,jC x.row y.row<0
def U5 (h:a.Perm b) (r:List aC):wtL a r=wtL b r:=by
 induction h with
 | nil=>rfl
 | cons x _ ih=>rw[wtL,wtL,ih]
 | swap x y l=>rw[wtL,wtL,wtL,wtL];omega
 | trans _ _ h1 h2=>exact h1.trans h2
def vX.start {s:List aH} (hp:s.Perm l) (hs:Cq s):vX l [] s:=
 ⟨λr=>by rw[wtL,U5 hp];omega,hs,⟨List.Pairwise.nil,λ_ h=>zar h zan,λ_ h=>zar h zan⟩,λ_ h=>zar h zan⟩
def vX.done {o:List aH} (h:vX l o []):dh l=(o,0):=by
 rw[<-PU h.oz];exact AU λr=>by rw[<-h.wt r];simp[wtL]
variable {l o s:List aH} {x:aH} {j:Nat}
def vX.first (h:vX l o s) (hx:s[0]? =some x) (hn: ∀y,s[j]? =some y->y.row≠x.row):wtL (s.take j) x.row=wtL l x.row/\∀y∈s.drop j,jC x.row y.row<0:=by
 have hb: ∀y∈s.drop j,jC x.row y.row<0:=by
  intro y hy;obtain⟨z,t,hz⟩: ∃z t,s.drop j=z::t:=List.exists_cons_of_ne_nil (List.ne_nil_of_mem hy)
  have hzj:s[j]? =some z:=by
   have:=zaw (λq=>q[0]?) hz;simpa[zci]using this
  have hj0:0<j:=by
   rcases zec j with e | e
   .subst e;rw[hx]at hzj;injection hzj with hzj;subst hzj;exact zar rfl (hn x hx)
   exact e
  have aqo:=h.srt;have hp:Cq (s.take j++s.drop j):=by rw[zbs];exact aqo
  obtain⟨_,hp2,Pv⟩:=List.pairwise_append.1 hp;have hxm:x∈s.take j:=zag (i:=0) (by rw[zcs,zac hj0];exact hx);have hxz:=Pv x hxm z (by rw[hz];exact zao);have iN:=hn z hzj
  have aS:jC x.row z.row<0:=by
   have:=mt (fP.eq0 x.row z.row).1 λe=>iN e.symm;omega
  rw[hz]at hy hp2
  rcases zba.1 hy with e | e
  .rw[e];exact aS
  exact GN aS ((zds.1 hp2).1 y e)
 refine⟨?_,hb⟩;have h1:wtL s x.row=wtL (s.take j) x.row+wtL (s.drop j) x.row:=by rw[<-ji,zbs]
 have h2:wtL (s.drop j) x.row=0:=tJ λy hy e=>fP.irr (hb y hy) e.symm;have h3:wtL o x.row=0:=tJ λy hy e=>fP.irr (h.lt y hy x (zag hx)) e;have:=h.wt x.row;omega
def vX.bad (h:vX l o s) (hx:s[0]? =some x) (hn: ∀y,s[j]? =some y->y.row≠x.row) (hf:aW (wtL (s.take j) x.row)≠true):dh l=([],50):=by
 refine qz λe=>hf ?_;rw[(h.first hx hn).1];exact Cn.1 e _
def vX.step (h:vX l o s) (hx:s[0]? =some x) (jE: ∀y∈s.take j,y.row=x.row) (hn: ∀y,s[j]? =some y->y.row≠x.row) (hf:aW (wtL (s.take j) x.row)=true):
    vX l (if wtL (s.take j) x.row≠0 then o++[⟨x.row,wtL (s.take j) x.row⟩]else o) (s.drop j):=by
  obtain⟨h1,h2⟩:=h.first hx hn;have hs2:Cq (s.drop j):=h.srt.sublist (List.drop_sublist _ _)
  have hw: ∀r,wtL s r=(if x.row=r then wtL (s.take j) x.row else 0)+wtL (s.drop j) r:=λr=>by
    have :wtL s r=wtL (s.take j) r+wtL (s.drop j) r:=by rw[<-ji,zbs]
    by_cases e:x.row=r
    . rw[zac e,<-e];rw[<-e]at this;exact this
    rw[zab e,this,tJ λy hy e2=>e (by rw[<-jE y hy];exact e2)]
  by_cases h0:wtL (s.take j) x.row≠0
  . rw[zac h0]
    refine⟨λr=>?_,hs2,⟨?_,λy hy=>?_,λy hy=>?_⟩,λy hy z hz=>?_⟩
    . rw[ji,<-h.wt r,hw r,wtL,wtL];dsimp only;omega
    . unfold ow
      rw[zai,List.pairwise_append];refine⟨h.oz.1,List.pairwise_singleton _ _,λa ha b hb=>?_⟩;obtain⟨y,hy,rfl⟩:=zaq.1 ha;simp at hb;subst hb;exact h.lt y hy x (zag hx)
    . rcases zbk.1 hy with e | e
      . exact h.oz.2.1 y e
      rw[zau]at e;subst e;exact h0
    . rcases zbk.1 hy with e | e
      . exact h.oz.2.2 y e
      rw[zau]at e;subst e;exact hf
    rcases zbk.1 hy with e | e
    . exact h.lt y e z (zed hz)
    rw[zau]at e;subst e;exact h2 z hz
  rw[zab h0];refine⟨λr=>?_,hs2,h.oz,λy hy z hz=>h.lt y hy z (zed hz)⟩;have h5:wtL (s.take j) x.row=0:=Decidable.of_not_not h0;rw[<-h.wt r,hw r,h5]
  split<;>omega
def iw:List aH->Bool
 | []=>true
 | [x]=>decide (x.w≠0)
 | x::y::l=>decide (x.w≠0/\jC x.row y.row<0)&&iw (y::l)
def Cu: ∀{z:List aH},isZ z->iw z=true
 | [],_=>rfl
 | [x],h=>zap (h.2.1 x zao)
 | x::y::l,h=>by
  obtain⟨h1,h2,h3⟩:=h;obtain⟨h4,h5⟩:=zds.1 h1;rw[iw,Cu (z:=y::l) ⟨h5,λz hz=>h2 z (zat _ hz),λz hz=>h3 z (zat _ hz)⟩,Bool.and_true];exact zap ⟨h2 x zao,h4 _ zao⟩
def yt {z:List aH}:iw z=true↔(∀x∈z,x.w≠0)/\∀(i:Nat) x y,z[i]? =some x->z[i+1]? =some y->jC x.row y.row<0:=by
 match z with
 | []=>simp[iw]
 | [x]=>simp[iw]
 | x::y::l=>
  rw[iw,zbq,decide_eq_true_eq,yt (z:=y::l)];constructor
  .rintro⟨⟨h1,h2⟩,h3,h4⟩
   refine⟨λa ha=>?_,λi a b ha hb=>?_⟩
   .rcases zba.1 ha with e | e
    .rw[e];exact h1
    exact h3 a e
   cases i with
   | zero=>simp at ha hb;subst ha;subst hb;exact h2
   | succ i=>exact h4 i a b (by simpa using ha) (by simpa using hb)
  rintro⟨h1,h2⟩;exact⟨⟨h1 x zao,h2 0 x y rfl rfl⟩,λa ha=>h1 a (zat _ ha),λi a b ha hb=>h2 (i+1) a b (by simpa using ha) (by simpa using hb)⟩
def shl:Int->Nat->Int
 | v,0=>v
 | v,i+1=>shl v i/4294967296
def dgt (v:Int) (i:Nat):Int:=shl v i%4294967296
def KJ (v:Int):List Int:=(List.range 6).map (dgt v)
def ny (v:Int) (i:Nat):0<=dgt v i/\dgt v i<4294967296:=by unfold dgt;omega
def EZ (v:Int) (i:Nat):shl v i=4294967296*shl v (i+1)+dgt v i:=by
 show shl v i=4294967296*(shl v i/4294967296)+shl v i%4294967296
 omega
def RU (x y:Int): ∀i,shl (x+y) i-shl x i-shl y i=0\/shl (x+y) i-shl x i-shl y i=1
 | 0=>.inl (by show x+y-x-y=0;omega)
 | i+1=>by
  have ih:=RU x y i;show shl (x+y) i/4294967296-shl x i/4294967296-shl y i/4294967296=0\/shl (x+y) i/4294967296-shl x i/4294967296-shl y i/4294967296=1
  omega
def aiO (x y:Int) (i:Nat):dgt (x+y) i=(dgt x i+dgt y i+(shl (x+y) i-shl x i-shl y i))%4294967296/\
    shl (x+y) (i+1)-shl x (i+1)-shl y (i+1)=(dgt x i+dgt y i+(shl (x+y) i-shl x i-shl y i))/4294967296:=by
  have h:=RU x y i;unfold dgt;show _/\shl (x+y) i/4294967296-shl x i/4294967296-shl y i/4294967296=_
  omega
def aa5 (v:Int): ∀i,shl (-1-v) i= -1-shl v i
 | 0=>rfl
 | i+1=>by
  show shl (-1-v) i/4294967296= -1-shl v i/4294967296
  rw[aa5 v i];omega
def aiP (v:Int) (i:Nat):dgt (-1-v) i=4294967295-dgt v i:=by
 unfold dgt;rw[aa5];omega
variable {y:Int}
def U6 {x:Int}: ∀i,shl x i<shl y i->x<y
 | 0,h=>h
 | i+1,h=>U6 i (by have h:shl x i/4294967296<shl y i/4294967296:=h;omega)
def afo {x:Int} (h:shl x (i+1)=shl y (i+1)) (hd:dgt x i<dgt y i):x<y:=by
 refine U6 i ?_;rw[EZ x i,EZ y i,h];omega
def alu {x:Int} (h:shl x (i+1)=shl y (i+1)) (hd:dgt x i=dgt y i):shl x i=shl y i:=by
 rw[EZ x i,EZ y i,h,hd]
def aa6 {v:Int} (h1: -3138550867693340381917894711603833208051177722232017256448<=v) (h2:v<3138550867693340381917894711603833208051177722232017256448):
    shl v 6=(if v<0 then -1 else 0)/\(2147483648<=dgt v 5↔v<0):=by
  have e6:shl v 6=v/4294967296/4294967296/4294967296/4294967296/4294967296/4294967296:=rfl;have e5:dgt v 5=v/4294967296/4294967296/4294967296/4294967296/4294967296%4294967296:=rfl;rw[e6,e5];constructor
  . split<;>omega
  omega
def DC (b:Bool):L8:=if b=true then [116,114,117,101]else [102,97,108,115,101]
def yu (c:aC):L8:=DC c.null++(32::(itoa c.n++(32::(itoa (c.s.length:Int)++(32::c.s)))))
def eH (k:List aC):L8:=k.flatMap yu
def gH (k:List aC):Prop:=∀c∈k,(-9223372036854775808<=c.n/\c.n<=9223372036854775807)/\c.s.length<=1000000
def Cv: ∀{a b x y:L8},(∀c∈a,c≠32)->(∀c∈b,c≠32)->a++32::x=b++32::y->a=b/\x=y
 | [],[],x,y,_,_,h=>by simpa using h
 | [],d::b,x,y,_,hb,h=>by
  simp only[zbu,zcd,List.cons.injEq]at h;exact zar h.1.symm (hb d zao)
 | c::a,[],x,y,ha,_,h=>by
  simp only[zbu,zcd,List.cons.injEq]at h;exact zar h.1 (ha c zao)
 | c::a,d::b,x,y,ha,hb,h=>by
  simp only[zcd,List.cons.injEq]at h;obtain⟨h1,h2⟩:=Cv (a:=a) (b:=b) (λz hz=>ha z (zat _ hz)) (λz hz=>hb z (zat _ hz)) h.2;exact⟨by rw[h.1,h1],h2⟩
def U7 (b:Bool): ∀c∈DC b,c≠32:=by cases b<;>decide
def acv {a b:Bool} (h:DC a=DC b):a=b:=by cases a<;>cases b<;>first | rfl | exact zar h dC
def U8 {a b:Int} (ha: -9223372036854775808<=a/\a<=9223372036854775807) (hb: -9223372036854775808<=b/\b<=9223372036854775807) (h:itoa a=itoa b):a=b:=by
 rw[<-xH ha.1 ha.2,h,xH hb.1 hb.2]
def U9 (c:aC) (x:L8):yu c++x≠[]:=by
 unfold yu DC;cases c.null<;>simp
def acw {c d:aC} {x y:L8} (hc:(-9223372036854775808<=c.n/\c.n<=9223372036854775807)/\c.s.length<=1000000) (hd:(-9223372036854775808<=d.n/\d.n<=9223372036854775807)/\d.s.length<=1000000)
    (h:yu c++x=yu d++y):c=d/\x=y:=by
  unfold yu at h;simp only[zbm,zcd]at h;obtain⟨h1,h2⟩:=Cv (U7 _) (U7 _) h;obtain⟨h3,h4⟩:=Cv (Dj _) (Dj _) h2;obtain⟨h5,h6⟩:=Cv (Dj _) (Dj _) h4;have hn:=U8 hc.1 hd.1 h3
  have hl:c.s.length=d.s.length:=by
    have:=U8 oM oM h5;omega
  obtain⟨h7,h8⟩:=List.append_inj h6 hl;refine⟨?_,h8⟩;have hb:=acv h1;cases c;cases d;simp_all
def Cw: ∀{a b:List aC},gH a->gH b->eH a=eH b->a=b
 | [],[],_,_,_=>rfl
 | [],d::b,_,_,h=>by
  unfold eH at h;rw[zfm,zbh]at h;exact zar h.symm (U9 d _)
 | c::a,[],_,_,h=>by
  unfold eH at h;rw[zfm,zbh]at h;exact zar h (U9 c _)
 | c::a,d::b,ha,hb,h=>by
  unfold eH at h;rw[zbh,zbh]at h;obtain⟨h1,h2⟩:=acw (ha c zao) (hb d zao) h;rw[h1,Cw (a:=a) (b:=b) (λz hz=>ha z (zat _ hz)) (λz hz=>hb z (zat _ hz)) h2]
def PW (c:aC) (h:(-9223372036854775808<=c.n/\c.n<=9223372036854775807)/\c.s.length<=1000000):(yu c).length<=1000100:=by
 have h1:=BS h.1.1 h.1.2;have h2:=BS (n:=(c.s.length:Int)) oM oM;have h3:(DC c.null).length<=5:=by cases c.null<;>decide
 unfold yu;simp only[zad,zas];omega
def sJ {α:Type} (w:Wd) (fv:Value) (enc:α->Value) (p:α->Bool):Prop:=
 ∃f fs cs,fv=.func (.func f) (List.toArray fs) (List.toArray cs)/\qm prog f/\∀x w',Kept noB w w'->aR prog f (fs++[enc x]++cs) w' λv w''=>v=.bool (p x)/\Kept noB w' w''
variable {fv:Value}
def sJ.keep {α:Type} {w w':Wd} {enc:α->Value} {p:α->Bool} (h:sJ w fv enc p) (hk:Kept noB w w'):sJ w' fv enc p:=by
 obtain⟨f,fs,cs,h1,h2,h3⟩:=h;exact⟨f,fs,cs,h1,h2,λx w'' Oz=>h3 x w'' (hk.LZ Oz)⟩
def zq (o:Option Nat):Int:=match o with | none=> -1 | some i=>i
def Cx {α:Type} {l:List α} {p:α->Bool}:decide (zq (l.findIdx? p)≥0)=l.any p:=by
 cases h:l.findIdx? p with
 | none=>
  rw[zcx]at h;show decide ((-1:Int)≥0)=_
  rw[eq_comm,show decide ((-1:Int)≥0)=false from rfl,List.any_eq_false];intro x hx;rw[h x hx];simp
 | some i=>
  obtain⟨h1,h2,_⟩:=zcu.1 h;show decide ((i:Int)≥0)=_
  rw[eq_comm,zap (show(i:Int)≥0 from oM),zfz];exact⟨_,List.getElem_mem h1,h2⟩
variable {w:Wd}
variable {v:Value}
def Va {l:List bY} {p:bY->Bool} (hl:aJ w v aP 7 l) (hp:sJ w fv (λx=>agg (aP x)) p):Rk prog 143 [v,fv] w (I (zq (l.findIdx? p))):=by
 obtain⟨A,m,rfl,⟨hm,om⟩,hA⟩:=hl;obtain⟨f,fs,cs,rfl,EG,qP⟩:=hp;have H:=Sep.aF w;refine bQ func143 ?_;refine Zb4 ?_;refine aI (λi:Nat=>[(0,.slice A l.length m),(1,.func (.func f) fs.toArray cs.toArray),(7,I l.length),(8,I i)]) (λi w'=>(i<=l.length/\∀(j:Nat) y,j<i->l[j]? =some y->p y=false)/\Sep w noB [] w') (λi _=>l.length-i) 0 tR ⟨⟨zak _,λj y hj=>oM⟩,H⟩ (λi τ w6 hI=>?_);obtain⟨⟨hi,sZ⟩,H6⟩:=hI;refine Lp ?_;refine Cz (λYw=>?_) (λYw=>?_)
 .have aS:i<l.length:=oM
  obtain⟨x,hx⟩:=get_some aS;refine Zb7 ?_;refine eP rfl (qP x _ H6.kept) rfl rfl (λv' wa hv=>?_);obtain⟨rfl,bZ⟩:=hv;have Ha:=H6.keep bZ;refine Qn (Cd rfl (λIe=>?_) (λIe=>?_))
  .have bT:l.findIdx? p=some i:=uf sZ hx Ie
   refine Zb2 ?_;exact⟨by rw[bT];rfl,Ha.kept⟩
  have Gr:=Ie;refine Zb2 ?_;exact aj (i+1) tR ⟨⟨oM,λj y hj hy=>by
  by_cases e:j=i
  .subst e;rw[hx]at hy;injection hy with hy;rw[<-hy];exact zdo _▸Gr
  exact sZ j y oM hy⟩,Ha⟩ oM
 have jF:i=l.length:=oM;have bT:l.findIdx? p=none:=qO λj y hy=>sZ j y (by have:=fO hy;omega) hy;refine Zb1 ?_;exact⟨by rw[bT];rfl,H6.kept⟩
def acy {l:List bM} {p:bM->Bool} (hl:aJ w v aD 2 l) (hp:sJ w fv (λx=>agg (aD x)) p):Rk prog 181 [v,fv] w (I (zq (l.findIdx? p))):=by
 obtain⟨A,m,rfl,⟨hm,om⟩,hA⟩:=hl;obtain⟨f,fs,cs,rfl,EG,qP⟩:=hp;have H:=Sep.aF w;refine bQ func181 ?_;refine Zb4 ?_;refine aI (λi:Nat=>[(0,.slice A l.length m),(1,.func (.func f) fs.toArray cs.toArray),(7,I l.length),(8,I i)]) (λi w'=>(i<=l.length/\∀(j:Nat) y,j<i->l[j]? =some y->p y=false)/\Sep w noB [] w') (λi _=>l.length-i) 0 tR ⟨⟨zak _,λj y hj=>oM⟩,H⟩ (λi τ w6 hI=>?_);obtain⟨⟨hi,sZ⟩,H6⟩:=hI;refine Lp ?_;refine Cz (λYw=>?_) (λYw=>?_)
 .have aS:i<l.length:=oM
  obtain⟨x,hx⟩:=get_some aS;refine Zb7 ?_;refine eP rfl (qP x _ H6.kept) rfl rfl (λv' wa hv=>?_);obtain⟨rfl,bZ⟩:=hv;have Ha:=H6.keep bZ;refine Qn (Cd rfl (λIe=>?_) (λIe=>?_))
  .have bT:l.findIdx? p=some i:=uf sZ hx Ie
   refine Zb2 ?_;exact⟨by rw[bT];rfl,Ha.kept⟩
  have Gr:=Ie;refine Zb2 ?_;exact aj (i+1) tR ⟨⟨oM,λj y hj hy=>by
  by_cases e:j=i
  .subst e;rw[hx]at hy;injection hy with hy;rw[<-hy];exact zdo _▸Gr
  exact sZ j y oM hy⟩,Ha⟩ oM
 have jF:i=l.length:=oM;have bT:l.findIdx? p=none:=qO λj y hy=>sZ j y (by have:=fO hy;omega) hy;refine Zb1 ?_;exact⟨by rw[bT];rfl,H6.kept⟩
def AV {l:List bM} {p:bM->Bool} (hl:aJ w v aD 2 l) (hp:sJ w fv (λx=>agg (aD x)) p):Rk prog 130 [v,fv] w (.bool (l.any p)):=by
 have H:=Sep.aF w;refine bQ func130 ?_;refine Kz (acy (hl.keep H.kept) (hp.keep H.kept)) (λ_ k _=>?_);refine Zb2 ?_;exact⟨by rw[<-Cx];rfl,k.kept⟩
def afp {l:List (Int)} (x:Int) (hl:aJ w v intCells 1 l):Rk prog 182 [v,I x] w (I (zq (l.findIdx? λy=>decide (x=y)))):=by
 obtain⟨A,m,rfl,⟨hm,om⟩,hA⟩:=hl;have H:=Sep.aF w;obtain⟨p,hp⟩: ∃p:Int->Bool,p=λy=>decide (x=y):=⟨_,rfl⟩;rw[<-hp];refine bQ func182 ?_;refine Zb4 ?_;refine aI (λi:Nat=>[(0,.slice A l.length m),(1,I x),(7,I l.length),(8,I i)]) (λi w'=>(i<=l.length/\∀(j:Nat) y,j<i->l[j]? =some y->p y=false)/\Sep w noB [] w') (λi _=>l.length-i) 0 tR ⟨⟨zak _,λj y hj=>oM⟩,H⟩ (λi τ w6 hI=>?_);obtain⟨⟨hi,sZ⟩,H6⟩:=hI;refine Lp ?_;refine Cz (λYw=>?_) (λYw=>?_)
 .have aS:i<l.length:=oM
  obtain⟨y,hy⟩:=get_some aS;refine Cz (λIe=>?_) (λIe=>?_)
  .have bT:l.findIdx? p=some i:=uf sZ hy (by rw[hp];simpa using Ie)
   refine Zb2 ?_;exact⟨by rw[bT];rfl,H6.kept⟩
  have Gr:p y=false:=by rw[hp];simpa using Ie
  refine Zb2 ?_;exact aj (i+1) tR ⟨⟨oM,λj z hj hz=>by
  by_cases e:j=i
  .subst e;rw[hy]at hz;injection hz with hz;rw[<-hz];exact Gr
  exact sZ j z oM hz⟩,H6⟩ oM
 have jF:i=l.length:=oM;have bT:l.findIdx? p=none:=qO λj y hy=>sZ j y (by have:=fO hy;omega) hy;refine Zb1 ?_;exact⟨by rw[bT];rfl,H6.kept⟩
def acz {l:List (L8)} (x:L8) (hl:aJ w v gN 1 l):Rk prog 232 [v,str x] w (I (zq (l.findIdx? λy=>decide (x=y)))):=by
 obtain⟨A,m,rfl,⟨hm,om⟩,hA⟩:=hl;have H:=Sep.aF w;obtain⟨p,hp⟩: ∃p:L8->Bool,p=λy=>decide (x=y):=⟨_,rfl⟩;rw[<-hp];refine bQ func232 ?_;refine Zb4 ?_;refine aI (λi:Nat=>[(0,.slice A l.length m),(1,str x),(7,I l.length),(8,I i)]) (λi w'=>(i<=l.length/\∀(j:Nat) y,j<i->l[j]? =some y->p y=false)/\Sep w noB [] w') (λi _=>l.length-i) 0 tR ⟨⟨zak _,λj y hj=>oM⟩,H⟩ (λi τ w6 hI=>?_);obtain⟨⟨hi,sZ⟩,H6⟩:=hI;refine Lp ?_;refine Cz (λYw=>?_) (λYw=>?_)
 .have aS:i<l.length:=oM
  obtain⟨y,hy⟩:=get_some aS;refine Cz (λIe=>?_) (λIe=>?_)
  .have bT:l.findIdx? p=some i:=uf sZ hy (by rw[hp];simpa using Ie)
   refine Zb2 ?_;exact⟨by rw[bT];rfl,H6.kept⟩
  have Gr:p y=false:=by rw[hp];simpa using Ie
  refine Zb2 ?_;exact aj (i+1) tR ⟨⟨oM,λj z hj hz=>by
  by_cases e:j=i
  .subst e;rw[hy]at hz;injection hz with hz;rw[<-hz];exact Gr
  exact sZ j z oM hz⟩,H6⟩ oM
 have jF:i=l.length:=oM;have bT:l.findIdx? p=none:=qO λj y hy=>sZ j y (by have:=fO hy;omega) hy;refine Zb1 ?_;exact⟨by rw[bT];rfl,H6.kept⟩
def acA {l:List (aC)} (x:aC) (hl:aJ w v ah 3 l):Rk prog 263 [v,agg (ah x)] w (I (zq (l.findIdx? λy=>decide (x=y)))):=by
 obtain⟨A,m,rfl,⟨hm,om⟩,hA⟩:=hl;have H:=Sep.aF w;obtain⟨p,hp⟩: ∃p:aC->Bool,p=λy=>decide (x=y):=⟨_,rfl⟩;rw[<-hp];refine bQ func263 ?_;refine Sr (bB H (h:=λb1 w2 H2 k1=>?_));refine Zb4 ?_;refine aI (λi:Nat=>[(0,.slice A l.length m),(3,.pointer (some ⟨b1,0,none⟩)),(7,I l.length),(8,I i)]) (λi w'=>(i<=l.length/\∀(j:Nat) y,j<i->l[j]? =some y->p y=false)/\Sep w noB [blk b1 (ah x) 41] w') (λi _=>l.length-i) 0 tR ⟨⟨zak _,λj y hj=>oM⟩,H2⟩ (λi τ w8 hI=>?_);obtain⟨⟨hi,sZ⟩,H8⟩:=hI;refine Lp ?_;refine Cz (λIe=>?_) (λIe=>?_)
 .have aS:i<l.length:=oM
  obtain⟨y,hy⟩:=get_some aS;refine Dz (λSa wa Ha=>?_);refine Zb5 ?_;refine Gp Sa 5 rfl rfl (λ_=>(Gives.aer (enc:=ah) _ _ rfl rfl)) (fK Sa kR ?_);refine Cz (λIf=>?_) (λIf=>?_)
  .have bT:l.findIdx? p=some i:=uf sZ hy (by rw[hp];simpa using If)
   refine Zb2 ?_;exact⟨by rw[bT];rfl,Ha.kept⟩
  have Gr:p y=false:=by rw[hp];simpa using If
  refine Zb2 ?_;exact aj (i+1) tR ⟨⟨oM,λj z hj hz=>by
  by_cases e:j=i
  .subst e;rw[hy]at hz;injection hz with hz;rw[<-hz];exact Gr
  exact sZ j z oM hz⟩,Ha⟩ oM
 have jF:i=l.length:=oM;have bT:l.findIdx? p=none:=qO λj y hy=>sZ j y (by have:=fO hy;omega) hy;refine Zb1 ?_;exact⟨by rw[bT];rfl,H8.kept⟩
def YK {l:List (Int)} (x:Int) (hl:aJ w v intCells 1 l):Rk prog 132 [v,I x] w (.bool (l.any λy=>decide (x=y))):=by
 have H:=Sep.aF w;refine bQ func132 ?_;refine Kz (afp x (hl.keep H.kept)) (λ_ k _=>?_);refine Zb2 ?_;exact⟨by rw[<-Cx];rfl,k.kept⟩
def Vd {l:List (aC)} (x:aC) (hl:aJ w v ah 3 l):Rk prog 192 [v,agg (ah x)] w (.bool (l.any λy=>decide (x=y))):=by
 have H:=Sep.aF w;refine bQ func192 ?_;refine Sr (bB H (h:=λb1 _ k _=>?_));refine Kz (acA x (hl.keep k.kept)) (λ_ k _=>?_);refine Zb2 ?_;exact⟨by rw[<-Cx];rfl,k.kept⟩
variable {cols:List bY}
def Vg {l:List bI} (h:(iJ cols l).2=0):l.length<=64/\∃t,runT cols [] l=some [t]/\iJ cols l=(t,0):=by
 unfold iJ at h |-
 split at h
 .cases h
 rename_i h64;rw[zab h64];refine⟨oM,?_⟩
 split at h
 .rename_i t ht;exact⟨t,ht,by first | rfl | rw[ht]⟩
 cases h
def PX {ts ts':List bM} {x:bI} (h:stepT cols ts x=some ts') (hk:x.kind=1): ∃i,og cols x.n=some i:=by
 cases hf:og cols x.n with
 | some i=>exact⟨i,rfl⟩
 | none=>
  unfold stepT at h;dsimp only at h
  split at h
  .cases h
  rw[zac ((Cg _).2 oM)]at h;unfold qL at h;rw[zac hk,hf]at h;cases h
def aiQ {ts ts':List bM} {x:bI} (h:stepT cols ts x=some ts'):dF x.kind<=ts.length:=by
 refine Classical.byContradiction λhn=>?_;rw[Cc (.inr oM)]at h;cases h
attribute [local irreducible] iJ fH
def Cy {l:List bI} {vc vl vr:Value} (hc:aJ w vc aP 7 cols) (hl:aJ w vl aM 3 l) (hr:aJ w vr ah 3 r) (hf:jw r) (hx: ∀x∈l,fits x.n):
    Rk Tryz.prog 106 [vc,vl,vr] w (.tuple #[agg (ah (mJ cols l r).1),I (mJ cols l r).2]):=by
  have OM:=hc;have EM:=hl;have hrr:=hr;obtain⟨A,m,rfl,⟨hm,om⟩,hA⟩:=hc;obtain⟨C,n,rfl,⟨hn,hn'⟩,hC⟩:=hl;obtain⟨D,q,rfl,⟨hq,hq'⟩,hD⟩:=hr;have H:=Sep.aF w;obtain⟨res,ak⟩: ∃res,res=mJ cols l r:=⟨_,rfl⟩;rw[<-ak];unfold mJ at ak;refine zX Tryz.func106 ?_;refine Az (λb1 _ k _=>?_);refine Kz (JL (OM.keep k.kept) (EM.keep k.kept)) (λ_ _ _=>?_);refine Az (λb11 _ _ _=>?_);refine Tz (λ_ k=>?_);refine Cz (λS=>?_) (λS=>?_)
  . have bT:res=(cell0,(iJ cols l).2):=by rw[ak,zac S]
    refine Sr (Vb (ah cell0) ?_);refine Mv ?_;refine Tz (λ_ d=>?_);refine Zb1 ?_;exact⟨_,bE d,by rw[bT];rfl,d.kept⟩
  have ahV:(iJ cols l).2=0:=by simpa using S
  obtain⟨h64,t,iq,htt⟩:=Vg ahV;rw[zab (by simpa using ahV)]at ak;refine Kz (Oj (OM.keep k.kept) (hrr.keep k.kept)) (λ_ d _=>?_);refine Cz (λS=>?_) (λS=>?_)
  . have bT:res=(cell0,fH cols r):=by rw[ak,zac S]
    refine Sr (Vb (ah cell0) ?_);refine Mv ?_;refine Tz (λ_ k=>?_);refine Zb1 ?_;exact⟨_,bE k,by rw[bT];rfl,k.kept⟩
  have tq:fH cols r=0:=by simpa using S
  rw[zab (by simpa using tq)]at ak;obtain⟨hlen,_⟩:=aaC tq;refine Zb2 ?_;have k:=Sep.iW d.bH 41 3 ah;refine aI (λx:Nat×List aC×Value=>[(0,.slice A cols.length m),(1,.slice C l.length n),(2,.slice D r.length q),(6,.pointer (some ⟨b1,0,none⟩)),(11,x.2.2),(12,I x.1)]) (λx w'=>(x.1<=l.length/\(∃ts,Typed ts x.2.1/\runT cols ts (l.drop x.1)=some [t])/\x.2.1.length<=x.1/\BP cols r x.2.1 (l.drop x.1)=BP cols r [] l)/\Sep w noB [aY 41 3 ah x.2.2 x.2.1,blk b1 (ah cell0) 41] w') (λx _=>l.length-x.1) (0,[],_) tR ⟨⟨zak _,⟨[],Typed.nil,iq⟩,zbj _,rfl⟩,k⟩ (λx τ _ hI=>?_);obtain⟨i,st,v0⟩:=x;obtain⟨⟨hi,⟨ts,hT,hts⟩,X9,dJ⟩,k⟩:=hI;dsimp only at hi hT hts X9 dJ k;obtain⟨B,cb,rfl,OO,hB⟩:=Sep.bJ k At0;refine Lp ?_;refine Cz (λk=>?_) (λk=>?_)
  . have aS:i<l.length:=oM
    obtain⟨x,oZ⟩:=get_some aS
    have hdr:l.drop i=x::l.drop (i+1):=by
      rw[zbn aS];rw[zaa aS]at oZ;injection oZ with oZ;rw[oZ]
    rw[hdr,runT]at hts;rw[hdr,BP]at dJ;obtain⟨ts',sI,aeW⟩:=zdp.1 hts;have hfx:=hx x (zag oZ);obtain⟨he,hg⟩:=Ox tq hf hfx hT sI;rw[he]at dJ;have xY:=RD x.kind;have rG:=aiQ sI;rw[hT.1]at rG;obtain⟨rg,Ya⟩: ∃rg,rg=ahT cols r st x:=⟨_,rfl⟩;rw[<-Ya]at dJ hg;unfold ahT at Ya;refine Zb8 ?_;refine eB (Ol _) (h:=?_);refine Dz (λk _ d=>?_);refine aew ?_;refine Gb k 10 (ah ⟨false,x.n,x.s⟩) ?_;refine tZ k 11 [(10,true),(9,false),(8,true),(7,true),(6,true),(5,true),(4,false),(3,true),(2,true),(1,true),(0,true)] d (h:=λbt _ d=>⟨av ((bK rfl kR (Gives.dz rfl d hC oZ rfl) rfl (av (av (av (av ((bK rfl kR (Gives.dz rfl d hC oZ rfl) rfl (av (av (av (av (eu))))))))))))),?_⟩);refine bN k 12 _ d (h:=λ_ d=>⟨sT,?_⟩);refine fK k kR ?_;refine iX (dD (λz:aC=>[(0,.slice A cols.length m),(1,.slice C l.length n),(2,.slice D r.length q),(6,.pointer (some ⟨b1,0,none⟩)),(11,.slice B st.length cb),(12,I i),(13,I st.length),(14,I (dF x.kind)),(15,.pointer (some ⟨bt,0,none⟩))]) (λz w'=>rg=some z/\Sep w noB [blk bt (ah z) 41,aY 41 3 ah (.slice B st.length cb) st,blk b1 (ah cell0) 41] w') ?_ ?_)
    . refine Cz (λk=>?_) (λk=>?_)
      . obtain⟨ci,hci⟩:=PX sI k
        have hcI:KT cols x.n=(ci:Int):=by unfold KT;rw[hci]
        have aqs:=Gi hci;obtain⟨c0,S⟩:=get_some (l:=r) (i:=ci) oM;have h0:dF x.kind=0:=by rw[k];rfl
        have Pw:rg=some c0:=by
          rw[Ya,zac h0];unfold vK;rw[zac k,hci,zde,jr S]
        refine Kz (KE x.n (OM.keep d.kept)) (λ_ _ _=>?_);rw[hcI];refine Tz (λ_ S=>?_);refine Zb0 ?_;exact au c0 tR ⟨Pw,S⟩
      refine Cz (λS=>?_) (λS=>?_)
      . have h0:dF x.kind=0:=by rw[S];rfl
        have Pw:rg=some bF:=by
          rw[Ya,zac h0];unfold vK;rw[zab oM,zac S]
        refine Zb0 ?_;refine Vb (ah bF) ?_;refine Tz (λ_ S=>?_);refine Zb0 ?_;exact au bF tR ⟨Pw,S⟩
      refine Cz (λS=>?_) (λS=>?_)
      . have lI:1<=dF x.kind:=oM
        obtain⟨a,ha⟩:=get_some (l:=st) (i:=st.length-dF x.kind) oM;obtain⟨b,hb⟩:=get_some (l:=st) (i:=st.length-1) oM;obtain⟨ta,Yx⟩:=get_some (l:=ts) (i:=st.length-dF x.kind) (by have:=hT.1;omega);obtain⟨tb,UY⟩:=get_some (l:=ts) (i:=st.length-1) (by have:=hT.1;omega);have oa:=hT.2 _ ta a Yx ha;have ob:=hT.2 _ tb b UY hb;have hsa:=Ow oa.1;rw[zab oM,jr ha,jr hb]at Ya;refine Dz (λS _ k=>?_);refine Zb8 ?_;refine Gc S 8 ((st.length-dF x.kind:Nat):Int) ?_;refine Zb1 ?_;refine GS (Gt rfl (Gives.oW rfl (eX k At1) ha) ?_);refine Zb2 ?_;refine Gc S 13 ((st.length-1:Nat):Int) ?_;refine Zb1 ?_;refine GS (Gt rfl (Gives.oW rfl (eX k At1) hb) ?_);refine j4 S (e1:=16) (e2:=20) kR ?_ ?_
        . refine JC S 16 [] rfl kR (Ou x.kind a b oa.2 ob.2 oM) rfl kR kR (λv' _ hv=>?_)
          obtain⟨⟨cm,rfl,hcm⟩,bZ⟩:=hv;have e:=k.keep bZ;refine⟨sT,?_⟩;refine Zb3 ?_;refine tZ S 20 _ e (h:=λbm _ e=>⟨sT,?_⟩);refine bN S 21 _ e (h:=λ_ _=>⟨sT,?_⟩);refine Za3 ?_;refine Qn (Cd rfl (λe=>?_) (λe=>?_))
          . have hrn:rg=none:=by
              rw[Ya];cases UJ:jX x.kind a b with
              | none=>rfl
              | some y=>rw[UJ]at e;cases e
            rw[hrn]at dJ;have Dv:none=BP cols r [] l:=dJ;rw[<-Dv]at ak;have bT:res=(cell0,50):=ak;refine Sr (Vb (ah cell0) ?_);refine Tz (λ_ f=>?_);refine Zb1 ?_;exact⟨_,bE f,by rw[bT];rfl,f.kept⟩
          obtain⟨y,hy⟩: ∃y,jX x.kind a b=some y:=by
            cases UJ:jX x.kind a b with
            | none=>rw[UJ]at e;cases e
            | some y=>exact⟨y,rfl⟩
          have Pw:rg=some cm:=by rw[Ya,hy,hcm y hy]
          refine Tz (λ_ f=>?_);refine Zb0 ?_;exact au cm tR ⟨Pw,f.bH⟩
        refine lM S 20 [(15,false),(14,true),(13,true),(12,true),(11,true),(10,false),(9,true),(8,true),(7,true),(6,true),(5,true),(4,false),(3,true),(2,true),(1,true),(0,true)] k (h:=λbm _ f=>⟨(bK rfl kR (Gives.oW rfl (eX f At2) hb) rfl (av (av (av (av ((bK rfl kR (Gives.oW rfl (eX f At2) ha) rfl (av (av (av (av (av ((bK rfl kR (Gives.dz rfl f hC oZ rfl) rfl (av (av (av (av (eu))))))))))))))))))),?_⟩);refine qG S 16 [] rfl kR (Ou x.kind a b oa.2 ob.2 oM) rfl kR kR (λv' _ hv=>?_);obtain⟨⟨cm,rfl,hcm⟩,bZ⟩:=hv;have k:=f.keep bZ;refine⟨sT,?_⟩;refine Zb3 ?_;refine bN S 21 _ k (h:=λ_ _=>⟨sT,?_⟩);refine Za3 ?_;refine Qn (Cd rfl (λk=>?_) (λk=>?_))
        . have hrn:rg=none:=by
            rw[Ya];cases UJ:jX x.kind a b with
            | none=>rfl
            | some y=>rw[UJ]at k;cases k
          rw[hrn]at dJ;have Dv:none=BP cols r [] l:=dJ;rw[<-Dv]at ak;have bT:res=(cell0,50):=ak;refine Sr (Vb (ah cell0) ?_);refine Tz (λ_ f=>?_);refine Zb1 ?_;exact⟨_,bE f,by rw[bT];rfl,f.kept⟩
        obtain⟨y,hy⟩: ∃y,jX x.kind a b=some y:=by
          cases UJ:jX x.kind a b with
          | none=>rw[UJ]at k;cases k
          | some y=>exact⟨y,rfl⟩
        have Pw:rg=some cm:=by rw[Ya,hy,hcm y hy]
        refine Tz (λ_ f=>?_);refine Zb0 ?_;exact au cm tR ⟨Pw,f.bH⟩
      have h0:dF x.kind=0:=oM
      have Pw:rg=some ⟨false,x.n,x.s⟩:=by
        rw[Ya,zac h0];unfold vK;rw[zab oM,zab oM]
      refine Zb0 ?_;exact au ⟨false,x.n,x.s⟩ tR ⟨Pw,d⟩
    rintro c τ f ⟨Yy,f⟩;refine Lp ?_;refine Dz (λf _ d=>?_);refine Zb3 ?_;obtain⟨hTy,vM⟩:=hg c Yy;rw[Yy]at dJ;have Dv:BP cols r (st.take (st.length-dF x.kind)++[c]) (l.drop (i+1))=BP cols r [] l:=dJ;refine Gc f 3 ((st.length-dF x.kind:Nat):Int) ?_;refine Zb2 ?_;refine Gz f 6 _ d ([c].flatMap ah) (h:=λb _ d=>⟨sT,?_⟩);have aaI:=Sep.aom (m:=st.length-dF x.kind) d At2 oM;have AJ:(st.take (st.length-dF x.kind)).length=st.length-dF x.kind:=by rw[zah];omega
    refine gF f 7 _ aaI (news:=[c]) At1 (by rw[AJ];unfold maxLen;simp;omega) (by rw[AJ];simp;omega) (cells_one (λ_=>rfl) [c]) (h:=λv2 _ d=>⟨sT,?_⟩);refine sH f 8 _ (h:=⟨sT,?_⟩);refine Zb3 ?_;exact aj (i+1,st.take (st.length-dF x.kind)++[c],v2) tR ⟨⟨dO,⟨ts',hTy,aeW⟩,by dsimp only;rw[zad,AJ];simp;omega,Dv⟩,d.bH⟩ dO
  have jF:i=l.length:=oM;rw[jF,zef,runT]at hts;rw[jF,zef,BP]at dJ;rw[<-dJ]at ak;have amr:ts=[t]:=by injection hts
  have h1:st.length=1:=by rw[<-hT.1,amr];rfl
  obtain⟨c,d⟩:=zfo.1 h1;have hg0:st[0]? =some c:=by rw[d];rfl
  have bT:res=(c,0):=by rw[ak,d];rfl
  refine Zb1 ?_;refine Vv (Gives.fF (i:=0) rfl rfl hB oM) (Vv (Gives.oW (i:=0) rfl hB hg0) ?_);refine Tz (λ_ d=>?_);refine Zb1 ?_;exact⟨_,bE d,by rw[bT];rfl,d.kept⟩
end Go.Proofs.Mw
