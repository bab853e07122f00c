/-
 The law's examples,told plainly. No program stands here.
-/
import Derived.Test.YtbfjonalkaophaaGreatDoorNk15
set_option linter.all false
set_option maxRecDepth 4000
namespace Go.Proofs.Mw
open Go.Lib
def aeM:Nat->Nat->L8
 | 0,_=>[]
 | f+1,u=>if u<10 then [UInt8.ofNat (48+u)]else aeM f (u/10)++[UInt8.ofNat (48+u%10)]
def R3: ∀(f u:Nat),u<10^f->0<f->aeM f u=decDigits u
 | 0,u,_,h0=>zas h0 dC
 | f+1,u,h,_=>by
  rw[aeM,decDigits]
  by_cases a:u<10
  .rw[zac a,dif_pos a]
  rw[zab a,dif_neg a];have b:u/10<10^f:=by rw[Nat.pow_succ]at h;omega
  have d:0<f:=by
   cases f with
   | zero=>simp at b;omega
   | succ f=>exact Nat.succ_pos f
  rw[R3 f (u/10) b d]
def aay (n:Int):L8:=if n<0 then 45::aeM 20 n.natAbs else aeM 20 n.toNat
def aeN {n:Int} (h:cB n):aay n=itoa n:=by
 unfold cB at h;unfold aay itoa;rw[R3 20 n.natAbs oM dC,R3 20 n.toNat oM dC]
def aeO (x:bH):L8:=
 if x.kind=1 then 35::aay x.n
 else if x.kind=2 then aay x.n
 else if x.kind=3 then(if x.n=1 then [116,114,117,101]else [102,97,108,115,101])
 else if x.kind=4 then Q0 x.s
 else if x.kind=5 then 120::zC x.s
 else if x.kind=6 then oN x.n
 else mo.getD (x.kind-7).toNat []
variable {x:bH}
def aeP (h:cB x.n):aeO x=iE x:=by
 unfold aeO iE;rw[aeN h]
def aaz:List (L8)->Option (List bH)
 | []=>some []
 | w::l=>if(eX (gB w)&&decide (aeO (gB w)=w))=true then(aaz l).map (gB w:: ·)else none
def Vy: ∀l,aaz l=readAll l
 | []=>rfl
 | w::l=>by
  rw[aaz,readAll,aeP (xJ w),Vy l];rfl
def aeQ (s:L8):List bH×Int:=
 if 1048576<s.length\/64<=s.count 32 then([],5)else if s=[]then([],0)else match aaz (dK 32 s)with
  | some l=>(l,0)
  | none=>([],4)
def Px (s:L8):aeQ s=fE s:=by
 unfold aeQ fE;rw[Vy];cases readAll (dK 32 s)<;>rfl
def Md (s:L8): ∀x∈(fE s).1,cB x.n:=by
 have key: ∀(ws:List (L8)) (l:List bH),readAll ws=some l->∀x∈l,cB x.n:=by
  intro ws
  induction ws with
  | nil=>intro l h x a;injection h with h;subst h;cases a
  | cons w ws i=>
   intro l h x a;rw[readAll]at h
   split at h
   .obtain⟨f,b,d⟩:=zbb.1 h
    subst d
    rcases zax.1 a with rfl | a
    .exact xJ w
    exact i f b x a
   cases h
 intro x a;unfold fE at a
 split at a
 .cases a
 split at a
 .cases a
 split at a
 .rename_i l h;exact key _ l h x a
 cases a
variable {w:Wd}
open Go.RowKit
section
variable {P:Program} {r:Option Nat} {n:Nat} {ops:AO} {Q:Post} {rest:LO} {σ:St} {w w0:Wd} {S:NP} {rs:List HP} {put:HP->List HP} {ty:Td} {pos:String} {after:Array Edge}
variable {α:Type} {enc:α->LV} {k e c:Nat} {l:List α} {A:OA}
def Vz (d: ∀x,(enc x).length=k): ∀{l:List α} {i f:Nat} {a b:α} {v:Value},l[i]? =some a->f<k->enc b=(enc a).set f v->(l.flatMap enc).set (i*k+f) v=(l.set i b).flatMap enc
 | [],_,_,_,_,_,h,_,_=>by simp at h
 | x::l,0,f,a,b,v,h,hf,he=>by
  simp only[zcx,Option.some.injEq]at h;subst h;rw[zbi,Nat.zero_mul,zde,List.set_append_left _ _ (by rw[d];exact hf),zcz,zbi,he]
 | x::l,i+1,f,a,b,v,h,hf,he=>by
  simp only[zcy]at h;rw[zbi,zdq _ _ (by rw[d,zei];omega),d,zei,show i*k+k+f-k=i*k+f from oM,Vz d h hf he,zfr,zbi]
def Kg {x y:Od} {T:Td} [Q:OneCell P T] [D:jl enc k] {i f:Nat} {a:α} (q:α) {v:Value} {m:Nat} (hm:m=l.length) (H:Sep w0 S rs w) (z:At rs (aY e k enc (.slice A m c) l) put) (hi:l[i]? =some a) (hf:f<k) (he:enc q=(enc a).set f v) (hx:evF σ x=adr A (i*k+f)) (hy:evF σ y=v) (Y:v.oneCell'=true):
    ∃w',Oq P (evF σ) (.store T x y) ty w w'/\Sep w0 S (put (aY e k enc (.slice A m c) (l.set i q))) w':=by
  subst hm;have K:i<l.length:=(zba.1 hi).1;obtain⟨F,hp,hS,u⟩:=H.bG z;have Z:=Sep.dA hp;obtain⟨g,c',rest,O,d,hxl,J,L,W⟩:=Z.aa4 At0 oM;injection O with hA _ hc
  subst hA;subst hc;have s:=W.obj At0;have o:=jh D.len l;have t:(i+1)*k<=l.length*k:=zfe k K;rw[zei]at t;have j:i*k+f<(l.flatMap enc++rest).length:=by rw[zad,o];omega
  obtain⟨G,M⟩:=Ae (v:=v) s j;have X:=W.setObj (At0 (p:=blk g (l.flatMap enc++rest) e) (l:=[])) G M;rw[adl (by rw[o];omega),Vz D.len hi hf he]at X;have r:Sep w F [blk g ((l.set i q).flatMap enc++rest) e] (w.setCell ⟨g,i*k+f,none⟩ v):=X;have h:=jh D.len (l.set i q);rw[zdb]at h;have E:=r.aa5 (n:=l.length) (c:=c) At0 (by rw[zad,h];rw[zad,o]at d;exact d) h J L;refine⟨w.setCell ⟨g,i*k+f,none⟩ v,λ_ _ _ _=>?_,?_⟩
  . have N:(store (⟨g,i*k+f,none⟩:Addr) v).run P w=.ok () (w.setCell ⟨g,i*k+f,none⟩ v):=by
      rw[run_store P w _ v _ Y,lu s,zaa j];simp[World.frozen?,s]
    have C:v.cells= #[v]:=by cases v<;>first | rfl | cases Y
    have R:evF σ x=.pointer (some ⟨g,i*k+f,none⟩):=by rw[hx];show Value.pointer (some (Addr.add ⟨g,0,none⟩ (i*k+f)))=_;rw[Addr.add_lit,zde]
    simp[execOp,R,hy,Instr.storeAt,Instr.sureAddr,storeVar,Q.size,C,storeCells,N,Addr.add_zero']
  obtain⟨h5,V,h6,h7⟩:=E;refine u _ V _ h5 ?_ λb s=>h7 b s;have h8:=Dk.1 h6;show(vE e k (.slice (some ⟨g,0,none⟩) l.length c) (l.set i q).length ((l.set i q).flatMap enc)).ok V _
  rw[zdb];exact h8
def GZ {x y:Od} {T:Td} [C:OneCell P T] [D:jl enc k] {i f:Nat} {a:α} (b:α) {v:Value} {m:Nat} (q:m=l.length) (H:Sep w0 S rs w) (d:At rs (aY e k enc (.slice A m c) l) put) (hi:l[i]? =some a) (o:f<k) (j:enc b=(enc a).set f v) (u:evF σ x=adr A (i*k+f)) (z:evF σ y=v) (t:v.oneCell'=true)
    (h: ∀w',Sep w0 S (put (aY e k enc (.slice A m c) (l.set i b))) w'->FL P r n ops Q rest σ w'):
    FL P r n ops Q (⟨none,.store T x y,ty,pos,after,none⟩::rest) σ w:=by
  obtain⟨w',g,s⟩:=Kg (P:=P) (ty:=ty) (T:=T) b q H d hi o j u z t;exact Ee g rfl (h w' s)
def ah.yA {s:Od->Value} {x y:Od} {t e:Td} [o:dR P t e] {q:Nat} [g:Cells P e k q] {m i:Nat} {j:IntKind} (a:m=l.length) (d:s x=.slice A m c) (f:s y=.int j i) (b:Rd w0 A enc k l) (h:i<l.length):ah P s (.indexAddr t x y) ty w (adr A (i*k)) w:=by
 subst a;exact ah.fT d f b h
def dZ {m:Nat} (a:m=l.length) (H:Sep w0 S rs w) (h:At rs (aY e k enc (.slice A m c) l) put):Rd w A enc k l:=by
 subst a;exact Sep.rowAt H h
def ah.abY {j:Od->Value} {x y:Od} {k:IntKind} {a b m:Int} {t:Array Td} (d:j x=.int k a) (f:j y=.int k b) (h:Min.min a b=m):ah P j (.call {callee:=.builtin .min,args:= #[x,y],argTypes:=t}) ty w (.int k m) w:=by subst h;exact ah.min d f
end
def qH (x:bH):bH:=⟨x.kind,x.n,x.s.take 1100⟩
def Me (s:L8) (k:Nat):Min.min ((s.length:Nat):Int) (k:Int)=(((s.take k).length:Nat):Int):=by
 rw[zah];omega
def Mf (s:L8) (k:Nat):s.take (s.take k).length=s.take k:=by
 rw[zah]
 by_cases h:k<=s.length
 .rw[zcf h]
 rw[Nat.min_eq_right oM,zbo,zaj oM]
def ajt (b:Bool):Int:=if b then 3 else 2
def aju (b:Bool):List Int:=[ajt b,1,4,5,3]
def ajv (b:Bool) (i:Nat):Int:=(aju b).getD (i%5) 0
def aaA (b:Bool) (i:Nat):bF:=⟨((i+1:Nat):Int),[],⟨ajv b i,decide ((4:Int)<i)⟩,cell0⟩
def ak4 (b:Bool):List bF:=(List.range 10).map (aaA b)
structure aoH (k:Int) (n:Bool) (l:List bH):Prop where
 may: ∀x∈l,eX x=true/\cB x.n
 run: ∀b st,runT (ak4 b) st l=some (st++[⟨k,n⟩])
structure Kh (m:Nat) (r:List aF):Prop where
 len:r.length=m
 fit:mO r
 ok: ∀b (i:Nat) c,r[i]? =some c->okC (aaA b i).type c
def Kh.nil:Kh 0 []:=⟨rfl,λ_ h=>zas h zal,λ_ i c h=>by simp at h⟩
variable {i:Nat}
def Kh.push {r:List aF} {c:aF} (h:Kh i r) (o:cB c.n/\∀b,okC (aaA b i).type c):Kh (i+1) (r++[c]):=by
 refine⟨by rw[zad,h.len];rfl,λy q=>?_,λb j d a=>?_⟩
 .rcases zbh.1 q with f | f
  .exact h.fit y f
  rw[zaw.1 f];exact o.1
 rcases zdp j r.length with g | g
 .rw[zce g]at a;exact h.ok b j d a
 rw[zbx g]at a;cases hk:j-r.length with
 | zero=>
  rw[hk]at a;have e:j=i:=by have:=h.len;omega
  simp only[zcx,Option.some.injEq]at a;rw[e,<-a];exact o.2 b
 | succ m=>rw[hk]at a;simp at a
def Py {cols:List bF} {r:List aF} (i:d9 cols r=0) (g:mO r): ∀{l:List bH} {d t:List bZ} {b s:List aF},(∀x∈l,cB x.n)->Typed d b->runT cols d l=some t->tV cols r b l=some s->Typed t s
 | [],d,t,b,s,_,hT,h,a=>by
  injection h with h
  injection a with a
  rw[<-h,<-a];exact hT
 | x::l,d,t,b,s,hx,hT,h,a=>by
  rw[runT]at h;rw[tV]at a;obtain⟨H,j,h⟩:=zdt.1 h;obtain⟨z,e,a⟩:=zdt.1 a;obtain⟨_,_,q⟩:=J5 i g (hx x zak) hT j;rw[GV]at e;obtain⟨c,m,o⟩:=zbb.1 e;have f:=q c m;rw[o]at f;exact Py i g (λy u=>hx y (zap _ u)) f h a

structure mF where
 name:L8
 steps:List bH
structure aU where
 wh:List bH
 cols:List mF
 group:Int
def mF.ext' {a b:mF} (h:a.name=b.name) (d:a.steps=b.steps):a=b:=by cases a;cases b;simp_all
def aU.ext' {a b:aU} (h:a.wh=b.wh) (d:a.cols=b.cols) (f:a.group=b.group):a=b:=by cases a;cases b;simp_all
instance:DecidableEq mF:=λa b=>decidable_of_iff (a.name=b.name/\a.steps=b.steps) ⟨λh=>mF.ext' h.1 h.2,λh=>by subst h;exact⟨rfl,rfl⟩⟩
instance:DecidableEq aU:=λa b=>decidable_of_iff (a.wh=b.wh/\a.cols=b.cols/\a.group=b.group) ⟨λh=>aU.ext' h.1 h.2.1 h.2.2,λh=>by subst h;exact⟨rfl,rfl,rfl⟩⟩
def ny:aU:=⟨[],[],0⟩
def R4 (c:UInt8):Bool:=decide (97<=c.toNat/\c.toNat<=122)
def nR (c:UInt8):Bool:=R4 c||decide (c=95)||uh c
def fM (s:L8):Bool:=decide (1<=s.length/\s.length<=32)&&R4 (s.getD 0 0)&&s.all nR
def iY:L8:=[99,111,117,110,116]
def nA:L8:=[110,111,110,101]
def R5:L8:=[119,104,101,114,101,32]
def Yp:L8:=[111,117,116,32]
def Mg:L8:=[103,114,111,117,112,32]
def lM (p:aU):Bool:=
 decide (1<=p.cols.length/\p.cols.length<=16/\ -1<=p.group/\p.group<=p.cols.length)&&p.cols.all (λo=>fM o.name&& !(decide (0<=p.group)&&decide (o.name=iY)))&&decide ((p.cols.map (·.name)).Nodup)
def aaB (t:bZ):aF:=⟨mX t&&t.null,0,[]⟩
def qD (id:Int) (name:L8) (t:bZ):bF:=⟨id,name,t,aaB t⟩
def iZ:bZ:=⟨3,false⟩
def rz (cols:List bF) (group:Int):Nat->List mF->List bF->List bF×Int
  | i,[],acc=>(if group=i then acc++[qD (group+1) iY iZ]else acc,0)
  | i,o::l,acc=>
    if(gH cols o.steps).2≠0 then([],(gH cols o.steps).2)
    else if 0<=group/\group<=i then
      (if(gH cols o.steps).1.kind≠3 then([],230)
       else rz cols group (i+1) l ((if(i:Int)=group then acc++[qD (i+1) iY iZ]else acc)++[qD (i+2) o.name iZ]))
    else rz cols group (i+1) l (acc++[qD (i+1) o.name (gH cols o.steps).1])
def bD (cols:List bF) (p:aU):List bF×Int:=
 if lM p=false then([],230)
 else if p.wh≠[]/\(gH cols p.wh).2≠0 then([],(gH cols p.wh).2)
 else if p.wh≠[]/\(gH cols p.wh).1.kind≠1 then([],230)
 else rz cols p.group 0 p.cols []
def Mh (p:aU):List Int:=tC (p.wh++p.cols.flatMap (·.steps))
def uf (o:mF):L8:=Yp++o.name++[32]++(jd o.steps).1
def Mi (o:mF):Bool:=decide ((jd o.steps).2≠0\/(jd o.steps).1=[])
def xK (l:List bH):L8:=R5++(if l=[]then nA else(jd l).1)
def yV (g:Int):L8:=Mg++(if g<0 then nA else itoa g)
def l8 (p:aU):List (L8):=xK p.wh::(p.cols.map uf++[yV p.group])
def uz (l:List (L8)):L8:=l.flatMap (· ++[10])
def Dx (p:aU):Bool:=lM p&&decide ((jd p.wh).2=0)&&p.cols.all (λo=> !Mi o)
def Ki (p:aU):L8×Int:=if Dx p=false then([],2)else(uz (l8 p),0)
def jE (s:L8):List (L8)×Bool:=if(dK 10 s).getLast?=some []then((dK 10 s).dropLast,true)else(dK 10 s,false)
def u7 (b s:L8):Option (L8):=if s.take b.length=b then some (s.drop b.length)else none
def G5 (s:L8):Option (List bH):=(u7 R5 s).bind λt=>if t=[]then none else if t=nA then some []else if(fE t).2=0 then some (fE t).1 else none
def zV (s:L8):Option (L8×L8):=(s.idxOf? 32).map λi=>(s.take i,s.drop (i+1))
def Mj (s:L8):Option mF:=(u7 Yp s).bind λt=>(zV t).bind λx=>if(fE x.2).2=0/\(fE x.2).1≠[]/\fM x.1=true then some ⟨x.1,(fE x.2).1⟩else none
def pY (t:L8):Option Nat:=(nM t 0).bind λn=>if decDigits n=t/\n<=1048576 then some n else none
def yB (s:L8):Option Int:=(u7 Mg s).bind λt=>if t=nA then some (-1)else(pY t).map (λn:Nat=>((n:Nat):Int))
def lS:List (L8)->List mF
 | []=>[]
 | s::l=>match Mj s with
  | some o=>o::lS l
  | none=>[]
def l9 (s:L8):aU×Int×Int:=
 if 1048576<s.length then(ny,0,5)
 else
  let l:=(jE s).1
  let many:=if(jE s).2=true then l.length else l.length-1
  if many<1 then(ny,0,4)
  else match G5 (l.getD 0 [])with
   | none=>(ny,0,4)
   | some w=>
    let cs:=lS ((l.take many).drop 1)
    if many<=1+cs.length\/cs.length=0 then(ny,(1+cs.length:Nat),4)
    else match yB (l.getD (1+cs.length) [])with
     | none=>(ny,(1+cs.length:Nat),4)
     | some g=>
      if 1+cs.length+1<l.length then(ny,(1+cs.length+1:Nat),4)
      else if Dx ⟨w,cs,g⟩=false then(ny,0,2)else(⟨w,cs,g⟩,0,0)
def dV (x:L8×Value):LV:=[str x.1,x.2]
instance:jl dV 2:=⟨λ_=>rfl⟩
def qm (w:Wd) (r:List (L8×Value)) (l:List mF):Prop:=r.map (·.1)=l.map (·.name)/\∀(i:Nat) x o,r[i]? =some x->l[i]? =some o->aP w x.2 aQ 3 o.steps
def Mk (w:Wd) (v:Value) (l:List mF):Prop:=∃r,aP w v dV 2 r/\qm w r l
def fK (w:Wd) (v:Value) (p:aU):Prop:=∃vw vc,v=agg [vw,vc,I p.group]/\aP w vw aQ 3 p.wh/\Mk w vc p.cols
variable {w':Wd} {v:Value} {r:List (L8×Value)} {l:List mF} {p:aU}
def qm.len (h:qm w r l):r.length=l.length:=by
 have:=zay List.length h.1;simpa using this
def qm.aK (h:qm w r l) (a:aS noB w w'):qm w' r l:=⟨h.1,λi x o d b=>(h.2 i x o d b).aK a⟩
def Mk.aK (h:Mk w v l) (a:aS noB w w'):Mk w' v l:=by
 obtain⟨r,b,d⟩:=h;exact⟨r,b.aK a,d.aK a⟩
def fK.aK (h:fK w v p) (a:aS noB w w'):fK w' v p:=by
 obtain⟨g,f,e,b,d⟩:=h;exact⟨g,f,e,b.aK a,d.aK a⟩
def qm.nil:qm w [] []:=⟨rfl,λi x o h=>by simp at h⟩
def qm.push {n:L8} {x:Value} {s:List bH} (h:qm w r l) (g:aP w x aQ 3 s):qm w (r++[(n,x)]) (l++[⟨n,s⟩]):=by
 have f:=h.len;refine⟨by rw[zan,zan,h.1];rfl,λi y o a b=>?_⟩
 by_cases hi:i<r.length
 .rw[zce hi]at a
  rw[zce oM]at b;exact h.2 i y o a b
 rw[zbx oM]at a b;rw[<-f]at b
 have d:i-r.length=0:=by
  cases hj:i-r.length with
  | zero=>rfl
  | succ j=>rw[hj]at a;simp at a
 rw[d]at a b;injection a with a
 injection b with b
 subst a;subst b;exact g
def qm.at (h:qm w r l) {i:Nat} (hi:i<l.length): ∃x,r[i]? =some (l[i].name,x)/\aP w x aQ 3 l[i].steps:=by
 have d:=h.len;have a:r[i]? =some r[i]:=zaa oM
 have b:r[i].1=l[i].name:=by
  have:=zay (λz=>z[i]?) h.1;simp only[zbw]at this;rw[a,zaa hi]at this;injection this
 exact⟨r[i].2,by rw[a,<-b],h.2 i _ _ a (zaa hi)⟩
def fV (k:Nat) (x:aH):bT:=⟨x.row.take k,x.row.drop k,x.w⟩
def dP (g:Int) (n:Nat) (T:List aH):List aH×Int:=
 if g<0 then dJ T
 else if(T.all λx=>qC g.toNat (n-g.toNat) (fV g.toNat x))=false then([],2)
 else if xq (n-g.toNat) (T.map (fV g.toNat))=false then([],50)
 else(mE (n-g.toNat) (T.map (fV g.toNat)),0)
def iL (g:Int) (n:Nat) (T m:List aH):List aH×Int:=
 if(dP g n (T++m)).2≠0 then([],(dP g n (T++m)).2)
 else if g<0 then dJ m
 else dJ ((dP g n (T++m)).1++yu (dP g n T).1)
variable {n:Nat} {T:List aH} {g:Int}
def lT (h:(T.all λx=>qC g.toNat (n-g.toNat) (fV g.toNat x))=true): ∀x∈T.map (fV g.toNat),x.key.length=g.toNat:=λx a=>by
 obtain⟨y,b,rfl⟩:=zav.1 a;have:=zaz.1 h y b;unfold qC at this;rw[zbr,decide_eq_true_iff]at this;exact this.1.1
def jQ (b: ¬g<0):(dP g n T).2=0↔(T.all λx=>qC g.toNat (n-g.toNat) (fV g.toNat x))=true/\xq (n-g.toNat) (T.map (fV g.toNat))=true:=by
 unfold dP;rw[zab b]
 split
 .rename_i h;rw[h];exact⟨λh=>zas h dC,λh=>zas h.1 dC⟩
 rename_i h
 split
 .rename_i a;rw[a];exact⟨λh=>zas h dC,λh=>zas h.2 dC⟩
 rename_i a;exact⟨λ_=>⟨eq_true_of_ne_false h,eq_true_of_ne_false a⟩,λ_=>rfl⟩
def jJ (a: ¬g<0) (h:(dP g n T).2=0):dP g n T=(mE (n-g.toNat) (T.map (fV g.toNat)),0):=by
 obtain⟨b,d⟩:=(jQ a).1 h;unfold dP;rw[zab a,zab (by rw[b];decide),zab (by rw[d];decide)]
def Br (h:(dP g n T).2=0):isZ (dP g n T).1:=by
 by_cases a:g<0
 .unfold dP;rw[zac a];exact sj
 rw[jJ a h];exact LB (lT ((jQ a).1 h).1)
variable {m:List aH}
def aeR:isZ (iL g n T m).1:=by
 unfold iL
 split
 .exact⟨List.Pairwise.nil,λx h=>zas h zal,λx h=>zas h zal⟩
 split<;>exact sj
def VA (h:(dP g n T).2≠0):(dP g n T).1=[]:=by
 unfold dP at h |-
 split
 .rename_i f;rw[zac f]at h;rw[qF h]
 split
 .rfl
 split
 .rfl
 rename_i a b d;rw[zab a,zab b,zab d]at h;exact zas rfl h
def VB (h:(iL g n T m).2≠0):(iL g n T m).1=[]:=by
 unfold iL at h |-
 split
 .rfl
 rename_i b;rw[zab b]at h
 split
 .rename_i a;rw[zac a]at h;rw[qF h]
 rename_i a;rw[zab a]at h;rw[qF h]
def G6 (h:(iL g n T m).2=0):(dP g n (T++m)).2=0:=by
 unfold iL at h
 split at h
 .exact h
 rename_i a;exact zcd.1 a
def aaC (f:(dP g n T).2=0) (h:(iL g n T m).2=0) (r:List aF):wtL (iL g n T m).1 r=wtL (dP g n (T++m)).1 r-wtL (dP g n T).1 r:=by
 have a:=G6 h
 by_cases d:g<0
 .have e:iL g n T m=dJ m:=by unfold iL;rw[zab (not_not_intro a),zac d]
  have b: ∀X,dP g n X=dJ X:=λX=>by unfold dP;rw[zac d]
  rw[e]at h ⊢;rw[b]at f a;rw[b,b,Cv h,Cv a,Cv f,iG];omega
 have e:iL g n T m=dJ ((dP g n (T++m)).1++yu (dP g n T).1):=by unfold iL;rw[zab (not_not_intro a),zab d]
 rw[e]at h ⊢;rw[Cv h,iG,XW];omega
def Yq (a:(dP g n T).2=0) (h:(iL g n T m).2=0):Uu (dP g n T).1 (iL g n T m).1=((dP g n (T++m)).1,0):=by
 rw[<-GJ (Br (G6 h))];exact yN λr=>by rw[iG,aaC a h];omega
def Yr (a: ¬g<0) (d:(dP g n T).2=0):(iL g n T m).2=(dP g n (T++m)).2:=by
 unfold iL
 split
 .rfl
 rename_i h;have h:=zcd.1 h;rw[h,Cu];intro r;rw[iG,XW,jJ a h,jJ a d]
 rcases aam (sums:=n-g.toNat) (lT ((jQ a).1 h).1) r with e | e<;>rcases aam (sums:=n-g.toNat) (lT ((jQ a).1 d).1) r with b | b<;>(dsimp only;rw[e,b];decide)
def aeS (g:Int) (n:Nat):dP g n []=([],0):=by
 unfold dP
 split
 .rfl
 rfl
def fu (sums:Nat) (E:List bT) (k:List aF):List Int:=(List.range (sums+1)).map (jV E k)
def stE (sums:Nat) (E:List bT) (k:List aF):Option (List Int):=if((fu sums E k).any λn=>decide (n≠0))=true then some (fu sums E k)else none
def iP (ns:List Int) (k:List aF) (w:Int):List aH:=if ns.headD 0=0 then []else [⟨k++ns.map gW,w⟩]
def aaD (o:Option (List Int)) (k:List aF) (w:Int):List aH:=iP (o.getD []) k w
def gN (l:List bT):List (List aF):=l.foldl (λks x=>if x.key∈ks then ks else ks++[x.key]) []
def oF (l:List bT) (x:bT):gN (l++[x])=if x.key∈gN l then gN l else gN l++[x.key]:=by
 unfold gN;rw[List.foldl_append];rfl
def Ml {α:Type} {p:List α->Prop} (h:p []) (a: ∀l x,p l->p (l++[x])) (l:List α):p l:=by
 rw[<-List.reverse_reverse l]
 induction l.reverse with
 | nil=>exact h
 | cons x t i=>rw[List.reverse_cons];exact a _ _ i
def oV {k:List aF} (l:List bT):k∈gN l↔∃x∈l,x.key=k:=by
 refine Ml (p:=λl=>k∈gN l↔∃x∈l,x.key=k) (by simp[gN]) (λl x i=>?_) l;rw[oF]
 have g:(∃y∈l++[x],y.key=k)↔(∃y∈l,y.key=k)\/x.key=k:=by
  constructor
  .rintro⟨y,d,e⟩
   rcases zbh.1 d with h | h
   .exact .inl ⟨y,h,e⟩
   rw[zaw]at h;subst h;exact .inr e
  rintro(⟨y,d,e⟩ | e)
  .exact⟨y,zcg _ d,e⟩
  exact⟨x,sM,e⟩
 rw[g,<-i]
 split
 .rename_i h
  exact⟨.inl,λf=>f.elim id λe=>by rw[<-e];exact h⟩
 rw[zbh,zaw,eq_comm (a:=k) (b:=x.key)]
def Fp (l:List bT):(gN l).Nodup:=by
 refine Ml (p:=λl=>(gN l).Nodup) (by simp[gN]) (λl x i=>?_) l;rw[oF]
 split
 .exact i
 rename_i h;rw[zet];exact⟨i,sM,λa f b d e=>by rw[zaw]at d;subst d;subst e;exact h f⟩
variable {sums:Nat} {E l:List bT} {k r:List aF}
def lQ:(fu sums E k).length=sums+1:=by unfold fu;rw[zae,zdu]
def zW:(fu sums E k).headD 0=jV E k 0:=by
 unfold fu;rw[List.range_succ_eq_map,zbc];rfl
def yX (hi:i<=sums):(fu sums E k)[i]? =some (jV E k i):=by
 unfold fu;rw[zbw,List.getElem?_range oM];rfl
def Bt (h:k∉gN l):fu sums (E++l) k=fu sums E k:=by
 unfold fu;refine zcu λi _=>?_;rw[uW,uX (l:=l) λx a e=>h ((oV l).2 ⟨x,a,e⟩),zgl]
def abZ (h:k∉gN l):stE sums (E++l) k=stE sums E k:=by unfold stE;rw[Bt h]
def zX (h:stE sums E k=none) (hi:i<=sums):jV E k i=0:=by
 unfold stE at h
 split at h
 .cases h
 rename_i a
 by_cases e:jV E k i=0
 .exact e
 refine zas (zgc.2 ⟨jV E k i,?_,zau e⟩) a;exact zag (yX hi)
def Mq {n:List Int} (h:stE sums E k=some n):n=fu sums E k:=by
 unfold stE at h
 split at h
 .injection h with h;exact h.symm
 cases h
def VD (w:Int):aaD (stE sums E k) k w=iP (fu sums E k) k w:=by
 unfold aaD;cases h:stE sums E k with
 | none=>
  unfold iP;rw[zW,zX h (zai _),zac rfl];rfl
 | some n=>rw[Mq h];rfl
def Kj {α a:Type} (p:α->Bool) (f:α->a): ∀h:List α,(h.flatMap λk=>if p k=true then [f k]else [])=(h.filter p).map f
 | []=>rfl
 | k::h=>by
  rw[zbi,Kj p f h,zej]
  split<;>rfl
def aeT (w:Int):iP (fu sums E k) k w=if decide (jV E k 0≠0)=true then [⟨abp sums E k,w⟩]else []:=by
 unfold iP;rw[zW]
 by_cases h:jV E k 0=0
 .rw[zac h,zab (by simp[h])]
 rw[zab h,zac (by simp[h])];unfold abp fu;rw[zdn];rfl
def ab0 (h:List (List aF)):(h.flatMap λk=>iP (fu sums E k) k 1)=(h.filter λk=>decide (jV E k 0≠0)).map λk=>⟨abp sums E k,1⟩:=by
 rw[<-Kj]
 congr 1
 funext k
 exact aeT 1
variable {ks:List (List aF)}
def Mr (d:ks.Nodup) (b: ∀k,jV E k 0≠0->k∈ks) (r:List aF):wtL (ks.flatMap λk=>iP (fu sums E k) k 1) r=wtL (mE sums E) r:=by
 rw[ab0];refine Uv (List.Perm.map _ ?_) r;refine(List.perm_ext_iff_of_nodup (d.sublist zec) ((oQ (um E)).sublist zec)).2 λa=>?_;rw[zca,zca];constructor
 .rintro⟨_,h⟩;exact⟨Ef (zbe h),h⟩
 rintro⟨_,h⟩;exact⟨b a (zbe h),h⟩
def ab1 (n:List Int) (k r:List aF):wtL (iP n k (-1)) r= -wtL (iP n k 1) r:=by
 unfold iP
 split
 .rfl
 rw[wtL,wtL,wtL,wtL];split<;>rfl
def aeU (f g:List aF->List aH) (b: ∀k r,wtL (f k) r= -wtL (g k) r) (h:List aF->List aH) (r:List aF): ∀a:List (List aF),wtL (a.flatMap λk=>f k++h k) r=wtL (a.flatMap h) r-wtL (a.flatMap g) r
 | []=>rfl
 | k::a=>by
  rw[zbi,zbi,zbi,iG,iG,iG,iG,aeU f g b h r a,b];omega
def aeV {done:List (List aF)} (y:done.Perm (gN l)) (r:List aF):
    wtL (done.flatMap λk=>iP (fu sums E k) k (-1)++iP (fu sums (E++l) k) k 1) r=wtL (mE sums (E++l)) r-wtL (mE sums E) r:=by
  rw[aeU _ (λk=>iP (fu sums E k) k 1) (λk r=>ab1 _ k r)];have s:=oQ (um (E++l));have q:done.Nodup:=y.nodup_iff.2 (Fp l);have i: ∀k,k∈done↔k∈gN l:=λk=>y.mem_iff
  have z: ∀k,k∈gN l->k∈sw (E++l):=λk d=>by
    obtain⟨x,t,e⟩:=(oV l).1 d;exact ql.2 ⟨x,zck _ t,e⟩
  obtain⟨o,g⟩: ∃o,o=(sw (E++l)).filter λk=>decide (k∉gN l):=⟨_,rfl⟩
  have m: ∀k∈o,k∈sw (E++l)/\k∉gN l:=λk d=>by
    rw[g,zca]at d;exact⟨d.1,zbe d.2⟩
  have j:(done++o).Nodup:=by
    rw[zet];refine⟨q,by rw[g];exact s.sublist zec,λa D b F e=>?_⟩;subst e;exact(m a F).2 ((i a).1 D)
  have f: ∀k,k∈sw (E++l)->k∈done++o:=λk d=>by
    rw[zbh]
    by_cases h:k∈gN l
    . exact .inl ((i k).2 h)
    right;rw[g,zca];exact⟨d,zau h⟩
  have u:=Mr (sums:=sums) (E:=E++l) j (λk d=>f k (Ef d)) r
  have H:=Mr (sums:=sums) (E:=E) j (λk d=>f k (by
    obtain⟨x,t,e⟩:=ql.1 (Ef d);exact ql.2 ⟨x,zcg _ t,e⟩)) r
  rw[zbu,iG]at u H
  have C:(o.flatMap λk=>iP (fu sums (E++l) k) k 1)=o.flatMap λk=>iP (fu sums E k) k 1:=by
    rw[List.flatMap_def,List.flatMap_def]
    congr 1
    exact zcu λk d=>by rw[Bt (m k d).2]
  rw[C]at u;omega
def Yt {done:List (List aF)} (h:done.Perm (gN l)):
    dJ (done.flatMap λk=>iP (fu sums E k) k (-1)++iP (fu sums (E++l) k) k 1)=dJ (mE sums (E++l)++yu (mE sums E)):=
  yN λr=>by rw[aeV h,iG,XW];omega
def ab2 (b:xq sums E=true):xq sums (E++l)=true↔∀k∈gN l,∀n∈fu sums (E++l) k,bM n=true:=by
 rw[uY];constructor
 .intro h k _ n d
  obtain⟨i,hi,rfl⟩:=zav.1 d;rw[zeg]at hi;exact h k i oM
 intro h k i hi
 by_cases a:k∈gN l
 .exact h k a _ (zag (yX hi))
 rw[uW,uX (l:=l) λx f e=>a ((oV l).2 ⟨x,f,e⟩),zgl];exact uY.1 b k i hi
def Pz {keys:Nat} (a: ∀x∈E,x.key.length=keys) (d:ks.Nodup) (b: ∀k,stE sums E k≠none->k∈ks):
    dJ (ks.flatMap λk=>aaD (stE sums E k) k 1)=(mE sums E,0):=by
  rw[<-GJ (LB (sums:=sums) a)];refine yN λr=>?_;rw[<-Mr (sums:=sums) d (λk h=>b k λe=>h (zX e (zai _))) r]
  congr 2
  funext k
  exact VD 1
def yY (keys sums:Nat) (E l:List bT):List aH×Int:=
 if(l.all λx=>qC keys sums x)=false then([],2)else if xq sums (E++l)=false then([],50)else dJ (mE sums (E++l)++yu (mE sums E))
def aeW {T m:List aH} (b: ¬g<0) (d:(dP g n T).2=0):iL g n T m=yY g.toNat (n-g.toNat) (T.map (fV g.toNat)) (m.map (fV g.toNat)):=by
 have j:=jJ b d;obtain⟨f,o⟩:=(jQ b).1 d;have i:((T++m).all λx=>qC g.toNat (n-g.toNat) (fV g.toNat x))=(m.all λx=>qC g.toNat (n-g.toNat) (fV g.toNat x)):=by rw[List.all_append,f,zer]
 unfold iL yY;rw[j];unfold dP;rw[zab b,i,zgm,zan];simp only[Function.comp_def]
 by_cases c:(m.all λx=>qC g.toNat (n-g.toNat) (fV g.toNat x))=false
 .rw[zac c,zac c,zac dC]
 rw[zab c,zab c]
 by_cases a:xq (n-g.toNat) (T.map (fV g.toNat)++m.map (fV g.toNat))=false
 .rw[zac a,zac a,zac dC]
 rw[zab a,zab a,zab (λh=>h rfl),zab b]
def R6: ∀{b:List (List aF)} {r:List aF} {a:Nat},(∀(j:Nat) k,j<a->b[j]? =some k->jU k r<0)->a<=b.length->(∀k,b[a]? =some k->jU r k<0)->zJ r b=b.take a++r::b.drop a
 | [],r,a,_,ha,_=>by
  simp at ha;subst ha;rfl
 | k::b,r,0,_,_,h=>by
  rw[zJ,zac (h k rfl)];rfl
 | k::b,r,a+1,h1,ha,h2=>by
  have f:=h1 0 k oM rfl;rw[zJ,zab (gL.asymm f),zab (gL.irr f).symm,R6 (a:=a) (λj x g d=>h1 (j+1) x oM (by simpa using d)) (by simpa using ha) (λx d=>h2 x (by simpa using d))];rfl
def VE: ∀{a:List (List aF)} {r:List aF},oP a->r∈a->zJ r a=a
 | k::a,r,hs,h=>by
  obtain⟨b,d⟩:=zcs.1 hs;rw[zJ]
  rcases zax.1 h with e | e
  .subst e
   rw[zab (by rw[gL.self];omega),zac rfl]
  rw[zab (gL.asymm (b r e)),zab (gL.irr (b r e)).symm,VE d e]
def Yu (l:List aH) (x:aH):ni (l++[x])=zJ x.row (ni l):=by
 refine zL (nk _) (zK (nk _)) λr=>?_;rw[r9,Cr,r9];constructor
 .rintro⟨y,a,e⟩
  rcases zbh.1 a with h | h
  .exact .inr ⟨y,h,e⟩
  rw[zaw]at h;subst h;exact .inl e.symm
 rintro(e | ⟨y,a,e⟩)
 .exact⟨x,sM,e.symm⟩
 exact⟨y,zcg _ a,e⟩
def DR (l:List aH) (ks:List (List aF)):List aH:=ks.map λr=>⟨r,wtL l r⟩
def ab3 (l:List aH) (k:List (List aF)):(DR l k).length=k.length:=by unfold DR;rw[zae]
def aeX {l:List aH} {x:aH} (h:(DR l ks)[i]? =some x):ks[i]? =some x.row/\x.w=wtL l x.row:=by
 unfold DR at h;rw[zbw]at h;obtain⟨r,a,rfl⟩:=zbb.1 h;exact⟨a,rfl⟩
def Yv {l:List aH} (h: ∀r∈ni l,bM (wtL l r)=true):dJ l=((DR l (ni l)).filter λx=>decide (x.w≠0),0):=by
 unfold dJ;rw[zac (zaz.2 h)];unfold GD DR;rw[List.filter_map];rfl
def Yw {l:List aH} (h:bM (wtL l r)≠true):dJ l=([],50):=qF λe=>h (Cu.1 e r)
def aeY (sums:Nat) (E:List bT) (ks:List (List aF)):List (List aF×List Int):=ks.map λk=>(k,fu sums E k)
def yZ (L:List (List aF×List Int)) (w:Int):List aH:=L.flatMap λg=>iP g.2 g.1 w
def ab4 {keys:Nat} (d: ∀x∈l,x.key.length=keys):dJ (yZ (aeY sums l (gN l)) 1)=(mE sums l,0):=by
 rw[<-Pz (sums:=sums) d (Fp l) (λk h=>(oV l).2 ?_)]
 .unfold yZ aeY
  rw[List.flatMap_map]
  congr 2
  funext k
  exact(VD 1).symm
 refine Classical.byContradiction λf=>h ?_;unfold stE;rw[zab];intro b;obtain⟨n,g,a⟩:=zgc.1 b;obtain⟨i,_,rfl⟩:=zav.1 g;exact zbe a (uX λx j e=>f ⟨x,j,e⟩)
def fq (cols:List bF) (r:List aF):List mF->List aF×Int
 | []=>([],0)
 | o::l=>if(j6 cols o.steps r).2≠0 then([],(j6 cols o.steps r).2)else if(fq cols r l).2≠0 then([],(fq cols r l).2)else((j6 cols o.steps r).1::(fq cols r l).1,0)
def qo (cols:List bF) (wh:List bH) (r:List aF):aF×Int:=if wh=[]then(⟨false,1,[]⟩,0)else j6 cols wh r
def gI (cols:List bF) (p:aU) (r:List aF):List aF×Bool×Int:=
 if d9 cols r≠0 then([],false,d9 cols r)
 else if(qo cols p.wh r).2≠0\/(qo cols p.wh r).1.null=true\/(qo cols p.wh r).1.n=0 then([],false,(qo cols p.wh r).2)
 else if(fq cols r p.cols).2≠0 then([],false,(fq cols r p.cols).2)
 else((fq cols r p.cols).1,true,0)
def bL (cols:List bF) (p:aU):List aH->List aH×Int
 | []=>([],0)
 | x::l=>
  if(gI cols p x.row).2.2≠0 then([],(gI cols p x.row).2.2)
  else if(bL cols p l).2≠0 then([],(bL cols p l).2)
  else if(gI cols p x.row).2.1=true then(⟨(gI cols p x.row).1,x.w⟩::(bL cols p l).1,0)else((bL cols p l).1,0)
def dN (cols:List bF) (p:aU) (T l:List aH):List aH×Int:=
 if(bL cols p l).2≠0 then([],(bL cols p l).2)else iL p.group p.cols.length T (bL cols p l).1
def eU (cols:List bF) (p:aU) (T l:List aH):List aH:=if(dN cols p T l).2=0 then T++(bL cols p l).1 else T
def fI (cols:List bF) (p:aU) (l:List aH):List aH×Int:=
 if(bD cols p).2≠0 then([],(bD cols p).2)else if(dN cols p [] l).2≠0 then([],(dN cols p [] l).2)else((dP p.group p.cols.length (eU cols p [] l)).1,0)
variable {cols:List bF}
def zY {a b:List aH} (d:(bL cols p a).2=0) (i:(bL cols p b).2=0):bL cols p (a++b)=((bL cols p a).1++(bL cols p b).1,0):=by
 induction a with
 | nil=>rw[zby];exact Prod.ext rfl i
 | cons x a j=>
  rw[bL]at d;rw[zcb,bL,bL]
  split at d
  .rename_i h;exact zas d h
  rename_i f;rw[zab f,zab f]
  split at d
  .rename_i h;exact zas d h
  rename_i g;rw[zab g,j (zcd.1 g),zab (not_not_intro rfl)]
  split<;>rfl
def sG {l:List aH} (h:(dN cols p T l).2=0):(bL cols p l).2=0/\dN cols p T l=iL p.group p.cols.length T (bL cols p l).1:=by
 unfold dN at h |-
 split at h
 .rename_i a;exact zas h a
 rename_i a;rw[zab a];exact⟨zcd.1 a,rfl⟩
def ab5 {l:List aH} (h:(dN cols p T l).2≠0):(dN cols p T l).1=[]:=by
 unfold dN at h |-
 split
 .rfl
 rename_i a;rw[zab a]at h;exact VB h
def Kk {l:List aH} (a:(dP p.group p.cols.length T).2=0):(dP p.group p.cols.length (eU cols p T l)).2=0:=by
 unfold eU
 split
 .rename_i h
  obtain⟨_,e⟩:=sG h;rw[e]at h;exact G6 h
 exact a
def VF {l:List aH} (a:(dP p.group p.cols.length T).2=0) (h:(dN cols p T l).2=0):Uu (dP p.group p.cols.length T).1 (dN cols p T l).1=((dP p.group p.cols.length (eU cols p T l)).1,0):=by
 obtain⟨_,e⟩:=sG h;unfold eU;rw[zac h];rw[e]at h ⊢;exact Yq a h
def aeZ {l:List aH} (a:(dP p.group p.cols.length T).2=0) (h:(dN cols p T l).2=0) (r:List aF):wtL (dN cols p T l).1 r=wtL (dP p.group p.cols.length (eU cols p T l)).1 r-wtL (dP p.group p.cols.length T).1 r:=by
 obtain⟨_,e⟩:=sG h;unfold eU;rw[zac h];rw[e]at h ⊢;exact aaC a h r
structure VG where
 T:List aH
 all:List aH
 outs:List aH
def R7 (cols:List bF) (p:aU) (s:VG) (l:List aH):VG:=
 if(dN cols p s.T l).2=0 then⟨eU cols p s.T l,s.all++l,s.outs++(dN cols p s.T l).1⟩else s
def goodRun (cols:List bF) (p:aU) (s:VG):Prop:=
 (bL cols p s.all).2=0/\s.T=(bL cols p s.all).1/\(dP p.group p.cols.length s.T).2=0/\∀r,wtL s.outs r=wtL (dP p.group p.cols.length s.T).1 r
def ae0 {s:VG} {l:List aH} (h:goodRun cols p s):goodRun cols p (R7 cols p s l):=by
 obtain⟨f,g,b,i⟩:=h;unfold R7
 split
 .rename_i d
  obtain⟨hi,_⟩:=sG d;have a:=zY f hi;have j:eU cols p s.T l=s.T++(bL cols p l).1:=zac d;refine⟨by dsimp only;rw[a],by dsimp only;rw[a,j,g],Kk b,λr=>?_⟩;dsimp only;rw[iG,i,aeZ b d];omega
 exact⟨f,g,b,i⟩
variable {cols':List bF}
def Yx (h:x.kind≠1):iW cols x=iW cols' x:=by
 unfold iW;rw[zab h,zab h]
def ab6 {s:List bZ} (h:x.kind=1->iW cols x=iW cols' x):stepT cols s x=stepT cols' s x:=by
 have e:iW cols x=iW cols' x:=by
  by_cases a:x.kind=1
  .exact h a
  exact Yx a
 unfold stepT;rw[e]
def VH: ∀{l:List bH} {a:List bZ},(∀x∈l,x.kind=1->iW cols x=iW cols' x)->runT cols a l=runT cols' a l
 | [],_,_=>rfl
 | x::l,a,h=>by
  rw[runT,runT,ab6 (h x zak)];cases stepT cols' a x with
  | none=>rfl
  | some s=>exact VH λy b=>h y (zap _ b)
def CV {l:List bH} (h: ∀x∈l,x.kind=1->iW cols x=iW cols' x):gH cols l=gH cols' l:=by
 unfold gH;rw[VH h]
def PD {g:Int}: ∀{l:List mF} {i:Nat} {acc:List bF},(∀o∈l,gH cols o.steps=gH cols' o.steps)->rz cols g i l acc=rz cols' g i l acc
 | [],_,_,_=>rfl
 | o::l,i,acc,h=>by
  have b:=λacc=>PD (g:=g) (i:=i+1) (acc:=acc) λx a=>h x (zap _ a);rw[rz,rz,h o zak];simp only[b]
def Ms (h: ∀x∈p.wh++p.cols.flatMap (·.steps),x.kind=1->iW cols x=iW cols' x):bD cols p=bD cols' p:=by
 have b:gH cols p.wh=gH cols' p.wh:=CV λx a=>h x (zcg _ a);have d: ∀o∈p.cols,gH cols o.steps=gH cols' o.steps:=λo f=>CV λx a=>h x (zck _ (zcc.2 ⟨o,f,a⟩));unfold bD;rw[b,PD d]
def VI (h:x.kind=1) (b:iW cols x=none): ∀{l:List bH} {st:List bZ},x∈l->runT cols st l=none
  | y::l,st,a=>by
    rw[runT]
    rcases zax.1 a with rfl | a
    . have :stepT cols st x=none:=by
        unfold stepT;have d:eD x.kind=0:=by rw[h];rfl
        dsimp only;rw[d]
        split
        . rfl
        rw[zac rfl,b];rfl
      rw[this];rfl
    cases stepT cols st y with
    | none=>rfl
    | some s=>exact VI h b a
def PE:d9 cols r=0↔cols.length=r.length/\∀q∈cols.zip r,fB q.1.type q.2=0:=by
 unfold d9
 by_cases a:cols.length=r.length
 .rw[zab (not_not_intro a)]
  cases hf:((cols.zip r).map λp=>fB p.1.type p.2).find? (λe=>decide (e≠0))with
  | none=>
   refine⟨λ_=>⟨a,λq b=>?_⟩,λ_=>rfl⟩;have:=zfb.1 hf _ (zdj b);simpa using this
  | some e=>
   have d:e≠0:=by simpa using List.find?_some hf
   obtain⟨q,b,rfl⟩:=zav.1 (zek hf);exact⟨λh=>zas h d,λh=>zas (h.2 q b) d⟩
 rw[zac a];exact⟨λh=>zas h dC,λh=>zas h.1 a⟩
def Fu (t:bZ):bZ:=if t.kind=2 then⟨3,t.null⟩else t
def pJ (c:bF):bF:=⟨c.id,c.name,Fu c.type,c.dflt⟩
def PG (cols:List bF) (id:Int):jM (cols.map pJ) id=jM cols id:=by
 unfold jM;rw[List.findIdx?_map];rfl
def ae1 (t:bZ):mX (Fu t)=mX t:=by
 unfold Fu
 split
 .rename_i h;unfold mX;rw[h];rfl
 rfl
def Oy (cols:List bF) (i:Nat):((cols.map pJ).getD i ⟨0,[],iq,cell0⟩).type=Fu (cols.getD i ⟨0,[],iq,cell0⟩).type:=by
 rw[zao,zao,zbw];cases cols[i]? <;>rfl
def PI (cols:List bF) (x:bH):iW (cols.map pJ) x=iW cols x:=by
 unfold iW
 split
 .rw[PG]
  cases jM cols x.n with
  | none=>rfl
  | some i=>
   dsimp only;rw[Oy,ae1]
   split
   .rfl
   congr 1
   unfold Fu
   by_cases h:(cols.getD i ⟨0,[],iq,cell0⟩).type.kind=2
   .rw[zac h];exact zab (show ¬(3:Int)=2 from dC)
   rw[zab h,zab h]
 rfl
def Yy {t:bZ} {c:aF} (h:fB t c=0):fB (Fu t) c=0:=by
 unfold Fu
 split
 .rename_i b
  unfold fB at h ⊢;have d:mX t=true:=by unfold mX;rw[b];decide
  rw[d,zab dC]at h;rw[zab (show ¬mX ⟨3,t.null⟩=false from λe=>zas (show true=false from e) dC)]
  split at h
  .rename_i a;rw[zac a];exact h
  rename_i a;rw[zab a];rw[b]at h
  split at h
  .rename_i hi
   unfold isC at hi;rw[zab dC,zac rfl,decide_eq_true_iff]at hi;rw[zac (show isC 3 c=true by unfold isC;rw[zab dC,zab dC,zac rfl];exact zau hi.1)]
  exact zas h dC
 exact h
def DT (h:d9 cols r=0):d9 (cols.map pJ) r=0:=by
 obtain⟨d,f⟩:=PE.1 h;refine PE.2 ⟨by rw[zae];exact d,λq b=>?_⟩;rw[List.zip_map_left]at b;obtain⟨g,a,rfl⟩:=zav.1 b;exact Yy (f g a)
def VJ (cols:List bF) (r:List aF): ∀(l:List bH) (s:List aF),tV (cols.map pJ) r s l=tV cols r s l
 | [],_=>rfl
 | x::l,s=>by
  rw[tV,tV];have e:D7 (cols.map pJ) r s x=D7 cols r s x:=by unfold D7;rw[PG]
  rw[e];exact zay _ (funext λs=>VJ cols r l s)
def ab7 (cols:List bF) (l:List bH):gH (cols.map pJ) l=gH cols l:=CV λx _ _=>PI cols x
def PK (h:d9 cols r=0) (l:List bH):j6 (cols.map pJ) l r=j6 cols l r:=by
 unfold j6;rw[ab7,DT h,h,VJ]
def VK (cols:List bF) (p:aU):bD (cols.map pJ) p=bD cols p:=Ms λx _ _=>PI cols x
def Mt (h:d9 cols r=0): ∀l:List mF,fq (cols.map pJ) r l=fq cols r l
 | []=>rfl
 | o::l=>by rw[fq,fq,PK h,Mt h l]
def ab8 (h:d9 cols r=0):gI (cols.map pJ) p r=gI cols p r:=by
 unfold gI qo;rw[DT h,h,PK h,Mt h]
def ae2 (h:(gI cols p r).2.2=0):d9 cols r=0:=by
 unfold gI at h
 split at h
 .rename_i a;exact zas h a
 rename_i a;exact zcd.1 a
def Mx: ∀{l:List aH},(bL cols p l).2=0->bL (cols.map pJ) p l=bL cols p l
 | [],_=>rfl
 | x::l,h=>by
  rw[bL]at h
  split at h
  .rename_i a;exact zas h a
  rename_i a;have a:=zcd.1 a
  split at h
  .rename_i b;exact zas h b
  rename_i b;rw[bL,bL,ab8 (ae2 a),Mx (zcd.1 b)]
def VL {l:List aH} (h:(fI cols p l).2=0):fI (cols.map pJ) p l=fI cols p l:=by
 have d:=h;unfold fI at h
 split at h
 .rename_i b;exact zas h b
 rename_i b
 split at h
 .rename_i a;exact zas h a
 rename_i a;have hi:=(sG (zcd.1 a)).1;unfold fI eU dN;rw[VK,Mx hi]
variable {c:bF}
def PL {id:Int} (h:c.id≠id):jM (cols++[c]) id=jM cols id:=by
 unfold jM;rw[List.findIdx?_append];cases List.findIdx? (λc=>decide (c.id=id)) cols with
 | some i=>rfl
 | none=>
  rw[zgj,zam h];rfl
def VN {id:Int} (h:jM cols id=some i):i<cols.length:=(zcr.1 h).1
def PN (h:x.kind=1->c.id≠x.n):iW (cols++[c]) x=iW cols x:=by
 unfold iW
 split
 .rename_i b
  rw[PL (h b)];cases hf:jM cols x.n with
  | none=>rfl
  | some i=>
   have a:=VN hf;dsimp only;rw[zao,zce a,<-zao]
 rfl
def VO {α d:Type} {a:α} {b:d}: ∀{l:List α} {m:List d},l.length=m.length->(l++[a]).zip (m++[b])=l.zip m++[(a,b)]
 | [],[],_=>rfl
 | [],_::_,h=>by simp at h
 | _::_,[],h=>by simp at h
 | x::l,y::m,h=>by
  rw[zcb,zcb,List.zip_cons_cons,List.zip_cons_cons,VO Iy];rfl
def DU {x:aF} (a:cols.length=r.length) (h:fB c.type x=0):d9 (cols++[c]) (r++[x])=d9 cols r:=by
 unfold d9;rw[zab (by rw[zad,zad,a];exact not_not_intro rfl),zab (not_not_intro a),VO a,zan,List.find?_append];cases List.find? (λe=>decide (e≠0)) ((cols.zip r).map λp=>fB p.1.type p.2)with
 | some e=>rfl
 | none=>simp[h]
def VP {x:aF} (f:cols.length=r.length): ∀(l:List bH) (st:List aF),(∀y∈l,y.kind=1->c.id≠y.n/\(jM cols y.n).isSome=true)->tV (cols++[c]) (r++[x]) st l=tV cols r st l
 | [],_,_=>rfl
 | y::l,st,h=>by
  rw[tV,tV]
  have e:D7 (cols++[c]) (r++[x]) st y=D7 cols r st y:=by
   unfold D7
   by_cases a:y.kind=1
   .obtain⟨b,d⟩:=h y zak a
    obtain⟨i,hi⟩:=zfh.1 d;have g:=VN hi;rw[PL b,hi];dsimp only[Option.getD_some];rw[zao,zce oM,<-zao]
   dsimp only;rw[zab a,zab a]
  rw[e];exact zay _ (funext λst=>VP f l st λz j=>h z (zap _ j))
def ae3 {l:List bH} (h:(gH cols l).2=0): ∀y∈l,y.kind=1->(jM cols y.n).isSome=true:=λy d a=>by
 cases hf:jM cols y.n with
 | some i=>rfl
 | none=>
  exfalso;have b:iW cols y=none:=by unfold iW;rw[zac a,hf]
  have:=VI a b (st:=[]) d;unfold gH at h
  split at h
  .exact zas h dC
  rw[this]at h;exact zas h dC
def PO {x:aF} {l:List bH} (d:cols.length=r.length) (g:fB c.type x=0) (f: ∀y∈l,y.kind=1->c.id≠y.n):j6 (cols++[c]) l (r++[x])=j6 cols l r:=by
 have i:gH (cols++[c]) l=gH cols l:=CV λy a h=>PN λ_=>f y a h;unfold j6;rw[i,DU d g]
 by_cases b:(gH cols l).2=0
 .rw[VP d l [] λy a h=>⟨f y a h,ae3 b y a h⟩]
 rw[zac b,zac b]
def MB {x:aF} (b:cols.length=r.length) (a:fB c.type x=0): ∀{l:List mF},(∀o∈l,∀y∈o.steps,y.kind=1->c.id≠y.n)->fq (cols++[c]) (r++[x]) l=fq cols r l
 | [],_=>rfl
 | o::l,h=>by rw[fq,fq,PO b a (h o zak),MB b a λu d=>h u (zap _ d)]
def ab9 {p:aU} {x:aF} (a:cols.length=r.length) (h:fB c.type x=0) (d: ∀y∈p.wh++p.cols.flatMap (·.steps),y.kind=1->c.id≠y.n):gI (cols++[c]) p (r++[x])=gI cols p r:=by
 unfold gI qo;rw[DU a h,PO a h λy b=>d y (zcg _ b),MB a h λo f y b=>d y (zck _ (zcc.2 ⟨o,f,b⟩))]
def xL (l:List aH) (es:List aF):List aH:=List.zipWith (λx e=>⟨x.row++[e],x.w⟩) l es
def MC {p:aU} (a: ∀y∈p.wh++p.cols.flatMap (·.steps),y.kind=1->c.id≠y.n): ∀{l:List aH} {es:List aF},(∀x∈l,cols.length=x.row.length)->(∀e∈es,fB c.type e=0)->l.length=es.length->bL (cols++[c]) p (xL l es)=bL cols p l
 | [],[],_,_,_=>rfl
 | x::l,e::es,hl,he,hn=>by
  have i:=MC a (l:=l) (es:=es) (λy h=>hl y (zap _ h)) (λy h=>he y (zap _ h)) (Nat.succ.inj hn);have b:=ab9 (p:=p) (hl x zak) (he e zak) a;show bL (cols++[c]) p (⟨x.row++[e],x.w⟩::xL l es)=_
  rw[bL,bL,i,b]
def Yz (h: ∀y∈p.wh++p.cols.flatMap (·.steps),y.kind=1->c.id≠y.n):bD (cols++[c]) p=bD cols p:=
 Ms λx a _=>PN (h x a)
def VQ {l:List aH} {f:List aF} (h: ∀y∈p.wh++p.cols.flatMap (·.steps),y.kind=1->c.id≠y.n) (b: ∀x∈l,cols.length=x.row.length) (a: ∀e∈f,fB c.type e=0) (d:l.length=f.length):
    fI (cols++[c]) p (xL l f)=fI cols p l:=by
  unfold fI eU dN;rw[Yz h,MC h b a d]
def acd {u:Int}:u∈Mh p↔u∈tC p.wh\/∃o∈p.cols,u∈tC o.steps:=by
 unfold Mh;rw[uQ,uQ];constructor
 .rintro⟨x,h,a,b⟩
  rcases zbh.1 h with h | h
  .exact .inl ⟨x,h,a,b⟩
  obtain⟨o,d,h⟩:=zcc.1 h;exact .inr ⟨o,d,uQ.2 ⟨x,h,a,b⟩⟩
 rintro(⟨x,h,a,b⟩ | ⟨o,d,f⟩)
 .exact⟨x,zcg _ h,a,b⟩
 obtain⟨x,h,a,b⟩:=uQ.1 f;exact⟨x,zck _ (zcc.2 ⟨o,d,h⟩),a,b⟩
def mH (wh:List bH) (cols:List mF):List Int:=tC wh++cols.flatMap λo=>tC o.steps
def R8 (p:aU):Lib.compact ((mH p.wh p.cols).mergeSort λx y=>decide (x<=y))=Mh p:=by
 have g:((mH p.wh p.cols).mergeSort λx y=>decide (x<=y)).Pairwise (· <= ·):=by
  have:=List.pairwise_mergeSort (le:=λx y:Int=>decide (x<=y)) (λa b c d f=>by simp at *;omega) (λa b=>by simp;omega) (mH p.wh p.cols);exact this.imp λh=>by simpa using h
 obtain⟨d,f⟩:=DK g;refine EN d (Ck _) λk=>?_;show _↔k∈Mh p
 rw[f,List.mem_mergeSort,acd];unfold mH;rw[zbh,zcc]
def G7 (l:List bH):(tC l).length<=l.length:=by
 rw[<-J6];have h:=Lib.compact_length_le (((l.filter λx=>decide (x.kind=1)).map λx=>x.n).mergeSort λx y=>decide (x<=y));rw[zfs,zae]at h;exact zcl h (zee _ _)
def YA {wh:List bH} {m:Nat}: ∀{cols:List mF},(∀o∈cols,o.steps.length<=m)->(mH wh cols).length<=wh.length+cols.length*m:=by
 intro cols;unfold mH;rw[zad];intro h;have a:=G7 wh
 have d:(cols.flatMap λo=>tC o.steps).length<=cols.length*m:=by
  clear a
  induction cols with
  | nil=>simp
  | cons o l i=>
   rw[zbi,zad,zat,zei];have f:=G7 o.steps;have g:=h o zak;have j:=i λx b=>h x (zap _ b);omega
 omega
def VR (w:List bH) (cols:List mF) (o:mF):mH w (cols++[o])=mH w cols++tC o.steps:=by
 unfold mH;rw[zbu];simp
end Go.Proofs.Mw
