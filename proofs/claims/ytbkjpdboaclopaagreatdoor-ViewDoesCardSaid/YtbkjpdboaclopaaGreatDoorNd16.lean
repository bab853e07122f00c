/-
 The law's examples,told plainly. No program stands here.
-/
import Derived.Test.YtbkjpdboaclopaaGreatDoorNd15
set_option linter.all false
set_option maxRecDepth 4000
namespace Go.Proofs.Mw
open Go.Lib
def agN:Nat->Nat->L8
 | 0,_=>[]
 | f+1,u=>if u<10 then [UInt8.ofNat (48+u)]else agN f (u/10)++[UInt8.ofNat (48+u%10)]
def T9: ∀(f u:Nat),u<10^f->0<f->agN f u=decDigits u
 | 0,u,_,h0=>zas h0 dC
 | f+1,u,h,_=>by
  rw[agN,decDigits]
  by_cases hu:u<10
  .rw[zac hu,dif_pos hu]
  rw[zaa hu,dif_neg hu];have h1:u/10<10^f:=by rw[Nat.pow_succ]at h;omega
  have h2:0<f:=by
   cases f with
   | zero=>simp at h1;omega
   | succ f=>exact Nat.succ_pos f
  rw[T9 f (u/10) h1 h2]
def ab7 (n:Int):L8:=if n<0 then 45::agN 20 n.natAbs else agN 20 n.toNat
def agO {n:Int} (h:fits n):ab7 n=itoa n:=by
 unfold fits at h;unfold ab7 itoa;rw[T9 20 n.natAbs oM dC,T9 20 n.toNat oM dC]
def agP (x:bL):L8:=
 if x.kind=1 then 35::ab7 x.n
 else if x.kind=2 then ab7 x.n
 else if x.kind=3 then(if x.n=1 then [116,114,117,101]else [102,97,108,115,101])
 else if x.kind=4 then R8 x.s
 else if x.kind=5 then 120::zA x.s
 else if x.kind=6 then oG x.n
 else lW.getD (x.kind-7).toNat []
def agQ {x:bL} (h:fits x.n):agP x=gX x:=by
 unfold agP gX;rw[agO h]
def ab8:List (L8)->Option (List bL)
 | []=>some []
 | w::l=>if(dU (fF w)&&decide (agP (fF w)=w))=true then(ab8 l).map (fF w:: ·)else none
def Xh: ∀l,ab8 l=readAll l
 | []=>rfl
 | w::l=>by
  rw[ab8,readAll,agQ (xL w),Xh l];rfl
def agR (s:L8):List bL×Int:=
 if 1048576<s.length\/64<=s.count 32 then([],5)else if s=[]then([],0)else match ab8 (cB 32 s)with
  | some l=>(l,0)
  | none=>([],4)
def QK (s:L8):agR s=eD s:=by
 unfold agR eD;rw[Xh];cases readAll (cB 32 s)<;>rfl
def M5 (s:L8): ∀x∈(eD s).1,fits x.n:=by
 have key: ∀(ws:List (L8)) (l:List bL),readAll ws=some l->∀x∈l,fits x.n:=by
  intro ws
  induction ws with
  | nil=>intro l h x hx;injection h with h;subst h;cases hx
  | cons w ws ih=>
   intro l h x hx;rw[readAll]at h
   split at h
   .obtain⟨l',h1,h2⟩:=zbc.1 h
    subst h2
    rcases zbb.1 hx with rfl | hx
    .exact xL w
    exact ih l' h1 x hx
   cases h
 intro x hx;unfold eD at hx
 split at hx
 .cases hx
 split at hx
 .cases hx
 split at hx
 .rename_i l h;exact key _ l h x hx
 cases hx
variable {w:Wd}
open Go.RowKit
section
variable {P:Program} {r:Option Nat} {n:Nat} {ops:AO} {Q:Post} {rest:LO} {σ:St} {w w0:Wd} {S:NP} {rs:List HP} {put:HP->List HP} {ty:Td} {pos:String} {after:Array Edge}
variable {α:Type} {enc:α->LV} {k e c:Nat} {l:List α} {A:OA}
def Xi (hk: ∀x,(enc x).length=k): ∀{l:List α} {i f:Nat} {a a':α} {v:Value},l[i]? =some a->f<k->enc a'=(enc a).set f v->(l.flatMap enc).set (i*k+f) v=(l.set i a').flatMap enc
 | [],_,_,_,_,_,h,_,_=>by simp at h
 | x::l,0,f,a,a',v,h,hf,he=>by
  simp only[zca,Option.some.injEq]at h;subst h;rw[zbh,Nat.zero_mul,zdc,List.set_append_left _ _ (by rw[hk];exact hf),zdf,zbh,he]
 | x::l,i+1,f,a,a',v,h,hf,he=>by
  simp only[zcm]at h;rw[zbh,zed _ _ (by rw[hk,zei];omega),hk,zei,show i*k+k+f-k=i*k+f from oM,Xi hk h hf he,zfq,zbh]
def KL {x y:Od} {T:Td} [h1:OneCell P T] [hk:jd enc k] {i f:Nat} {a:α} (a':α) {v:Value} {m:Nat} (hm:m=l.length) (H:Sep w0 S rs w) (hat:At rs (aU e k enc (.slice A m c) l) put) (hi:l[i]? =some a) (hf:f<k) (he:enc a'=(enc a).set f v) (hx:evF σ x=adr A (i*k+f)) (hy:evF σ y=v) (hv:v.oneCell'=true):
    ∃w',PE P (evF σ) (.store T x y) ty w w'/\Sep w0 S (put (aU e k enc (.slice A m c) (l.set i a'))) w':=by
  subst hm;have aX:i<l.length:=(zax.1 hi).1;obtain⟨F,hp,hS,lG⟩:=H.focus hat;have H0:=Sep.bW hp;obtain⟨g,c',rest,hvv,hlen,hxl,rW,YX,H1⟩:=H0.acM At0 oM;injection hvv with hA _ hc
  subst hA;subst hc;have hb:=H1.obj At0;have Mr:=jw hk.len l;have YU:(i+1)*k<=l.length*k:=zex k aX;rw[zei]at YU;have apC:i*k+f<(l.flatMap enc++rest).length:=by rw[zad,Mr];omega
  obtain⟨cK,Ll⟩:=Ai (v:=v) hb apC;have H2:=H1.setObj (At0 (p:=blk g (l.flatMap enc++rest) e) (l:=[])) cK Ll;rw[afe (by rw[Mr];omega),Xi hk.len hi hf he]at H2;have H3:Sep w F [blk g ((l.set i a').flatMap enc++rest) e] (w.setCell ⟨g,i*k+f,none⟩ v):=H2;have abF:=jw hk.len (l.set i a');rw[zcy]at abF;have H4:=H3.acN (n:=l.length) (c:=c) At0 (by rw[zad,abF];rw[zad,Mr]at hlen;exact hlen) abF rW YX;refine⟨w.setCell ⟨g,i*k+f,none⟩ v,λ_ _ _ _=>?_,?_⟩
  . have dK:(store (⟨g,i*k+f,none⟩:Addr) v).run P w=.ok () (w.setCell ⟨g,i*k+f,none⟩ v):=by
      rw[run_store P w _ v _ hv,jW hb,zab apC];simp[World.frozen?,hb]
    have hcs:v.cells= #[v]:=by cases v<;>first | rfl | cases hv
    have pG:evF σ x=.pointer (some ⟨g,i*k+f,none⟩):=by rw[hx];show Value.pointer (some (Addr.add ⟨g,0,none⟩ (i*k+f)))=_;rw[Addr.add_lit,zdc]
    simp[execOp,pG,hy,Instr.storeAt,Instr.sureAddr,storeVar,h1.size,hcs,storeCells,dK,Addr.add_zero']
  obtain⟨h5,F5,h6,h7⟩:=H4;refine lG _ F5 _ h5 ?_ λb hb=>h7 b hb;have h8:=DC.1 h6;show(vF e k (.slice (some ⟨g,0,none⟩) l.length c) (l.set i a').length ((l.set i a').flatMap enc)).ok F5 _
  rw[zcy];exact h8
def QL {x y:Od} {T:Td} [h1:OneCell P T] [hk:jd enc k] {i f:Nat} {a:α} (a':α) {v:Value} {m:Nat} (hm:m=l.length) (H:Sep w0 S rs w) (hat:At rs (aU e k enc (.slice A m c) l) put) (hi:l[i]? =some a) (hf:f<k) (he:enc a'=(enc a).set f v) (hx:evF σ x=adr A (i*k+f)) (hy:evF σ y=v) (hv:v.oneCell'=true)
    (h: ∀w',Sep w0 S (put (aU e k enc (.slice A m c) (l.set i a'))) w'->FL P r n ops Q rest σ w'):
    FL P r n ops Q (⟨none,.store T x y,ty,pos,after,none⟩::rest) σ w:=by
  obtain⟨w',ha,hs⟩:=KL (P:=P) (ty:=ty) (T:=T) a' hm H hat hi hf he hx hy hv;exact Ey ha rfl (h w' hs)
def Gives.LB {ρ:Od->Value} {x y:Od} {t e:Td} [ht:dn P t e] {bytes:Nat} [hc:Cells P e k bytes] {m i:Nat} {j:IntKind} (hm:m=l.length) (hx:ρ x=.slice A m c) (hy:ρ y=.int j i) (hr:Rd w0 A enc k l) (aX:i<l.length):Gives P ρ (.indexAddr t x y) ty w (adr A (i*k)) w:=by
 subst hm;exact Gives.fA hx hy hr aX
def j5 {m:Nat} (hm:m=l.length) (H:Sep w0 S rs w) (hat:At rs (aU e k enc (.slice A m c) l) put):Rd w A enc k l:=by
 subst hm;exact Sep.rowAt H hat
def Gives.agS {ρ:Od->Value} {x y:Od} {kd:IntKind} {a b m:Int} {ts:Array Td} (hx:ρ x=.int kd a) (hy:ρ y=.int kd b) (he:Min.min a b=m):Gives P ρ (.call {callee:=.builtin .min,args:= #[x,y],argTypes:=ts}) ty w (.int kd m) w:=by subst he;exact Gives.min hx hy
end
def qI (x:bL):bL:=⟨x.kind,x.n,x.s.take 1100⟩
def M6 (s:L8) (k:Nat):Min.min ((s.length:Nat):Int) (k:Int)=(((s.take k).length:Nat):Int):=by
 rw[zah];omega
def M7 (s:L8) (k:Nat):s.take (s.take k).length=s.take k:=by
 rw[zah]
 by_cases h:k<=s.length
 .rw[zcp h]
 rw[Nat.min_eq_right oM,zbq,zaj oM]
def amN (b:Bool):Int:=if b then 3 else 2
def amO (b:Bool):List Int:=[amN b,1,4,5,3]
def amP (b:Bool) (i:Nat):Int:=(amO b).getD (i%5) 0
def ab9 (b:Bool) (i:Nat):bT:=⟨((i+1:Nat):Int),[],⟨amP b i,decide ((4:Int)<i)⟩,cell0⟩
def aoS (b:Bool):List bT:=(List.range 10).map (ab9 b)
structure at1 (k:Int) (n:Bool) (l:List bL):Prop where
 may: ∀x∈l,dU x=true/\fits x.n
 run: ∀b st,runT (aoS b) st l=some (st++[⟨k,n⟩])
structure KM (m:Nat) (r:List aC):Prop where
 len:r.length=m
 fit:jA r
 ok: ∀b (i:Nat) c,r[i]? =some c->okC (ab9 b i).type c
def KM.nil:KM 0 []:=⟨rfl,λ_ h=>zas h zam,λ_ i c h=>by simp at h⟩
variable {i:Nat}
def KM.push {r:List aC} {c:aC} (h:KM i r) (hc:fits c.n/\∀b,okC (ab9 b i).type c):KM (i+1) (r++[c]):=by
 refine⟨by rw[zad,h.len];rfl,λy hy=>?_,λb j d hd=>?_⟩
 .rcases zbk.1 hy with h1 | h1
  .exact h.fit y h1
  rw[zaw.1 h1];exact hc.1
 rcases zdo j r.length with hj | hj
 .rw[zcl hj]at hd;exact h.ok b j d hd
 rw[zby hj]at hd;cases hk:j-r.length with
 | zero=>
  rw[hk]at hd;have e:j=i:=by have:=h.len;omega
  simp only[zca,Option.some.injEq]at hd;rw[e,<-hd];exact hc.2 b
 | succ m=>rw[hk]at hd;simp at hd
def QM {cols:List bT} {r:List aC} (hr:fM cols r=0) (hf:jA r): ∀{l:List bL} {ts ts':List bR} {st st':List aC},(∀x∈l,fits x.n)->Typed ts st->runT cols ts l=some ts'->Cu cols r st l=some st'->Typed ts' st'
 | [],ts,ts',st,st',_,hT,h1,h2=>by
  injection h1 with h1
  injection h2 with h2
  rw[<-h1,<-h2];exact hT
 | x::l,ts,ts',st,st',hx,hT,h1,h2=>by
  rw[runT]at h1;rw[Cu]at h2;obtain⟨t1,e1,h1⟩:=zdr.1 h1;obtain⟨s1,e2,h2⟩:=zdr.1 h2;obtain⟨_,_,h3⟩:=KE hr hf (hx x zao) hT e1;rw[Js]at e2;obtain⟨c,e3,e4⟩:=zbc.1 e2;have h4:=h3 c e3;rw[e4]at h4;exact QM hr hf (λy hy=>hx y (zau _ hy)) h4 h1 h2

structure nQ where
 name:L8
 steps:List bL
structure aW where
 wh:List bL
 cols:List nQ
 group:Int
def nQ.ext' {a b:nQ} (h1:a.name=b.name) (h2:a.steps=b.steps):a=b:=by cases a;cases b;simp_all
def aW.ext' {a b:aW} (h1:a.wh=b.wh) (h2:a.cols=b.cols) (h3:a.group=b.group):a=b:=by cases a;cases b;simp_all
instance:DecidableEq nQ:=λa b=>decidable_of_iff (a.name=b.name/\a.steps=b.steps) ⟨λh=>nQ.ext' h.1 h.2,λh=>by subst h;exact⟨rfl,rfl⟩⟩
instance:DecidableEq aW:=λa b=>decidable_of_iff (a.wh=b.wh/\a.cols=b.cols/\a.group=b.group) ⟨λh=>aW.ext' h.1 h.2.1 h.2.2,λh=>by subst h;exact⟨rfl,rfl,rfl⟩⟩
def mJ:aW:=⟨[],[],0⟩
def Ua (c:UInt8):Bool:=decide (97<=c.toNat/\c.toNat<=122)
def nA (c:UInt8):Bool:=Ua c||decide (c=95)||uh c
def eZ (s:L8):Bool:=decide (1<=s.length/\s.length<=32)&&Ua (s.getD 0 0)&&s.all nA
def iN:L8:=[99,111,117,110,116]
def mK:L8:=[110,111,110,101]
def Ub:L8:=[119,104,101,114,101,32]
def ZW:L8:=[111,117,116,32]
def M8:L8:=[103,114,111,117,112,32]
def lC (p:aW):Bool:=
 decide (1<=p.cols.length/\p.cols.length<=16/\ -1<=p.group/\p.group<=p.cols.length)&&p.cols.all (λo=>eZ o.name&& !(decide (0<=p.group)&&decide (o.name=iN)))&&decide ((p.cols.map (·.name)).Nodup)
def acd (t:bR):aC:=⟨oD t&&t.null,0,[]⟩
def qB (id:Int) (name:L8) (t:bR):bT:=⟨id,name,t,acd t⟩
def iO:bR:=⟨3,false⟩
def xM (cols:List bT) (group:Int):Nat->List nQ->List bT->List bT×Int
  | i,[],acc=>(if group=i then acc++[qB (group+1) iN iO]else acc,0)
  | i,o::l,acc=>
    if(iM cols o.steps).2≠0 then([],(iM cols o.steps).2)
    else if 0<=group/\group<=i then
      (if(iM cols o.steps).1.kind≠3 then([],230)
       else xM cols group (i+1) l ((if(i:Int)=group then acc++[qB (i+1) iN iO]else acc)++[qB (i+2) o.name iO]))
    else xM cols group (i+1) l (acc++[qB (i+1) o.name (iM cols o.steps).1])
def aZ (cols:List bT) (p:aW):List bT×Int:=
 if lC p=false then([],230)
 else if p.wh≠[]/\(iM cols p.wh).2≠0 then([],(iM cols p.wh).2)
 else if p.wh≠[]/\(iM cols p.wh).1.kind≠1 then([],230)
 else xM cols p.group 0 p.cols []
def tZ (o:nQ):L8:=ZW++o.name++[32]++(iQ o.steps).1
def M9 (o:nQ):Bool:=decide ((iQ o.steps).2≠0\/(iQ o.steps).1=[])
def xO (l:List bL):L8:=Ub++(if l=[]then mK else(iQ l).1)
def yY (g:Int):L8:=M8++(if g<0 then mK else itoa g)
def lU (p:aW):List (L8):=xO p.wh::(p.cols.map tZ++[yY p.group])
def uz (l:List (L8)):L8:=l.flatMap (· ++[10])
def DW (p:aW):Bool:=lC p&&decide ((iQ p.wh).2=0)&&p.cols.all (λo=> !M9 o)
def KN (p:aW):L8×Int:=if DW p=false then([],2)else(uz (lU p),0)
def ji (s:L8):List (L8)×Bool:=if(cB 10 s).getLast?=some []then((cB 10 s).dropLast,true)else(cB 10 s,false)
def vg (b s:L8):Option (L8):=if s.take b.length=b then some (s.drop b.length)else none
def Jv (s:L8):Option (List bL):=(vg Ub s).bind λt=>if t=[]then none else if t=mK then some []else if(eD t).2=0 then some (eD t).1 else none
def zZ (s:L8):Option (L8×L8):=(s.idxOf? 32).map λi=>(s.take i,s.drop (i+1))
def Na (s:L8):Option nQ:=(vg ZW s).bind λt=>(zZ t).bind λx=>if(eD x.2).2=0/\(eD x.2).1≠[]/\eZ x.1=true then some ⟨x.1,(eD x.2).1⟩else none
def pY (t:L8):Option Nat:=(mZ t 0).bind λn=>if decDigits n=t/\n<=1048576 then some n else none
def yx (s:L8):Option Int:=(vg M8 s).bind λt=>if t=mK then some (-1)else(pY t).map (λn:Nat=>((n:Nat):Int))
def lK:List (L8)->List nQ
 | []=>[]
 | s::l=>match Na s with
  | some o=>o::lK l
  | none=>[]
def qJ (s:L8):aW×Int×Int:=
 if 1048576<s.length then(mJ,0,5)
 else
  let l:=(ji s).1
  let many:=if(ji s).2=true then l.length else l.length-1
  if many<1 then(mJ,0,4)
  else match Jv (l.getD 0 [])with
   | none=>(mJ,0,4)
   | some w=>
    let cs:=lK ((l.take many).drop 1)
    if many<=1+cs.length\/cs.length=0 then(mJ,(1+cs.length:Nat),4)
    else match yx (l.getD (1+cs.length) [])with
     | none=>(mJ,(1+cs.length:Nat),4)
     | some g=>
      if 1+cs.length+1<l.length then(mJ,(1+cs.length+1:Nat),4)
      else if DW ⟨w,cs,g⟩=false then(mJ,0,2)else(⟨w,cs,g⟩,0,0)
def dx (x:L8×Value):LV:=[str x.1,x.2]
instance:jd dx 2:=⟨λ_=>rfl⟩
def pI (w:Wd) (r:List (L8×Value)) (l:List nQ):Prop:=r.map (·.1)=l.map (·.name)/\∀(i:Nat) x o,r[i]? =some x->l[i]? =some o->aJ w x.2 aN 3 o.steps
def Jw (w:Wd) (v:Value) (l:List nQ):Prop:=∃r,aJ w v dx 2 r/\pI w r l
def fZ (w:Wd) (v:Value) (p:aW):Prop:=∃vw vc,v=agg [vw,vc,I p.group]/\aJ w vw aN 3 p.wh/\Jw w vc p.cols
variable {w':Wd} {v:Value} {r:List (L8×Value)} {l:List nQ} {p:aW}
def pI.len (h:pI w r l):r.length=l.length:=by
 have:=zay List.length h.1;simpa using this
def pI.keep (h:pI w r l) (hk:Kept noB w w'):pI w' r l:=⟨h.1,λi x o hx ho=>(h.2 i x o hx ho).keep hk⟩
def Jw.keep (h:Jw w v l) (hk:Kept noB w w'):Jw w' v l:=by
 obtain⟨r,h1,h2⟩:=h;exact⟨r,h1.keep hk,h2.keep hk⟩
def fZ.keep (h:fZ w v p) (hk:Kept noB w w'):fZ w' v p:=by
 obtain⟨vw,vc,e,h1,h2⟩:=h;exact⟨vw,vc,e,h1.keep hk,h2.keep hk⟩
def pI.nil:pI w [] []:=⟨rfl,λi x o hx=>by simp at hx⟩
def pI.push {n:L8} {x:Value} {s:List bL} (h:pI w r l) (hx:aJ w x aN 3 s):pI w (r++[(n,x)]) (l++[⟨n,s⟩]):=by
 have hl:=h.len;refine⟨by rw[zak,zak,h.1];rfl,λi y o hy ho=>?_⟩
 by_cases hi:i<r.length
 .rw[zcl hi]at hy
  rw[zcl oM]at ho;exact h.2 i y o hy ho
 rw[zby oM]at hy ho;rw[<-hl]at ho
 have h0:i-r.length=0:=by
  cases hj:i-r.length with
  | zero=>rfl
  | succ j=>rw[hj]at hy;simp at hy
 rw[h0]at hy ho;injection hy with hy
 injection ho with ho
 subst hy;subst ho;exact hx
def pI.at (h:pI w r l) {i:Nat} (hi:i<l.length): ∃x,r[i]? =some (l[i].name,x)/\aJ w x aN 3 l[i].steps:=by
 have hl:=h.len;have hr:r[i]? =some r[i]:=zab oM
 have hn:r[i].1=l[i].name:=by
  have:=zay (λz=>z[i]?) h.1;simp only[zbz]at this;rw[hr,zab hi]at this;injection this
 exact⟨r[i].2,by rw[hr,<-hn],h.2 i _ _ hr (zab hi)⟩
def fu (k:Nat) (x:aG):bD:=⟨x.row.take k,x.row.drop k,x.w⟩
def d9 (g:Int) (n:Nat) (T:List aG):List aG×Int:=
 if g<0 then cO T
 else if(T.all λx=>qA g.toNat (n-g.toNat) (fu g.toNat x))=false then([],2)
 else if xw (n-g.toNat) (T.map (fu g.toNat))=false then([],50)
 else(lZ (n-g.toNat) (T.map (fu g.toNat)),0)
def jM (g:Int) (n:Nat) (T m:List aG):List aG×Int:=
 if(d9 g n (T++m)).2≠0 then([],(d9 g n (T++m)).2)
 else if g<0 then cO m
 else cO ((d9 g n (T++m)).1++yO (d9 g n T).1)
variable {n:Nat} {T:List aG} {g:Int}
def lM (h:(T.all λx=>qA g.toNat (n-g.toNat) (fu g.toNat x))=true): ∀x∈T.map (fu g.toNat),x.key.length=g.toNat:=λx hx=>by
 obtain⟨y,hy,rfl⟩:=zar.1 hx;have:=zba.1 h y hy;unfold qA at this;rw[zbr,decide_eq_true_iff]at this;exact this.1.1
def jD (hg: ¬g<0):(d9 g n T).2=0↔(T.all λx=>qA g.toNat (n-g.toNat) (fu g.toNat x))=true/\xw (n-g.toNat) (T.map (fu g.toNat))=true:=by
 unfold d9;rw[zaa hg]
 split
 .rename_i h;rw[h];exact⟨λh=>zas h dC,λh=>zas h.1 dC⟩
 rename_i h
 split
 .rename_i h';rw[h'];exact⟨λh=>zas h dC,λh=>zas h.2 dC⟩
 rename_i h';exact⟨λ_=>⟨eq_true_of_ne_false h,eq_true_of_ne_false h'⟩,λ_=>rfl⟩
def jm (hg: ¬g<0) (h:(d9 g n T).2=0):d9 g n T=(lZ (n-g.toNat) (T.map (fu g.toNat)),0):=by
 obtain⟨h1,h2⟩:=(jD hg).1 h;unfold d9;rw[zaa hg,zaa (by rw[h1];decide),zaa (by rw[h2];decide)]
def Xj (h:(d9 g n T).2=0):isZ (d9 g n T).1:=by
 by_cases hg:g<0
 .unfold d9;rw[zac hg];exact uW
 rw[jm hg h];exact MH (lM ((jD hg).1 h).1)
def Xk (h:(d9 g n T).2≠0):(d9 g n T).1=[]:=by
 unfold d9 at h |-
 split
 .rename_i hg;rw[zac hg]at h;rw[qG h]
 split
 .rfl
 split
 .rfl
 rename_i h1 h2 h3;rw[zaa h1,zaa h2,zaa h3]at h;exact zas rfl h
variable {m:List aG}
def agT (h:(jM g n T m).2≠0):(jM g n T m).1=[]:=by
 unfold jM at h |-
 split
 .rfl
 rename_i h1;rw[zaa h1]at h
 split
 .rename_i hg;rw[zac hg]at h;rw[qG h]
 rename_i hg;rw[zaa hg]at h;rw[qG h]
def ad2 (h:(jM g n T m).2=0):(d9 g n (T++m)).2=0:=by
 unfold jM at h
 split at h
 .exact h
 rename_i h1;exact zcq.1 h1
def ZX (hg: ¬g<0) (hT:(d9 g n T).2=0):(jM g n T m).2=(d9 g n (T++m)).2:=by
 unfold jM
 split
 .rfl
 rename_i h1;have h1:=zcq.1 h1;rw[h1,CY];intro r;rw[jh,agd,jm hg h1,jm hg hT]
 rcases abW (sums:=n-g.toNat) (lM ((jD hg).1 h1).1) r with e1 | e1<;>rcases abW (sums:=n-g.toNat) (lM ((jD hg).1 hT).1) r with e2 | e2<;>(dsimp only;rw[e1,e2];decide)
def agU (g:Int) (n:Nat):d9 g n []=([],0):=by
 unfold d9
 split
 .rfl
 rfl
def dZ (sums:Nat) (E:List bD) (k:List aC):List Int:=(List.range (sums+1)).map (jL E k)
def stE (sums:Nat) (E:List bD) (k:List aC):Option (List Int):=if((dZ sums E k).any λn=>decide (n≠0))=true then some (dZ sums E k)else none
def iG (ns:List Int) (k:List aC) (w:Int):List aG:=if ns.headD 0=0 then []else [⟨k++ns.map dw,w⟩]
def ace (o:Option (List Int)) (k:List aC) (w:Int):List aG:=iG (o.getD []) k w
def fU (l:List bD):List (List aC):=l.foldl (λks x=>if x.key∈ks then ks else ks++[x.key]) []
def oh (l:List bD) (x:bD):fU (l++[x])=if x.key∈fU l then fU l else fU l++[x.key]:=by
 unfold fU;rw[List.foldl_append];rfl
def Nb {α:Type} {p:List α->Prop} (h0:p []) (h1: ∀l x,p l->p (l++[x])) (l:List α):p l:=by
 rw[<-List.reverse_reverse l]
 induction l.reverse with
 | nil=>exact h0
 | cons x t ih=>rw[List.reverse_cons];exact h1 _ _ ih
def oO {k:List aC} (l:List bD):k∈fU l↔∃x∈l,x.key=k:=by
 refine Nb (p:=λl=>k∈fU l↔∃x∈l,x.key=k) (by simp[fU]) (λl x ih=>?_) l;rw[oh]
 have hr:(∃y∈l++[x],y.key=k)↔(∃y∈l,y.key=k)\/x.key=k:=by
  constructor
  .rintro⟨y,hy,e⟩
   rcases zbk.1 hy with h | h
   .exact .inl ⟨y,h,e⟩
   rw[zaw]at h;subst h;exact .inr e
  rintro(⟨y,hy,e⟩ | e)
  .exact⟨y,zco _ hy,e⟩
  exact⟨x,sM,e⟩
 rw[hr,<-ih]
 split
 .rename_i h
  exact⟨.inl,λh2=>h2.elim id λe=>by rw[<-e];exact h⟩
 rw[zbk,zaw,eq_comm (a:=k) (b:=x.key)]
def FX (l:List bD):(fU l).Nodup:=by
 refine Nb (p:=λl=>(fU l).Nodup) (by simp[fU]) (λl x ih=>?_) l;rw[oh]
 split
 .exact ih
 rename_i h;rw[zep];exact⟨ih,sM,λa ha b hb e=>by rw[zaw]at hb;subst hb;subst e;exact h ha⟩
variable {sums:Nat} {E l:List bD} {k r:List aC}
def lI:(dZ sums E k).length=sums+1:=by unfold dZ;rw[zae,zeb]
def z8:(dZ sums E k).headD 0=jL E k 0:=by
 unfold dZ;rw[List.range_succ_eq_map,zav];rfl
def yZ (hi:i<=sums):(dZ sums E k)[i]? =some (jL E k i):=by
 unfold dZ;rw[zbz,List.getElem?_range oM];rfl
def BH (h:k∉fU l):dZ sums (E++l) k=dZ sums E k:=by
 unfold dZ;refine zcr λi _=>?_;rw[uX,uY (l:=l) λx hx e=>h ((oO l).2 ⟨x,hx,e⟩),zgf]
def ad3 (h:k∉fU l):stE sums (E++l) k=stE sums E k:=by unfold stE;rw[BH h]
def Ab (h:stE sums E k=none) (hi:i<=sums):jL E k i=0:=by
 unfold stE at h
 split at h
 .cases h
 rename_i h2
 by_cases e:jL E k i=0
 .exact e
 refine zas (zfz.2 ⟨jL E k i,?_,zap e⟩) h2;exact zag (yZ hi)
def Nc {ns:List Int} (h:stE sums E k=some ns):ns=dZ sums E k:=by
 unfold stE at h
 split at h
 .injection h with h;exact h.symm
 cases h
def Xl (w:Int):ace (stE sums E k) k w=iG (dZ sums E k) k w:=by
 unfold ace;cases h:stE sums E k with
 | none=>
  unfold iG;rw[z8,Ab h (zai _),zac rfl];rfl
 | some ns=>rw[Nc h];rfl
def KO {α β:Type} (p:α->Bool) (f:α->β): ∀ks:List α,(ks.flatMap λk=>if p k=true then [f k]else [])=(ks.filter p).map f
 | []=>rfl
 | k::ks=>by
  rw[zbh,KO p f ks,zeh]
  split<;>rfl
def agV (w:Int):iG (dZ sums E k) k w=if decide (jL E k 0≠0)=true then [⟨adp sums E k,w⟩]else []:=by
 unfold iG;rw[z8]
 by_cases h:jL E k 0=0
 .rw[zac h,zaa (by simp[h])]
 rw[zaa h,zac (by simp[h])];unfold adp dZ;rw[zdj];rfl
def ad4 (ks:List (List aC)):(ks.flatMap λk=>iG (dZ sums E k) k 1)=(ks.filter λk=>decide (jL E k 0≠0)).map λk=>⟨adp sums E k,1⟩:=by
 rw[<-KO]
 congr 1
 funext k
 exact agV 1
variable {ks:List (List aC)}
def Nf (hn:ks.Nodup) (hk: ∀k,jL E k 0≠0->k∈ks) (r:List aC):wtL (ks.flatMap λk=>iG (dZ sums E k) k 1) r=wtL (lZ sums E) r:=by
 rw[ad4];refine VY (List.Perm.map _ ?_) r;refine(List.perm_ext_iff_of_nodup (hn.sublist zea) ((oL (um E)).sublist zea)).2 λa=>?_;rw[zcf,zcf];constructor
 .rintro⟨_,h⟩;exact⟨Ez (zbd h),h⟩
 rintro⟨_,h⟩;exact⟨hk a (zbd h),h⟩
def ad5 (ns:List Int) (k r:List aC):wtL (iG ns k (-1)) r= -wtL (iG ns k 1) r:=by
 unfold iG
 split
 .rfl
 rw[wtL,wtL,wtL,wtL];split<;>rfl
def agW (f g:List aC->List aG) (hf: ∀k r,wtL (f k) r= -wtL (g k) r) (h:List aC->List aG) (r:List aC): ∀ks:List (List aC),wtL (ks.flatMap λk=>f k++h k) r=wtL (ks.flatMap h) r-wtL (ks.flatMap g) r
 | []=>rfl
 | k::ks=>by
  rw[zbh,zbh,zbh,jh,jh,jh,jh,agW f g hf h r ks,hf];omega
def agX {done:List (List aC)} (hp:done.Perm (fU l)) (r:List aC):
    wtL (done.flatMap λk=>iG (dZ sums E k) k (-1)++iG (dZ sums (E++l) k) k 1) r=wtL (lZ sums (E++l)) r-wtL (lZ sums E) r:=by
  rw[agW _ (λk=>iG (dZ sums E k) k 1) (λk r=>ad5 _ k r)];have hnk:=oL (um (E++l));have hdn:done.Nodup:=hp.nodup_iff.2 (FX l);have hdm: ∀k,k∈done↔k∈fU l:=λk=>hp.mem_iff
  have iC: ∀k,k∈fU l->k∈sw (E++l):=λk hk=>by
    obtain⟨x,hx,e⟩:=(oO l).1 hk;exact ql.2 ⟨x,zcv _ hx,e⟩
  obtain⟨ot,hot⟩: ∃ot,ot=(sw (E++l)).filter λk=>decide (k∉fU l):=⟨_,rfl⟩
  have hom: ∀k∈ot,k∈sw (E++l)/\k∉fU l:=λk hk=>by
    rw[hot,zcf]at hk;exact⟨hk.1,zbd hk.2⟩
  have Py:(done++ot).Nodup:=by
    rw[zep];refine⟨hdn,by rw[hot];exact hnk.sublist zea,λa ha b hb e=>?_⟩;subst e;exact(hom a hb).2 ((hdm a).1 ha)
  have jN: ∀k,k∈sw (E++l)->k∈done++ot:=λk hk=>by
    rw[zbk]
    by_cases h:k∈fU l
    . exact .inl ((hdm k).2 h)
    right;rw[hot,zcf];exact⟨hk,zap h⟩
  have h1:=Nf (sums:=sums) (E:=E++l) Py (λk hk=>jN k (Ez hk)) r
  have h2:=Nf (sums:=sums) (E:=E) Py (λk hk=>jN k (by
    obtain⟨x,hx,e⟩:=ql.1 (Ez hk);exact ql.2 ⟨x,zco _ hx,e⟩)) r
  rw[zbv,jh]at h1 h2
  have h3:(ot.flatMap λk=>iG (dZ sums (E++l) k) k 1)=ot.flatMap λk=>iG (dZ sums E k) k 1:=by
    rw[List.flatMap_def,List.flatMap_def]
    congr 1
    exact zcr λk hk=>by rw[BH (hom k hk).2]
  rw[h3]at h1;omega
def ZY {done:List (List aC)} (hp:done.Perm (fU l)):
    cO (done.flatMap λk=>iG (dZ sums E k) k (-1)++iG (dZ sums (E++l) k) k 1)=cO (lZ sums (E++l)++yO (lZ sums E)):=
  Br λr=>by rw[agX hp,jh,agd];omega
def ad6 (hE:xw sums E=true):xw sums (E++l)=true↔∀k∈fU l,∀n∈dZ sums (E++l) k,aY n=true:=by
 rw[uZ];constructor
 .intro h k _ n hn
  obtain⟨i,hi,rfl⟩:=zar.1 hn;rw[zeo]at hi;exact h k i oM
 intro h k i hi
 by_cases hk:k∈fU l
 .exact h k hk _ (zag (yZ hi))
 rw[uX,uY (l:=l) λx hx e=>hk ((oO l).2 ⟨x,hx,e⟩),zgf];exact uZ.1 hE k i hi
def QN {keys:Nat} (hE: ∀x∈E,x.key.length=keys) (hn:ks.Nodup) (hk: ∀k,stE sums E k≠none->k∈ks):
    cO (ks.flatMap λk=>ace (stE sums E k) k 1)=(lZ sums E,0):=by
  rw[<-Qv (MH (sums:=sums) hE)];refine Br λr=>?_;rw[<-Nf (sums:=sums) hn (λk h=>hk k λe=>h (Ab e (zai _))) r]
  congr 2
  funext k
  exact Xl 1
def y5 (keys sums:Nat) (E l:List bD):List aG×Int:=
 if(l.all λx=>qA keys sums x)=false then([],2)else if xw sums (E++l)=false then([],50)else cO (lZ sums (E++l)++yO (lZ sums E))
def agY {T m:List aG} (hg: ¬g<0) (hT:(d9 g n T).2=0):jM g n T m=y5 g.toNat (n-g.toNat) (T.map (fu g.toNat)) (m.map (fu g.toNat)):=by
 have hs:=jm hg hT;obtain⟨h1,h2⟩:=(jD hg).1 hT;have ha:((T++m).all λx=>qA g.toNat (n-g.toNat) (fu g.toNat x))=(m.all λx=>qA g.toNat (n-g.toNat) (fu g.toNat x)):=by rw[List.all_append,h1,zen]
 unfold jM y5;rw[hs];unfold d9;rw[zaa hg,ha,zgg,zak];simp only[Function.comp_def]
 by_cases c1:(m.all λx=>qA g.toNat (n-g.toNat) (fu g.toNat x))=false
 .rw[zac c1,zac c1,zac dC]
 rw[zaa c1,zaa c1]
 by_cases c2:xw (n-g.toNat) (T.map (fu g.toNat)++m.map (fu g.toNat))=false
 .rw[zac c2,zac c2,zac dC]
 rw[zaa c2,zaa c2,zaa (λh=>h rfl),zaa hg]
def Uc: ∀{ks:List (List aC)} {r:List aC} {a:Nat},(∀(j:Nat) k,j<a->ks[j]? =some k->jK k r<0)->a<=ks.length->(∀k,ks[a]? =some k->jK r k<0)->yN r ks=ks.take a++r::ks.drop a
 | [],r,a,_,ha,_=>by
  simp at ha;subst ha;rfl
 | k::ks,r,0,_,_,h=>by
  rw[yN,zac (h k rfl)];rfl
 | k::ks,r,a+1,h1,ha,h2=>by
  have hk:=h1 0 k oM rfl;rw[yN,zaa (fT.asymm hk),zaa (fT.irr hk).symm,Uc (a:=a) (λj x hj hx=>h1 (j+1) x oM (by simpa using hx)) (by simpa using ha) (λx hx=>h2 x (by simpa using hx))];rfl
def Xm: ∀{ks:List (List aC)} {r:List aC},oK ks->r∈ks->yN r ks=ks
 | k::ks,r,hs,h=>by
  obtain⟨h1,h2⟩:=zdt.1 hs;rw[yN]
  rcases zbb.1 h with e | e
  .subst e
   rw[zaa (by rw[fT.self];omega),zac rfl]
  rw[zaa (fT.asymm (h1 r e)),zaa (fT.irr (h1 r e)).symm,Xm h2 e]
def Z0 (l:List aG) (x:aG):lY (l++[x])=yN x.row (lY l):=by
 refine zQ (mH _) (zO (mH _)) λr=>?_;rw[su,zN,su];constructor
 .rintro⟨y,hy,e⟩
  rcases zbk.1 hy with h | h
  .exact .inr ⟨y,h,e⟩
  rw[zaw]at h;subst h;exact .inl e.symm
 rintro(e | ⟨y,hy,e⟩)
 .exact⟨x,sM,e.symm⟩
 exact⟨y,zco _ hy,e⟩
def A9 (l:List aG) (ks:List (List aC)):List aG:=ks.map λr=>⟨r,wtL l r⟩
def ad7 (l:List aG) (ks:List (List aC)):(A9 l ks).length=ks.length:=by unfold A9;rw[zae]
def agZ {l:List aG} {x:aG} (h:(A9 l ks)[i]? =some x):ks[i]? =some x.row/\x.w=wtL l x.row:=by
 unfold A9 at h;rw[zbz]at h;obtain⟨r,hr,rfl⟩:=zbc.1 h;exact⟨hr,rfl⟩
def Z4 {l:List aG} (hf: ∀r∈lY l,aY (wtL l r)=true):cO l=((A9 l (lY l)).filter λx=>decide (x.w≠0),0):=by
 unfold cO;rw[zac (zba.2 hf)];unfold Jj A9;rw[List.filter_map];rfl
def Ng {l:List aG} (hr:aY (wtL l r)≠true):cO l=([],50):=qG λe=>hr (CY.1 e r)
def ag0 (sums:Nat) (E:List bD) (ks:List (List aC)):List (List aC×List Int):=ks.map λk=>(k,dZ sums E k)
def xP (L:List (List aC×List Int)) (w:Int):List aG:=L.flatMap λg=>iG g.2 g.1 w
def ad8 {keys:Nat} (hk: ∀x∈l,x.key.length=keys):cO (xP (ag0 sums l (fU l)) 1)=(lZ sums l,0):=by
 rw[<-QN (sums:=sums) hk (FX l) (λk h=>(oO l).2 ?_)]
 .unfold xP ag0
  rw[List.flatMap_map]
  congr 2
  funext k
  exact(Xl 1).symm
 refine Classical.byContradiction λhm=>h ?_;unfold stE;rw[zaa];intro ha;obtain⟨n,hn,h0⟩:=zfz.1 ha;obtain⟨i,_,rfl⟩:=zar.1 hn;exact zbd h0 (uY λx hx e=>hm ⟨x,hx,e⟩)
def fH (cols:List bT) (r:List aC):List nQ->List aC×Int
 | []=>([],0)
 | o::l=>if(mR cols o.steps r).2≠0 then([],(mR cols o.steps r).2)else if(fH cols r l).2≠0 then([],(fH cols r l).2)else((mR cols o.steps r).1::(fH cols r l).1,0)
def rz (cols:List bT) (wh:List bL) (r:List aC):aC×Int:=if wh=[]then(⟨false,1,[]⟩,0)else mR cols wh r
def gM (cols:List bT) (p:aW) (r:List aC):List aC×Bool×Int:=
 if fM cols r≠0 then([],false,fM cols r)
 else if(rz cols p.wh r).2≠0\/(rz cols p.wh r).1.null=true\/(rz cols p.wh r).1.n=0 then([],false,(rz cols p.wh r).2)
 else if(fH cols r p.cols).2≠0 then([],false,(fH cols r p.cols).2)
 else((fH cols r p.cols).1,true,0)
def bN (cols:List bT) (p:aW):List aG->List aG×Int
 | []=>([],0)
 | x::l=>
  if(gM cols p x.row).2.2≠0 then([],(gM cols p x.row).2.2)
  else if(bN cols p l).2≠0 then([],(bN cols p l).2)
  else if(gM cols p x.row).2.1=true then(⟨(gM cols p x.row).1,x.w⟩::(bN cols p l).1,0)else((bN cols p l).1,0)
def fq (cols:List bT) (p:aW) (T l:List aG):List aG×Int:=
 if(bN cols p l).2≠0 then([],(bN cols p l).2)else jM p.group p.cols.length T (bN cols p l).1
def iR (cols:List bT) (p:aW) (T l:List aG):List aG:=if(fq cols p T l).2=0 then T++(bN cols p l).1 else T
def uD (cols:List bT) (p:aW) (l:List aG):List aG×Int:=
 if(aZ cols p).2≠0 then([],(aZ cols p).2)else if(fq cols p [] l).2≠0 then([],(fq cols p [] l).2)else((d9 p.group p.cols.length (iR cols p [] l)).1,0)
variable {cols:List bT}
def FY {a b:List aG} (ha:(bN cols p a).2=0) (hb:(bN cols p b).2=0):bN cols p (a++b)=((bN cols p a).1++(bN cols p b).1,0):=by
 induction a with
 | nil=>rw[zbw];exact Prod.ext rfl hb
 | cons x a ih=>
  rw[bN]at ha;rw[zcb,bN,bN]
  split at ha
  .rename_i h;exact zas ha h
  rename_i h1;rw[zaa h1,zaa h1]
  split at ha
  .rename_i h;exact zas ha h
  rename_i h2;rw[zaa h2,ih (zcq.1 h2),zaa (not_not_intro rfl)]
  split<;>rfl
def Nh {l:List aG} (h:(fq cols p T l).2=0):(bN cols p l).2=0/\fq cols p T l=jM p.group p.cols.length T (bN cols p l).1:=by
 unfold fq at h |-
 split at h
 .rename_i h1;exact zas h h1
 rename_i h1;rw[zaa h1];exact⟨zcq.1 h1,rfl⟩
def Xn {l:List aG} (hT:(d9 p.group p.cols.length T).2=0):(d9 p.group p.cols.length (iR cols p T l)).2=0:=by
 unfold iR
 split
 .rename_i h
  obtain⟨_,e⟩:=Nh h;rw[e]at h;exact ad2 h
 exact hT
structure avc where
 T:List aG
 all:List aG
 outs:List aG
def FZ: ∀l:List (L8),uz l=iY 10 (l++[[]])
 | []=>rfl
 | [w]=>by simp[uz,iY]
 | w::x::l=>by
  have ih:=FZ (x::l);unfold uz at ih ⊢;rw[zbh,ih];show w++[10]++_=w++10::iY 10 (x::l++[[]])
  simp
def PO {ls:List (L8)} (h: ∀w∈ls,∀c∈w,c≠10):ji (uz ls)=(ls,true):=by
 have hs:cB 10 (uz ls)=ls++[[]]:=by
  rw[FZ];refine EW sM λw hw=>?_
  rcases zbk.1 hw with h1 | h1
  .exact h w h1
  rw[zaw.1 h1];intro c hc;cases hc
 unfold ji;rw[hs,zac sM];simp
def Jy (s:L8):cB 10 s≠[]:=λe=>by
 have:=EX 10 s;cases s with
 | nil=>cases e
 | cons c l=>rw[e]at this;cases this
def Ni (n:Int): ∀c∈itoa n,c≠10:=by
 intro c hc e;subst e
 have key: ∀u,(10:UInt8)∉decDigits u:=λu h=>by
  have:=pQ u _ h;simp[uh]at this
 unfold itoa at hc
 split at hc
 .rcases zbb.1 hc with h | h
  .exact zas h dC
  exact key _ h
 exact key _ hc
def QO {d:Nat} (h:d<16):nE d≠10:=by
 have key: ∀d:Fin 16,nE d.val≠10:=dC;exact key ⟨d,h⟩
def Z5 (c:UInt8): ∀x∈iP c,x≠10:=by
 have key: ∀i:Fin 256,∀x∈iP (UInt8.ofNat i.val),x≠10:=by decide+kernel
 have:=key ⟨c.toNat,c.toNat_lt⟩;simpa using this
def ag1 {x:bL} (h:dU x=true): ∀c∈gX x,c≠10:=by
 obtain⟨k,n,s⟩:=x;unfold dU at h;unfold gX;dsimp only at h |-
 by_cases k1:k=1
 .rw[zac k1]
  intro c hc
  rcases zbb.1 hc with rfl | hc
  .decide
  exact Ni n c hc
 rw[zaa k1]at h |-
 by_cases k2:k=2
 .rw[zac k2];exact Ni n
 rw[zaa k2]at h |-
 by_cases k3:k=3
 .rw[zac k3]
  split<;>decide
 rw[zaa k3]at h |-
 by_cases k4:k=4
 .rw[zac k4,Cv]
  intro c hc
  rcases zbb.1 hc with rfl | hc
  .decide
  rcases zbk.1 hc with hc | hc
  .obtain⟨y,_,hy⟩:=zcc.1 hc
   exact Z5 y c hy
  simp only[zaw]at hc;subst hc;decide
 rw[zaa k4]at h |-
 by_cases k5:k=5
 .rw[zac k5]
  intro c hc
  rcases zbb.1 hc with rfl | hc
  .decide
  obtain⟨y,_,hy⟩:=zcc.1 hc;simp only[zbb,zam,or_false]at hy
  rcases hy with rfl | rfl
  .exact QO (by have:=y.toNat_lt;omega)
  exact QO oM
 rw[zaa k5]at h |-
 by_cases k6:k=6
 .subst k6
  rw[zac rfl]at h ⊢;simp only[decide_eq_true_eq]at h;obtain⟨_,hn⟩:=h;have :n=1\/n=3\/n=4\/n=5:=by omega
  rcases this with rfl | rfl | rfl | rfl<;>decide
 rw[zaa k6]at h ⊢;simp only[decide_eq_true_eq]at h;obtain⟨ha,hb,_,_⟩:=h;have :k=7\/k=8\/k=9\/k=10\/k=11\/k=12\/k=13\/k=14\/k=15\/k=16\/k=17\/k=18:=by omega
 rcases this with rfl | rfl | rfl | rfl | rfl | rfl | rfl | rfl | rfl | rfl | rfl | rfl<;>decide
def Xo: ∀{ws:List (L8)},(∀w∈ws,∀c∈w,c≠10)->∀c∈iY 32 ws,c≠10
 | [],_=>by intro c hc;cases hc
 | [w],h=>h w zao
 | w::x::l,h=>by
  intro c hc;have hc:c∈w++32::iY 32 (x::l):=hc
  rcases zbk.1 hc with h1 | h1
  .exact h w zao c h1
  rcases zbb.1 h1 with rfl | h1
  .decide
  exact Xo (λy hy=>h y (zau _ hy)) c h1
def bC (l:List bL):Prop:=∀x∈l,fits x.n
def Nj {l:List bL} (h:(iQ l).2=0):l.length<=64/\(∀x∈l,dU x=true)/\iQ l=(iY 32 (l.map gX),0):=by
 unfold iQ at h |-
 split at h
 .cases h
 rename_i h1
 split at h
 .cases h
 rename_i h2;rw[zaa h1,zaa h2];rw[Bool.not_eq_false,zba]at h2;exact⟨oM,h2,rfl⟩
def Xp {l:List bL} (h:(iQ l).2=0): ∀c∈(iQ l).1,c≠10:=by
 obtain⟨_,h2,h3⟩:=Nj h;rw[h3]
 exact Xo λw hw=>by
  obtain⟨x,hx,rfl⟩:=zar.1 hw;exact ag1 (h2 x hx)
def QS {l:List bL} (h:(iQ l).2=0) (hf:bC l):eD (iQ l).1=(l,0):=by
 obtain⟨h1,h2,h3⟩:=Nj h;rw[h3];exact(OL (λx hx=>⟨h2 x hx,hf x hx⟩) h1).2.1
def Xq {s:L8} (h:eZ s=true):(∀c∈s,c≠10)/\(∀c∈s,c≠32):=by
 unfold eZ at h;simp only[zbr,zba]at h;have key: ∀i:Fin 256,nA (UInt8.ofNat i.val)=true->UInt8.ofNat i.val≠10/\UInt8.ofNat i.val≠32:=by decide+kernel
 have H: ∀c:UInt8,nA c=true->c≠10/\c≠32:=λc hc=>by
  have:=key ⟨c.toNat,c.toNat_lt⟩;simp only[UInt8.ofNat_toNat]at this;exact this hc
 exact⟨λc hc=>(H c (h.2 c hc)).1,λc hc=>(H c (h.2 c hc)).2⟩
def Ad (b t:L8):vg b (b++t)=some t:=by
 unfold vg;rw[List.take_left',zac rfl,List.drop_left']
 .rfl
 rfl
def Xr {b s t:L8} (h:vg b s=some t):s=b++t:=by
 unfold vg at h
 split at h
 .rename_i h1
  injection h with h
  rw[<-h]
  conv=>lhs;rw[<-zbs b.length s,h1]
 cases h
def Z6:(eD mK).2=4:=by rw[<-QK];decide+kernel
def Z7 {l:List bL} (h:(iQ l).2=0) (hf:bC l):Jv (xO l)=some l:=by
 unfold Jv xO;rw[Ad,zdy]
 by_cases h0:l=[]
 .rw[zac h0,zaa dC,zac rfl,h0]
 rw[zaa h0];have hb:=QS h hf
 have h1:(iQ l).1≠[]:=λe=>by
  rw[e]at hb;have :eD []=([],0):=rfl;rw[this]at hb;injection hb with hb
  exact h0 hb.symm
 have h2:(iQ l).1≠mK:=λe=>by
  rw[e]at hb;have:=Z6;rw[hb]at this;cases this
 rw[zaa h1,zaa h2,hb,zac rfl]
def Xt {s t:L8} (h: ∀c∈s,c≠32):zZ (s++[32]++t)=some (s,t):=by
 have hi:(s++[32]++t).idxOf? 32=some s.length:=by
  rw[List.idxOf?,zbm,List.findIdx?_append]
  have :s.findIdx? (· ==32)=none:=by
   rw[zda];intro c hc;simpa using h c hc
  rw[this];simp[List.findIdx?_cons]
 unfold zZ;rw[hi,zdv,zbm]
 congr 2
 .rw[List.take_left'];rfl
 rw[<-zbm];exact List.drop_left' sM
def ag2 {o:nQ} (hb:M9 o=false) (hn:eZ o.name=true) (hf:bC o.steps):Na (tZ o)=some o:=by
 have hbb: ¬((iQ o.steps).2≠0\/(iQ o.steps).1=[]):=of_decide_eq_false hb;have h0:(iQ o.steps).2=0:=Classical.byContradiction λh=>hbb (.inl h);have h1:(iQ o.steps).1≠[]:=λh=>hbb (.inr h);have hp:=QS h0 hf
 have hs:o.steps≠[]:=λe=>by
  rw[e]at h1;exact h1 rfl
 unfold Na tZ;have e:ZW++o.name++[32]++(iQ o.steps).1=ZW++(o.name++[32]++(iQ o.steps).1):=by simp only[zbm]
 rw[e,Ad,zdy,Xt (Xq hn).2,zdy];dsimp only;rw[hp,zac ⟨rfl,hs,hn⟩]
def Z8 (h1: -1<=g) (h2:g<=1048576):yx (yY g)=some g:=by
 unfold yx yY;rw[Ad,zdy]
 by_cases hg:g<0
 .rw[zac hg,zac rfl]
  congr 1
  omega
 rw[zaa hg];obtain⟨n,rfl⟩:=zfi (show 0<=g from oM);have hit:itoa (n:Int)=decDigits n:=by unfold itoa;rw[zaa hg];rfl
 have iJ:itoa (n:Int)≠mK:=λe=>by
  rw[hit]at e;have:=pQ n 110 (by rw[e];decide);exact zas this dC
 rw[zaa iJ,hit];unfold pY;rw[xZ,zdy,zac ⟨rfl,oM⟩];rfl
def Z9 {t:L8} (h:(eD t).2=0) (h0:t≠[]):(eD t).1≠[]:=λe=>by
 have ht:=abe (s:=t) (l:=(eD t).1) (by rw[<-h]);rw[e]at ht;injection ht with ht
 exact h0 ht.symm
def QT: ∀{cs:List nQ} {g:Int},(∀o∈cs,M9 o=false/\eZ o.name=true/\bC o.steps)->lK (cs.map tZ++[yY g])=cs
 | [],g,_=>by
  have :Na (yY g)=none:=by
   unfold Na vg;rw[zaa]
   .rfl
   unfold yY M8 ZW;simp
  show lK [yY g]=[]
  unfold lK;rw[this]
 | o::cs,g,h=>by
  obtain⟨h1,h2,h3⟩:=h o zao;rw[zav,zcb];unfold lK;rw[ag2 h1 h2 h3];dsimp only;rw[QT λx hx=>h x (zau _ hx)]
def rH (h:lC p=true):(1<=p.cols.length/\p.cols.length<=16/\ -1<=p.group/\p.group<=p.cols.length)/\∀o∈p.cols,eZ o.name=true:=by
 unfold lC at h;simp only[zbr,zba,decide_eq_true_eq]at h;exact⟨h.1.1,λo ho=>(h.1.2 o ho).1⟩
def rJ:DW p=true↔lC p=true/\(iQ p.wh).2=0/\∀o∈p.cols,M9 o=false:=by
 unfold DW;simp only[zbr,zba,decide_eq_true_eq,zdi,and_assoc]
def ad9 (h:DW p=true): ∀w∈lU p,∀c∈w,c≠10:=by
 obtain⟨h1,h2,h3⟩:=rJ.1 h;have hn:=(rH h1).2;have key: ∀{a b:L8},(∀c∈a,c≠10)->(∀c∈b,c≠10)->∀c∈a++b,c≠10:=λha hb c hc=>(zbk.1 hc).elim (ha c) (hb c);intro w hw;unfold lU at hw
 rcases zbb.1 hw with rfl | hw
 .unfold xO
  refine key dC ?_
  split
  .decide
  exact Xp h2
 rcases zbk.1 hw with hw | hw
 .obtain⟨o,ho,rfl⟩:=zar.1 hw
  have hb: ¬((iQ o.steps).2≠0\/(iQ o.steps).1=[]):=of_decide_eq_false (h3 o ho);unfold tZ;exact key (key (key dC (Xq (hn o ho)).1) dC) (Xp (Classical.byContradiction λh=>hb (.inl h)))
 rw[zaw.1 hw];unfold yY;refine key dC ?_
 split
 .decide
 exact Ni _
def aea (h:DW p=true) (hw:bC p.wh) (hc: ∀o∈p.cols,bC o.steps) (hl:(uz (lU p)).length<=1048576):qJ (uz (lU p))=(p,0,0):=by
 obtain⟨h1,h2,h3⟩:=rJ.1 h;obtain⟨⟨n1,n2,n3,n4⟩,hn⟩:=rH h1;have hlen:(lU p).length=p.cols.length+2:=by unfold lU;simp
 have hcs:lK (((lU p).take (lU p).length).drop 1)=p.cols:=by
  rw[zbq];exact QT λo ho=>⟨h3 o ho,hn o ho,hc o ho⟩
 have hg:(lU p).getD (1+p.cols.length) []=yY p.group:=by
  unfold lU;rw[zaz,zgh,zcm,zby sM];simp
 unfold qJ;rw[zaa oM,PO (ad9 h)];dsimp only;rw[zac rfl,zaa oM];have YV:(lU p).getD 0 []=xO p.wh:=rfl;rw[YV,Z7 h2 hw];dsimp only;rw[hcs,zaa oM,hg,Z8 n3 oM];dsimp only;rw[zaa oM,zaa (by show ¬DW p=false;rw[h];decide)]
def KP (sep:UInt8): ∀s:L8,(cB sep s).length=s.count sep+1
 | []=>rfl
 | c::l=>by
  have ih:=KP sep l;unfold cB
  split
  .rename_i h;subst h;simp[ih]
  rename_i h
  split
  .rename_i w ws hw
   rw[hw]at ih;rw[List.count_cons_of_ne (by simpa using h)];simpa using ih
  rename_i hw;rw[hw]at ih;simp at ih
def EG (c:aC):Prop:=fits c.n/\c.s.length<=1024
def F6:EG cell0:=⟨⟨dC,dC⟩,dC⟩
def aeb {l:List bL} (hf:jA r) (hx:bC l):EG (mR cols l r).1:=by
 unfold mR
 split
 .exact F6
 rename_i h1
 split
 .exact F6
 rename_i h2;cases hr:Cu cols r [] l with
 | none=>exact F6
 | some st=>
  have ht: ∃t,runT cols [] l=some [t]:=by
   unfold iM at h1
   split at h1
   .exact zas (show(5:Int)≠0 from dC) h1
   split at h1
   .rename_i t ht;exact⟨t,ht⟩
   exact zas (show(220:Int)≠0 from dC) h1
  obtain⟨t,ht⟩:=ht;have hT:=QM (Decidable.of_not_not h2) hf hx Typed.nil ht hr;show EG (st.getD 0 cell0)
  cases hs:st[0]? with
  | none=>rw[zaz,hs];exact F6
  | some c=>
   rw[zaz,hs];have:=hT.2 0 t c rfl hs;exact⟨this.2,Pb this.1⟩
def QU {cols:List bT} (hf:jA r): ∀{l:List nQ},(∀o∈l,bC o.steps)->(∀c∈(fH cols r l).1,EG c)/\((fH cols r l).2=0->(fH cols r l).1.length=l.length)
 | [],_=>⟨λc hc=>zas hc zam,λ_=>rfl⟩
 | o::l,h=>by
  obtain⟨i1,i2⟩:=QU hf (l:=l) λo ho=>h o (zau _ ho);rw[fH]
  split
  .rename_i h1;exact⟨λc hc=>zas hc zam,λh2=>zas h2 h1⟩
  split
  .rename_i h1;exact⟨λc hc=>zas hc zam,λh2=>zas h2 h1⟩
  rename_i h1 h2;refine⟨λc hc=>?_,λ_=>?_⟩
  .rcases zbb.1 hc with rfl | hc
   .exact aeb hf (h o zao)
   exact i1 c hc
  show _+1=_+1
  rw[i2 (Decidable.of_not_not h2)]
def BI (n:Nat) (x:aG):Prop:=fits x.w/\x.row.length=n/\∀c∈x.row,EG c
def ag3 {cols:List bT} {p:aW} (hf:jA r) (hp: ∀o∈p.cols,bC o.steps):(∀c∈(gM cols p r).1,EG c)/\((gM cols p r).2.1=true->(gM cols p r).1.length=p.cols.length):=by
 obtain⟨i1,i2⟩:=QU (cols:=cols) hf hp;unfold gM
 split
 .exact⟨λc hc=>zas hc zam,λh=>Bool.noConfusion h⟩
 split
 .exact⟨λc hc=>zas hc zam,λh=>Bool.noConfusion h⟩
 split
 .exact⟨λc hc=>zas hc zam,λh=>Bool.noConfusion h⟩
 rename_i h;exact⟨i1,λ_=>i2 (Decidable.of_not_not h)⟩
def dR (x:aG):Prop:=fits x.w/\jA x.row
def y7 {cols:List bT} {p:aW} (hp: ∀o∈p.cols,bC o.steps): ∀{l:List aG},(∀x∈l,dR x)->∀x∈(bN cols p l).1,BI p.cols.length x
 | [],_,x,hx=>zas hx zam
 | y::l,h,x,hx=>by
  have ih:=y7 (cols:=cols) hp (l:=l) λz hz=>h z (zau _ hz);obtain⟨h1,h2⟩:=h y zao;obtain⟨m1,m2⟩:=ag3 (cols:=cols) (p:=p) h2 hp;rw[bN]at hx
  split at hx
  .exact zas hx zam
  split at hx
  .exact zas hx zam
  split at hx
  .rename_i hb
   rcases zbb.1 hx with rfl | hx
   .exact⟨h1,m2 hb,m1⟩
   exact ih x hx
  exact ih x hx
def nJ {cols:List bT} {p:aW}: ∀l:List aG,(bN cols p l).1.length<=l.length
 | []=>zbi _
 | y::l=>by
  have ih:=nJ (cols:=cols) (p:=p) l;rw[bN]
  split
  .exact zai _
  split
  .exact zai _
  split
  .simp only[zaq];omega
  simp only[zaq];omega
end Go.Proofs.Mw
