/-
 The law's examples,told plainly. No program stands here.
-/
import Derived.Test.YtjcgliljofbopaaGreatDoorNv15
set_option linter.all false
set_option maxRecDepth 4000
namespace Go.Proofs.Mw
open Go.Lib
def afR:Nat->Nat->L8
 | 0,_=>[]
 | f+1,u=>if u<10 then [UInt8.ofNat (48+u)]else afR f (u/10)++[UInt8.ofNat (48+u%10)]
def Tj: ∀(f u:Nat),u<10^f->0<f->afR f u=decDigits u
 | 0,u,_,h0=>zar h0 dC
 | f+1,u,h,_=>by
  rw[afR,decDigits]
  by_cases hu:u<10
  .rw[zac hu,dif_pos hu]
  rw[zab hu,dif_neg hu];have h1:u/10<10^f:=by rw[Nat.pow_succ]at h;omega
  have h2:0<f:=by
   cases f with
   | zero=>simp at h1;omega
   | succ f=>exact Nat.succ_pos f
  rw[Tj f (u/10) h1 h2]
def abh (n:Int):L8:=if n<0 then 45::afR 20 n.natAbs else afR 20 n.toNat
def afS {n:Int} (h:fits n):abh n=itoa n:=by
 unfold fits at h;unfold abh itoa;rw[Tj 20 n.natAbs oM dC,Tj 20 n.toNat oM dC]
def afT (x:bI):L8:=
 if x.kind=1 then 35::abh x.n
 else if x.kind=2 then abh x.n
 else if x.kind=3 then(if x.n=1 then [116,114,117,101]else [102,97,108,115,101])
 else if x.kind=4 then Rq x.s
 else if x.kind=5 then 120::yY x.s
 else if x.kind=6 then oh x.n
 else lN.getD (x.kind-7).toNat []
def afU {x:bI} (h:fits x.n):afT x=gU x:=by
 unfold afT gU;rw[afS h]
def abj:List (L8)->Option (List bI)
 | []=>some []
 | w::l=>if(dP (fA w)&&decide (afT (fA w)=w))=true then(abj l).map (fA w:: ·)else none
def V5: ∀l,abj l=readAll l
 | []=>rfl
 | w::l=>by
  rw[abj,readAll,afU (vZ w),V5 l];rfl
def afV (s:L8):List bI×Int:=
 if 1048576<s.length\/64<=s.count 32 then([],5)else if s=[]then([],0)else match abj (cB 32 s)with
  | some l=>(l,0)
  | none=>([],4)
def Qf (s:L8):afV s=d9 s:=by
 unfold afV d9;rw[V5];cases readAll (cB 32 s)<;>rfl
def ME (s:L8): ∀x∈(d9 s).1,fits x.n:=by
 have key: ∀(ws:List (L8)) (l:List bI),readAll ws=some l->∀x∈l,fits x.n:=by
  intro ws
  induction ws with
  | nil=>intro l h x hx;injection h with h;subst h;cases hx
  | cons w ws ih=>
   intro l h x hx;rw[readAll]at h
   split at h
   .obtain⟨l',h1,h2⟩:=zbc.1 h
    subst h2
    rcases zba.1 hx with rfl | hx
    .exact vZ w
    exact ih l' h1 x hx
   cases h
 intro x hx;unfold d9 at hx
 split at hx
 .cases hx
 split at hx
 .cases hx
 split at hx
 .rename_i l h;exact key _ l h x hx
 cases hx
variable {w:Wd}
variable {x y:Od}
open Go.RowKit
section
variable {P:Program} {r:Option Nat} {n:Nat} {ops:AO} {Q:Post} {rest:LO} {σ:St} {w w0:Wd} {S:NP} {rs:List HP} {put:HP->List HP} {ty:Td} {pos:String} {after:Array Edge}
variable {α:Type} {enc:α->LV} {k e c:Nat} {l:List α} {A:OA}
def V6 (hk: ∀x,(enc x).length=k): ∀{l:List α} {i f:Nat} {a a':α} {v:Value},l[i]? =some a->f<k->enc a'=(enc a).set f v->(l.flatMap enc).set (i*k+f) v=(l.set i a').flatMap enc
 | [],_,_,_,_,_,h,_,_=>by simp at h
 | x::l,0,f,a,a',v,h,hf,he=>by
  simp only[zce,Option.some.injEq]at h;subst h;rw[zbh,Nat.zero_mul,zcz,List.set_append_left _ _ (by rw[hk];exact hf),zdr,zbh,he]
 | x::l,i+1,f,a,a',v,h,hf,he=>by
  simp only[zck]at h;rw[zbh,zeu _ _ (by rw[hk,zeg];omega),hk,zeg,show i*k+k+f-k=i*k+f from oM,V6 hk h hf he,zfq,zbh]
def J7 {T:Td} [h1:OneCell P T] [hk:je enc k] {i f:Nat} {a:α} (a':α) {v:Value} {m:Nat} (hm:m=l.length) (H:Sep w0 S rs w) (hat:At rs (aY e k enc (.slice A m c) l) put) (hi:l[i]? =some a) (hf:f<k) (he:enc a'=(enc a).set f v) (hx:evF σ x=adr A (i*k+f)) (hy:evF σ y=v) (hv:v.oneCell'=true):
    ∃w',OV P (evF σ) (.store T x y) ty w w'/\Sep w0 S (put (aY e k enc (.slice A m c) (l.set i a'))) w':=by
  subst hm;have aS:i<l.length:=(zbb.1 hi).1;obtain⟨F,hp,hS,j5⟩:=H.focus hat;have H0:=Sep.bR hp;obtain⟨g,c',rest,hvv,hlen,hxl,rG,Ye,H1⟩:=H0.abP At0 oM;injection hvv with hA _ hc
  subst hA;subst hc;have hb:=H1.obj At0;have Ll:=jq hk.len l;have Yb:(i+1)*k<=l.length*k:=zex k aS;rw[zeg]at Yb;have aow:i*k+f<(l.flatMap enc++rest).length:=by rw[zad,Ll];omega
  obtain⟨bZ,KI⟩:=zL (v:=v) hb aow;have H2:=H1.setObj (At0 (p:=blk g (l.flatMap enc++rest) e) (l:=[])) bZ KI;rw[aes (by rw[Ll];omega),V6 hk.len hi hf he]at H2;have H3:Sep w F [blk g ((l.set i a').flatMap enc++rest) e] (w.setCell ⟨g,i*k+f,none⟩ v):=H2;have aaM:=jq hk.len (l.set i a');rw[zdx]at aaM;have H4:=H3.abQ (n:=l.length) (c:=c) At0 (by rw[zad,aaM];rw[zad,Ll]at hlen;exact hlen) aaM rG Ye;refine⟨w.setCell ⟨g,i*k+f,none⟩ v,λ_ _ _ _=>?_,?_⟩
  . have dJ:(store (⟨g,i*k+f,none⟩:Addr) v).run P w=.ok () (w.setCell ⟨g,i*k+f,none⟩ v):=by
      rw[run_store P w _ v _ hv,jP hb,zaa aow];simp[World.frozen?,hb]
    have hcs:v.cells= #[v]:=by cases v<;>first | rfl | cases hv
    have oZ:evF σ x=.pointer (some ⟨g,i*k+f,none⟩):=by rw[hx];show Value.pointer (some (Addr.add ⟨g,0,none⟩ (i*k+f)))=_;rw[Addr.add_lit,zcz]
    simp[execOp,oZ,hy,Instr.storeAt,Instr.sureAddr,storeVar,h1.size,hcs,storeCells,dJ,Addr.add_zero']
  obtain⟨h5,F5,h6,h7⟩:=H4;refine j5 _ F5 _ h5 ?_ λb hb=>h7 b hb;have h8:=Da.1 h6;show(uR e k (.slice (some ⟨g,0,none⟩) l.length c) (l.set i a').length ((l.set i a').flatMap enc)).ok F5 _
  rw[zdx];exact h8
def ac6 {T:Td} [h1:OneCell P T] [hk:je enc k] {i f:Nat} {a:α} (a':α) {v:Value} {m:Nat} (hm:m=l.length) (H:Sep w0 S rs w) (hat:At rs (aY e k enc (.slice A m c) l) put) (hi:l[i]? =some a) (hf:f<k) (he:enc a'=(enc a).set f v) (hx:evF σ x=adr A (i*k+f)) (hy:evF σ y=v) (hv:v.oneCell'=true)
    (h: ∀w',Sep w0 S (put (aY e k enc (.slice A m c) (l.set i a'))) w'->FL P r n ops Q rest σ w'):
    FL P r n ops Q (⟨none,.store T x y,ty,pos,after,none⟩::rest) σ w:=by
  obtain⟨w',ha,hs⟩:=J7 (P:=P) (ty:=ty) (T:=T) a' hm H hat hi hf he hx hy hv;exact Eb ha rfl (h w' hs)
def Gives.ai3 {ρ:Od->Value} {t e:Td} [ht:cO P t e] {bytes:Nat} [hc:Cells P e k bytes] {m i:Nat} {j:IntKind} (hm:m=l.length) (hx:ρ x=.slice A m c) (hy:ρ y=.int j i) (hr:Rd w0 A enc k l) (aS:i<l.length):Gives P ρ (.indexAddr t x y) ty w (adr A (i*k)) w:=by
 subst hm;exact Gives.fF hx hy hr aS
def Fu {m:Nat} (hm:m=l.length) (H:Sep w0 S rs w) (hat:At rs (aY e k enc (.slice A m c) l) put):Rd w A enc k l:=by
 subst hm;exact Sep.rowAt H hat
def Gives.afW {ρ:Od->Value} {kd:IntKind} {a b m:Int} {ts:Array Td} (hx:ρ x=.int kd a) (hy:ρ y=.int kd b) (he:Min.min a b=m):Gives P ρ (.call {callee:=.builtin .min,args:= #[x,y],argTypes:=ts}) ty w (.int kd m) w:=by subst he;exact Gives.min hx hy
end
def qB (x:bI):bI:=⟨x.kind,x.n,x.s.take 1100⟩
def MF (s:L8) (k:Nat):Min.min ((s.length:Nat):Int) (k:Int)=(((s.take k).length:Nat):Int):=by
 rw[zah];omega
def MG (s:L8) (k:Nat):s.take (s.take k).length=s.take k:=by
 rw[zah]
 by_cases h:k<=s.length
 .rw[zdc h]
 rw[Nat.min_eq_right oM,zbr,zaj oM]
def alK (b:Bool):Int:=if b then 3 else 2
def alL (b:Bool):List Int:=[alK b,1,4,5,3]
def alM (b:Bool) (i:Nat):Int:=(alL b).getD (i%5) 0
def abk (b:Bool) (i:Nat):bY:=⟨((i+1:Nat):Int),[],⟨alM b i,decide ((4:Int)<i)⟩,cell0⟩
def anQ (b:Bool):List bY:=(List.range 10).map (abk b)
structure asQ (k:Int) (n:Bool) (l:List bI):Prop where
 may: ∀x∈l,dP x=true/\fits x.n
 run: ∀b st,runT (anQ b) st l=some (st++[⟨k,n⟩])
structure J8 (m:Nat) (r:List aC):Prop where
 len:r.length=m
 fit:jw r
 ok: ∀b (i:Nat) c,r[i]? =some c->okC (abk b i).type c
def J8.nil:J8 0 []:=⟨rfl,λ_ h=>zar h zan,λ_ i c h=>by simp at h⟩
variable {i:Nat}
def J8.push {r:List aC} {c:aC} (h:J8 i r) (hc:fits c.n/\∀b,okC (abk b i).type c):J8 (i+1) (r++[c]):=by
 refine⟨by rw[zad,h.len];rfl,λy hy=>?_,λb j d hd=>?_⟩
 .rcases zbk.1 hy with h1 | h1
  .exact h.fit y h1
  rw[zau.1 h1];exact hc.1
 rcases zdm j r.length with hj | hj
 .rw[zcj hj]at hd;exact h.ok b j d hd
 rw[zby hj]at hd;cases hk:j-r.length with
 | zero=>
  rw[hk]at hd;have e:j=i:=by have:=h.len;omega
  simp only[zce,Option.some.injEq]at hd;rw[e,<-hd];exact hc.2 b
 | succ m=>rw[hk]at hd;simp at hd
def Qg {cols:List bY} {r:List aC} (hr:fH cols r=0) (hf:jw r): ∀{l:List bI} {ts ts':List bM} {st st':List aC},(∀x∈l,fits x.n)->Typed ts st->runT cols ts l=some ts'->BP cols r st l=some st'->Typed ts' st'
 | [],ts,ts',st,st',_,hT,h1,h2=>by
  injection h1 with h1
  injection h2 with h2
  rw[<-h1,<-h2];exact hT
 | x::l,ts,ts',st,st',hx,hT,h1,h2=>by
  rw[runT]at h1;rw[BP]at h2;obtain⟨t1,e1,h1⟩:=zdp.1 h1;obtain⟨s1,e2,h2⟩:=zdp.1 h2;obtain⟨_,_,h3⟩:=JZ hr hf (hx x zao) hT e1;rw[GV]at e2;obtain⟨c,e3,e4⟩:=zbc.1 e2;have h4:=h3 c e3;rw[e4]at h4;exact Qg hr hf (λy hy=>hx y (zat _ hy)) h4 h1 h2
/-! Wider columns,and cells that are not used. -/
/-! Expressions one behind the other. -/
/-! What is drawn:of a kind,and so deep. -/

structure nO where
 name:L8
 steps:List bI
structure aU where
 wh:List bI
 cols:List nO
 group:Int
def nO.ext' {a b:nO} (h1:a.name=b.name) (h2:a.steps=b.steps):a=b:=by cases a;cases b;simp_all
def aU.ext' {a b:aU} (h1:a.wh=b.wh) (h2:a.cols=b.cols) (h3:a.group=b.group):a=b:=by cases a;cases b;simp_all
instance:DecidableEq nO:=λa b=>decidable_of_iff (a.name=b.name/\a.steps=b.steps) ⟨λh=>nO.ext' h.1 h.2,λh=>by subst h;exact⟨rfl,rfl⟩⟩
instance:DecidableEq aU:=λa b=>decidable_of_iff (a.wh=b.wh/\a.cols=b.cols/\a.group=b.group) ⟨λh=>aU.ext' h.1 h.2.1 h.2.2,λh=>by subst h;exact⟨rfl,rfl,rfl⟩⟩
def mq:aU:=⟨[],[],0⟩
def Tk (c:UInt8):Bool:=decide (97<=c.toNat/\c.toNat<=122)
def mY (c:UInt8):Bool:=Tk c||decide (c=95)||tH c
def eU (s:L8):Bool:=decide (1<=s.length/\s.length<=32)&&Tk (s.getD 0 0)&&s.all mY
def iK:L8:=[99,111,117,110,116]
def mD:L8:=[110,111,110,101]
def Tm:L8:=[119,104,101,114,101,32]
def Zc:L8:=[111,117,116,32]
def MH:L8:=[103,114,111,117,112,32]
def j3 (p:aU):Bool:=
 decide (1<=p.cols.length/\p.cols.length<=16/\ -1<=p.group/\p.group<=p.cols.length)&&p.cols.all (λo=>eU o.name&& !(decide (0<=p.group)&&decide (o.name=iK)))&&decide ((p.cols.map (·.name)).Nodup)
def abl (t:bM):aC:=⟨nZ t&&t.null,0,[]⟩
def qp (id:Int) (name:L8) (t:bM):bY:=⟨id,name,t,abl t⟩
def iL:bM:=⟨3,false⟩
def Bg (cols:List bY) (group:Int):Nat->List nO->List bY->List bY×Int
  | i,[],acc=>(if group=i then acc++[qp (group+1) iK iL]else acc,0)
  | i,o::l,acc=>
    if(iJ cols o.steps).2≠0 then([],(iJ cols o.steps).2)
    else if 0<=group/\group<=i then
      (if(iJ cols o.steps).1.kind≠3 then([],230)
       else Bg cols group (i+1) l ((if(i:Int)=group then acc++[qp (i+1) iK iL]else acc)++[qp (i+2) o.name iL]))
    else Bg cols group (i+1) l (acc++[qp (i+1) o.name (iJ cols o.steps).1])
def bX (cols:List bY) (p:aU):List bY×Int:=
 if j3 p=false then([],230)
 else if p.wh≠[]/\(iJ cols p.wh).2≠0 then([],(iJ cols p.wh).2)
 else if p.wh≠[]/\(iJ cols p.wh).1.kind≠1 then([],230)
 else Bg cols p.group 0 p.cols []
/-! Texts. -/
def tF (o:nO):L8:=Zc++o.name++[32]++(iO o.steps).1
def MI (o:nO):Bool:=decide ((iO o.steps).2≠0\/(iO o.steps).1=[])
def xg (l:List bI):L8:=Tm++(if l=[]then mD else(iO l).1)
def yD (g:Int):L8:=MH++(if g<0 then mD else itoa g)
def lJ (p:aU):List (L8):=xg p.wh::(p.cols.map tF++[yD p.group])
def tT (l:List (L8)):L8:=l.flatMap (· ++[10])
def Dr (p:aU):Bool:=j3 p&&decide ((iO p.wh).2=0)&&p.cols.all (λo=> !MI o)
def J9 (p:aU):L8×Int:=if Dr p=false then([],2)else(tT (lJ p),0)
def jk (s:L8):List (L8)×Bool:=if(cB 10 s).getLast?=some []then((cB 10 s).dropLast,true)else(cB 10 s,false)
def uN (b s:L8):Option (L8):=if s.take b.length=b then some (s.drop b.length)else none
def GZ (s:L8):Option (List bI):=(uN Tm s).bind λt=>if t=[]then none else if t=mD then some []else if(d9 t).2=0 then some (d9 t).1 else none
def zD (s:L8):Option (L8×L8):=(s.idxOf? 32).map λi=>(s.take i,s.drop (i+1))
def MJ (s:L8):Option nO:=(uN Zc s).bind λt=>(zD t).bind λx=>if(d9 x.2).2=0/\(d9 x.2).1≠[]/\eU x.1=true then some ⟨x.1,(d9 x.2).1⟩else none
def pO (t:L8):Option Nat:=(mQ t 0).bind λn=>if decDigits n=t/\n<=1048576 then some n else none
def xP (s:L8):Option Int:=(uN MH s).bind λt=>if t=mD then some (-1)else(pO t).map (λn:Nat=>((n:Nat):Int))
def lC:List (L8)->List nO
 | []=>[]
 | s::l=>match MJ s with
  | some o=>o::lC l
  | none=>[]
def qC (s:L8):aU×Int×Int:=
 if 1048576<s.length then(mq,0,5)
 else
  let l:=(jk s).1
  let many:=if(jk s).2=true then l.length else l.length-1
  if many<1 then(mq,0,4)
  else match GZ (l.getD 0 [])with
   | none=>(mq,0,4)
   | some w=>
    let cs:=lC ((l.take many).drop 1)
    if many<=1+cs.length\/cs.length=0 then(mq,(1+cs.length:Nat),4)
    else match xP (l.getD (1+cs.length) [])with
     | none=>(mq,(1+cs.length:Nat),4)
     | some g=>
      if 1+cs.length+1<l.length then(mq,(1+cs.length+1:Nat),4)
      else if Dr ⟨w,cs,g⟩=false then(mq,0,2)else(⟨w,cs,g⟩,0,0)
def dL (x:L8×Value):LV:=[str x.1,x.2]
instance:je dL 2:=⟨λ_=>rfl⟩
def o7 (w:Wd) (r:List (L8×Value)) (l:List nO):Prop:=r.map (·.1)=l.map (·.name)/\∀(i:Nat) x o,r[i]? =some x->l[i]? =some o->aJ w x.2 aM 3 o.steps
def G5 (w:Wd) (v:Value) (l:List nO):Prop:=∃r,aJ w v dL 2 r/\o7 w r l
def gX (w:Wd) (v:Value) (p:aU):Prop:=∃vw vc,v=agg [vw,vc,I p.group]/\aJ w vw aM 3 p.wh/\G5 w vc p.cols
variable {w':Wd} {v:Value} {r:List (L8×Value)} {l:List nO} {p:aU}
def o7.len (h:o7 w r l):r.length=l.length:=by
 have:=zaw List.length h.1;simpa using this
def o7.keep (h:o7 w r l) (hk:Kept noB w w'):o7 w' r l:=⟨h.1,λi x o hx ho=>(h.2 i x o hx ho).keep hk⟩
def G5.keep (h:G5 w v l) (hk:Kept noB w w'):G5 w' v l:=by
 obtain⟨r,h1,h2⟩:=h;exact⟨r,h1.keep hk,h2.keep hk⟩
def gX.keep (h:gX w v p) (hk:Kept noB w w'):gX w' v p:=by
 obtain⟨vw,vc,e,h1,h2⟩:=h;exact⟨vw,vc,e,h1.keep hk,h2.keep hk⟩
def o7.nil:o7 w [] []:=⟨rfl,λi x o hx=>by simp at hx⟩
def o7.push {n:L8} {x:Value} {s:List bI} (h:o7 w r l) (hx:aJ w x aM 3 s):o7 w (r++[(n,x)]) (l++[⟨n,s⟩]):=by
 have hl:=h.len;refine⟨by rw[zai,zai,h.1];rfl,λi y o hy ho=>?_⟩
 by_cases hi:i<r.length
 .rw[zcj hi]at hy
  rw[zcj oM]at ho;exact h.2 i y o hy ho
 rw[zby oM]at hy ho;rw[<-hl]at ho
 have h0:i-r.length=0:=by
  cases hj:i-r.length with
  | zero=>rfl
  | succ j=>rw[hj]at hy;simp at hy
 rw[h0]at hy ho;injection hy with hy
 injection ho with ho
 subst hy;subst ho;exact hx
def o7.at (h:o7 w r l) {i:Nat} (hi:i<l.length): ∃x,r[i]? =some (l[i].name,x)/\aJ w x aM 3 l[i].steps:=by
 have hl:=h.len;have hr:r[i]? =some r[i]:=zaa oM
 have hn:r[i].1=l[i].name:=by
  have:=zaw (λz=>z[i]?) h.1;simp only[zbz]at this;rw[hr,zaa hi]at this;injection this
 exact⟨r[i].2,by rw[hr,<-hn],h.2 i _ _ hr (zaa hi)⟩
def eY (k:Nat) (x:aH):bC:=⟨x.row.take k,x.row.drop k,x.w⟩
def fq (g:Int) (n:Nat) (T:List aH):List aH×Int:=
 if g<0 then dh T
 else if(T.all λx=>qo g.toNat (n-g.toNat) (eY g.toNat x))=false then([],2)
 else if vO (n-g.toNat) (T.map (eY g.toNat))=false then([],50)
 else(lT (n-g.toNat) (T.map (eY g.toNat)),0)
def jR (g:Int) (n:Nat) (T m:List aH):List aH×Int:=
 if(fq g n (T++m)).2≠0 then([],(fq g n (T++m)).2)
 else if g<0 then dh m
 else dh ((fq g n (T++m)).1++Av (fq g n T).1)
variable {n:Nat} {T:List aH} {g:Int}
def mE (h:(T.all λx=>qo g.toNat (n-g.toNat) (eY g.toNat x))=true): ∀x∈T.map (eY g.toNat),x.key.length=g.toNat:=λx hx=>by
 obtain⟨y,hy,rfl⟩:=zaq.1 hx;have:=zaz.1 h y hy;unfold qo at this;rw[zbq,decide_eq_true_iff]at this;exact this.1.1
def jS (hg: ¬g<0):(fq g n T).2=0↔(T.all λx=>qo g.toNat (n-g.toNat) (eY g.toNat x))=true/\vO (n-g.toNat) (T.map (eY g.toNat))=true:=by
 unfold fq;rw[zab hg]
 split
 .rename_i h;rw[h];exact⟨λh=>zar h dC,λh=>zar h.1 dC⟩
 rename_i h
 split
 .rename_i h';rw[h'];exact⟨λh=>zar h dC,λh=>zar h.2 dC⟩
 rename_i h';exact⟨λ_=>⟨eq_true_of_ne_false h,eq_true_of_ne_false h'⟩,λ_=>rfl⟩
def jH (hg: ¬g<0) (h:(fq g n T).2=0):fq g n T=(lT (n-g.toNat) (T.map (eY g.toNat)),0):=by
 obtain⟨h1,h2⟩:=(jS hg).1 h;unfold fq;rw[zab hg,zab (by rw[h1];decide),zab (by rw[h2];decide)]
def V7 (h:(fq g n T).2=0):isZ (fq g n T).1:=by
 by_cases hg:g<0
 .unfold fq;rw[zac hg];exact yj
 rw[jH hg h];exact Ma (mE ((jS hg).1 h).1)
def afX (h:(fq g n T).2≠0):(fq g n T).1=[]:=by
 unfold fq at h |-
 split
 .rename_i hg;rw[zac hg]at h;rw[qz h]
 split
 .rfl
 split
 .rfl
 rename_i h1 h2 h3;rw[zab h1,zab h2,zab h3]at h;exact zar rfl h
variable {m:List aH}
def afY (h:(jR g n T m).2≠0):(jR g n T m).1=[]:=by
 unfold jR at h |-
 split
 .rfl
 rename_i h1;rw[zab h1]at h
 split
 .rename_i hg;rw[zac hg]at h;rw[qz h]
 rename_i hg;rw[zab hg]at h;rw[qz h]
def ac7 (h:(jR g n T m).2=0):(fq g n (T++m)).2=0:=by
 unfold jR at h
 split at h
 .exact h
 rename_i h1;exact zcr.1 h1
def Zd (hg: ¬g<0) (hT:(fq g n T).2=0):(jR g n T m).2=(fq g n (T++m)).2:=by
 unfold jR
 split
 .rfl
 rename_i h1;have h1:=zcr.1 h1;rw[h1,Cn];intro r;rw[ji,afk,jH hg h1,jH hg hT]
 rcases aa4 (sums:=n-g.toNat) (mE ((jS hg).1 h1).1) r with e1 | e1<;>rcases aa4 (sums:=n-g.toNat) (mE ((jS hg).1 hT).1) r with e2 | e2<;>(dsimp only;rw[e1,e2];decide)
def afZ (g:Int) (n:Nat):fq g n []=([],0):=by
 unfold fq
 split
 .rfl
 rfl
def dW (sums:Nat) (E:List bC) (k:List aC):List Int:=(List.range (sums+1)).map (jD E k)
def stE (sums:Nat) (E:List bC) (k:List aC):Option (List Int):=if((dW sums E k).any λn=>decide (n≠0))=true then some (dW sums E k)else none
def iE (ns:List Int) (k:List aC) (w:Int):List aH:=if ns.headD 0=0 then []else [⟨k++ns.map dn,w⟩]
def abm (o:Option (List Int)) (k:List aC) (w:Int):List aH:=iE (o.getD []) k w
def fU (l:List bC):List (List aC):=l.foldl (λks x=>if x.key∈ks then ks else ks++[x.key]) []
def nT (l:List bC) (x:bC):fU (l++[x])=if x.key∈fU l then fU l else fU l++[x.key]:=by
 unfold fU;rw[List.foldl_append];rfl
def MK {α:Type} {p:List α->Prop} (h0:p []) (h1: ∀l x,p l->p (l++[x])) (l:List α):p l:=by
 rw[<-List.reverse_reverse l]
 induction l.reverse with
 | nil=>exact h0
 | cons x t ih=>rw[List.reverse_cons];exact h1 _ _ ih
def oF {k:List aC} (l:List bC):k∈fU l↔∃x∈l,x.key=k:=by
 refine MK (p:=λl=>k∈fU l↔∃x∈l,x.key=k) (by simp[fU]) (λl x ih=>?_) l;rw[nT]
 have hr:(∃y∈l++[x],y.key=k)↔(∃y∈l,y.key=k)\/x.key=k:=by
  constructor
  .rintro⟨y,hy,e⟩
   rcases zbk.1 hy with h | h
   .exact .inl ⟨y,h,e⟩
   rw[zau]at h;subst h;exact .inr e
  rintro(⟨y,hy,e⟩ | e)
  .exact⟨y,zcn _ hy,e⟩
  exact⟨x,sM,e⟩
 rw[hr,<-ih]
 split
 .rename_i h
  exact⟨.inl,λh2=>h2.elim id λe=>by rw[<-e];exact h⟩
 rw[zbk,zau,eq_comm (a:=k) (b:=x.key)]
def Fv (l:List bC):(fU l).Nodup:=by
 refine MK (p:=λl=>(fU l).Nodup) (by simp[fU]) (λl x ih=>?_) l;rw[nT]
 split
 .exact ih
 rename_i h;rw[zeo];exact⟨ih,sM,λa ha b hb e=>by rw[zau]at hb;subst hb;subst e;exact h ha⟩
variable {sums:Nat} {E l:List bC} {k r:List aC}
def lg:(dW sums E k).length=sums+1:=by unfold dW;rw[zaf,zea]
def zF:(dW sums E k).headD 0=jD E k 0:=by
 unfold dW;rw[List.range_succ_eq_map,zav];rfl
def yE (hi:i<=sums):(dW sums E k)[i]? =some (jD E k i):=by
 unfold dW;rw[zbz,List.getElem?_range oM];rfl
def Bh (h:k∉fU l):dW sums (E++l) k=dW sums E k:=by
 unfold dW;refine zco λi _=>?_;rw[uI,uJ (l:=l) λx hx e=>h ((oF l).2 ⟨x,hx,e⟩),zgf]
def ac8 (h:k∉fU l):stE sums (E++l) k=stE sums E k:=by unfold stE;rw[Bh h]
def zG (h:stE sums E k=none) (hi:i<=sums):jD E k i=0:=by
 unfold stE at h
 split at h
 .cases h
 rename_i h2
 by_cases e:jD E k i=0
 .exact e
 refine zar (zfz.2 ⟨jD E k i,?_,zap e⟩) h2;exact zag (yE hi)
def ML {ns:List Int} (h:stE sums E k=some ns):ns=dW sums E k:=by
 unfold stE at h
 split at h
 .injection h with h;exact h.symm
 cases h
def V8 (w:Int):abm (stE sums E k) k w=iE (dW sums E k) k w:=by
 unfold abm;cases h:stE sums E k with
 | none=>
  unfold iE;rw[zF,zG h (zak _),zac rfl];rfl
 | some ns=>rw[ML h];rfl
def Ka {α β:Type} (p:α->Bool) (f:α->β): ∀ks:List α,(ks.flatMap λk=>if p k=true then [f k]else [])=(ks.filter p).map f
 | []=>rfl
 | k::ks=>by
  rw[zbh,Ka p f ks,zee]
  split<;>rfl
def af0 (w:Int):iE (dW sums E k) k w=if decide (jD E k 0≠0)=true then [⟨acu sums E k,w⟩]else []:=by
 unfold iE;rw[zF]
 by_cases h:jD E k 0=0
 .rw[zac h,zab (by simp[h])]
 rw[zab h,zac (by simp[h])];unfold acu dW;rw[zdh];rfl
def ac9 (ks:List (List aC)):(ks.flatMap λk=>iE (dW sums E k) k 1)=(ks.filter λk=>decide (jD E k 0≠0)).map λk=>⟨acu sums E k,1⟩:=by
 rw[<-Ka]
 congr 1
 funext k
 exact af0 1
variable {ks:List (List aC)}
def MN (hn:ks.Nodup) (hk: ∀k,jD E k 0≠0->k∈ks) (r:List aC):wtL (ks.flatMap λk=>iE (dW sums E k) k 1) r=wtL (lT sums E) r:=by
 rw[ac9];refine U5 (List.Perm.map _ ?_) r;refine(List.perm_ext_iff_of_nodup (hn.sublist zdz) ((oC (tK E)).sublist zdz)).2 λa=>?_;rw[zcf,zcf];constructor
 .rintro⟨_,h⟩;exact⟨Ec (zbd h),h⟩
 rintro⟨_,h⟩;exact⟨hk a (zbd h),h⟩
def ada (ns:List Int) (k r:List aC):wtL (iE ns k (-1)) r= -wtL (iE ns k 1) r:=by
 unfold iE
 split
 .rfl
 rw[wtL,wtL,wtL,wtL];split<;>rfl
def af2 (f g:List aC->List aH) (hf: ∀k r,wtL (f k) r= -wtL (g k) r) (h:List aC->List aH) (r:List aC): ∀ks:List (List aC),wtL (ks.flatMap λk=>f k++h k) r=wtL (ks.flatMap h) r-wtL (ks.flatMap g) r
 | []=>rfl
 | k::ks=>by
  rw[zbh,zbh,zbh,ji,ji,ji,ji,af2 f g hf h r ks,hf];omega
def af3 {done:List (List aC)} (hp:done.Perm (fU l)) (r:List aC):
    wtL (done.flatMap λk=>iE (dW sums E k) k (-1)++iE (dW sums (E++l) k) k 1) r=wtL (lT sums (E++l)) r-wtL (lT sums E) r:=by
  rw[af2 _ (λk=>iE (dW sums E k) k 1) (λk r=>ada _ k r)];have hnk:=oC (tK (E++l));have hdn:done.Nodup:=hp.nodup_iff.2 (Fv l);have hdm: ∀k,k∈done↔k∈fU l:=λk=>hp.mem_iff
  have iA: ∀k,k∈fU l->k∈rQ (E++l):=λk hk=>by
    obtain⟨x,hx,e⟩:=(oF l).1 hk;exact qb.2 ⟨x,zct _ hx,e⟩
  obtain⟨ot,hot⟩: ∃ot,ot=(rQ (E++l)).filter λk=>decide (k∉fU l):=⟨_,rfl⟩
  have hom: ∀k∈ot,k∈rQ (E++l)/\k∉fU l:=λk hk=>by
    rw[hot,zcf]at hk;exact⟨hk.1,zbd hk.2⟩
  have RI:(done++ot).Nodup:=by
    rw[zeo];refine⟨hdn,by rw[hot];exact hnk.sublist zdz,λa ha b hb e=>?_⟩;subst e;exact(hom a hb).2 ((hdm a).1 ha)
  have jE: ∀k,k∈rQ (E++l)->k∈done++ot:=λk hk=>by
    rw[zbk]
    by_cases h:k∈fU l
    . exact .inl ((hdm k).2 h)
    right;rw[hot,zcf];exact⟨hk,zap h⟩
  have h1:=MN (sums:=sums) (E:=E++l) RI (λk hk=>jE k (Ec hk)) r
  have h2:=MN (sums:=sums) (E:=E) RI (λk hk=>jE k (by
    obtain⟨x,hx,e⟩:=qb.1 (Ec hk);exact qb.2 ⟨x,zcn _ hx,e⟩)) r
  rw[zbt,ji]at h1 h2
  have h3:(ot.flatMap λk=>iE (dW sums (E++l) k) k 1)=ot.flatMap λk=>iE (dW sums E k) k 1:=by
    rw[List.flatMap_def,List.flatMap_def]
    congr 1
    exact zco λk hk=>by rw[Bh (hom k hk).2]
  rw[h3]at h1;omega
def Ze {done:List (List aC)} (hp:done.Perm (fU l)):
    dh (done.flatMap λk=>iE (dW sums E k) k (-1)++iE (dW sums (E++l) k) k 1)=dh (lT sums (E++l)++Av (lT sums E)):=
  AU λr=>by rw[af3 hp,ji,afk];omega
def adb (hE:vO sums E=true):vO sums (E++l)=true↔∀k∈fU l,∀n∈dW sums (E++l) k,aW n=true:=by
 rw[uK];constructor
 .intro h k _ n hn
  obtain⟨i,hi,rfl⟩:=zaq.1 hn;rw[zem]at hi;exact h k i oM
 intro h k i hi
 by_cases hk:k∈fU l
 .exact h k hk _ (zag (yE hi))
 rw[uI,uJ (l:=l) λx hx e=>hk ((oF l).2 ⟨x,hx,e⟩),zgf];exact uK.1 hE k i hi
def Qh {keys:Nat} (hE: ∀x∈E,x.key.length=keys) (hn:ks.Nodup) (hk: ∀k,stE sums E k≠none->k∈ks):
    dh (ks.flatMap λk=>abm (stE sums E k) k 1)=(lT sums E,0):=by
  rw[<-PU (Ma (sums:=sums) hE)];refine AU λr=>?_;rw[<-MN (sums:=sums) hn (λk h=>hk k λe=>h (zG e (zak _))) r]
  congr 2
  funext k
  exact V8 1
def yF (keys sums:Nat) (E l:List bC):List aH×Int:=
 if(l.all λx=>qo keys sums x)=false then([],2)else if vO sums (E++l)=false then([],50)else dh (lT sums (E++l)++Av (lT sums E))
def af4 {T m:List aH} (hg: ¬g<0) (hT:(fq g n T).2=0):jR g n T m=yF g.toNat (n-g.toNat) (T.map (eY g.toNat)) (m.map (eY g.toNat)):=by
 have hs:=jH hg hT;obtain⟨h1,h2⟩:=(jS hg).1 hT;have ha:((T++m).all λx=>qo g.toNat (n-g.toNat) (eY g.toNat x))=(m.all λx=>qo g.toNat (n-g.toNat) (eY g.toNat x)):=by rw[List.all_append,h1,zel]
 unfold jR yF;rw[hs];unfold fq;rw[zab hg,ha,zgg,zai];simp only[Function.comp_def]
 by_cases c1:(m.all λx=>qo g.toNat (n-g.toNat) (eY g.toNat x))=false
 .rw[zac c1,zac c1,zac dC]
 rw[zab c1,zab c1]
 by_cases c2:vO (n-g.toNat) (T.map (eY g.toNat)++m.map (eY g.toNat))=false
 .rw[zac c2,zac c2,zac dC]
 rw[zab c2,zab c2,zab (λh=>h rfl),zab hg]
def Tn: ∀{ks:List (List aC)} {r:List aC} {a:Nat},(∀(j:Nat) k,j<a->ks[j]? =some k->jC k r<0)->a<=ks.length->(∀k,ks[a]? =some k->jC r k<0)->yh r ks=ks.take a++r::ks.drop a
 | [],r,a,_,ha,_=>by
  simp at ha;subst ha;rfl
 | k::ks,r,0,_,_,h=>by
  rw[yh,zac (h k rfl)];rfl
 | k::ks,r,a+1,h1,ha,h2=>by
  have hk:=h1 0 k oM rfl;rw[yh,zab (fP.asymm hk),zab (fP.irr hk).symm,Tn (a:=a) (λj x hj hx=>h1 (j+1) x oM (by simpa using hx)) (by simpa using ha) (λx hx=>h2 x (by simpa using hx))];rfl
def V9: ∀{ks:List (List aC)} {r:List aC},ow ks->r∈ks->yh r ks=ks
 | k::ks,r,hs,h=>by
  obtain⟨h1,h2⟩:=zds.1 hs;rw[yh]
  rcases zba.1 h with e | e
  .subst e
   rw[zab (by rw[fP.self];omega),zac rfl]
  rw[zab (fP.asymm (h1 r e)),zab (fP.irr (h1 r e)).symm,V9 h2 e]
def Zf (l:List aH) (x:aH):lS (l++[x])=yh x.row (lS l):=by
 refine zo (mh _) (zn (mh _)) λr=>?_;rw[uG,zm,uG];constructor
 .rintro⟨y,hy,e⟩
  rcases zbk.1 hy with h | h
  .exact .inr ⟨y,h,e⟩
  rw[zau]at h;subst h;exact .inl e.symm
 rintro(e | ⟨y,hy,e⟩)
 .exact⟨x,sM,e.symm⟩
 exact⟨y,zcn _ hy,e⟩
def Ak (l:List aH) (ks:List (List aC)):List aH:=ks.map λr=>⟨r,wtL l r⟩
def ade (l:List aH) (ks:List (List aC)):(Ak l ks).length=ks.length:=by unfold Ak;rw[zaf]
def af5 {l:List aH} {x:aH} (h:(Ak l ks)[i]? =some x):ks[i]? =some x.row/\x.w=wtL l x.row:=by
 unfold Ak at h;rw[zbz]at h;obtain⟨r,hr,rfl⟩:=zbc.1 h;exact⟨hr,rfl⟩
def Zg {l:List aH} (hf: ∀r∈lS l,aW (wtL l r)=true):dh l=((Ak l (lS l)).filter λx=>decide (x.w≠0),0):=by
 unfold dh;rw[zac (zaz.2 hf)];unfold GJ Ak;rw[List.filter_map];rfl
def MO {l:List aH} (hr:aW (wtL l r)≠true):dh l=([],50):=qz λe=>hr (Cn.1 e r)
/-! Groups:keys as they come,with what they count and sum up. -/
def af6 (sums:Nat) (E:List bC) (ks:List (List aC)):List (List aC×List Int):=ks.map λk=>(k,dW sums E k)
def xk (L:List (List aC×List Int)) (w:Int):List aH:=L.flatMap λg=>iE g.2 g.1 w
def adf {keys:Nat} (hk: ∀x∈l,x.key.length=keys):dh (xk (af6 sums l (fU l)) 1)=(lT sums l,0):=by
 rw[<-Qh (sums:=sums) hk (Fv l) (λk h=>(oF l).2 ?_)]
 .unfold xk af6
  rw[List.flatMap_map]
  congr 2
  funext k
  exact(V8 1).symm
 refine Classical.byContradiction λhm=>h ?_;unfold stE;rw[zab];intro ha;obtain⟨n,hn,h0⟩:=zfz.1 ha;obtain⟨i,_,rfl⟩:=zaq.1 hn;exact zbd h0 (uJ λx hx e=>hm ⟨x,hx,e⟩)
def fC (cols:List bY) (r:List aC):List nO->List aC×Int
 | []=>([],0)
 | o::l=>if(mJ cols o.steps r).2≠0 then([],(mJ cols o.steps r).2)else if(fC cols r l).2≠0 then([],(fC cols r l).2)else((mJ cols o.steps r).1::(fC cols r l).1,0)
def qV (cols:List bY) (wh:List bI) (r:List aC):aC×Int:=if wh=[]then(⟨false,1,[]⟩,0)else mJ cols wh r
def gK (cols:List bY) (p:aU) (r:List aC):List aC×Bool×Int:=
 if fH cols r≠0 then([],false,fH cols r)
 else if(qV cols p.wh r).2≠0\/(qV cols p.wh r).1.null=true\/(qV cols p.wh r).1.n=0 then([],false,(qV cols p.wh r).2)
 else if(fC cols r p.cols).2≠0 then([],false,(fC cols r p.cols).2)
 else((fC cols r p.cols).1,true,0)
def dN (cols:List bY) (p:aU):List aH->List aH×Int
 | []=>([],0)
 | x::l=>
  if(gK cols p x.row).2.2≠0 then([],(gK cols p x.row).2.2)
  else if(dN cols p l).2≠0 then([],(dN cols p l).2)
  else if(gK cols p x.row).2.1=true then(⟨(gK cols p x.row).1,x.w⟩::(dN cols p l).1,0)else((dN cols p l).1,0)
def gP (cols:List bY) (p:aU) (T l:List aH):List aH×Int:=
 if(dN cols p l).2≠0 then([],(dN cols p l).2)else jR p.group p.cols.length T (dN cols p l).1
def iP (cols:List bY) (p:aU) (T l:List aH):List aH:=if(gP cols p T l).2=0 then T++(dN cols p l).1 else T
def iQ (cols:List bY) (p:aU) (l:List aH):List aH×Int:=
 if(bX cols p).2≠0 then([],(bX cols p).2)else if(gP cols p [] l).2≠0 then([],(gP cols p [] l).2)else((fq p.group p.cols.length (iP cols p [] l)).1,0)
variable {cols:List bY}
def Wh {l:List aH} (h:(gP cols p T l).2=0):(dN cols p l).2=0/\gP cols p T l=jR p.group p.cols.length T (dN cols p l).1:=by
 unfold gP at h |-
 split at h
 .rename_i h1;exact zar h h1
 rename_i h1;rw[zab h1];exact⟨zcr.1 h1,rfl⟩
def Wi {l:List aH} (hT:(fq p.group p.cols.length T).2=0):(fq p.group p.cols.length (iP cols p T l)).2=0:=by
 unfold iP
 split
 .rename_i h
  obtain⟨_,e⟩:=Wh h;rw[e]at h;exact ac7 h
 exact hT
/-! The pieces of the stage's theorem:all that were put in,all that were answered. -/
structure atX where
 T:List aH
 all:List aH
 outs:List aH
/-! Items that are there and then not. -/
/-! Columns of int64 in the place of int32. -/
/-! A column that is not used,behind the others. -/
def Fw: ∀l:List (L8),tT l=iZ 10 (l++[[]])
 | []=>rfl
 | [w]=>by simp[tT,iZ]
 | w::x::l=>by
  have ih:=Fw (x::l);unfold tT at ih ⊢;rw[zbh,ih];show w++[10]++_=w++10::iZ 10 (x::l++[[]])
  simp
def O4 {ls:List (L8)} (h: ∀w∈ls,∀c∈w,c≠10):jk (tT ls)=(ls,true):=by
 have hs:cB 10 (tT ls)=ls++[[]]:=by
  rw[Fw];refine Ey sM λw hw=>?_
  rcases zbk.1 hw with h1 | h1
  .exact h w h1
  rw[zau.1 h1];intro c hc;cases hc
 unfold jk;rw[hs,zac sM];simp
def G6 (s:L8):cB 10 s≠[]:=λe=>by
 have:=Ez 10 s;cases s with
 | nil=>cases e
 | cons c l=>rw[e]at this;cases this
/-! Lines bear no line feed. -/
def MP (n:Int): ∀c∈itoa n,c≠10:=by
 intro c hc e;subst e
 have key: ∀u,(10:UInt8)∉decDigits u:=λu h=>by
  have:=pE u _ h;simp[tH]at this
 unfold itoa at hc
 split at hc
 .rcases zba.1 hc with h | h
  .exact zar h dC
  exact key _ h
 exact key _ hc
def Qi {d:Nat} (h:d<16):ni d≠10:=by
 have key: ∀d:Fin 16,ni d.val≠10:=dC;exact key ⟨d,h⟩
def Zh (c:UInt8): ∀x∈iM c,x≠10:=by
 have key: ∀i:Fin 256,∀x∈iM (UInt8.ofNat i.val),x≠10:=by decide+kernel
 have:=key ⟨c.toNat,c.toNat_lt⟩;simpa using this
def af7 {x:bI} (h:dP x=true): ∀c∈gU x,c≠10:=by
 obtain⟨k,n,s⟩:=x;unfold dP at h;unfold gU;dsimp only at h |-
 by_cases k1:k=1
 .rw[zac k1]
  intro c hc
  rcases zba.1 hc with rfl | hc
  .decide
  exact MP n c hc
 rw[zab k1]at h |-
 by_cases k2:k=2
 .rw[zac k2];exact MP n
 rw[zab k2]at h |-
 by_cases k3:k=3
 .rw[zac k3]
  split<;>decide
 rw[zab k3]at h |-
 by_cases k4:k=4
 .rw[zac k4,BQ]
  intro c hc
  rcases zba.1 hc with rfl | hc
  .decide
  rcases zbk.1 hc with hc | hc
  .obtain⟨y,_,hy⟩:=zca.1 hc
   exact Zh y c hy
  simp only[zau]at hc;subst hc;decide
 rw[zab k4]at h |-
 by_cases k5:k=5
 .rw[zac k5]
  intro c hc
  rcases zba.1 hc with rfl | hc
  .decide
  obtain⟨y,_,hy⟩:=zca.1 hc;simp only[zba,zan,or_false]at hy
  rcases hy with rfl | rfl
  .exact Qi (by have:=y.toNat_lt;omega)
  exact Qi oM
 rw[zab k5]at h |-
 by_cases k6:k=6
 .subst k6
  rw[zac rfl]at h ⊢;simp only[decide_eq_true_eq]at h;obtain⟨_,hn⟩:=h;have :n=1\/n=3\/n=4\/n=5:=by omega
  rcases this with rfl | rfl | rfl | rfl<;>decide
 rw[zab k6]at h ⊢;simp only[decide_eq_true_eq]at h;obtain⟨ha,hb,_,_⟩:=h;have :k=7\/k=8\/k=9\/k=10\/k=11\/k=12\/k=13\/k=14\/k=15\/k=16\/k=17\/k=18:=by omega
 rcases this with rfl | rfl | rfl | rfl | rfl | rfl | rfl | rfl | rfl | rfl | rfl | rfl<;>decide
def Wj: ∀{ws:List (L8)},(∀w∈ws,∀c∈w,c≠10)->∀c∈iZ 32 ws,c≠10
 | [],_=>by intro c hc;cases hc
 | [w],h=>h w zao
 | w::x::l,h=>by
  intro c hc;have hc:c∈w++32::iZ 32 (x::l):=hc
  rcases zbk.1 hc with h1 | h1
  .exact h w zao c h1
  rcases zba.1 h1 with rfl | h1
  .decide
  exact Wj (λy hy=>h y (zat _ hy)) c h1
def aZ (l:List bI):Prop:=∀x∈l,fits x.n
def MQ {l:List bI} (h:(iO l).2=0):l.length<=64/\(∀x∈l,dP x=true)/\iO l=(iZ 32 (l.map gU),0):=by
 unfold iO at h |-
 split at h
 .cases h
 rename_i h1
 split at h
 .cases h
 rename_i h2;rw[zab h1,zab h2];rw[Bool.not_eq_false,zaz]at h2;exact⟨oM,h2,rfl⟩
def Wm {l:List bI} (h:(iO l).2=0): ∀c∈(iO l).1,c≠10:=by
 obtain⟨_,h2,h3⟩:=MQ h;rw[h3]
 exact Wj λw hw=>by
  obtain⟨x,hx,rfl⟩:=zaq.1 hw;exact af7 (h2 x hx)
def Qj {l:List bI} (h:(iO l).2=0) (hf:aZ l):d9 (iO l).1=(l,0):=by
 obtain⟨h1,h2,h3⟩:=MQ h;rw[h3];exact(Ob (λx hx=>⟨h2 x hx,hf x hx⟩) h1).2.1
def Wn {s:L8} (h:eU s=true):(∀c∈s,c≠10)/\(∀c∈s,c≠32):=by
 unfold eU at h;simp only[zbq,zaz]at h;have key: ∀i:Fin 256,mY (UInt8.ofNat i.val)=true->UInt8.ofNat i.val≠10/\UInt8.ofNat i.val≠32:=by decide+kernel
 have H: ∀c:UInt8,mY c=true->c≠10/\c≠32:=λc hc=>by
  have:=key ⟨c.toNat,c.toNat_lt⟩;simp only[UInt8.ofNat_toNat]at this;exact this hc
 exact⟨λc hc=>(H c (h.2 c hc)).1,λc hc=>(H c (h.2 c hc)).2⟩
def zH (b t:L8):uN b (b++t)=some t:=by
 unfold uN;rw[List.take_left',zac rfl,List.drop_left']
 .rfl
 rfl
def Wo {b s t:L8} (h:uN b s=some t):s=b++t:=by
 unfold uN at h
 split at h
 .rename_i h1
  injection h with h
  rw[<-h]
  conv=>lhs;rw[<-zbs b.length s,h1]
 cases h
def Zi:(d9 mD).2=4:=by rw[<-Qf];decide+kernel
def Zj {l:List bI} (h:(iO l).2=0) (hf:aZ l):GZ (xg l)=some l:=by
 unfold GZ xg;rw[zH,zdy]
 by_cases h0:l=[]
 .rw[zac h0,zab dC,zac rfl,h0]
 rw[zab h0];have hb:=Qj h hf
 have h1:(iO l).1≠[]:=λe=>by
  rw[e]at hb;have :d9 []=([],0):=rfl;rw[this]at hb;injection hb with hb
  exact h0 hb.symm
 have h2:(iO l).1≠mD:=λe=>by
  rw[e]at hb;have:=Zi;rw[hb]at this;cases this
 rw[zab h1,zab h2,hb,zac rfl]
def Wp {s t:L8} (h: ∀c∈s,c≠32):zD (s++[32]++t)=some (s,t):=by
 have hi:(s++[32]++t).idxOf? 32=some s.length:=by
  rw[List.idxOf?,zbm,List.findIdx?_append]
  have :s.findIdx? (· ==32)=none:=by
   rw[zcx];intro c hc;simpa using h c hc
  rw[this];simp[List.findIdx?_cons]
 unfold zD;rw[hi,zdu,zbm]
 congr 2
 .rw[List.take_left'];rfl
 rw[<-zbm];exact List.drop_left' sM
def af8 {o:nO} (hb:MI o=false) (hn:eU o.name=true) (hf:aZ o.steps):MJ (tF o)=some o:=by
 have hbb: ¬((iO o.steps).2≠0\/(iO o.steps).1=[]):=of_decide_eq_false hb;have h0:(iO o.steps).2=0:=Classical.byContradiction λh=>hbb (.inl h);have h1:(iO o.steps).1≠[]:=λh=>hbb (.inr h);have hp:=Qj h0 hf
 have hs:o.steps≠[]:=λe=>by
  rw[e]at h1;exact h1 rfl
 unfold MJ tF;have e:Zc++o.name++[32]++(iO o.steps).1=Zc++(o.name++[32]++(iO o.steps).1):=by simp only[zbm]
 rw[e,zH,zdy,Wp (Wn hn).2,zdy];dsimp only;rw[hp,zac ⟨rfl,hs,hn⟩]
def Zk (h1: -1<=g) (h2:g<=1048576):xP (yD g)=some g:=by
 unfold xP yD;rw[zH,zdy]
 by_cases hg:g<0
 .rw[zac hg,zac rfl]
  congr 1
  omega
 rw[zab hg];obtain⟨n,rfl⟩:=zfi (show 0<=g from oM);have hit:itoa (n:Int)=decDigits n:=by unfold itoa;rw[zab hg];rfl
 have iN:itoa (n:Int)≠mD:=λe=>by
  rw[hit]at e;have:=pE n 110 (by rw[e];decide);exact zar this dC
 rw[zab iN,hit];unfold pO;rw[xG,zdy,zac ⟨rfl,oM⟩];rfl
def Zl {t:L8} (h:(d9 t).2=0) (h0:t≠[]):(d9 t).1≠[]:=λe=>by
 have ht:=aap (s:=t) (l:=(d9 t).1) (by rw[<-h]);rw[e]at ht;injection ht with ht
 exact h0 ht.symm
def Qk: ∀{cs:List nO} {g:Int},(∀o∈cs,MI o=false/\eU o.name=true/\aZ o.steps)->lC (cs.map tF++[yD g])=cs
 | [],g,_=>by
  have :MJ (yD g)=none:=by
   unfold MJ uN;rw[zab]
   .rfl
   unfold yD MH Zc;simp
  show lC [yD g]=[]
  unfold lC;rw[this]
 | o::cs,g,h=>by
  obtain⟨h1,h2,h3⟩:=h o zao;rw[zav,zcd];unfold lC;rw[af8 h1 h2 h3];dsimp only;rw[Qk λx hx=>h x (zat _ hx)]
def ru (h:j3 p=true):(1<=p.cols.length/\p.cols.length<=16/\ -1<=p.group/\p.group<=p.cols.length)/\∀o∈p.cols,eU o.name=true:=by
 unfold j3 at h;simp only[zbq,zaz,decide_eq_true_eq]at h;exact⟨h.1.1,λo ho=>(h.1.2 o ho).1⟩
def rz:Dr p=true↔j3 p=true/\(iO p.wh).2=0/\∀o∈p.cols,MI o=false:=by
 unfold Dr;simp only[zbq,zaz,decide_eq_true_eq,zdg,and_assoc]
def adg (h:Dr p=true): ∀w∈lJ p,∀c∈w,c≠10:=by
 obtain⟨h1,h2,h3⟩:=rz.1 h;have hn:=(ru h1).2;have key: ∀{a b:L8},(∀c∈a,c≠10)->(∀c∈b,c≠10)->∀c∈a++b,c≠10:=λha hb c hc=>(zbk.1 hc).elim (ha c) (hb c);intro w hw;unfold lJ at hw
 rcases zba.1 hw with rfl | hw
 .unfold xg
  refine key dC ?_
  split
  .decide
  exact Wm h2
 rcases zbk.1 hw with hw | hw
 .obtain⟨o,ho,rfl⟩:=zaq.1 hw
  have hb: ¬((iO o.steps).2≠0\/(iO o.steps).1=[]):=of_decide_eq_false (h3 o ho);unfold tF;exact key (key (key dC (Wn (hn o ho)).1) dC) (Wm (Classical.byContradiction λh=>hb (.inl h)))
 rw[zau.1 hw];unfold yD;refine key dC ?_
 split
 .decide
 exact MP _
def adh (h:Dr p=true) (hw:aZ p.wh) (hc: ∀o∈p.cols,aZ o.steps) (hl:(tT (lJ p)).length<=1048576):qC (tT (lJ p))=(p,0,0):=by
 obtain⟨h1,h2,h3⟩:=rz.1 h;obtain⟨⟨n1,n2,n3,n4⟩,hn⟩:=ru h1;have hlen:(lJ p).length=p.cols.length+2:=by unfold lJ;simp
 have hcs:lC (((lJ p).take (lJ p).length).drop 1)=p.cols:=by
  rw[zbr];exact Qk λo ho=>⟨h3 o ho,hn o ho,hc o ho⟩
 have hg:(lJ p).getD (1+p.cols.length) []=yD p.group:=by
  unfold lJ;rw[zax,zgh,zck,zby sM];simp
 unfold qC;rw[zab oM,O4 (adg h)];dsimp only;rw[zac rfl,zab oM];have Yc:(lJ p).getD 0 []=xg p.wh:=rfl;rw[Yc,Zj h2 hw];dsimp only;rw[hcs,zab oM,hg,Zk n3 oM];dsimp only;rw[zab oM,zab (by show ¬Dr p=false;rw[h];decide)]
def Kc (sep:UInt8): ∀s:L8,(cB sep s).length=s.count sep+1
 | []=>rfl
 | c::l=>by
  have ih:=Kc sep l;unfold cB
  split
  .rename_i h;subst h;simp[ih]
  rename_i h
  split
  .rename_i w ws hw
   rw[hw]at ih;rw[List.count_cons_of_ne (by simpa using h)];simpa using ih
  rename_i hw;rw[hw]at ih;simp at ih
def El (c:aC):Prop:=fits c.n/\c.s.length<=1024
def Fx:El cell0:=⟨⟨dC,dC⟩,dC⟩
def adi {l:List bI} (hf:jw r) (hx:aZ l):El (mJ cols l r).1:=by
 unfold mJ
 split
 .exact Fx
 rename_i h1
 split
 .exact Fx
 rename_i h2;cases hr:BP cols r [] l with
 | none=>exact Fx
 | some st=>
  have ht: ∃t,runT cols [] l=some [t]:=by
   unfold iJ at h1
   split at h1
   .exact zar (show(5:Int)≠0 from dC) h1
   split at h1
   .rename_i t ht;exact⟨t,ht⟩
   exact zar (show(220:Int)≠0 from dC) h1
  obtain⟨t,ht⟩:=ht;have hT:=Qg (Decidable.of_not_not h2) hf hx Typed.nil ht hr;show El (st.getD 0 cell0)
  cases hs:st[0]? with
  | none=>rw[zax,hs];exact Fx
  | some c=>
   rw[zax,hs];have:=hT.2 0 t c rfl hs;exact⟨this.2,Ow this.1⟩
def Ql {cols:List bY} (hf:jw r): ∀{l:List nO},(∀o∈l,aZ o.steps)->(∀c∈(fC cols r l).1,El c)/\((fC cols r l).2=0->(fC cols r l).1.length=l.length)
 | [],_=>⟨λc hc=>zar hc zan,λ_=>rfl⟩
 | o::l,h=>by
  obtain⟨i1,i2⟩:=Ql hf (l:=l) λo ho=>h o (zat _ ho);rw[fC]
  split
  .rename_i h1;exact⟨λc hc=>zar hc zan,λh2=>zar h2 h1⟩
  split
  .rename_i h1;exact⟨λc hc=>zar hc zan,λh2=>zar h2 h1⟩
  rename_i h1 h2;refine⟨λc hc=>?_,λ_=>?_⟩
  .rcases zba.1 hc with rfl | hc
   .exact adi hf (h o zao)
   exact i1 c hc
  show _+1=_+1
  rw[i2 (Decidable.of_not_not h2)]
def Bj (n:Nat) (x:aH):Prop:=fits x.w/\x.row.length=n/\∀c∈x.row,El c
def af9 {cols:List bY} {p:aU} (hf:jw r) (hp: ∀o∈p.cols,aZ o.steps):(∀c∈(gK cols p r).1,El c)/\((gK cols p r).2.1=true->(gK cols p r).1.length=p.cols.length):=by
 obtain⟨i1,i2⟩:=Ql (cols:=cols) hf hp;unfold gK
 split
 .exact⟨λc hc=>zar hc zan,λh=>Bool.noConfusion h⟩
 split
 .exact⟨λc hc=>zar hc zan,λh=>Bool.noConfusion h⟩
 split
 .exact⟨λc hc=>zar hc zan,λh=>Bool.noConfusion h⟩
 rename_i h;exact⟨i1,λ_=>i2 (Decidable.of_not_not h)⟩
def fJ (x:aH):Prop:=fits x.w/\jw x.row
def CO {cols:List bY} {p:aU} (hp: ∀o∈p.cols,aZ o.steps): ∀{l:List aH},(∀x∈l,fJ x)->∀x∈(dN cols p l).1,Bj p.cols.length x
 | [],_,x,hx=>zar hx zan
 | y::l,h,x,hx=>by
  have ih:=CO (cols:=cols) hp (l:=l) λz hz=>h z (zat _ hz);obtain⟨h1,h2⟩:=h y zao;obtain⟨m1,m2⟩:=af9 (cols:=cols) (p:=p) h2 hp;rw[dN]at hx
  split at hx
  .exact zar hx zan
  split at hx
  .exact zar hx zan
  split at hx
  .rename_i hb
   rcases zba.1 hx with rfl | hx
   .exact⟨h1,m2 hb,m1⟩
   exact ih x hx
  exact ih x hx
def rA {cols:List bY} {p:aU}: ∀l:List aH,(dN cols p l).1.length<=l.length
 | []=>zbj _
 | y::l=>by
  have ih:=rA (cols:=cols) (p:=p) l;rw[dN]
  split
  .exact zak _
  split
  .exact zak _
  split
  .simp only[zas];omega
  simp only[zas];omega
/-! The plans. -/
end Go.Proofs.Mw
