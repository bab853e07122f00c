/-
 The columns and rows of the statements on drawn expressions,and what such an expression gives,told plainly. No program stands here.
-/
import Derived.Test.YtkfpleidaoaonaaGreatDoorNw1
import Derived.Test.YtkfpleidaoaonaaGreatDoorNw12
import Derived.Test.YtkfpleidaoaonaaGreatDoorNw7
import Derived.Test.YtkfpleidaoaonaaGreatDoorNw6
import Derived.Test.YtkfpleidaoaonaaGreatDoorNw2
import Derived.Test.YtkfpleidaoaonaaGreatDoorNw3
import Derived.Laws.Externs
import Derived.MapKept
import Derived.Test.YtkfpleidaoaonaaGreatDoorNw4
set_option linter.unusedVariables false
set_option linter.unusedSimpArgs false
namespace Go.Proofs.YtkfpleidaoaonaaGreatDoor
open Go Go.Mw Go.Lib
set_option maxRecDepth 4000
def ai4 (b:Bool):Int:=if b then 3 else 2
def ai5 (b:Bool):List Int:=[ai4 b,1,4,5,3]
def ai6 (b:Bool) (i:Nat):Int:=(ai5 b).getD (i%5) 0
def YR (b:Bool) (i:Nat):bF:=⟨((i+1:Nat):Int),[],⟨ai6 b i,decide ((4:Int)<i)⟩,cell0⟩
def akZ (b:Bool):List bF:=(List.range 10).map (YR b)
structure apz (k:Int) (n:Bool) (l:List aZ):Prop where
 may: ∀x∈l,iE x=true/\fits x.n
 run: ∀b st,runT (akZ b) st l=some (st++[⟨k,n⟩])
structure Gq (m:Nat) (r:List ay):Prop where
 len:r.length=m
 fit:jI r
 ok: ∀b (i:Nat) c,r[i]? =some c->okC (YR b i).type c
theorem Gq.nil:Gq 0 []:=⟨rfl,λ_ h=>zap h zao,λ_ i c h=>by simp at h⟩
theorem Gq.push {i:Nat} {r:List ay} {c:ay} (h:Gq i r) (hc:fits c.n/\∀b,okC (YR b i).type c):Gq (i+1) (r++[c]):=by
 refine⟨by rw[zad,h.len];rfl,λy hy=>?_,λb j d hd=>?_⟩
 .rcases zbi.1 hy with h1 | h1
  .exact h.fit y h1
  rw[zar.1 h1];exact hc.1
 rcases zdr j r.length with hj | hj
 .rw[zbz hj]at hd;exact h.ok b j d hd
 rw[zbv hj]at hd;cases hk:j-r.length with
 | zero=>
  rw[hk]at hd;have e:j=i:=by have:=h.len;omega
  simp only[zcc,Option.some.injEq]at hd;rw[e,<-hd];exact hc.2 b
 | succ m=>rw[hk]at hd;simp at hd
theorem Nt {cols:List bF} {r:List ay} (hr:dY cols r=0) (hf:jI r): ∀{l:List aZ} {ts ts':List bN} {st st':List ay},(∀x∈l,fits x.n)->Typed ts st->runT cols ts l=some ts'->zS cols r st l=some st'->Typed ts' st'
 | [],ts,ts',st,st',_,hT,h1,h2=>by
  injection h1 with h1
  injection h2 with h2
  rw[<-h1,<-h2];exact hT
 | x::l,ts,ts',st,st',hx,hT,h1,h2=>by
  rw[runT]at h1;rw[zS]at h2;obtain⟨t1,e1,h1⟩:=zdq.1 h1;obtain⟨s1,e2,h2⟩:=zdq.1 h2;obtain⟨_,_,h3⟩:=Jg hr hf (hx x zae) hT e1;rw[FZ]at e2;obtain⟨c,e3,e4⟩:=zav.1 e2;have h4:=h3 c e3;rw[e4]at h4;exact Nt hr hf (λy hy=>hx y (zag _ hy)) h4 h1 h2
/-! Wider columns,and cells that are not used. -/
/-! Expressions one behind the other. -/
/-! What is drawn:of a kind,and so deep. -/

structure j4 where
 name:L8
 steps:List aZ
structure aW where
 wh:List aZ
 cols:List j4
 group:Int
theorem j4.ext' {a b:j4} (h1:a.name=b.name) (h2:a.steps=b.steps):a=b:=by cases a;cases b;simp_all
theorem aW.ext' {a b:aW} (h1:a.wh=b.wh) (h2:a.cols=b.cols) (h3:a.group=b.group):a=b:=by cases a;cases b;simp_all
instance:DecidableEq j4:=λa b=>decidable_of_iff (a.name=b.name/\a.steps=b.steps) ⟨λh=>j4.ext' h.1 h.2,λh=>by subst h;exact⟨rfl,rfl⟩⟩
instance:DecidableEq aW:=λa b=>decidable_of_iff (a.wh=b.wh/\a.cols=b.cols/\a.group=b.group) ⟨λh=>aW.ext' h.1 h.2.1 h.2.2,λh=>by subst h;exact⟨rfl,rfl,rfl⟩⟩
def lI:aW:=⟨[],[],0⟩
def aaf (c:UInt8):Bool:=decide (97<=c.toNat/\c.toNat<=122)
def uD (c:UInt8):Bool:=aaf c||decide (c=95)||tX c
def gZ (s:L8):Bool:=decide (1<=s.length/\s.length<=32)&&aaf (s.getD 0 0)&&s.all uD
def mW:L8:=[99,111,117,110,116]
def lJ:L8:=[110,111,110,101]
def Qd:L8:=[119,104,101,114,101,32]
def Wz:L8:=[111,117,116,32]
def Kj:L8:=[103,114,111,117,112,32]
def uW (p:aW):Bool:=
 decide (1<=p.cols.length/\p.cols.length<=16/\ -1<=p.group/\p.group<=p.cols.length)&&p.cols.all (λo=>gZ o.name&& !(decide (0<=p.group)&&decide (o.name=mW)))&&decide ((p.cols.map (·.name)).Nodup)
def YS (t:bN):ay:=⟨nC t&&t.null,0,[]⟩
def EL (id:Int) (name:L8) (t:bN):bF:=⟨id,name,t,YS t⟩
def oF:bN:=⟨3,false⟩
def zi (cols:List bF) (group:Int):Nat->List j4->List bF->List bF×Int
  | i,[],acc=>(if group=i then acc++[EL (group+1) mW oF]else acc,0)
  | i,o::l,acc=>
    if(iA cols o.steps).2≠0 then([],(iA cols o.steps).2)
    else if 0<=group/\group<=i then
      (if(iA cols o.steps).1.kind≠3 then([],230)
       else zi cols group (i+1) l ((if(i:Int)=group then acc++[EL (i+1) mW oF]else acc)++[EL (i+2) o.name oF]))
    else zi cols group (i+1) l (acc++[EL (i+1) o.name (iA cols o.steps).1])
def dB (cols:List bF) (p:aW):List bF×Int:=
 if uW p=false then([],230)
 else if p.wh≠[]/\(iA cols p.wh).2≠0 then([],(iA cols p.wh).2)
 else if p.wh≠[]/\(iA cols p.wh).1.kind≠1 then([],230)
 else zi cols p.group 0 p.cols []
def Kk (p:aW):List Int:=qR (p.wh++p.cols.flatMap (·.steps))
/-! Texts. -/
def rP (o:j4):L8:=Wz++o.name++[32]++(iH o.steps).1
def Kl (o:j4):Bool:=decide ((iH o.steps).2≠0\/(iH o.steps).1=[])
def uE (l:List aZ):L8:=Qd++(if l=[]then lJ else(iH l).1)
def vJ (g:Int):L8:=Kj++(if g<0 then lJ else itoa g)
def jY (p:aW):List (L8):=uE p.wh::(p.cols.map rP++[vJ p.group])
def rV (l:List (L8)):L8:=l.flatMap (· ++[10])
def BG (p:aW):Bool:=uW p&&decide ((iH p.wh).2=0)&&p.cols.all (λo=> !Kl o)
def Gr (p:aW):L8×Int:=if BG p=false then([],2)else(rV (jY p),0)
def iW (s:L8):List (L8)×Bool:=if(bY 10 s).getLast?=some []then((bY 10 s).dropLast,true)else(bY 10 s,false)
def sN (b s:L8):Option (L8):=if s.take b.length=b then some (s.drop b.length)else none
def EM (s:L8):Option (List aZ):=(sN Qd s).bind λt=>if t=[]then none else if t=lJ then some []else if(dL t).2=0 then some (dL t).1 else none
def xS (s:L8):Option (L8×L8):=(s.idxOf? 32).map λi=>(s.take i,s.drop (i+1))
def Km (s:L8):Option j4:=(sN Wz s).bind λt=>(xS t).bind λx=>if(dL x.2).2=0/\(dL x.2).1≠[]/\gZ x.1=true then some ⟨x.1,(dL x.2).1⟩else none
def oG (t:L8):Option Nat:=(lW t 0).bind λn=>if decDigits n=t/\n<=1048576 then some n else none
def uX (s:L8):Option Int:=(sN Kj s).bind λt=>if t=lJ then some (-1)else(oG t).map (λn:Nat=>((n:Nat):Int))
def jT:List (L8)->List j4
 | []=>[]
 | s::l=>match Km s with
  | some o=>o::jT l
  | none=>[]
def pI (s:L8):aW×Int×Int:=
 if 1048576<s.length then(lI,0,5)
 else
  let l:=(iW s).1
  let many:=if(iW s).2=true then l.length else l.length-1
  if many<1 then(lI,0,4)
  else match EM (l.getD 0 [])with
   | none=>(lI,0,4)
   | some w=>
    let cs:=jT ((l.take many).drop 1)
    if many<=1+cs.length\/cs.length=0 then(lI,(1+cs.length:Nat),4)
    else match uX (l.getD (1+cs.length) [])with
     | none=>(lI,(1+cs.length:Nat),4)
     | some g=>
      if 1+cs.length+1<l.length then(lI,(1+cs.length+1:Nat),4)
      else if BG ⟨w,cs,g⟩=false then(lI,0,2)else(⟨w,cs,g⟩,0,0)
def dU (x:L8×Value):LV:=[str x.1,x.2]
instance:jf dU 2:=⟨λ_=>rfl⟩
def nV (w:Wd) (r:List (L8×Value)) (l:List j4):Prop:=r.map (·.1)=l.map (·.name)/\∀(i:Nat) x o,r[i]? =some x->l[i]? =some o->aQ w x.2 aP 3 o.steps
def EN (w:Wd) (v:Value) (l:List j4):Prop:=∃r,aQ w v dU 2 r/\nV w r l
def ji (w:Wd) (v:Value) (p:aW):Prop:=∃vw vc,v=agg [vw,vc,I p.group]/\aQ w vw aP 3 p.wh/\EN w vc p.cols
section
variable {w w':Wd} {v:Value} {r:List (L8×Value)} {l:List j4} {p:aW}
theorem nV.len (h:nV w r l):r.length=l.length:=by
 have:=zbb List.length h.1;simpa using this
theorem nV.keep (h:nV w r l) (hk:Kept noB w w'):nV w' r l:=⟨h.1,λi x o hx ho=>(h.2 i x o hx ho).keep hk⟩
theorem EN.keep (h:EN w v l) (hk:Kept noB w w'):EN w' v l:=by
 obtain⟨r,h1,h2⟩:=h;exact⟨r,h1.keep hk,h2.keep hk⟩
theorem ji.keep (h:ji w v p) (hk:Kept noB w w'):ji w' v p:=by
 obtain⟨vw,vc,e,h1,h2⟩:=h;exact⟨vw,vc,e,h1.keep hk,h2.keep hk⟩
theorem nV.nil:nV w [] []:=⟨rfl,λi x o hx=>by simp at hx⟩
theorem nV.push {n:L8} {x:Value} {s:List aZ} (h:nV w r l) (hx:aQ w x aP 3 s):nV w (r++[(n,x)]) (l++[⟨n,s⟩]):=by
 have hl:=h.len;refine⟨by rw[zau,zau,h.1];rfl,λi y o hy ho=>?_⟩
 by_cases hi:i<r.length
 .rw[zbz hi]at hy
  rw[zbz oM]at ho;exact h.2 i y o hy ho
 rw[zbv oM]at hy ho;rw[<-hl]at ho
 have h0:i-r.length=0:=by
  cases hj:i-r.length with
  | zero=>rfl
  | succ j=>rw[hj]at hy;simp at hy
 rw[h0]at hy ho;injection hy with hy
 injection ho with ho
 subst hy;subst ho;exact hx
theorem nV.at (h:nV w r l) {i:Nat} (hi:i<l.length): ∃x,r[i]? =some (l[i].name,x)/\aQ w x aP 3 l[i].steps:=by
 have hl:=h.len;have hr:r[i]? =some r[i]:=zaa oM
 have hn:r[i].1=l[i].name:=by
  have:=zbb (λz=>z[i]?) h.1;simp only[zcr]at this;rw[hr,zaa hi]at this;injection this
 exact⟨r[i].2,by rw[hr,<-hn],h.2 i _ _ hr (zaa hi)⟩
end
end Go.Proofs.YtkfpleidaoaonaaGreatDoor
namespace Go.Mw
open Go.RowKit
theorem Kn (a b:ByteArray):(a==b)=(a.data==b.data):=by
 cases a;cases b;rfl
instance ah9:LawfulBEq ByteArray where
 eq_of_beq {a b} h:=by
  rw[Kn]at h;exact ByteArray.ext (eq_of_beq h)
 rfl {a}:=by rw[Kn];exact beq_self_eq_true _

def iQ (k:ByteArray) (e:MapEntry):Bool:=match e.key with
 | .string a=>a==k
 | _=>false
def nP (es:List MapEntry) (k:ByteArray):Option Value:=(es.find? (iQ k)).map (·.val)
def mX (es:List MapEntry):Prop:=∀e∈es,∃a,e.key=.string a
def zk (b:Nat) (f:ByteArray->Option Value) (n:Nat):HP:=exH λx:Array MapEntry×Nat=>star (obj b (.map x.1 x.2)) (jo ((mX x.1.toList/\x.1.size=n)/\∀k,nP x.1.toList k=f k))

section
variable {w0 w w':Wd} {S:NP} {rs:List HP} {put:HP->List HP} {P:Program}
theorem DF {b n:Nat} {f:ByteArray->Option Value} {F:NP}:(zk b f n).ok F w↔(∀x,F x↔x=b)/\∃es clock,w.heap[b]? =some (.map es clock)/\(mX es.toList/\es.size=n)/\∀k,nP es.toList k=f k:=by
 constructor
 .rintro⟨⟨es,c⟩,F1,F2,hF,hd,⟨h1,h2⟩,⟨⟨h3,h4⟩,h5⟩⟩
  refine⟨λx=>?_,es,c,h2,h3,h4⟩;rw[hF,h1];exact⟨λh=>h.elim id λh=>(h5 x h).elim,.inl⟩
 rintro⟨h1,es,c,h2,h3,h4⟩;exact⟨⟨es,c⟩,F,λ_=>False,λx=>sM,λ_ _ h=>h,⟨h1,h2⟩,⟨⟨h3,h4⟩,λ_ h=>h⟩⟩
theorem Sep.ada {b n:Nat} {f:ByteArray->Option Value} (h:Sep w0 S rs w) (hat:At rs (zk b f n) put): ∃es clock,w.heap[b]? =some (.map es clock)/\(mX es.toList/\es.size=n)/\∀k,nP es.toList k=f k:=by
 obtain⟨F,hp,_,_⟩:=h.focus hat;exact(DF.1 hp).2
theorem Sep.agu {b:Nat} (h:Sep w0 S rs w) (hat:At rs (Mw.obj b (Obj.map #[] 0)) put):Sep w0 S (put (zk b (λ_=>none) 0)) w:=
 h.imp hat λF hF=>DF.2 ⟨hF.1, #[],0,hF.2,⟨by simp[mX],rfl⟩,λk=>rfl⟩

theorem Qe (k:ByteArray): ∀(es:List MapEntry) (i:Nat),mX es->∃r,Instr.findNow .string (.string k) es i=some r/\r.map (·.2)=nP es k/\
    (∀j v,r=some (j,v)->∃m,j=i+m/\∃e,es[m]? =some e/\iQ k e=true/\es.find? (iQ k)=some e/\∀m' e',m'<m->es[m']? =some e'->iQ k e'=false):=by
  intro es
  induction es with
  | nil=>intro i _;exact⟨none,rfl,rfl,λ_ _ h=>by cases h⟩
  | cons e es ih=>
    intro i hk;obtain⟨a,ha⟩:=hk e zae;obtain⟨r,h1,h2,h3⟩:=ih (i+1) λx hx=>hk x (zag _ hx);have hs:Instr.sameNow .string (.string k) e.key=some (k==a):=by rw[ha];simp[Instr.sameNow]
    have Mi:iQ k e=(a==k):=by unfold iQ;rw[ha]
    by_cases Yt:k=a
    . subst Yt
      have hkt:iQ k e=true:=by rw[Mi];simp
      refine⟨some (i,e.val),?_,?_,?_⟩
      . unfold Instr.findNow;rw[hs];simp
      . simp[nP,hkt]
      rintro j v Mj;injection Mj with Mj
      injection Mj with h4 h5
      exact⟨0,oM,e,rfl,hkt,by simp[hkt],λm' _ hm=>oM⟩
    have Zy:iQ k e=false:=by rw[Mi];simpa using λh:a=k=>Yt h.symm
    refine⟨r,?_,?_,?_⟩
    . unfold Instr.findNow;rw[hs,h1]
      have :(k==a)=false:=by simpa using Yt
      rw[this]
    . rw[h2];simp[nP,Zy]
    rintro j v Mj;obtain⟨m,hm,e',Zz,hk',hf',bH⟩:=h3 j v Mj;refine⟨m+1,oM,e',by simpa using Zz,hk',by simp[Zy,hf'],λm' e'' qX Mk=>?_⟩;cases m' with
    | zero=>simp at Mk;rw[<-Mk];exact Zy
    | succ m'=>exact bH m' e'' oM (by simpa using Mk)
theorem nK {kt:Td} (hu:P.underlying kt=some (.string)) (k:ByteArray) (es:List MapEntry) (hk:mX es):
    ∃r,(Instr.findKey kt (.string k) es).run P w=.ok r w/\r.map (·.2)=nP es k/\
    (∀j v,r=some (j,v)->∃e,es[j]? =some e/\iQ k e=true/\∀m' e',m'<j->es[m']? =some e'->iQ k e'=false):=by
  obtain⟨r,h1,h2,h3⟩:=Qe k es 0 hk;refine⟨r,by simp[Instr.findKey,run_underlying hu,h1],h2,λj v Mj=>?_⟩;obtain⟨m,hm,e,he,mQ,_,bH⟩:=h3 j v Mj;have :j=m:=by omega
  subst this;exact⟨e,he,mQ,bH⟩
theorem mJ {kt:Td} (hu:P.underlying kt=some (.string)) (b:Bool) (k:ByteArray) (d:Nat):(Instr.checkKey b (d+1) kt (.string k)).run P w=.ok () w:=by
 simp[Instr.checkKey,run_underlying hu]
theorem iN {b:Nat} {es:Array MapEntry} {c:Nat} (h:w.heap[b]? =some (.map es c)):(getObj b).run P w=.ok (.map es c) w:=by
 simp[getObj,Sem.run,h]
theorem zl {ρ:Od->Value} {ty:Td} {x y:Od} {T k e:Td} [hm:IsMap P T k e] [hk:j3 P k] {z:Value} [hz:Zero P e z] {b:Nat} {f:ByteArray->Option Value} {i:ByteArray}
    {es:Array MapEntry} {c:Nat} (hb:w.heap[b]? =some (.map es c)) (qj:mX es.toList) (hf: ∀k,nP es.toList k=f k) (hx:ρ x=.map (some b)) (hy:ρ y=.string i):Gives P ρ (.lookup T x y false) ty w ((f i).getD z) w:=by
  obtain⟨r,h1,h2,_⟩:=nK (P:=P) (w:=w) hk.und i es.toList qj;intro _ _ _ _;rw[<-hf,<-h2];have d9:=mJ (P:=P) (w:=w) hk.und es.isEmpty i 9999;simp only[execOp,hx,hy,Instr.lookup,zbh,run_underlying hm.und,zai,iN hb,zbm];rw[d9];simp only[zai,h1];cases r with
  | none=>simp[hz.run]
  | some jv=>obtain⟨j,v⟩:=jv;simp
theorem MI {ρ:Od->Value} {ty:Td} {x y:Od} {T k e:Td} [hm:IsMap P T k e] [hk:j3 P k] {z:Value} [hz:Zero P e z] {b n:Nat} {f:ByteArray->Option Value} {i:ByteArray}
    (H:Sep w0 S rs w) (hat:At rs (zk b f n) put) (hx:ρ x=.map (some b)) (hy:ρ y=.string i):Gives P ρ (.lookup T x y false) ty w ((f i).getD z) w:=by
  obtain⟨es,c,hb,qj,hf⟩:=H.ada hat;exact zl hb qj.1 hf hx hy
theorem WA {es:List MapEntry} {i:ByteArray} {v:Value} {n:Nat} (k:ByteArray) (hn:nP es i=none):nP (es++[{key:=.string i,val:=v,born:=n}]) k=if k=i then some v else nP es k:=by
 unfold nP at *;rw[List.find?_append]
 by_cases Mi:k=i
 .subst Mi
  have h0:es.find? (iQ k)=none:=by simpa using hn
  rw[zac rfl,h0];simp[iQ]
 rw[zab Mi]
 have :([{key:=.string i,val:=v,born:=n}]:List MapEntry).find? (iQ k)=none:=by
  have :iQ k {key:=.string i,val:=v,born:=n}=false:=by simp[iQ];exact λh=>Mi h.symm
  simp[this]
 rw[this];cases es.find? (iQ k)<;>rfl
theorem Qf (k i:ByteArray) (v:Value): ∀(es:List MapEntry) (j:Nat) (e:MapEntry),es[j]? =some e->iQ i e=true->(∀m' e',m'<j->es[m']? =some e'->iQ i e'=false)->
    nP (es.modify j λe=>{e with key:=.string i,val:=v}) k=if k=i then some v else nP es k:=by
  intro es
  induction es with
  | nil=>intro j e h;simp at h
  | cons x es ih=>
    intro j e hj mQ bH;cases j with
    | zero=>
      simp at hj;subst hj;simp only[List.modify_zero_cons];unfold nP
      by_cases Mi:k=i
      . subst Mi
        rw[zac rfl];simp[iQ]
      rw[zab Mi];have h1:iQ k {x with key:=.string i,val:=v}=false:=by simp[iQ];exact λh=>Mi h.symm
      have h2:iQ k x=false:=by
        unfold iQ at mQ |-
        split at mQ
        . rename_i a ha
          simp at mQ;simpa[mQ]using λh:i=k=>Mi h.symm
        cases mQ
      simp[h1,h2]
    | succ j=>
      simp only[List.modify_succ_cons];have hx:iQ i x=false:=bH 0 x oM rfl;have ih':=ih j e (by simpa using hj) mQ λm' e' hm he=>bH (m'+1) e' oM (by simpa using he);unfold nP at ih' ⊢;rw[zcf,zcf];cases hkx:iQ k x with
      | true=>
        have :k≠i:=λe=>by rw[e,hx]at hkx;cases hkx
        simp[this]
      | false=>simpa using ih'
theorem Jp {ρ:Od->Value} {ty:Td} {x y z:Od} {T k e:Td} [hm:IsMap P T k e] [hk:j3 P k] {b n:Nat} {f:ByteArray->Option Value} {i:ByteArray} {v:Value}
    (H:Sep w0 S rs w) (hat:At rs (zk b f n) put) (hx:ρ x=.map (some b)) (hy:ρ y=.string i) (hz:ρ z=v):
    ∃w',MC P ρ (.mapUpdate T x y z) ty w w'/\Sep w0 S (put (zk b (λk=>if k=i then some v else f k) (if f i=none then n+1 else n))) w':=by
  obtain⟨F,hp,_,jO⟩:=H.focus hat;obtain⟨hF,es,c,hb,⟨qj,hsz⟩,hf⟩:=DF.1 hp;obtain⟨r,h1,h2,h3⟩:=nK (P:=P) (w:=w) hk.und i es.toList qj;have d9:=mJ (P:=P) (w:=w) hk.und false i 9999;have afL:=jB hb;have xE: ∀o:Obj,(setObj b o).run P w=.ok () {w with heap:=w.heap.setIfInBounds b o}:=λo=>by simp[Go.setObj,Sem.run,hb]
  have fin: ∀(es':Array MapEntry) (c':Nat),mX es'.toList->es'.size=(if f i=none then n+1 else n)->(∀k,nP es'.toList k=if k=i then some v else f k)->
      Sep w0 S (put (zk b (λk=>if k=i then some v else f k) (if f i=none then n+1 else n))) {w with heap:=w.heap.setIfInBounds b (.map es' c')}:=λes' c' hk' hs' hf'=>
    jO _ F _ ⟨rfl,rfl,rfl,sM,λj hj hFj=>by simp only[zbt];rw[zab (λe=>hFj ((hF j).2 e.symm))]⟩
      (DF.2 ⟨hF,es',c',by simp[afL],⟨hk',hs'⟩,hf'⟩) λb hb=>.inl hb
  cases r with
  | none=>
    refine⟨{w with heap:=w.heap.setIfInBounds b (.map (es.push {key:=.string i,val:=v,born:=c}) (c+1))},λ_ _ _ _=>?_,fin _ _ ?_ ?_ ?_⟩
    . simp only[execOp,hx,hy,hz,Instr.mapUpdate,zbh,run_underlying hm.und,zai,iN hb]
      rw[d9];simp only[zai,h1,xE,zbm]
    . intro e he
      simp at he
      rcases he with he | he
      . exact qj e (by simpa using he)
      exact⟨i,by rw[he]⟩
    . have h0:nP es.toList i=none:=by rw[<-h2];rfl
      rw[zac (by rw[<-hf];exact h0),Array.size_push,hsz]
    intro k;have h0:nP es.toList i=none:=by rw[<-h2];rfl
    simp only[zfl];rw[WA k h0,hf]
  | some jv=>
    obtain⟨j,u⟩:=jv;obtain⟨e,he,mQ,bH⟩:=h3 j u rfl;obtain⟨a,ha⟩:=qj e (zam he);have ZC:a=i:=by unfold iQ at mQ;rw[ha]at mQ;simpa using mQ
    have yL:(((es[j]?).map (·.key)).getD (.string i))=.string i:=by
      have :es[j]? =some e:=by simpa using he
      rw[this];simp[ha,ZC]
    have afN:(Instr.keyThatStays (.string i) (.string i)).run P w=.ok (.string i) w:=by simp[Instr.keyThatStays,Instr.sameBits]
    refine⟨{w with heap:=w.heap.setIfInBounds b (.map (es.modify j λe=>{e with key:=.string i,val:=v}) c)},λ_ _ _ _=>?_,fin _ _ ?_ ?_ ?_⟩
    . simp only[execOp,hx,hy,hz,Instr.mapUpdate,zbh,run_underlying hm.und,zai,iN hb]
      rw[d9];simp only[zai,h1,yL,afN,xE,zbh,zbm]
    . intro e' Zz
      simp only[zex]at Zz;obtain⟨m,qX,rfl⟩:=zfo.1 Zz;rw[List.getElem_modify]
      split
      . exact⟨i,rfl⟩
      exact qj _ (zfu _)
    . have h0:nP es.toList i=some u:=by rw[<-h2];rfl
      rw[zab (by rw[<-hf,h0];simp),Array.size_modify,hsz]
    intro k;simp only[zex];rw[Qf k i v es.toList j e he mQ bH,hf]
end
end Go.Mw
namespace Go.Mw
open Go Go.RowKit
def gy (X:Wd->Prop):HP where
 ok F w:=(∀w',w.heap.size<=w'.heap.size->(∀b,F b->w'.heap[b]? =w.heap[b]?)->X w')/\∀b,F b->b<w.heap.size
 loc hs h eH:=⟨λw' hs' h'=>eH.1 w' (zcl hs hs') λb hb=>(h' b hb).trans (h b hb),λb hb=>Nat.lt_of_lt_of_le (eH.2 b hb) hs⟩
 low h:=h.2
section
variable {F:NP} {w w' w0:Wd} {S:NP} {rs:List HP} {put:HP->List HP} {p q:HP} {X Y Z:Wd->Prop}
theorem HP.look (h:p.ok F w) (hX: ∀F w,p.ok F w->X w):(gy X).ok F w:=⟨λw' hs h'=>hX F w' (p.loc hs h' h),p.low h⟩
theorem qE (h:(gy X).ok F w):X w:=h.1 w (zbk _) λ_ _=>rfl
theorem Sep.look (H:Sep w0 S rs w) (hat:At rs p put) (hX: ∀F w,p.ok F w->X w):Sep w0 S (put (gy X)) w:=H.imp hat λ_ hF=>HP.look hF hX
theorem Sep.sees (H:Sep w0 S rs w) (hat:At rs (gy X) put):X w:=by
 obtain⟨F,hp,_,_⟩:=H.focus hat;exact qE hp
theorem Sep.qg (H:Sep w0 S (gy X::gy Y::rs) w) (hZ: ∀w,X w->Y w->Z w):Sep w0 S (gy Z::rs) w:=
 Sep.look H.bD At0 λF w hF=>by
  obtain⟨F1,F2,_,_,h1,h2⟩:=hF;exact hZ w (qE h1) (qE h2)
theorem Sep.xU (H:Sep w0 S rs w) (h: ∀w,X w):Sep w0 S (gy X::rs) w:=
 Sep.look (Sep.jS (φ:=True) trivial H) At0 λ_ w _=>h w
theorem Sep.pJ (H:Sep w0 S rs w) (hat:At rs (gy X) put) (h: ∀w,X w->Y w):Sep w0 S (put (gy Y)) w:=Sep.look H hat λ_ _ hF=>h _ (qE hF)
end
end Go.Mw
namespace Go.Proofs.YtkfpleidaoaonaaGreatDoor
open Go Go.Mw Go.Lib
set_option maxRecDepth 4000
section
variable {F:NP} {w w' w0:Wd} {S:NP} {rs:List HP} {put:HP->List HP} {v x:Value} {e k:Nat} {α:Type} {enc:α->LV}
theorem nL [jf enc k] {l:List α} (h:(bJ e k enc v l).ok F w):aQ w v enc k l:=by
 have H:=Sep.bW h;obtain⟨A,c,rfl,hc,hR⟩:=H.dQ At0;exact⟨A,c,rfl,⟨hc,Sep.aft H At0⟩,hR⟩
theorem mY [jf enc k] {l:List α} (H:Mw.Sep w0 S rs w) (hat:At rs (bJ e k enc v l) put):aQ w v enc k l:=by
 obtain⟨F,hp,_,_⟩:=H.focus hat;exact nL hp
def EO {α:Type} (v:Value) (enc:α->LV) (k:Nat) (l:List α):HP:=gy λw=>aQ w v enc k l
theorem gL [jf enc k] {l:List α} (H:Mw.Sep w0 S rs w) (hat:At rs (bJ e k enc v l) put):Mw.Sep w0 S (put (EO v enc k l)) w:=Sep.look H hat λ_ _ h=>nL h
def zm (r:List (L8×Value)) (l:List j4):HP:=gy λw=>nV w r l
def BR (v:Value) (p:aW):HP:=gy λw=>ji w v p
variable {r:List (L8×Value)} {l:List j4} {s:List aZ} {n:L8} {vw vc:Value} {p:aW}
theorem Ko (H:Mw.Sep w0 S rs w):Mw.Sep w0 S (zm [] []::rs) w:=Sep.xU H λ_=>nV.nil
theorem Gs (H:Mw.Sep w0 S (bJ e 3 aP x s::zm r l::rs) w):Mw.Sep w0 S (zm (r++[(n,x)]) (l++[⟨n,s⟩])::rs) w:=
 Sep.qg (gL H At0) λ_ h1 h2=>h2.push h1
theorem adb {g:Int} {cols:List j4} (H:Mw.Sep w0 S (EO vw aP 3 s::bJ e 2 dU vc r::zm r cols::rs) w):Mw.Sep w0 S (BR (agg [vw,vc,I g]) ⟨s,cols,g⟩::rs) w:=by
 have k:=(gL H At1).aL.aU;have a:=Sep.qg (Z:=λw=>EN w vc cols) k λ_ h1 h2=>⟨r,h2,h1⟩;exact Sep.qg a λ_ h1 h2=>⟨vw,vc,rfl,h2,h1⟩
end
end Go.Proofs.YtkfpleidaoaonaaGreatDoor
namespace Go.Proofs.YtkfpleidaoaonaaGreatDoor
open Go Go.Lib Go.Mw
set_option maxRecDepth 4000
structure DI {α:Type} (f:α->α->Int):Prop where
 eq0: ∀a b,f a b=0↔a=b
 anti: ∀a b,f b a= -f a b
 trans: ∀a b c,f a b<0->f b c<0->f a c<0
section
variable {α:Type} {f:α->α->Int}
theorem DI.self (h:DI f) (a:α):f a a=0:=(h.eq0 a a).2 rfl
theorem DI.irr (h:DI f) {a b:α} (hl:f a b<0):a≠b:=λe=>by rw[(h.eq0 a b).2 e]at hl;omega
theorem DI.asymm (h:DI f) {a b:α} (hl:f a b<0): ¬f b a<0:=by rw[h.anti];omega
theorem DI.gt (h:DI f) {a b:α} (hn: ¬f a b<0) (iC:a≠b):f b a<0:=by
 have:=mt (h.eq0 a b).1 iC;rw[h.anti];omega
end
def qc {α:Type} (f:α->α->Int):List α->List α->Int
 | [],[]=>0
 | [],_::_=> -1
 | _::_,[]=>1
 | a::r,b::s=>if f a b≠0 then f a b else qc f r s
theorem YT {α:Type} {f:α->α->Int} (h:DI f):DI (qc f) where
 eq0:=λa=>by
  induction a with
  | nil=>intro b;cases b<;>simp[qc]
  | cons x r ih=>
   intro b;cases b with
   | nil=>simp[qc]
   | cons y s=>
    rw[qc]
    by_cases e:f x y=0
    .rw[zab (not_not_intro e),ih,(h.eq0 x y).1 e];simp
    rw[zac e];have:=mt (h.eq0 x y).2 e;simp[e,this]
 anti:=λa=>by
  induction a with
  | nil=>intro b;cases b<;>simp[qc]
  | cons x r ih=>
   intro b;cases b with
   | nil=>simp[qc]
   | cons y s=>
    rw[qc,qc];have ha:=h.anti x y
    by_cases e:f x y=0
    .rw[zab oM,zab oM,ih]
    rw[zac oM,zac e,ha]
 trans:=λa=>by
  induction a with
  | nil=>
   intro b c h1 h2;cases b with
   | nil=>simp[qc]at h1
   | cons y s=>
    cases c with
    | nil=>simp[qc]at h2
    | cons z t=>simp[qc]
  | cons x r ih=>
   intro b c h1 h2;cases b with
   | nil=>simp[qc]at h1
   | cons y s=>
    cases c with
    | nil=>simp[qc]at h2
    | cons z t=>
     rw[qc]at h1 h2 |-
     by_cases e1:f x y=0
     .have exy:=(h.eq0 x y).1 e1
      subst exy;rw[zab (not_not_intro e1)]at h1
      by_cases e2:f x z=0
      .rw[zab (not_not_intro e2)]at h2 |-
       exact ih s t h1 h2
      rw[zac e2]at h2 ⊢;exact h2
     rw[zac e1]at h1
     by_cases e2:f y z=0
     .have eyz:=(h.eq0 y z).1 e2
      subst eyz;rw[zac e1];exact h1
     rw[zac e2]at h2;have h3:=h.trans x y z h1 h2;rw[zac oM];exact h3
def aag (a b:UInt8):Int:=if a<b then -1 else if b<a then 1 else 0
theorem DJ (a b:UInt8):aag a b=if a.toNat<b.toNat then -1 else if b.toNat<a.toNat then 1 else 0:=by unfold aag;simp only[UInt8.lt_iff_toNat_lt]
theorem ade:DI aag where
 eq0:=λa b=>by
  rw[DJ,<-UInt8.toNat_inj]
  split
  .omega
  split<;>omega
 anti:=λa b=>by
  rw[DJ,DJ]
  split<;>split<;>(try split)<;>omega
 trans:=λa b c h1 h2=>by
  rw[DJ]at h1 h2 |-
  split at h1<;>split at h2<;>(try split at h1)<;>(try split at h2)<;>(try omega)
theorem Nu: ∀a b:L8,compareBytes a b=qc aag a b
 | [],[]=>rfl
 | [],_::_=>rfl
 | _::_,[]=>rfl
 | a::r,b::s=>by
  rw[compareBytes,qc,Nu r s];unfold aag
  by_cases h1:a<b
  .simp[h1]
  by_cases h2:b<a
  .simp[h1,h2]
  simp[h1,h2]
theorem EP:DI compareBytes:=by
 have e:compareBytes=qc aag:=funext λa=>funext λb=>Nu a b;rw[e];exact YT ade
theorem agv {a b:ay}:a=b↔a.null=b.null/\a.n=b.n/\a.s=b.s:=⟨λh=>by subst h;exact⟨rfl,rfl,rfl⟩,fun⟨h1,h2,h3⟩=>by cases a;cases b;simp_all⟩
theorem Kq:DI rE where
 eq0:=λa b=>by
  unfold rE;rw[agv]
  by_cases hn:a.null=b.null
  .rw[zac hn]
   by_cases h1:a.n<b.n
   .rw[zac h1];constructor
    .intro h;omega
    intro h;omega
   rw[zab h1]
   by_cases h2:b.n<a.n
   .rw[zac h2];constructor
    .intro h;omega
    intro h;omega
   rw[zab h2,EP.eq0];exact⟨λh=>⟨hn,oM,h⟩,λh=>h.2.2⟩
  rw[zab hn];constructor
  .intro h;split at h<;>omega
  intro h;exact zap h.1 hn
 anti:=λa b=>by
  unfold rE
  by_cases hn:a.null=b.null
  .rw[zac hn,zac hn.symm,EP.anti a.s b.s]
   by_cases h1:a.n<b.n
   .rw[zac h1,zab oM,zac h1];omega
   rw[zab h1]
   by_cases h2:b.n<a.n
   .simp[h1,h2]
   simp[h1,h2]
  rw[zab hn,zab (λe=>hn e.symm)];cases ha:a.null<;>cases hb:b.null<;>simp_all
 trans:=λa b c h1 h2=>by
  unfold rE at h1 h2 ⊢;cases ha:a.null<;>cases hb:b.null<;>cases hc:c.null<;>simp only[ha,hb,hc,if_true,if_false,reduceCtorEq,Bool.true_eq_false,Bool.false_eq_true]at h1 h2 |- <;>(try omega)
  all_goals
   split at h1<;>split at h2<;>(try split at h1)<;>(try split at h2)<;>(try omega)<;>(try (rw[zac oM];omega))
   rw[zab oM,zab oM];exact EP.trans _ _ _ h1 h2
def jU:List ay->List ay->Int:=qc rE
theorem ig:DI jU:=YT Kq
structure aH where
 row:List ay
 w:Int
theorem aH.ext' {a b:aH} (h1:a.row=b.row) (h2:a.w=b.w):a=b:=by cases a;cases b;simp_all
def wtL:List aH->List ay->Int
 | [],_=>0
 | x::l,r=>(if x.row=r then x.w else 0)+wtL l r
theorem iD (a b:List aH) (r:List ay):wtL (a++b) r=wtL a r+wtL b r:=by
 induction a with
 | nil=>simp[wtL]
 | cons x a ih=>rw[zbx,wtL,wtL,ih];omega
theorem uF {l:List aH} {r:List ay} (h: ∀x∈l,x.row≠r):wtL l r=0:=by
 induction l with
 | nil=>rfl
 | cons x l ih=>rw[wtL,zab (h x zae),ih λy hy=>h y (zag _ hy)];rfl
def ow (ks:List (List ay)):Prop:=ks.Pairwise λa b=>jU a b<0
def MJ (r:List ay):List (List ay)->List (List ay)
 | []=>[r]
 | k::ks=>if jU r k<0 then r::k::ks else if r=k then k::ks else k::MJ r ks
theorem JG {r x:List ay}: ∀{ks:List (List ay)},x∈MJ r ks↔x=r\/x∈ks
 | []=>by simp[MJ]
 | k::ks=>by
  rw[MJ]
  split
  .simp
  split
  .rename_i h;subst h;simp
  rw[zan,JG,zan,or_left_comm]
theorem CP {r:List ay}: ∀{ks:List (List ay)},ow ks->ow (MJ r ks)
 | [],_=>List.pairwise_singleton _ _
 | k::ks,h=>by
  obtain⟨h1,h2⟩:=zcp.1 h;rw[MJ]
  split
  .rename_i hl
   refine zcp.2 ⟨λy hy=>?_,h⟩
   rcases zan.1 hy with e | e
   .subst e;exact hl
   exact ig.trans _ _ _ hl (h1 y e)
  rename_i hl
  split
  .exact h
  rename_i iC;refine zcp.2 ⟨λy hy=>?_,CP h2⟩
  rcases JG.1 hy with e | e
  .subst e;exact ig.gt hl iC
  exact h1 y e
theorem CQ: ∀{a b:List (List ay)},ow a->ow b->(∀x,x∈a↔x∈b)->a=b
 | [],[],_,_,_=>rfl
 | [],y::b,_,_,h=>zap ((h y).2 zae) zao
 | x::a,[],_,_,h=>zap ((h x).1 zae) zao
 | x::a,y::b,ha,hb,h=>by
  obtain⟨ZE,ha2⟩:=zcp.1 ha;obtain⟨Na,hb2⟩:=zcp.1 hb
  have hxy:x=y:=by
   rcases zan.1 ((h x).1 zae)with e | e
   .exact e
   rcases zan.1 ((h y).2 zae)with e' | e'
   .exact e'.symm
   exact zap (Na x e) (ig.asymm (ZE y e'))
  subst hxy;rw[CQ ha2 hb2 λz=>?_];constructor
  .intro hz
   rcases zan.1 ((h z).1 (zag _ hz))with e | e
   .exact zap e (ig.irr (ZE z hz)).symm
   exact e
  intro hz
  rcases zan.1 ((h z).2 (zag _ hz))with e | e
  .exact zap e (ig.irr (Na z hz)).symm
  exact e
def sO:List aH->List (List ay)
 | []=>[]
 | x::l=>MJ x.row (sO l)
theorem vK {r:List ay}: ∀{l:List aH},r∈sO l↔∃x∈l,x.row=r
 | []=>by simp[sO]
 | x::l=>by
  rw[sO,JG,vK];simp only[zan,exists_eq_or_imp,eq_comm (a:=r)]
theorem qF: ∀l:List aH,ow (sO l)
 | []=>List.Pairwise.nil
 | x::l=>CP (qF l)
def Jq (f:List ay->Int) (ks:List (List ay)):List aH:=(ks.filter λr=>decide (f r≠0)).map λr=>⟨r,f r⟩
def cZ (l:List aH):List aH×Int:=if(sO l).all (λr=>eO (wtL l r))=true then(Jq (wtL l) (sO l),0)else([],50)
def isZ (z:List aH):Prop:=ow (z.map (·.row))/\(∀x∈z,x.w≠0)/\∀x∈z,eO x.w=true
theorem adf:eO 0=true:=dC
theorem ak0 {f g:List ay->Int} {a b:List (List ay)} (ha:ow a) (hb:ow b) (hfg: ∀r,f r=g r) (h: ∀r,f r≠0->(r∈a↔r∈b)):Jq f a=Jq g b:=by
 have e:f=g:=funext hfg;subst e;unfold Jq;rw[CQ (ha.sublist zdl) (hb.sublist zdl) λr=>?_];simp only[zbw,decide_eq_true_eq];exact and_congr_left λhr=>h r hr
theorem sP {l:List aH}:(sO l).all (λr=>eO (wtL l r))=true↔∀r,eO (wtL l r)=true:=by
 rw[zbf];constructor
 .intro h r
  by_cases hm:r∈sO l
  .exact h r hm
  rw[uF λx hx e=>hm (vK.2 ⟨x,hx,e⟩)];exact adf
 exact λh r _=>h r
theorem ER {l:List aH} {r:List ay} (h:wtL l r≠0):r∈sO l:=by
 refine Classical.byContradiction λhm=>h (uF λx hx e=>hm (vK.2 ⟨x,hx,e⟩))
theorem zn {a b:List aH} (h: ∀r,wtL a r=wtL b r):cZ a=cZ b:=by
 unfold cZ
 by_cases hf: ∀r,eO (wtL a r)=true
 .rw[zac (sP.2 hf),zac (sP.2 λr=>by rw[<-h];exact hf r)]
  rw[ak0 (qF a) (qF b) h λr hr=>⟨λ_=>ER (by rw[<-h];exact hr),λ_=>ER hr⟩]
 rw[zab (mt sP.1 hf),zab (mt sP.1 λhg=>hf λr=>by rw[h];exact hg r)]
theorem JH {l:List aH}:(cZ l).2=0↔∀r,eO (wtL l r)=true:=by
 unfold cZ
 by_cases hf: ∀r,eO (wtL l r)=true
 .rw[zac (sP.2 hf)];exact⟨λ_=>hf,λ_=>rfl⟩
 rw[zab (mt sP.1 hf)];exact⟨λh=>zap h dC,λh=>zap h hf⟩
theorem vL {l:List aH} (h:(cZ l).2≠0):cZ l=([],50):=by
 unfold cZ at h |-
 split
 .rename_i hc;rw[zac hc]at h;exact zap rfl h
 rfl
theorem Qg {l:List aH} (h:(cZ l).2=0):cZ l=(Jq (wtL l) (sO l),0):=zac (sP.2 (JH.1 h))
theorem agw (f:List ay->Int) (ks:List (List ay)):(Jq f ks).map (·.row)=ks.filter λr=>decide (f r≠0):=by
 unfold Jq;rw[zdt];exact List.map_id _
theorem ES {f:List ay->Int} {ks:List (List ay)} {x:aH}:x∈Jq f ks↔x.row∈ks/\f x.row≠0/\x.w=f x.row:=by
 unfold Jq;rw[zat];constructor
 .rintro⟨r,hr,rfl⟩
  obtain⟨h1,h2⟩:=zbw.1 hr;exact⟨h1,zba h2,rfl⟩
 rintro⟨h1,h2,h3⟩;exact⟨x.row,zbw.2 ⟨h1,zbj h2⟩,aH.ext' rfl h3.symm⟩
theorem vM {l:List aH}:isZ (cZ l).1:=by
 by_cases h:(cZ l).2=0
 .rw[Qg h]
  refine⟨?_,λx hx=>?_,λx hx=>?_⟩
  .show ow ((Jq _ _).map (·.row))
   rw[agw];exact(qF l).sublist zdl
  .obtain⟨_,h2,h3⟩:=ES.1 hx;rw[h3];exact h2
  obtain⟨_,_,h3⟩:=ES.1 hx;rw[h3];exact JH.1 h _
 rw[vL h];exact⟨List.Pairwise.nil,λx hx=>zap hx zao,λx hx=>zap hx zao⟩
theorem JI: ∀{z:List aH},(z.map (·.row)).Nodup->∀x∈z,wtL z x.row=x.w
 | [],_,x,hx=>zap hx zao
 | y::z,h,x,hx=>by
  rw[zay,zer]at h;rw[wtL]
  rcases zan.1 hx with e | e
  .subst e
   rw[zac rfl,uF λu hu e=>h.1 (by rw[<-e];exact zdu hu)];omega
  rw[zab λe'=>h.1 (by rw[e'];exact zdu e),JI h.2 x e];omega
theorem pK {ks:List (List ay)} (h:ow ks):ks.Nodup:=h.imp λhl=>ig.irr hl
theorem Az {l:List aH} (h:(cZ l).2=0) (r:List ay):wtL (cZ l).1 r=wtL l r:=by
 have hz:=vM (l:=l);rw[Qg h]at hz |-
 by_cases hr:wtL l r=0
 .rw[hr]
  exact uF λx hx e=>(ES.1 hx).2.1 (by rw[e];exact hr)
 exact JI (pK hz.1) ⟨r,wtL l r⟩ (ES.2 ⟨ER hr,hr,rfl⟩)
theorem ai7 {z:List aH} (h:isZ z) (r:List ay):eO (wtL z r)=true:=by
 by_cases hm: ∃x∈z,x.row=r
 .obtain⟨x,hx,rfl⟩:=hm
  rw[JI (pK h.1) x hx];exact h.2.2 x hx
 rw[uF λx hx e=>hm ⟨x,hx,e⟩];exact adf
theorem Nv {z:List aH} (h:isZ z):cZ z=(z,0):=by
 have hk:sO z=z.map (·.row):=CQ (qF z) h.1 λr=>by rw[vK,zat]
 have h0:(cZ z).2=0:=JH.2 (ai7 h);rw[Qg h0,hk];unfold Jq;have hw:=JI (pK h.1)
 have e: ∀l:List aH,(∀x∈l,x∈z)->((l.map (·.row)).filter λr=>decide (wtL z r≠0)).map (λr=>(⟨r,wtL z r⟩:aH))=l:=λl=>by
  induction l with
  | nil=>intro _;rfl
  | cons x l ih=>
   intro hl;have hx:=hl x zae;rw[zay,List.filter_cons_of_pos (by rw[hw x hx];exact zbj (h.2.1 x hx)),zay,ih λy hy=>hl y (zag _ hy),hw x hx]
 rw[e z λx hx=>hx]
def adg (a b:List aH):List aH×Int:=cZ (a++b)
theorem adh {a b:List aH} (ha:(cZ a).2=0):cZ ((cZ a).1++b)=cZ (a++b):=zn λr=>by rw[iD,iD,Az ha]
theorem aah {a b:List aH} (hb:(cZ b).2=0):cZ (a++(cZ b).1)=cZ (a++b):=zn λr=>by rw[iD,iD,Az hb]
structure bQ where
 key:List ay
 vals:List ay
 w:Int
def Jr (x:bQ) (i:Nat):Int:=if i=0 then x.w else if(x.vals.getD (i-1) cell0).null=true then 0 else x.w*(x.vals.getD (i-1) cell0).n
def nW:List bQ->List ay->Nat->Int
 | [],_,_=>0
 | x::l,k,i=>(if x.key=k then Jr x i else 0)+nW l k i
theorem sQ (a b:List bQ) (k:List ay) (i:Nat):nW (a++b) k i=nW a k i+nW b k i:=by
 induction a with
 | nil=>simp[nW]
 | cons x a ih=>rw[zbx,nW,nW,ih];omega
theorem zo {l:List bQ} {k:List ay} {i:Nat} (h: ∀x∈l,x.key≠k):nW l k i=0:=by
 induction l with
 | nil=>rfl
 | cons x l ih=>rw[nW,zab (h x zae),ih λy hy=>h y (zag _ hy)];rfl
def qG:List bQ->List (List ay)
 | []=>[]
 | x::l=>MJ x.key (qG l)
theorem oV {r:List ay}: ∀{l:List bQ},r∈qG l↔∃x∈l,x.key=r
 | []=>by simp[qG]
 | x::l=>by
  rw[qG,JG,oV];simp only[zan,exists_eq_or_imp,eq_comm (a:=r)]
theorem rW: ∀l:List bQ,ow (qG l)
 | []=>List.Pairwise.nil
 | x::l=>CP (rW l)
theorem CS {l:List bQ} {k:List ay} {i:Nat} (h:nW l k i≠0):k∈qG l:=
 Classical.byContradiction λhm=>h (zo λx hx e=>hm (oV.2 ⟨x,hx,e⟩))
def vN (keys sums:Nat) (x:bQ):Bool:=decide (x.key.length=keys/\x.vals.length=sums)&&x.vals.all λc=>decide (c.s=[]/\¬(c.null=true/\c.n≠0))
def yR (sums:Nat) (l:List bQ):Bool:=(qG l).all λk=>(List.range (sums+1)).all λi=>eO (nW l k i)
theorem zq {sums:Nat} {l:List bQ}:yR sums l=true↔∀k i,i<=sums->eO (nW l k i)=true:=by
 unfold yR;rw[zbf];constructor
 .intro h k i hi
  by_cases hm:k∈qG l
  .exact zbf.1 (h k hm) i (zdp.2 oM)
  rw[zo λx hx e=>hm (oV.2 ⟨x,hx,e⟩)];exact adf
 intro h k _;rw[zbf];exact λi hi=>h k i (by have:=zdp.1 hi;omega)
def uh (n:Int):ay:=⟨false,n,[]⟩
def aai (sums:Nat) (l:List bQ) (k:List ay):List ay:=k++(List.range (sums+1)).map λi=>uh (nW l k i)
def mZ (sums:Nat) (l:List bQ):List aH:=((qG l).filter λk=>decide (nW l k 0≠0)).map λk=>⟨aai sums l k,1⟩
theorem Kt: ∀{a b:List ay} (x y:List ay),a.length=b.length->jU a b<0->jU (a++x) (b++y)<0
 | [],[],_,_,_,h=>zap h (by simp[jU,qc])
 | [],_::_,_,_,h,_=>by simp at h
 | _::_,[],_,_,h,_=>by simp at h
 | c::a,d::b,x,y,hl,h=>by
  unfold jU at h ⊢;rw[zbx,zbx];rw[qc]at h |-
  split at h
  .rename_i e;rw[zac e];exact h
  rename_i e;rw[zab e];exact Kt x y (by simpa using hl) h
theorem adi {keys sums:Nat} {l:List bQ} (h: ∀x∈l,x.key.length=keys):isZ (mZ sums l):=by
 have hk: ∀k∈qG l,k.length=keys:=λk hk=>by
  obtain⟨x,hx,rfl⟩:=oV.1 hk;exact h x hx
 refine⟨?_,λx hx=>?_,λx hx=>?_⟩
 .unfold mZ
  rw[zdt];show List.Pairwise _ (List.map (λk=>aai sums l k) _)
  rw[List.pairwise_map];have hs:=((rW l).sublist (zdl (p:=λk=>decide (nW l k 0≠0))));refine List.Pairwise.imp_of_mem (λ{a b} ha hb Yw=>?_) hs;exact Kt _ _ (by rw[hk a (zbw.1 ha).1,hk b (zbw.1 hb).1]) Yw
 .unfold mZ at hx
  obtain⟨k,_,rfl⟩:=zat.1 hx;show(1:Int)≠0
  decide
 unfold mZ at hx;obtain⟨k,_,rfl⟩:=zat.1 hx;show eO 1=true
 decide
def Ti (l:List aH):List aH:=l.map λx=>⟨x.row, -x.w⟩
theorem adj (l:List aH) (r:List ay):wtL (Ti l) r= -wtL l r:=by
 induction l with
 | nil=>rfl
 | cons x l ih=>
  show wtL (⟨x.row, -x.w⟩::Ti l) r=_
  rw[wtL,wtL,ih];dsimp only
  split<;>omega
def fM (k:Nat) (x:aH):bQ:=⟨x.row.take k,x.row.drop k,x.w⟩
def gB (g:Int) (n:Nat) (T:List aH):List aH×Int:=
 if g<0 then cZ T
 else if(T.all λx=>vN g.toNat (n-g.toNat) (fM g.toNat x))=false then([],2)
 else if yR (n-g.toNat) (T.map (fM g.toNat))=false then([],50)
 else(mZ (n-g.toNat) (T.map (fM g.toNat)),0)
def nQ (g:Int) (n:Nat) (T m:List aH):List aH×Int:=
 if(gB g n (T++m)).2≠0 then([],(gB g n (T++m)).2)
 else if g<0 then cZ m
 else cZ ((gB g n (T++m)).1++Ti (gB g n T).1)
theorem Gx {g:Int} {n:Nat} {T:List aH} (h:(T.all λx=>vN g.toNat (n-g.toNat) (fM g.toNat x))=true): ∀x∈T.map (fM g.toNat),x.key.length=g.toNat:=λx hx=>by
 obtain⟨y,hy,rfl⟩:=zat.1 hx;have:=zbf.1 h y hy;unfold vN at this;rw[zbr,decide_eq_true_iff]at this;exact this.1.1
theorem sS {g:Int} {n:Nat} {T:List aH} (hg: ¬g<0):(gB g n T).2=0↔(T.all λx=>vN g.toNat (n-g.toNat) (fM g.toNat x))=true/\yR (n-g.toNat) (T.map (fM g.toNat))=true:=by
 unfold gB;rw[zab hg]
 split
 .rename_i h;rw[h];exact⟨λh=>zap h dC,λh=>zap h.1 dC⟩
 rename_i h
 split
 .rename_i h';rw[h'];exact⟨λh=>zap h dC,λh=>zap h.2 dC⟩
 rename_i h';exact⟨λ_=>⟨eq_true_of_ne_false h,eq_true_of_ne_false h'⟩,λ_=>rfl⟩
theorem uY {g:Int} {n:Nat} {T:List aH} (hg: ¬g<0) (h:(gB g n T).2=0):gB g n T=(mZ (n-g.toNat) (T.map (fM g.toNat)),0):=by
 obtain⟨h1,h2⟩:=(sS hg).1 h;unfold gB;rw[zab hg,zab (by rw[h1];decide),zab (by rw[h2];decide)]
theorem adk {g:Int} {n:Nat} {T:List aH} (h:(gB g n T).2≠0):(gB g n T).1=[]:=by
 unfold gB at h |-
 split
 .rename_i hg;rw[zac hg]at h;rw[vL h]
 split
 .rfl
 split
 .rfl
 rename_i h1 h2 h3;rw[zab h1,zab h2,zab h3]at h;exact zap rfl h
theorem Nw {g:Int} {n:Nat} {T m:List aH} (h:(nQ g n T m).2=0):(gB g n (T++m)).2=0:=by
 unfold nQ at h
 split at h
 .exact h
 rename_i h1;exact zca.1 h1
theorem agx {g:Int} {n:Nat} {T m:List aH} (hT:(gB g n T).2=0) (h:(nQ g n T m).2=0) (r:List ay):wtL (nQ g n T m).1 r=wtL (gB g n (T++m)).1 r-wtL (gB g n T).1 r:=by
 have ht:=Nw h
 by_cases hg:g<0
 .have e1:nQ g n T m=cZ m:=by unfold nQ;rw[zab (not_not_intro ht),zac hg]
  have e2: ∀X,gB g n X=cZ X:=λX=>by unfold gB;rw[zac hg]
  rw[e1]at h ⊢;rw[e2]at hT ht;rw[e2,e2,Az h,Az ht,Az hT,iD];omega
 have e1:nQ g n T m=cZ ((gB g n (T++m)).1++Ti (gB g n T).1):=by unfold nQ;rw[zab (not_not_intro ht),zab hg]
 rw[e1]at h ⊢;rw[Az h,iD,adj];omega
theorem adl (g:Int) (n:Nat):gB g n []=([],0):=by
 unfold gB
 split
 .rfl
 rfl
end Go.Proofs.YtkfpleidaoaonaaGreatDoor
namespace Go.Mw
open Go Go.RowKit
section
variable {F:NP} {w w' w0:Wd} {S:NP} {rs:List HP} {p q:HP}
end
end Go.Mw
namespace Go.Proofs.YtkfpleidaoaonaaGreatDoor
open Go Go.Mw Go.Lib
set_option maxRecDepth 4000
def aG (x:Value×Int):LV:=[x.1,I x.2]
instance:jf aG 2:=⟨λ_=>rfl⟩
def fK (w:Wd) (r:List (Value×Int)) (l:List aH):Prop:=r.map (·.2)=l.map (·.w)/\∀(i:Nat) x o,r[i]? =some x->l[i]? =some o->aQ w x.1 ah 3 o.row
def eT (w:Wd) (v:Value) (l:List aH):Prop:=∃r,aQ w v aG 2 r/\fK w r l
section
variable {w w':Wd} {v:Value} {r r':List (Value×Int)} {l l':List aH}
theorem fK.len (h:fK w r l):r.length=l.length:=by
 have:=zbb List.length h.1;simpa using this
theorem fK.keep (h:fK w r l) (hk:Kept noB w w'):fK w' r l:=⟨h.1,λi x o hx ho=>(h.2 i x o hx ho).keep hk⟩
theorem eT.keep (h:eT w v l) (hk:Kept noB w w'):eT w' v l:=by
 obtain⟨r,h1,h2⟩:=h;exact⟨r,h1.keep hk,h2.keep hk⟩
theorem fK.nil:fK w [] []:=⟨rfl,λi x o hx=>by simp at hx⟩
theorem fK.app (h:fK w r l) (h':fK w r' l'):fK w (r++r') (l++l'):=by
 have hl:=h.len;refine⟨by rw[zau,zau,h.1,h'.1],λi y o hy ho=>?_⟩
 by_cases hi:i<r.length
 .rw[zbz hi]at hy
  rw[zbz oM]at ho;exact h.2 i y o hy ho
 rw[zbv oM]at hy ho;rw[<-hl]at ho;exact h'.2 _ y o hy ho
theorem fK.one {x:Value} {o:aH} (hx:aQ w x ah 3 o.row):fK w [(x,o.w)] [o]:=by
 refine⟨rfl,λi y o' hy ho=>?_⟩;cases i with
 | zero=>
  rw[zcc]at hy ho;injection hy with hy
  injection ho with ho
  subst hy;subst ho;exact hx
 | succ j=>simp at hy
theorem fK.push {x:Value} {o:aH} (h:fK w r l) (hx:aQ w x ah 3 o.row):fK w (r++[(x,o.w)]) (l++[o]):=h.app (.one hx)
theorem fK.at (h:fK w r l) {i:Nat} (hi:i<l.length): ∃x,r[i]? =some (x,l[i].w)/\aQ w x ah 3 l[i].row:=by
 have hl:=h.len;have hr:r[i]? =some r[i]:=zaa oM
 have hn:r[i].2=l[i].w:=by
  have:=zbb (λz=>z[i]?) h.1;simp only[zcr]at this;rw[hr,zaa hi]at this;injection this
 exact⟨r[i].1,by rw[hr,<-hn],h.2 i _ _ hr (zaa hi)⟩
theorem fK.get (h:fK w r l) {i:Nat} {o:aH} (ho:l[i]? =some o): ∃x,r[i]? =some (x,o.w)/\aQ w x ah 3 o.row:=by
 obtain⟨hi,e⟩:=zaz.1 ho;subst e;exact h.at hi
theorem fK.take (h:fK w r l) (n:Nat):fK w (r.take n) (l.take n):=⟨by rw[List.map_take,List.map_take,h.1],λi x o hx ho=>by
 rw[zck]at hx ho
 split at hx
 .rename_i hi;rw[zac hi]at ho;exact h.2 i x o hx ho
 cases hx⟩
theorem fK.drop (h:fK w r l) (n:Nat):fK w (r.drop n) (l.drop n):=⟨by rw[List.map_drop,List.map_drop,h.1],λi x o hx ho=>by
 rw[zco]at hx ho;exact h.2 _ x o hx ho⟩
end
section
variable {F:NP} {w w' w0:Wd} {S:NP} {rs:List HP} {put:HP->List HP} {v x:Value} {r:List (Value×Int)} {l:List aH} {o:aH}
def zu (v:Value) (l:List aH):HP:=gy λw=>eT w v l
def Ku (r:List (Value×Int)) (l:List aH):HP:=gy λw=>fK w r l
theorem ET (H:Mw.Sep w0 S rs w):Mw.Sep w0 S (Ku [] []::rs) w:=Sep.xU H λ_=>fK.nil
theorem Tj (H:Mw.Sep w0 S (EO x ah 3 o.row::Ku r l::rs) w):Mw.Sep w0 S (Ku (r++[(x,o.w)]) (l++[o])::rs) w:=
 Sep.qg H λ_ h1 h2=>h2.push h1
theorem qp (H:Mw.Sep w0 S (bJ 52 3 ah x o.row::Ku r l::rs) w):Mw.Sep w0 S (Ku (r++[(x,o.w)]) (l++[o])::rs) w:=Tj (gL H At0)
/-! Items that are owned whole:L has each item beside the value of its row. -/
abbrev Held:=Value×aH
def eu (L:List Held):List (Value×Int):=L.map λb=>(b.1,b.2.w)
def eU (v:Value) (L:List Held):HP:=star (bJ 82 2 aG v (eu L)) (xu 52 3 ah (·.1) (λb=>b.2.row) L)
theorem zw: ∀{L:List Held} {F:NP} {w:Wd},(xu 52 3 ah (·.1) (λb:Held=>b.2.row) L).ok F w->fK w (eu L) (L.map (·.2))
 | [],_,_,_=>fK.nil
 | b::L,F,w,h=>by
  obtain⟨F1,F2,_,_,h1,h2⟩:=h;exact fK.app (fK.one (nL h1)) (zw h2)
theorem Ny {L:List Held} (h:(eU v L).ok F w):eT w v (L.map (·.2)):=by
 obtain⟨F1,F2,_,_,h1,h2⟩:=h;exact⟨_,nL h1,zw h2⟩
theorem MK {L:List Held} (H:Mw.Sep w0 S rs w) (hat:At rs (eU v L) put):Mw.Sep w0 S (put (zu v (L.map (·.2)))) w:=Sep.look H hat λ_ _ h=>Ny h
theorem jw {L:List Held} (H:Mw.Sep w0 S rs w) (hat:At rs (eU v L) put):eT w v (L.map (·.2)):=by
 obtain⟨F,hp,_,_⟩:=H.focus hat;exact Ny hp
theorem dN (H:Mw.Sep w0 S rs w):Mw.Sep w0 S (xu 52 3 ah (·.1) (λb:Held=>b.2.row) []::rs) w:=Sep.Zp H _ _ _ _ _
theorem jV {L:List Held} (H:Mw.Sep w0 S (bJ 52 3 ah x o.row::xu 52 3 ah (·.1) (λb:Held=>b.2.row) L::rs) w):
    Mw.Sep w0 S (xu 52 3 ah (·.1) (λb:Held=>b.2.row) (L++[(x,o)])::rs) w:=Sep.Vd (x:=(x,o)) H
end
end Go.Proofs.YtkfpleidaoaonaaGreatDoor
namespace Go.Mw
open Go.RowKit
section
variable {P:Program} {σ:St} {ty:Td} {w w':Wd}
theorem Gives.ext {f:FuncId} {xs:List Od} {ats:Array Td} {vals:LV} {v:Value} (hc:(callFunc f vals.toArray).run P w=.ok (.value v) w') (hv:xs.map (evF σ)=vals:=by exact rfl):
    Gives P (evF σ) (.call {callee:=.value (.func f),args:=xs.toArray,argTypes:=ats}) ty w v w':=λ_ _ _ _=>by
  simp only[execOp,resolve,evF,Deferred.ofValue,invoke,zcg,hv,zbh,zbm,zai];have e:(#[]++vals.toArray++ #[]:Array Value)=vals.toArray:=sM;rw[e];exact hc
end
end Go.Mw
namespace Go.Mw
open Go.RowKit
section
variable {P:Program} {ρ:Od->Value} {ty:Td} {w:Wd} {x y:Od} {T U:Td} {k:IntKind} {a b c:Int}
theorem Gives.ak1 (hx:ρ x=.int k a) (hy:ρ y=.int k b) (h:k.wrap (a+b)=c):Gives P ρ (.binOp .add T x y U) ty w (.int k c) w:=by subst h;exact Gives.add hx hy
theorem Gives.ak2 (hx:ρ x=.int k a) (hy:ρ y=.int k b) (h:k.wrap (a-b)=c):Gives P ρ (.binOp .sub T x y U) ty w (.int k c) w:=by subst h;exact Gives.sub hx hy
theorem Gives.ai8 (hx:ρ x=.int k a) (hy:ρ y=.int k b) (h:bits .and k a b=c):Gives P ρ (.binOp .and T x y U) ty w (.int k c) w:=by subst h;exact Gives.and hx hy
theorem Gives.zx {s t:Td} {j:IntKind} [lZ P s j] [lZ P t k] (hx:ρ x=.int j a) (h:k.wrap a=c):Gives P ρ (.convert s t x) ty w (.int k c) w:=by subst h;exact Gives.conv hx
end
end Go.Mw
namespace Go.Mw
open Go.RowKit
section
variable {P:Program} {ρ:Od->Value} {ty:Td} {w:Wd} {x y:Od} {T U:Td} {k yk:IntKind} {a b c:Int}
theorem Gives.ai9 (hx:ρ x=.int k a) (hy:ρ y=.int yk b) (h0:0<=b) (h:k.wrap (a*2^(Min.min b.toNat k.bits))=c):Gives P ρ (.binOp .shl T x y U) ty w (.int k c) w:=by subst h;exact Gives.shl hx hy h0
theorem Gives.am0 (hx:ρ x=.int k a) (hy:ρ y=.int yk b) (h0:0<=b) (h:a.fdiv (2^(Min.min b.toNat k.bits))=c):Gives P ρ (.binOp .shr T x y U) ty w (.int k c) w:=by subst h;exact Gives.shr hx hy h0
theorem Gives.aja (hx:ρ x=.int k a) (hy:ρ y=.int k b) (h:bits .xor k a b=c):Gives P ρ (.binOp .xor T x y U) ty w (.int k c) w:=by subst h;exact Gives.xor hx hy
end
end Go.Mw
namespace Go.Mw
open Go.RowKit
section
variable {P:Program} {n:Nat} {ops:AO} {σ:St} {w w0:Wd} {S:NP} {rs:List HP} {put:HP->List HP} {ty:Td} {pos:String} {after:Array Edge} {guard:Option (Nat×Bool)}
theorem Qh {i d b k:Nat} {x:Od} {T:Td} [Agg P T k] {cs:LV} {E:Td} {l:LNB} (H:Sep w0 S rs w)
    (ho:ops[i]? =some ⟨some d,.load T x,ty,pos,after,guard⟩:=by exact rfl)
    (hw:Region.wanted ⟨some d,.load T x,ty,pos,after,guard⟩ (bX ops σ)=true:=by kernel_rfl) (hx:evF σ x=.pointer (some ⟨b,0,none⟩):=by exact rfl)
    (hat:At rs (blk b cs E) put:=by exact aT) (hk:cs.length=k:=by exact rfl) (hd:σ d=.agg cs.toArray:=by exact rfl) (h:jk P ops σ w l):jk P ops σ w ((i,false)::l):=
  dw ho hw (Gives.JZ hx (H.obj hat) (us:=cs) (by rw[zdb,<-hk,zbo]) hk) hd h
theorem sU {p:Prop} (h:p:=by repeat (first | exact eZ | refine aC ?_ | refine Qh (by assumption) (h:=?_) | refine iX (by assumption) (h:=?_))):p:=h
end
end Go.Mw
namespace Go.Mw
open Go.RowKit
theorem Gives.agy {P:Program} {ρ:Od->Value} {ty:Td} {w:Wd} {x y:Od} {t e m:Td} [ht:Ar P t m e] {size bytes:Nat} [hc:Cells P e size bytes] {b o i:Nat} {k:IntKind} (hx:ρ x=.pointer (some ⟨b,o,none⟩)) (hy:ρ y=.int k i) (bH:i<m):Gives P ρ (.indexAddr t x y) ty w (.pointer (some ⟨b,o+i*size,none⟩)) w:=by
 have:=Gives.Fh (P:=P) (ty:=ty) (w:=w) (t:=t) hx hy bH
 rwa [Addr.add_lit]at this
end Go.Mw
namespace Go.Proofs.YtkfpleidaoaonaaGreatDoor
open Go Go.Lib Go.Mw
set_option maxRecDepth 4000
def wA (v:Int):Int:=v%18446744073709551616
def wB (v:Int):Int:=v/18446744073709551616%18446744073709551616
def wC (v:Int):Int:=v/340282366920938463463374607431768211456%18446744073709551616
theorem oW (v:Int):(0<=wA v/\wA v<18446744073709551616)/\(0<=wB v/\wB v<18446744073709551616)/\0<=wC v/\wC v<18446744073709551616:=by
 unfold wA wB wC;omega
theorem JJ (v:Int):v/340282366920938463463374607431768211456=v/18446744073709551616/18446744073709551616:=oM
theorem agz {n:Int} (h1: -9223372036854775808<=n) (h2:n<9223372036854775808):wB n=(if n<0 then 18446744073709551615 else 0)/\wC n=if n<0 then 18446744073709551615 else 0:=by
 unfold wB wC;rw[JJ]
 split<;>omega
theorem adn (x y:Int):wA (x+y)=(wA x+wA y)%18446744073709551616/\wB (x+y)=(wB x+wB y+(wA x+wA y)/18446744073709551616)%18446744073709551616/\
    wC (x+y)=(wC x+wC y+(wB x+wB y+(wA x+wA y)/18446744073709551616)/18446744073709551616)%18446744073709551616:=by
  have hc: ∀v:Int,wC v=v/18446744073709551616/18446744073709551616%18446744073709551616:=λv=>by unfold wC;rw[JJ]
  rw[hc,hc,hc];unfold wA wB;have e1:(x+y)/18446744073709551616=x/18446744073709551616+y/18446744073709551616+(x%18446744073709551616+y%18446744073709551616)/18446744073709551616:=oM;rw[e1]
  generalize x/18446744073709551616=p
  generalize y/18446744073709551616=q
  generalize (x%18446744073709551616+y%18446744073709551616)/18446744073709551616=c
  refine⟨oM,oM,?_⟩;omega
def vO (v:Int):Int:=if wA v<9223372036854775808 then wA v else wA v-18446744073709551616
theorem ado {v:Int} (h1: -3138550867693340381917894711603833208051177722232017256448<=v) (h2:v<3138550867693340381917894711603833208051177722232017256448):
    (wA (vO v)=wA v/\wB (vO v)=wB v/\wC (vO v)=wC v)↔eO v=true:=by
  have hc: ∀v:Int,wC v=v/18446744073709551616/18446744073709551616%18446744073709551616:=λv=>by unfold wC;rw[JJ]
  have hl: -9223372036854775808<=vO v/\vO v<=9223372036854775807:=by
    have:=(oW v).1;unfold vO
    split<;>omega
  unfold eO;rw[decide_eq_true_iff];constructor
  . intro ⟨e1,e2,e3⟩
    rw[hc,hc]at e3;unfold wA at e1;unfold wB at e2
    generalize hu:vO v=u at *
    have hp1:u/18446744073709551616/18446744073709551616=v/18446744073709551616/18446744073709551616:=oM;have hp2:u/18446744073709551616=v/18446744073709551616:=oM;have Nb:u=v:=oM;rw[<-Nb];exact hl
  intro h
  have e:vO v=v:=by
    unfold vO wA
    split<;>omega
  rw[e];exact⟨rfl,rfl,rfl⟩
theorem Nz {a b:Int} (ha:fits a) (hb:fits b): -85070591730234615865843651857942052864<=a*b/\a*b<=85070591730234615865843651857942052864:=by
 have h1:a.natAbs<=9223372036854775808:=by unfold fits at ha;omega
 have h2:b.natAbs<=9223372036854775808:=by unfold fits at hb;omega
 have h3:(a*b).natAbs<=9223372036854775808*9223372036854775808:=by rw[Int.natAbs_mul];exact Nat.mul_le_mul h1 h2
 omega
theorem adp {a b:Int} (ha:fits a) (hb:fits b):wA (a*b)=wA a*wA b%18446744073709551616/\
    wB (a*b)=(wA a*wA b/18446744073709551616-(((if b<0 then wA a else 0)+if a<0 then wA b else 0)%18446744073709551616))%18446744073709551616/\
    wC (a*b)=if wB (a*b)<9223372036854775808 then 0 else 18446744073709551615:=by
  obtain⟨m1,m2⟩:=Nz ha hb;have hua:wA a=if a<0 then a+18446744073709551616 else a:=by unfold fits at ha;unfold wA;split<;>omega
  have hub:wA b=if b<0 then b+18446744073709551616 else b:=by unfold fits at hb;unfold wA;split<;>omega
  have hP:wA a*wA b=a*b+(if a<0 then 18446744073709551616*b else 0)+(if b<0 then 18446744073709551616*a else 0)+(if a<0/\b<0 then 340282366920938463463374607431768211456 else 0):=by
    rw[hua,hub]
    by_cases h1:a<0<;>by_cases h2:b<0
    . rw[zac h1,zac h2,zac h1,zac h2,zac ⟨h1,h2⟩,Int.add_mul,Int.mul_add,Int.mul_add];omega
    . rw[zac h1,zab h2,zac h1,zab h2,zab (λh=>h2 h.2),Int.add_mul];omega
    . rw[zab h1,zac h2,zab h1,zac h2,zab (λh=>h1 h.1),Int.mul_add];omega
    rw[zab h1,zab h2,zab h1,zab h2,zab (λh=>h1 h.1)];omega
  generalize a*b=p at *
  have hc: ∀v:Int,wC v=v/18446744073709551616/18446744073709551616%18446744073709551616:=λv=>by unfold wC;rw[JJ]
  refine⟨?_,?_,?_⟩
  . rw[hP]
    unfold wA
    by_cases h1:a<0<;>by_cases h2:b<0<;>simp only[h1,h2,if_true,if_false,and_self,and_false,false_and]<;>omega
  . rw[hP,hua,hub]
    unfold wB
    by_cases h1:a<0<;>by_cases h2:b<0<;>simp only[h1,h2,if_true,if_false,and_self,and_false,false_and]<;>omega
  rw[hc];unfold wB
  split<;>omega
section
variable {w:Wd}
end
end Go.Proofs.YtkfpleidaoaonaaGreatDoor
namespace Go.Mw
open Go.RowKit
section
variable {P:Program} {r:Option Nat} {n:Nat} {ops:AO} {Q:Post} {rest:LO} {σ:St} {w w0:Wd} {S:NP} {rs:List HP} {put:HP->List HP} {ty:Td} {pos:String} {after:Array Edge} {p q:HP}
end
end Go.Mw
namespace Go.Proofs.YtkfpleidaoaonaaGreatDoor
open Go Go.Mw Go.Lib
set_option maxRecDepth 4000
def aaj (v v':Value):Prop:=∀(w:Wd) ns,aQ w v intCells 1 ns->∃ns',aQ w v' intCells 1 ns'
theorem aaj.refl (v:Value):aaj v v:=λ_ ns h=>⟨ns,h⟩
theorem aaj.trans {a b c:Value} (h:aaj a b) (k:aaj b c):aaj a c:=λw ns h1=>let⟨ns',h2⟩:=h w ns h1;k w ns' h2
section
variable {w:Wd} {F:NP} {b:Nat} {v0:Value}
end
end Go.Proofs.YtkfpleidaoaonaaGreatDoor
namespace Go.Proofs.YtkfpleidaoaonaaGreatDoor
open Go Go.Mw Go.Lib
set_option maxRecDepth 4000
theorem am1 {α:Type} {enc:α->LV} {k bs e:Nat} [hk:jf enc k] {x:α} {w0 w:Wd} {S:NP} {rs:List HP} (H:Mw.Sep w0 S (blk bs ([x].flatMap enc) e::rs) w):Mw.Sep w0 S (bJ e k enc (.slice (some ⟨bs,0,none⟩) 1 1) [x]::rs) w:=
 Sep.o7 (n:=1) H At0 (jr hk.len [x]) dC
section
variable {w:Wd} {F:NP} {b:Nat} {v0:Value}
end
section
variable {w:Wd}
end
end Go.Proofs.YtkfpleidaoaonaaGreatDoor
