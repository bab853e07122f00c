/-
 The columns and rows of the statements on drawn expressions,and what such an expression gives,told plainly. No program stands here.
-/
import Derived.Test.YtkfpleidaoaonaaGreatDoorNu1
import Derived.Test.YtkfpleidaoaonaaGreatDoorNu12
import Derived.Test.YtkfpleidaoaonaaGreatDoorNu7
import Derived.Test.YtkfpleidaoaonaaGreatDoorNu6
import Derived.Test.YtkfpleidaoaonaaGreatDoorNu2
import Derived.Test.YtkfpleidaoaonaaGreatDoorNu3
import Derived.Laws.Externs
import Derived.MapKept
import Derived.Test.YtkfpleidaoaonaaGreatDoorNu4
set_option linter.unusedVariables false
set_option linter.unusedSimpArgs false
namespace Go.Proofs.YtkfpleidaoaonaaGreatDoor
open Go Go.Mw Go.Lib
set_option maxRecDepth 4000
def alX (b:Bool):Int:=if b then 3 else 2
def alY (b:Bool):List Int:=[alX b,1,4,5,3]
def alZ (b:Bool) (i:Nat):Int:=(alY b).getD (i%5) 0
def acf (b:Bool) (i:Nat):bL:=⟨((i+1:Nat):Int),[],⟨alZ b i,decide ((4:Int)<i)⟩,cell0⟩
def anY (b:Bool):List bL:=(List.range 10).map (acf b)
structure asZ (k:Int) (n:Bool) (l:List bJ):Prop where
 may: ∀x∈l,jM x=true/\fits x.n
 run: ∀b st,runT (anY b) st l=some (st++[⟨k,n⟩])
structure LX (m:Nat) (r:List aI):Prop where
 len:r.length=m
 fit:jX r
 ok: ∀b (i:Nat) c,r[i]? =some c->okC (acf b i).type c
theorem LX.nil:LX 0 []:=⟨rfl,λ_ h=>zat h zaj,λ_ i c h=>by simp at h⟩
theorem LX.push {i:Nat} {r:List aI} {c:aI} (h:LX i r) (hc:fits c.n/\∀b,okC (acf b i).type c):LX (i+1) (r++[c]):=by
 refine⟨by rw[zad,h.len];rfl,λy hy=>?_,λb j d hd=>?_⟩
 .rcases zbh.1 hy with h1 | h1
  .exact h.fit y h1
  rw[zay.1 h1];exact hc.1
 rcases zdz j r.length with hj | hj
 .rw[zce hj]at hd;exact h.ok b j d hd
 rw[zcb hj]at hd;cases hk:j-r.length with
 | zero=>
  rw[hk]at hd;have e:j=i:=by have:=h.len;omega
  simp only[zbp,Option.some.injEq]at hd;rw[e,<-hd];exact hc.2 b
 | succ m=>rw[hk]at hd;simp at hd
theorem Rw {cols:List bL} {r:List aI} (hr:gD cols r=0) (hf:jX r): ∀{l:List bJ} {ts ts':List dJ} {st st':List aI},(∀x∈l,fits x.n)->Typed ts st->runT cols ts l=some ts'->DT cols r st l=some st'->Typed ts' st'
 | [],ts,ts',st,st',_,hT,h1,h2=>by
  injection h1 with h1
  injection h2 with h2
  rw[<-h1,<-h2];exact hT
 | x::l,ts,ts',st,st',hx,hT,h1,h2=>by
  rw[runT]at h1;rw[DT]at h2;obtain⟨t1,e1,h1⟩:=zdx.1 h1;obtain⟨s1,e2,h2⟩:=zdx.1 h2;obtain⟨_,_,h3⟩:=MJ hr hf (hx x zah) hT e1;rw[Lm]at e2;obtain⟨c,e3,e4⟩:=zbb.1 e2;have h4:=h3 c e3;rw[e4]at h4;exact Rw hr hf (λy hy=>hx y (zai _ hy)) h4 h1 h2
/-! Wider columns,and cells that are not used. -/
/-! Expressions one behind the other. -/
/-! What is drawn:of a kind,and so deep. -/

structure jL where
 name:L8
 steps:List bJ
structure aZ where
 wh:List bJ
 cols:List jL
 group:Int
theorem jL.ext' {a b:jL} (h1:a.name=b.name) (h2:a.steps=b.steps):a=b:=by cases a;cases b;simp_all
theorem aZ.ext' {a b:aZ} (h1:a.wh=b.wh) (h2:a.cols=b.cols) (h3:a.group=b.group):a=b:=by cases a;cases b;simp_all
instance:DecidableEq jL:=λa b=>decidable_of_iff (a.name=b.name/\a.steps=b.steps) ⟨λh=>jL.ext' h.1 h.2,λh=>by subst h;exact⟨rfl,rfl⟩⟩
instance:DecidableEq aZ:=λa b=>decidable_of_iff (a.wh=b.wh/\a.cols=b.cols/\a.group=b.group) ⟨λh=>aZ.ext' h.1 h.2.1 h.2.2,λh=>by subst h;exact⟨rfl,rfl,rfl⟩⟩
def oI:aZ:=⟨[],[],0⟩
def adz (c:UInt8):Bool:=decide (97<=c.toNat/\c.toNat<=122)
def zi (c:UInt8):Bool:=adz c||decide (c=95)||yO c
def jE (s:L8):Bool:=decide (1<=s.length/\s.length<=32)&&adz (s.getD 0 0)&&s.all zi
def qB:L8:=[99,111,117,110,116]
def oJ:L8:=[110,111,110,101]
def UO:L8:=[119,104,101,114,101,32]
def aai:L8:=[111,117,116,32]
def N9:L8:=[103,114,111,117,112,32]
def zM (p:aZ):Bool:=
 decide (1<=p.cols.length/\p.cols.length<=16/\ -1<=p.group/\p.group<=p.cols.length)&&p.cols.all (λo=>jE o.name&& !(decide (0<=p.group)&&decide (o.name=qB)))&&decide ((p.cols.map (·.name)).Nodup)
def acg (t:dJ):aI:=⟨qK t&&t.null,0,[]⟩
def Kw (id:Int) (name:L8) (t:dJ):bL:=⟨id,name,t,acg t⟩
def r9:dJ:=⟨3,false⟩
def C9 (cols:List bL) (group:Int):Nat->List jL->List bL->List bL×Int
  | i,[],acc=>(if group=i then acc++[Kw (group+1) qB r9]else acc,0)
  | i,o::l,acc=>
    if(jJ cols o.steps).2≠0 then([],(jJ cols o.steps).2)
    else if 0<=group/\group<=i then
      (if(jJ cols o.steps).1.kind≠3 then([],230)
       else C9 cols group (i+1) l ((if(i:Int)=group then acc++[Kw (i+1) qB r9]else acc)++[Kw (i+2) o.name r9]))
    else C9 cols group (i+1) l (acc++[Kw (i+1) o.name (jJ cols o.steps).1])
def bQ (cols:List bL) (p:aZ):List bL×Int:=
 if zM p=false then([],230)
 else if p.wh≠[]/\(jJ cols p.wh).2≠0 then([],(jJ cols p.wh).2)
 else if p.wh≠[]/\(jJ cols p.wh).1.kind≠1 then([],230)
 else C9 cols p.group 0 p.cols []
/-! Texts. -/
def vY (o:jL):L8:=aai++o.name++[32]++(jR o.steps).1
def Oa (o:jL):Bool:=decide ((jR o.steps).2≠0\/(jR o.steps).1=[])
def zk (l:List bJ):L8:=UO++(if l=[]then oJ else(jR l).1)
def Ad (g:Int):L8:=N9++(if g<0 then oJ else itoa g)
def nV (p:aZ):List (L8):=zk p.wh::(p.cols.map vY++[Ad p.group])
def xA (l:List (L8)):L8:=l.flatMap (· ++[10])
def Fj (p:aZ):Bool:=zM p&&decide ((jR p.wh).2=0)&&p.cols.all (λo=> !Oa o)
def LY (p:aZ):L8×Int:=if Fj p=false then([],2)else(xA (nV p),0)
def lJ (s:L8):List (L8)×Bool:=if(d9 10 s).getLast?=some []then((d9 10 s).dropLast,true)else(d9 10 s,false)
def yg (b s:L8):Option (L8):=if s.take b.length=b then some (s.drop b.length)else none
def Ky (s:L8):Option (List bJ):=(yg UO s).bind λt=>if t=[]then none else if t=oJ then some []else if(fQ t).2=0 then some (fQ t).1 else none
def Bu (s:L8):Option (L8×L8):=(s.idxOf? 32).map λi=>(s.take i,s.drop (i+1))
def Ob (s:L8):Option jL:=(yg aai s).bind λt=>(Bu t).bind λx=>if(fQ x.2).2=0/\(fQ x.2).1≠[]/\jE x.1=true then some ⟨x.1,(fQ x.2).1⟩else none
def sj (t:L8):Option Nat:=(o7 t 0).bind λn=>if decDigits n=t/\n<=1048576 then some n else none
def zN (s:L8):Option Int:=(yg N9 s).bind λt=>if t=oJ then some (-1)else(sj t).map (λn:Nat=>((n:Nat):Int))
def nH:List (L8)->List jL
 | []=>[]
 | s::l=>match Ob s with
  | some o=>o::nH l
  | none=>[]
def tK (s:L8):aZ×Int×Int:=
 if 1048576<s.length then(oI,0,5)
 else
  let l:=(lJ s).1
  let many:=if(lJ s).2=true then l.length else l.length-1
  if many<1 then(oI,0,4)
  else match Ky (l.getD 0 [])with
   | none=>(oI,0,4)
   | some w=>
    let cs:=nH ((l.take many).drop 1)
    if many<=1+cs.length\/cs.length=0 then(oI,(1+cs.length:Nat),4)
    else match zN (l.getD (1+cs.length) [])with
     | none=>(oI,(1+cs.length:Nat),4)
     | some g=>
      if 1+cs.length+1<l.length then(oI,(1+cs.length+1:Nat),4)
      else if Fj ⟨w,cs,g⟩=false then(oI,0,2)else(⟨w,cs,g⟩,0,0)
def bZ (x:L8×Value):LV:=[str x.1,x.2]
instance:lY bZ 2:=⟨λ_=>rfl⟩
def nI (w:Wd) (r:List (L8×Value)) (l:List jL):Prop:=r.map (·.1)=l.map (·.name)/\∀(i:Nat) x o,r[i]? =some x->l[i]? =some o->aM w x.2 aD 3 o.steps
def zO (w:Wd) (v:Value) (l:List jL):Prop:=∃r,aM w v bZ 2 r/\nI w r l
def eG (w:Wd) (v:Value) (p:aZ):Prop:=∃vw vc,v=agg [vw,vc,I p.group]/\aM w vw aD 3 p.wh/\zO w vc p.cols
section
variable {w w':Wd} {v:Value} {r:List (L8×Value)} {l:List jL} {p:aZ}
theorem nI.len (h:nI w r l):r.length=l.length:=by
 have:=zaw List.length h.1;simpa using this
theorem nI.keep (h:nI w r l) (hk:Kept noB w w'):nI w' r l:=⟨h.1,λi x o hx ho=>(h.2 i x o hx ho).keep hk⟩
theorem zO.keep (h:zO w v l) (hk:Kept noB w w'):zO w' v l:=by
 obtain⟨r,h1,h2⟩:=h;exact⟨r,h1.keep hk,h2.keep hk⟩
theorem eG.keep (h:eG w v p) (hk:Kept noB w w'):eG w' v p:=by
 obtain⟨vw,vc,e,h1,h2⟩:=h;exact⟨vw,vc,e,h1.keep hk,h2.keep hk⟩
theorem nI.nil:nI w [] []:=⟨rfl,λi x o hx=>by simp at hx⟩
theorem nI.push {n:L8} {x:Value} {s:List bJ} (h:nI w r l) (hx:aM w x aD 3 s):nI w (r++[(n,x)]) (l++[⟨n,s⟩]):=by
 have hl:=h.len;refine⟨by rw[zam,zam,h.1];rfl,λi y o hy ho=>?_⟩
 by_cases hi:i<r.length
 .rw[zce hi]at hy
  rw[zce oM]at ho;exact h.2 i y o hy ho
 rw[zcb oM]at hy ho;rw[<-hl]at ho
 have h0:i-r.length=0:=by
  cases hj:i-r.length with
  | zero=>rfl
  | succ j=>rw[hj]at hy;simp at hy
 rw[h0]at hy ho;injection hy with hy
 injection ho with ho
 subst hy;subst ho;exact hx
theorem nI.at (h:nI w r l) {i:Nat} (hi:i<l.length): ∃x,r[i]? =some (l[i].name,x)/\aM w x aD 3 l[i].steps:=by
 have hl:=h.len;have hr:r[i]? =some r[i]:=zaa oM
 have hn:r[i].1=l[i].name:=by
  have:=zaw (λz=>z[i]?) h.1;simp only[zcf]at this;rw[hr,zaa hi]at this;injection this
 exact⟨r[i].2,by rw[hr,<-hn],h.2 i _ _ hr (zaa hi)⟩
end
end Go.Proofs.YtkfpleidaoaonaaGreatDoor
namespace Go.Mw
open Go.RowKit
theorem Oc (a b:ByteArray):(a==b)=(a.data==b.data):=by
 cases a;cases b;rfl
instance ak3:LawfulBEq ByteArray where
 eq_of_beq {a b} h:=by
  rw[Oc]at h;exact ByteArray.ext (eq_of_beq h)
 rfl {a}:=by rw[Oc];exact beq_self_eq_true _

def lq (k:ByteArray) (e:MapEntry):Bool:=match e.key with
 | .string a=>a==k
 | _=>false
def rF (es:List MapEntry) (k:ByteArray):Option Value:=(es.find? (lq k)).map (·.val)
def qC (es:List MapEntry):Prop:=∀e∈es,∃a,e.key=.string a
def Da (b:Nat) (f:ByteArray->Option Value) (n:Nat):HP:=exH λx:Array MapEntry×Nat=>star (obj b (.map x.1 x.2)) (jI ((qC x.1.toList/\x.1.size=n)/\∀k,rF x.1.toList k=f k))

section
variable {w0 w w':Wd} {S:NP} {rs:List HP} {put:HP->List HP} {P:Program}
theorem Jr {b n:Nat} {f:ByteArray->Option Value} {F:NP}:(Da b f n).ok F w↔(∀x,F x↔x=b)/\∃es clock,w.heap[b]? =some (.map es clock)/\(qC es.toList/\es.size=n)/\∀k,rF es.toList k=f k:=by
 constructor
 .rintro⟨⟨es,c⟩,F1,F2,hF,hd,⟨h1,h2⟩,⟨⟨h3,h4⟩,h5⟩⟩
  refine⟨λx=>?_,es,c,h2,h3,h4⟩;rw[hF,h1];exact⟨λh=>h.elim id λh=>(h5 x h).elim,.inl⟩
 rintro⟨h1,es,c,h2,h3,h4⟩;exact⟨⟨es,c⟩,F,λ_=>False,λx=>sM,λ_ _ h=>h,⟨h1,h2⟩,⟨⟨h3,h4⟩,λ_ h=>h⟩⟩
theorem Sep.aga {b n:Nat} {f:ByteArray->Option Value} (h:Sep w0 S rs w) (hat:At rs (Da b f n) put): ∃es clock,w.heap[b]? =some (.map es clock)/\(qC es.toList/\es.size=n)/\∀k,rF es.toList k=f k:=by
 obtain⟨F,hp,_,_⟩:=h.focus hat;exact(Jr.1 hp).2
theorem Sep.ajo {b:Nat} (h:Sep w0 S rs w) (hat:At rs (Mw.obj b (Obj.map #[] 0)) put):Sep w0 S (put (Da b (λ_=>none) 0)) w:=
 h.imp hat λF hF=>Jr.2 ⟨hF.1, #[],0,hF.2,⟨by simp[qC],rfl⟩,λk=>rfl⟩

theorem UQ (k:ByteArray): ∀(es:List MapEntry) (i:Nat),qC es->∃r,Instr.findNow .string (.string k) es i=some r/\r.map (·.2)=rF es k/\
    (∀j v,r=some (j,v)->∃m,j=i+m/\∃e,es[m]? =some e/\lq k e=true/\es.find? (lq k)=some e/\∀m' e',m'<m->es[m']? =some e'->lq k e'=false):=by
  intro es
  induction es with
  | nil=>intro i _;exact⟨none,rfl,rfl,λ_ _ h=>by cases h⟩
  | cons e es ih=>
    intro i hk;obtain⟨a,ha⟩:=hk e zah;obtain⟨r,h1,h2,h3⟩:=ih (i+1) λx hx=>hk x (zai _ hx);have hs:Instr.sameNow .string (.string k) e.key=some (k==a):=by rw[ha];simp[Instr.sameNow]
    have Qe:lq k e=(a==k):=by unfold lq;rw[ha]
    by_cases hka:k=a
    . subst hka
      have hkt:lq k e=true:=by rw[Qe];simp
      refine⟨some (i,e.val),?_,?_,?_⟩
      . unfold Instr.findNow;rw[hs];simp
      . simp[rF,hkt]
      rintro j v Qf;injection Qf with Qf
      injection Qf with h4 h5
      exact⟨0,oM,e,rfl,hkt,by simp[hkt],λm' _ hm=>oM⟩
    have Ws:lq k e=false:=by rw[Qe];simpa using λh:a=k=>hka h.symm
    refine⟨r,?_,?_,?_⟩
    . unfold Instr.findNow;rw[hs,h1]
      have :(k==a)=false:=by simpa using hka
      rw[this]
    . rw[h2];simp[rF,Ws]
    rintro j v Qf;obtain⟨m,hm,e',he',hk',hf',bX⟩:=h3 j v Qf;refine⟨m+1,oM,e',by simpa using he',hk',by simp[Ws,hf'],λm' e'' qo Qg=>?_⟩;cases m' with
    | zero=>simp at Qg;rw[<-Qg];exact Ws
    | succ m'=>exact bX m' e'' oM (by simpa using Qg)
theorem qV {kt:Td} (hu:P.underlying kt=some (.string)) (k:ByteArray) (es:List MapEntry) (hk:qC es):
    ∃r,(Instr.findKey kt (.string k) es).run P w=.ok r w/\r.map (·.2)=rF es k/\
    (∀j v,r=some (j,v)->∃e,es[j]? =some e/\lq k e=true/\∀m' e',m'<j->es[m']? =some e'->lq k e'=false):=by
  obtain⟨r,h1,h2,h3⟩:=UQ k es 0 hk;refine⟨r,by simp[Instr.findKey,run_underlying hu,h1],h2,λj v Qf=>?_⟩;obtain⟨m,hm,e,he,nu,_,bX⟩:=h3 j v Qf;have :j=m:=by omega
  subst this;exact⟨e,he,nu,bX⟩
theorem qb {kt:Td} (hu:P.underlying kt=some (.string)) (b:Bool) (k:ByteArray) (d:Nat):(Instr.checkKey b (d+1) kt (.string k)).run P w=.ok () w:=by
 simp[Instr.checkKey,run_underlying hu]
theorem j5 {b:Nat} {es:Array MapEntry} {c:Nat} (h:w.heap[b]? =some (.map es c)):(getObj b).run P w=.ok (.map es c) w:=by
 simp[getObj,Sem.run,h]
theorem Db {ρ:Od->Value} {ty:Td} {x y:Od} {T k e:Td} [hm:IsMap P T k e] [hk:nZ P k] {z:Value} [hz:Zero P e z] {b:Nat} {f:ByteArray->Option Value} {i:ByteArray}
    {es:Array MapEntry} {c:Nat} (hb:w.heap[b]? =some (.map es c)) (uG:qC es.toList) (hf: ∀k,rF es.toList k=f k) (hx:ρ x=.map (some b)) (hy:ρ y=.string i):Gives P ρ (.lookup T x y false) ty w ((f i).getD z) w:=by
  obtain⟨r,h1,h2,_⟩:=qV (P:=P) (w:=w) hk.und i es.toList uG;intro _ _ _ _;rw[<-hf,<-h2];have fq:=qb (P:=P) (w:=w) hk.und es.isEmpty i 9999;simp only[execOp,hx,hy,Instr.lookup,zbk,run_underlying hm.und,zas,j5 hb,zbn];rw[fq];simp only[zas,h1];cases r with
  | none=>simp[hz.run]
  | some jv=>obtain⟨j,v⟩:=jv;simp
theorem QD {ρ:Od->Value} {ty:Td} {x y:Od} {T k e:Td} [hm:IsMap P T k e] [hk:nZ P k] {z:Value} [hz:Zero P e z] {b n:Nat} {f:ByteArray->Option Value} {i:ByteArray}
    (H:Sep w0 S rs w) (hat:At rs (Da b f n) put) (hx:ρ x=.map (some b)) (hy:ρ y=.string i):Gives P ρ (.lookup T x y false) ty w ((f i).getD z) w:=by
  obtain⟨es,c,hb,uG,hf⟩:=H.aga hat;exact Db hb uG.1 hf hx hy
theorem aaj {es:List MapEntry} {i:ByteArray} {v:Value} {n:Nat} (k:ByteArray) (hn:rF es i=none):rF (es++[{key:=.string i,val:=v,born:=n}]) k=if k=i then some v else rF es k:=by
 unfold rF at *;rw[List.find?_append]
 by_cases Qe:k=i
 .subst Qe
  have h0:es.find? (lq k)=none:=by simpa using hn
  rw[zac rfl,h0];simp[lq]
 rw[zab Qe]
 have :([{key:=.string i,val:=v,born:=n}]:List MapEntry).find? (lq k)=none:=by
  have :lq k {key:=.string i,val:=v,born:=n}=false:=by simp[lq];exact λh=>Qe h.symm
  simp[this]
 rw[this];cases es.find? (lq k)<;>rfl
theorem UR (k i:ByteArray) (v:Value): ∀(es:List MapEntry) (j:Nat) (e:MapEntry),es[j]? =some e->lq i e=true->(∀m' e',m'<j->es[m']? =some e'->lq i e'=false)->
    rF (es.modify j λe=>{e with key:=.string i,val:=v}) k=if k=i then some v else rF es k:=by
  intro es
  induction es with
  | nil=>intro j e h;simp at h
  | cons x es ih=>
    intro j e hj nu bX;cases j with
    | zero=>
      simp at hj;subst hj;simp only[List.modify_zero_cons];unfold rF
      by_cases Qe:k=i
      . subst Qe
        rw[zac rfl];simp[lq]
      rw[zab Qe];have h1:lq k {x with key:=.string i,val:=v}=false:=by simp[lq];exact λh=>Qe h.symm
      have h2:lq k x=false:=by
        unfold lq at nu |-
        split at nu
        . rename_i a ha
          simp at nu;simpa[nu]using λh:i=k=>Qe h.symm
        cases nu
      simp[h1,h2]
    | succ j=>
      simp only[List.modify_succ_cons];have hx:lq i x=false:=bX 0 x oM rfl;have ih':=ih j e (by simpa using hj) nu λm' e' hm he=>bX (m'+1) e' oM (by simpa using he);unfold rF at ih' ⊢;rw[zcj,zcj];cases hkx:lq k x with
      | true=>
        have :k≠i:=λe=>by rw[e,hx]at hkx;cases hkx
        simp[this]
      | false=>simpa using ih'
theorem M8 {ρ:Od->Value} {ty:Td} {x y z:Od} {T k e:Td} [hm:IsMap P T k e] [hk:nZ P k] {b n:Nat} {f:ByteArray->Option Value} {i:ByteArray} {v:Value}
    (H:Sep w0 S rs w) (hat:At rs (Da b f n) put) (hx:ρ x=.map (some b)) (hy:ρ y=.string i) (hz:ρ z=v):
    ∃w',Qy P ρ (.mapUpdate T x y z) ty w w'/\Sep w0 S (put (Da b (λk=>if k=i then some v else f k) (if f i=none then n+1 else n))) w':=by
  obtain⟨F,hp,_,nA⟩:=H.focus hat;obtain⟨hF,es,c,hb,⟨uG,zV⟩,hf⟩:=Jr.1 hp;obtain⟨r,h1,h2,h3⟩:=qV (P:=P) (w:=w) hk.und i es.toList uG;have fq:=qb (P:=P) (w:=w) hk.und false i 9999;have aiG:=mU hb;have Bd: ∀o:Obj,(setObj b o).run P w=.ok () {w with heap:=w.heap.setIfInBounds b o}:=λo=>by simp[Go.setObj,Sem.run,hb]
  have fin: ∀(es':Array MapEntry) (c':Nat),qC es'.toList->es'.size=(if f i=none then n+1 else n)->(∀k,rF es'.toList k=if k=i then some v else f k)->
      Sep w0 S (put (Da b (λk=>if k=i then some v else f k) (if f i=none then n+1 else n))) {w with heap:=w.heap.setIfInBounds b (.map es' c')}:=λes' c' hk' hs' hf'=>
    nA _ F _ ⟨rfl,rfl,rfl,sM,λj hj hFj=>by simp only[zbz];rw[zab (λe=>hFj ((hF j).2 e.symm))]⟩
      (Jr.2 ⟨hF,es',c',by simp[aiG],⟨hk',hs'⟩,hf'⟩) λb hb=>.inl hb
  cases r with
  | none=>
    refine⟨{w with heap:=w.heap.setIfInBounds b (.map (es.push {key:=.string i,val:=v,born:=c}) (c+1))},λ_ _ _ _=>?_,fin _ _ ?_ ?_ ?_⟩
    . simp only[execOp,hx,hy,hz,Instr.mapUpdate,zbk,run_underlying hm.und,zas,j5 hb]
      rw[fq];simp only[zas,h1,Bd,zbn]
    . intro e he
      simp at he
      rcases he with he | he
      . exact uG e (by simpa using he)
      exact⟨i,by rw[he]⟩
    . have h0:rF es.toList i=none:=by rw[<-h2];rfl
      rw[zac (by rw[<-hf];exact h0),Array.size_push,zV]
    intro k;have h0:rF es.toList i=none:=by rw[<-h2];rfl
    simp only[zfp];rw[aaj k h0,hf]
  | some jv=>
    obtain⟨j,u⟩:=jv;obtain⟨e,he,nu,bX⟩:=h3 j u rfl;obtain⟨a,ha⟩:=uG e (zao he);have MP:a=i:=by unfold lq at nu;rw[ha]at nu;simpa using nu
    have Cn:(((es[j]?).map (·.key)).getD (.string i))=.string i:=by
      have :es[j]? =some e:=by simpa using he
      rw[this];simp[ha,MP]
    have aiI:(Instr.keyThatStays (.string i) (.string i)).run P w=.ok (.string i) w:=by simp[Instr.keyThatStays,Instr.sameBits]
    refine⟨{w with heap:=w.heap.setIfInBounds b (.map (es.modify j λe=>{e with key:=.string i,val:=v}) c)},λ_ _ _ _=>?_,fin _ _ ?_ ?_ ?_⟩
    . simp only[execOp,hx,hy,hz,Instr.mapUpdate,zbk,run_underlying hm.und,zas,j5 hb]
      rw[fq];simp only[zas,h1,Cn,aiI,Bd,zbk,zbn]
    . intro e' he'
      simp only[zez]at he';obtain⟨m,qo,rfl⟩:=zft.1 he';rw[List.getElem_modify]
      split
      . exact⟨i,rfl⟩
      exact uG _ (zfz _)
    . have h0:rF es.toList i=some u:=by rw[<-h2];rfl
      rw[zab (by rw[<-hf,h0];simp),Array.size_modify,zV]
    intro k;simp only[zez];rw[UR k i v es.toList j e he nu bX,hf]
end
end Go.Mw
namespace Go.Mw
open Go Go.RowKit
def iC (X:Wd->Prop):HP where
 ok F w:=(∀w',w.heap.size<=w'.heap.size->(∀b,F b->w'.heap[b]? =w.heap[b]?)->X w')/\∀b,F b->b<w.heap.size
 loc hs h gT:=⟨λw' hs' h'=>gT.1 w' (zcp hs hs') λb hb=>(h' b hb).trans (h b hb),λb hb=>Nat.lt_of_lt_of_le (gT.2 b hb) hs⟩
 low h:=h.2
section
variable {F:NP} {w w' w0:Wd} {S:NP} {rs:List HP} {put:HP->List HP} {p q:HP} {X Y Z:Wd->Prop}
theorem HP.look (h:p.ok F w) (hX: ∀F w,p.ok F w->X w):(iC X).ok F w:=⟨λw' hs h'=>hX F w' (p.loc hs h' h),p.low h⟩
theorem tL (h:(iC X).ok F w):X w:=h.1 w (zbf _) λ_ _=>rfl
theorem Sep.look (H:Sep w0 S rs w) (hat:At rs p put) (hX: ∀F w,p.ok F w->X w):Sep w0 S (put (iC X)) w:=H.imp hat λ_ hF=>HP.look hF hX
theorem Sep.sees (H:Sep w0 S rs w) (hat:At rs (iC X) put):X w:=by
 obtain⟨F,hp,_,_⟩:=H.focus hat;exact tL hp
theorem Sep.rH (H:Sep w0 S (iC X::iC Y::rs) w) (hZ: ∀w,X w->Y w->Z w):Sep w0 S (iC Z::rs) w:=
 Sep.look H.bI At0 λF w hF=>by
  obtain⟨F1,F2,_,_,h1,h2⟩:=hF;exact hZ w (tL h1) (tL h2)
theorem Sep.zm (H:Sep w0 S rs w) (h: ∀w,X w):Sep w0 S (iC X::rs) w:=
 Sep.look (Sep.jT (φ:=True) trivial H) At0 λ_ w _=>h w
theorem Sep.tN (H:Sep w0 S rs w) (hat:At rs (iC X) put) (h: ∀w,X w->Y w):Sep w0 S (put (iC Y)) w:=Sep.look H hat λ_ _ hF=>h _ (tL hF)
end
end Go.Mw
namespace Go.Proofs.YtkfpleidaoaonaaGreatDoor
open Go Go.Mw Go.Lib
set_option maxRecDepth 4000
section
variable {F:NP} {w w' w0:Wd} {S:NP} {rs:List HP} {put:HP->List HP} {v x:Value} {e k:Nat} {α:Type} {enc:α->LV}
theorem iE [lY enc k] {l:List α} (h:(bW e k enc v l).ok F w):aM w v enc k l:=by
 have H:=Sep.dZ h;obtain⟨A,c,rfl,hc,hR⟩:=H.eO At0;exact⟨A,c,rfl,⟨hc,Sep.ah1 H At0⟩,hR⟩
theorem lu [lY enc k] {l:List α} (H:Mw.Sep w0 S rs w) (hat:At rs (bW e k enc v l) put):aM w v enc k l:=by
 obtain⟨F,hp,_,_⟩:=H.focus hat;exact iE hp
def Kz {α:Type} (v:Value) (enc:α->LV) (k:Nat) (l:List α):HP:=iC λw=>aM w v enc k l
theorem iL [lY enc k] {l:List α} (H:Mw.Sep w0 S rs w) (hat:At rs (bW e k enc v l) put):Mw.Sep w0 S (put (Kz v enc k l)) w:=Sep.look H hat λ_ _ h=>iE h
def Dc (r:List (L8×Value)) (l:List jL):HP:=iC λw=>nI w r l
def vZ (v:Value) (p:aZ):HP:=iC λw=>eG w v p
variable {r:List (L8×Value)} {l:List jL} {s:List bJ} {n:L8} {vw vc:Value} {p:aZ}
theorem Oe (H:Mw.Sep w0 S rs w):Mw.Sep w0 S (Dc [] []::rs) w:=Sep.zm H λ_=>nI.nil
theorem LZ (H:Mw.Sep w0 S (bW e 3 aD x s::Dc r l::rs) w):Mw.Sep w0 S (Dc (r++[(n,x)]) (l++[⟨n,s⟩])::rs) w:=
 Sep.rH (iL H At0) λ_ h1 h2=>h2.push h1
theorem agb {g:Int} {cols:List jL} (H:Mw.Sep w0 S (Kz vw aD 3 s::bW e 2 bZ vc r::Dc r cols::rs) w):Mw.Sep w0 S (vZ (agg [vw,vc,I g]) ⟨s,cols,g⟩::rs) w:=by
 have H1:=(iL H At1).aJ.bF;have H2:=Sep.rH (Z:=λw=>zO w vc cols) H1 λ_ h1 h2=>⟨r,h2,h1⟩;exact Sep.rH H2 λ_ h1 h2=>⟨vw,vc,rfl,h2,h1⟩
end
end Go.Proofs.YtkfpleidaoaonaaGreatDoor
namespace Go.Proofs.YtkfpleidaoaonaaGreatDoor
open Go Go.Lib Go.Mw
set_option maxRecDepth 4000
structure Js {α:Type} (f:α->α->Int):Prop where
 eq0: ∀a b,f a b=0↔a=b
 anti: ∀a b,f b a= -f a b
 trans: ∀a b c,f a b<0->f b c<0->f a c<0
section
variable {α:Type} {f:α->α->Int}
theorem Js.self (h:Js f) (a:α):f a a=0:=(h.eq0 a a).2 rfl
theorem Js.irr (h:Js f) {a b:α} (hl:f a b<0):a≠b:=λe=>by rw[(h.eq0 a b).2 e]at hl;omega
theorem Js.asymm (h:Js f) {a b:α} (hl:f a b<0): ¬f b a<0:=by rw[h.anti];omega
theorem Js.gt (h:Js f) {a b:α} (hn: ¬f a b<0) (iF:a≠b):f b a<0:=by
 have:=mt (h.eq0 a b).1 iF;rw[h.anti];omega
end
def uE {α:Type} (f:α->α->Int):List α->List α->Int
 | [],[]=>0
 | [],_::_=> -1
 | _::_,[]=>1
 | a::r,b::s=>if f a b≠0 then f a b else uE f r s
theorem ach {α:Type} {f:α->α->Int} (h:Js f):Js (uE f) where
 eq0:=λa=>by
  induction a with
  | nil=>intro b;cases b<;>simp[uE]
  | cons x r ih=>
   intro b;cases b with
   | nil=>simp[uE]
   | cons y s=>
    rw[uE]
    by_cases e:f x y=0
    .rw[zab (not_not_intro e),ih,(h.eq0 x y).1 e];simp
    rw[zac e];have:=mt (h.eq0 x y).2 e;simp[e,this]
 anti:=λa=>by
  induction a with
  | nil=>intro b;cases b<;>simp[uE]
  | cons x r ih=>
   intro b;cases b with
   | nil=>simp[uE]
   | cons y s=>
    rw[uE,uE];have ha:=h.anti x y
    by_cases e:f x y=0
    .rw[zab oM,zab oM,ih]
    rw[zac oM,zac e,ha]
 trans:=λa=>by
  induction a with
  | nil=>
   intro b c h1 h2;cases b with
   | nil=>simp[uE]at h1
   | cons y s=>
    cases c with
    | nil=>simp[uE]at h2
    | cons z t=>simp[uE]
  | cons x r ih=>
   intro b c h1 h2;cases b with
   | nil=>simp[uE]at h1
   | cons y s=>
    cases c with
    | nil=>simp[uE]at h2
    | cons z t=>
     rw[uE]at h1 h2 |-
     by_cases e1:f x y=0
     .have exy:=(h.eq0 x y).1 e1
      subst exy;rw[zab (not_not_intro e1)]at h1
      by_cases e2:f x z=0
      .rw[zab (not_not_intro e2)]at h2 |-
       exact ih s t h1 h2
      rw[zac e2]at h2 ⊢;exact h2
     rw[zac e1]at h1
     by_cases e2:f y z=0
     .have eyz:=(h.eq0 y z).1 e2
      subst eyz;rw[zac e1];exact h1
     rw[zac e2]at h2;have h3:=h.trans x y z h1 h2;rw[zac oM];exact h3
def adA (a b:UInt8):Int:=if a<b then -1 else if b<a then 1 else 0
theorem Jt (a b:UInt8):adA a b=if a.toNat<b.toNat then -1 else if b.toNat<a.toNat then 1 else 0:=by unfold adA;simp only[UInt8.lt_iff_toNat_lt]
theorem agc:Js adA where
 eq0:=λa b=>by
  rw[Jt,<-UInt8.toNat_inj]
  split
  .omega
  split<;>omega
 anti:=λa b=>by
  rw[Jt,Jt]
  split<;>split<;>(try split)<;>omega
 trans:=λa b c h1 h2=>by
  rw[Jt]at h1 h2 |-
  split at h1<;>split at h2<;>(try split at h1)<;>(try split at h2)<;>(try omega)
theorem Rx: ∀a b:L8,compareBytes a b=uE adA a b
 | [],[]=>rfl
 | [],_::_=>rfl
 | _::_,[]=>rfl
 | a::r,b::s=>by
  rw[compareBytes,uE,Rx r s];unfold adA
  by_cases h1:a<b
  .simp[h1]
  by_cases h2:b<a
  .simp[h1,h2]
  simp[h1,h2]
theorem KA:Js compareBytes:=by
 have e:compareBytes=uE adA:=funext λa=>funext λb=>Rx a b;rw[e];exact ach agc
theorem ajp {a b:aI}:a=b↔a.null=b.null/\a.n=b.n/\a.s=b.s:=⟨λh=>by subst h;exact⟨rfl,rfl,rfl⟩,fun⟨h1,h2,h3⟩=>by cases a;cases b;simp_all⟩
theorem Og:Js vT where
 eq0:=λa b=>by
  unfold vT;rw[ajp]
  by_cases hn:a.null=b.null
  .rw[zac hn]
   by_cases h1:a.n<b.n
   .rw[zac h1];constructor
    .intro h;omega
    intro h;omega
   rw[zab h1]
   by_cases h2:b.n<a.n
   .rw[zac h2];constructor
    .intro h;omega
    intro h;omega
   rw[zab h2,KA.eq0];exact⟨λh=>⟨hn,oM,h⟩,λh=>h.2.2⟩
  rw[zab hn];constructor
  .intro h;split at h<;>omega
  intro h;exact zat h.1 hn
 anti:=λa b=>by
  unfold vT
  by_cases hn:a.null=b.null
  .rw[zac hn,zac hn.symm,KA.anti a.s b.s]
   by_cases h1:a.n<b.n
   .rw[zac h1,zab oM,zac h1];omega
   rw[zab h1]
   by_cases h2:b.n<a.n
   .simp[h1,h2]
   simp[h1,h2]
  rw[zab hn,zab (λe=>hn e.symm)];cases ha:a.null<;>cases hb:b.null<;>simp_all
 trans:=λa b c h1 h2=>by
  unfold vT at h1 h2 ⊢;cases ha:a.null<;>cases hb:b.null<;>cases hc:c.null<;>simp only[ha,hb,hc,if_true,if_false,reduceCtorEq,Bool.true_eq_false,Bool.false_eq_true]at h1 h2 |- <;>(try omega)
  all_goals
   split at h1<;>split at h2<;>(try split at h1)<;>(try split at h2)<;>(try omega)<;>(try (rw[zac oM];omega))
   rw[zab oM,zab oM];exact KA.trans _ _ _ h1 h2
def nJ:List aI->List aI->Int:=uE vT
theorem jF:Js nJ:=ach Og
structure aH where
 row:List aI
 w:Int
theorem aH.ext' {a b:aH} (h1:a.row=b.row) (h2:a.w=b.w):a=b:=by cases a;cases b;simp_all
def wtL:List aH->List aI->Int
 | [],_=>0
 | x::l,r=>(if x.row=r then x.w else 0)+wtL l r
theorem gF (a b:List aH) (r:List aI):wtL (a++b) r=wtL a r+wtL b r:=by
 induction a with
 | nil=>simp[wtL]
 | cons x a ih=>rw[zcc,wtL,wtL,ih];omega
theorem uU {l:List aH} {r:List aI} (h: ∀x∈l,x.row≠r):wtL l r=0:=by
 induction l with
 | nil=>rfl
 | cons x l ih=>rw[wtL,zab (h x zah),ih λy hy=>h y (zai _ hy)];rfl
def rW (ks:List (List aI)):Prop:=ks.Pairwise λa b=>nJ a b<0
def QE (r:List aI):List (List aI)->List (List aI)
 | []=>[r]
 | k::ks=>if nJ r k<0 then r::k::ks else if r=k then k::ks else k::QE r ks
theorem Np {r x:List aI}: ∀{ks:List (List aI)},x∈QE r ks↔x=r\/x∈ks
 | []=>by simp[QE]
 | k::ks=>by
  rw[QE]
  split
  .simp
  split
  .rename_i h;subst h;simp
  rw[zap,Np,zap,or_left_comm]
theorem Gr {r:List aI}: ∀{ks:List (List aI)},rW ks->rW (QE r ks)
 | [],_=>List.pairwise_singleton _ _
 | k::ks,h=>by
  obtain⟨h1,h2⟩:=zcu.1 h;rw[QE]
  split
  .rename_i hl
   refine zcu.2 ⟨λy hy=>?_,h⟩
   rcases zap.1 hy with e | e
   .subst e;exact hl
   exact jF.trans _ _ _ hl (h1 y e)
  rename_i hl
  split
  .exact h
  rename_i iF;refine zcu.2 ⟨λy hy=>?_,Gr h2⟩
  rcases Np.1 hy with e | e
  .subst e;exact jF.gt hl iF
  exact h1 y e
theorem yh: ∀{a b:List (List aI)},rW a->rW b->(∀x,x∈a↔x∈b)->a=b
 | [],[],_,_,_=>rfl
 | [],y::b,_,_,h=>zat ((h y).2 zah) zaj
 | x::a,[],_,_,h=>zat ((h x).1 zah) zaj
 | x::a,y::b,ha,hb,h=>by
  obtain⟨ha1,ha2⟩:=zcu.1 ha;obtain⟨Q8,hb2⟩:=zcu.1 hb
  have Ka:x=y:=by
   rcases zap.1 ((h x).1 zah)with e | e
   .exact e
   rcases zap.1 ((h y).2 zah)with e' | e'
   .exact e'.symm
   exact zat (Q8 x e) (jF.asymm (ha1 y e'))
  subst Ka;rw[yh ha2 hb2 λz=>?_];constructor
  .intro hz
   rcases zap.1 ((h z).1 (zai _ hz))with e | e
   .exact zat e (jF.irr (ha1 z hz)).symm
   exact e
  intro hz
  rcases zap.1 ((h z).2 (zai _ hz))with e | e
  .exact zat e (jF.irr (Q8 z hz)).symm
  exact e
def yj:List aH->List (List aI)
 | []=>[]
 | x::l=>QE x.row (yj l)
theorem Ae {r:List aI}: ∀{l:List aH},r∈yj l↔∃x∈l,x.row=r
 | []=>by simp[yj]
 | x::l=>by
  rw[yj,Np,Ae];simp only[zap,exists_eq_or_imp,eq_comm (a:=r)]
theorem uY: ∀l:List aH,rW (yj l)
 | []=>List.Pairwise.nil
 | x::l=>Gr (uY l)
def M9 (f:List aI->Int) (ks:List (List aI)):List aH:=(ks.filter λr=>decide (f r≠0)).map λr=>⟨r,f r⟩
def dY (l:List aH):List aH×Int:=if(yj l).all (λr=>gU (wtL l r))=true then(M9 (wtL l) (yj l),0)else([],50)
def isZ (z:List aH):Prop:=rW (z.map (·.row))/\(∀x∈z,x.w≠0)/\∀x∈z,gU x.w=true
theorem agd:gU 0=true:=dC
theorem anZ {f g:List aI->Int} {a b:List (List aI)} (ha:rW a) (hb:rW b) (hfg: ∀r,f r=g r) (h: ∀r,f r≠0->(r∈a↔r∈b)):M9 f a=M9 g b:=by
 have e:f=g:=funext hfg;subst e;unfold M9;rw[yh (ha.sublist zcv) (hb.sublist zcv) λr=>?_];simp only[zbw,decide_eq_true_eq];exact and_congr_left λhr=>h r hr
theorem yt {l:List aH}:(yj l).all (λr=>gU (wtL l r))=true↔∀r,gU (wtL l r)=true:=by
 rw[zaz];constructor
 .intro h r
  by_cases hm:r∈yj l
  .exact h r hm
  rw[uU λx hx e=>hm (Ae.2 ⟨x,hx,e⟩)];exact agd
 exact λh r _=>h r
theorem KC {l:List aH} {r:List aI} (h:wtL l r≠0):r∈yj l:=by
 refine Classical.byContradiction λhm=>h (uU λx hx e=>hm (Ae.2 ⟨x,hx,e⟩))
theorem qD {a b:List aH} (h: ∀r,wtL a r=wtL b r):dY a=dY b:=by
 unfold dY
 by_cases hf: ∀r,gU (wtL a r)=true
 .rw[zac (yt.2 hf),zac (yt.2 λr=>by rw[<-h];exact hf r)]
  rw[anZ (uY a) (uY b) h λr hr=>⟨λ_=>KC (by rw[<-h];exact hr),λ_=>KC hr⟩]
 rw[zab (mt yt.1 hf),zab (mt yt.1 λhg=>hf λr=>by rw[h];exact hg r)]
theorem En {l:List aH}:(dY l).2=0↔∀r,gU (wtL l r)=true:=by
 unfold dY
 by_cases hf: ∀r,gU (wtL l r)=true
 .rw[zac (yt.2 hf)];exact⟨λ_=>hf,λ_=>rfl⟩
 rw[zab (mt yt.1 hf)];exact⟨λh=>zat h dC,λh=>zat h hf⟩
theorem nK {l:List aH} (h:(dY l).2≠0):dY l=([],50):=by
 unfold dY at h |-
 split
 .rename_i hc;rw[zac hc]at h;exact zat rfl h
 rfl
theorem UU {l:List aH} (h:(dY l).2=0):dY l=(M9 (wtL l) (yj l),0):=zac (yt.2 (En.1 h))
theorem ajq (f:List aI->Int) (ks:List (List aI)):(M9 f ks).map (·.row)=ks.filter λr=>decide (f r≠0):=by
 unfold M9;rw[zcy];exact List.map_id _
theorem KD {f:List aI->Int} {ks:List (List aI)} {x:aH}:x∈M9 f ks↔x.row∈ks/\f x.row≠0/\x.w=f x.row:=by
 unfold M9;rw[zaq];constructor
 .rintro⟨r,hr,rfl⟩
  obtain⟨h1,h2⟩:=zbw.1 hr;exact⟨h1,zba h2,rfl⟩
 rintro⟨h1,h2,h3⟩;exact⟨x.row,zbw.2 ⟨h1,zbe h2⟩,aH.ext' rfl h3.symm⟩
theorem qE {l:List aH}:isZ (dY l).1:=by
 by_cases h:(dY l).2=0
 .rw[UU h]
  refine⟨?_,λx hx=>?_,λx hx=>?_⟩
  .show rW ((M9 _ _).map (·.row))
   rw[ajq];exact(uY l).sublist zcv
  .obtain⟨_,h2,h3⟩:=KD.1 hx;rw[h3];exact h2
  obtain⟨_,_,h3⟩:=KD.1 hx;rw[h3];exact En.1 h _
 rw[nK h];exact⟨List.Pairwise.nil,λx hx=>zat hx zaj,λx hx=>zat hx zaj⟩
theorem Eo: ∀{z:List aH},(z.map (·.row)).Nodup->∀x∈z,wtL z x.row=x.w
 | [],_,x,hx=>zat hx zaj
 | y::z,h,x,hx=>by
  rw[zax,zet]at h;rw[wtL]
  rcases zap.1 hx with e | e
  .subst e
   rw[zac rfl,uU λu hu e=>h.1 (by rw[<-e];exact zeb hu)];omega
  rw[zab λe'=>h.1 (by rw[e'];exact zeb e),Eo h.2 x e];omega
theorem oP {ks:List (List aI)} (h:rW ks):ks.Nodup:=h.imp λhl=>jF.irr hl
theorem Ep {l:List aH} (h:(dY l).2=0) (r:List aI):wtL (dY l).1 r=wtL l r:=by
 have hz:=qE (l:=l);rw[UU h]at hz |-
 by_cases hr:wtL l r=0
 .rw[hr]
  exact uU λx hx e=>(KD.1 hx).2.1 (by rw[e];exact hr)
 exact Eo (oP hz.1) ⟨r,wtL l r⟩ (KD.2 ⟨KC hr,hr,rfl⟩)
theorem al0 {z:List aH} (h:isZ z) (r:List aI):gU (wtL z r)=true:=by
 by_cases hm: ∃x∈z,x.row=r
 .obtain⟨x,hx,rfl⟩:=hm
  rw[Eo (oP h.1) x hx];exact h.2.2 x hx
 rw[uU λx hx e=>hm ⟨x,hx,e⟩];exact agd
theorem Af {z:List aH} (h:isZ z):dY z=(z,0):=by
 have hk:yj z=z.map (·.row):=yh (uY z) h.1 λr=>by rw[Ae,zaq]
 have h0:(dY z).2=0:=En.2 (al0 h);rw[UU h0,hk];unfold M9;have hw:=Eo (oP h.1)
 have e: ∀l:List aH,(∀x∈l,x∈z)->((l.map (·.row)).filter λr=>decide (wtL z r≠0)).map (λr=>(⟨r,wtL z r⟩:aH))=l:=λl=>by
  induction l with
  | nil=>intro _;rfl
  | cons x l ih=>
   intro hl;have hx:=hl x zah;rw[zax,List.filter_cons_of_pos (by rw[hw x hx];exact zbe (h.2.1 x hx)),zax,ih λy hy=>hl y (zai _ hy),hw x hx]
 rw[e z λx hx=>hx]
def UW (a b:List aH):List aH×Int:=dY (a++b)
theorem Xo {a b:List aH} (ha:(dY a).2=0):dY ((dY a).1++b)=dY (a++b):=qD λr=>by rw[gF,gF,Ep ha]
theorem Ry {a b:List aH} (hb:(dY b).2=0):dY (a++(dY b).1)=dY (a++b):=qD λr=>by rw[gF,gF,Ep hb]
structure dH where
 key:List aI
 vals:List aI
 w:Int
def Gs (x:dH) (i:Nat):Int:=if i=0 then x.w else if(x.vals.getD (i-1) cell0).null=true then 0 else x.w*(x.vals.getD (i-1) cell0).n
def lH:List dH->List aI->Nat->Int
 | [],_,_=>0
 | x::l,k,i=>(if x.key=k then Gs x i else 0)+lH l k i
theorem sw (a b:List dH) (k:List aI) (i:Nat):lH (a++b) k i=lH a k i+lH b k i:=by
 induction a with
 | nil=>simp[lH]
 | cons x a ih=>rw[zcc,lH,lH,ih];omega
theorem Df {l:List dH} {k:List aI} {i:Nat} (h: ∀x∈l,x.key≠k):lH l k i=0:=by
 induction l with
 | nil=>rfl
 | cons x l ih=>rw[lH,zab (h x zah),ih λy hy=>h y (zai _ hy)];rfl
def uZ:List dH->List (List aI)
 | []=>[]
 | x::l=>QE x.key (uZ l)
theorem sP {r:List aI}: ∀{l:List dH},r∈uZ l↔∃x∈l,x.key=r
 | []=>by simp[uZ]
 | x::l=>by
  rw[uZ,Np,sP];simp only[zap,exists_eq_or_imp,eq_comm (a:=r)]
theorem nL: ∀l:List dH,rW (uZ l)
 | []=>List.Pairwise.nil
 | x::l=>Gr (nL l)
theorem sD {l:List dH} {k:List aI} {i:Nat} (h:lH l k i≠0):k∈uZ l:=
 Classical.byContradiction λhm=>h (Df λx hx e=>hm (sP.2 ⟨x,hx,e⟩))
def xB (keys sums:Nat) (x:dH):Bool:=decide (x.key.length=keys/\x.vals.length=sums)&&x.vals.all λc=>decide (c.s=[]/\¬(c.null=true/\c.n≠0))
def yX (sums:Nat) (l:List dH):Bool:=(uZ l).all λk=>(List.range (sums+1)).all λi=>gU (lH l k i)
theorem tO {sums:Nat} {l:List dH}:yX sums l=true↔∀k i,i<=sums->gU (lH l k i)=true:=by
 unfold yX;rw[zaz];constructor
 .intro h k i hi
  by_cases hm:k∈uZ l
  .exact zaz.1 (h k hm) i (zdl.2 oM)
  rw[Df λx hx e=>hm (sP.2 ⟨x,hx,e⟩)];exact agd
 intro h k _;rw[zaz];exact λi hi=>h k i (by have:=zdl.1 hi;omega)
def yY (n:Int):aI:=⟨false,n,[]⟩
def Na (sums:Nat) (l:List dH) (k:List aI):List aI:=k++(List.range (sums+1)).map λi=>yY (lH l k i)
def lI (sums:Nat) (l:List dH):List aH:=((uZ l).filter λk=>decide (lH l k 0≠0)).map λk=>⟨Na sums l k,1⟩
theorem Oh: ∀{a b:List aI} (x y:List aI),a.length=b.length->nJ a b<0->nJ (a++x) (b++y)<0
 | [],[],_,_,_,h=>zat h (by simp[nJ,uE])
 | [],_::_,_,_,h,_=>by simp at h
 | _::_,[],_,_,h,_=>by simp at h
 | c::a,d::b,x,y,hl,h=>by
  unfold nJ at h ⊢;rw[zcc,zcc];rw[uE]at h |-
  split at h
  .rename_i e;rw[zac e];exact h
  rename_i e;rw[zab e];exact Oh x y (by simpa using hl) h
theorem Ag {keys sums:Nat} {l:List dH} (h: ∀x∈l,x.key.length=keys):isZ (lI sums l):=by
 have hk: ∀k∈uZ l,k.length=keys:=λk hk=>by
  obtain⟨x,hx,rfl⟩:=sP.1 hk;exact h x hx
 refine⟨?_,λx hx=>?_,λx hx=>?_⟩
 .unfold lI
  rw[zcy];show List.Pairwise _ (List.map (λk=>Na sums l k) _)
  rw[List.pairwise_map];have hs:=((nL l).sublist (zcv (p:=λk=>decide (lH l k 0≠0))));refine List.Pairwise.imp_of_mem (λ{a b} ha hb Ql=>?_) hs;exact Oh _ _ (by rw[hk a (zbw.1 ha).1,hk b (zbw.1 hb).1]) Ql
 .unfold lI at hx
  obtain⟨k,_,rfl⟩:=zaq.1 hx;show(1:Int)≠0
  decide
 unfold lI at hx;obtain⟨k,_,rfl⟩:=zaq.1 hx;show gU 1=true
 decide
def qm (l:List aH):List aH:=l.map λx=>⟨x.row, -x.w⟩
theorem KE (l:List aH) (r:List aI):wtL (qm l) r= -wtL l r:=by
 induction l with
 | nil=>rfl
 | cons x l ih=>
  show wtL (⟨x.row, -x.w⟩::qm l) r=_
  rw[wtL,wtL,ih];dsimp only
  split<;>omega
def fE (k:Nat) (x:aH):dH:=⟨x.row.take k,x.row.drop k,x.w⟩
def dK (g:Int) (n:Nat) (T:List aH):List aH×Int:=
 if g<0 then dY T
 else if(T.all λx=>xB g.toNat (n-g.toNat) (fE g.toNat x))=false then([],2)
 else if yX (n-g.toNat) (T.map (fE g.toNat))=false then([],50)
 else(lI (n-g.toNat) (T.map (fE g.toNat)),0)
def jd (g:Int) (n:Nat) (T m:List aH):List aH×Int:=
 if(dK g n (T++m)).2≠0 then([],(dK g n (T++m)).2)
 else if g<0 then dY m
 else dY ((dK g n (T++m)).1++qm (dK g n T).1)
theorem nM {g:Int} {n:Nat} {T:List aH} (h:(T.all λx=>xB g.toNat (n-g.toNat) (fE g.toNat x))=true): ∀x∈T.map (fE g.toNat),x.key.length=g.toNat:=λx hx=>by
 obtain⟨y,hy,rfl⟩:=zaq.1 hx;have:=zaz.1 h y hy;unfold xB at this;rw[zbv,decide_eq_true_iff]at this;exact this.1.1
theorem lK {g:Int} {n:Nat} {T:List aH} (hg: ¬g<0):(dK g n T).2=0↔(T.all λx=>xB g.toNat (n-g.toNat) (fE g.toNat x))=true/\yX (n-g.toNat) (T.map (fE g.toNat))=true:=by
 unfold dK;rw[zab hg]
 split
 .rename_i h;rw[h];exact⟨λh=>zat h dC,λh=>zat h.1 dC⟩
 rename_i h
 split
 .rename_i h';rw[h'];exact⟨λh=>zat h dC,λh=>zat h.2 dC⟩
 rename_i h';exact⟨λ_=>⟨eq_true_of_ne_false h,eq_true_of_ne_false h'⟩,λ_=>rfl⟩
theorem jS {g:Int} {n:Nat} {T:List aH} (hg: ¬g<0) (h:(dK g n T).2=0):dK g n T=(lI (n-g.toNat) (T.map (fE g.toNat)),0):=by
 obtain⟨h1,h2⟩:=(lK hg).1 h;unfold dK;rw[zab hg,zab (by rw[h1];decide),zab (by rw[h2];decide)]
theorem Xp {g:Int} {n:Nat} {T:List aH} (h:(dK g n T).2≠0):(dK g n T).1=[]:=by
 unfold dK at h |-
 split
 .rename_i hg;rw[zac hg]at h;rw[nK h]
 split
 .rfl
 split
 .rfl
 rename_i h1 h2 h3;rw[zab h1,zab h2,zab h3]at h;exact zat rfl h
theorem Ah {g:Int} {n:Nat} {T m:List aH} (h:(jd g n T m).2=0):(dK g n (T++m)).2=0:=by
 unfold jd at h
 split at h
 .exact h
 rename_i h1;exact zbt.1 h1
theorem aci {g:Int} {n:Nat} {T m:List aH} (hT:(dK g n T).2=0) (h:(jd g n T m).2=0) (r:List aI):wtL (jd g n T m).1 r=wtL (dK g n (T++m)).1 r-wtL (dK g n T).1 r:=by
 have ht:=Ah h
 by_cases hg:g<0
 .have e1:jd g n T m=dY m:=by unfold jd;rw[zab (not_not_intro ht),zac hg]
  have e2: ∀X,dK g n X=dY X:=λX=>by unfold dK;rw[zac hg]
  rw[e1]at h ⊢;rw[e2]at hT ht;rw[e2,e2,Ep h,Ep ht,Ep hT,gF];omega
 have e1:jd g n T m=dY ((dK g n (T++m)).1++qm (dK g n T).1):=by unfold jd;rw[zab (not_not_intro ht),zab hg]
 rw[e1]at h ⊢;rw[Ep h,gF,KE];omega
theorem Dg (g:Int) (n:Nat):dK g n []=([],0):=by
 unfold dK
 split
 .rfl
 rfl
end Go.Proofs.YtkfpleidaoaonaaGreatDoor
namespace Go.Mw
open Go Go.RowKit
section
variable {F:NP} {w w' w0:Wd} {S:NP} {rs:List HP} {p q:HP}
end
end Go.Mw
namespace Go.Proofs.YtkfpleidaoaonaaGreatDoor
open Go Go.Mw Go.Lib
set_option maxRecDepth 4000
def av (x:Value×Int):LV:=[x.1,I x.2]
instance:lY av 2:=⟨λ_=>rfl⟩
def fM (w:Wd) (r:List (Value×Int)) (l:List aH):Prop:=r.map (·.2)=l.map (·.w)/\∀(i:Nat) x o,r[i]? =some x->l[i]? =some o->aM w x.1 aj 3 o.row
def cZ (w:Wd) (v:Value) (l:List aH):Prop:=∃r,aM w v av 2 r/\fM w r l
section
variable {w w':Wd} {v:Value} {r r':List (Value×Int)} {l l':List aH}
theorem fM.len (h:fM w r l):r.length=l.length:=by
 have:=zaw List.length h.1;simpa using this
theorem fM.keep (h:fM w r l) (hk:Kept noB w w'):fM w' r l:=⟨h.1,λi x o hx ho=>(h.2 i x o hx ho).keep hk⟩
theorem cZ.keep (h:cZ w v l) (hk:Kept noB w w'):cZ w' v l:=by
 obtain⟨r,h1,h2⟩:=h;exact⟨r,h1.keep hk,h2.keep hk⟩
theorem fM.nil:fM w [] []:=⟨rfl,λi x o hx=>by simp at hx⟩
theorem fM.app (h:fM w r l) (h':fM w r' l'):fM w (r++r') (l++l'):=by
 have hl:=h.len;refine⟨by rw[zam,zam,h.1,h'.1],λi y o hy ho=>?_⟩
 by_cases hi:i<r.length
 .rw[zce hi]at hy
  rw[zce oM]at ho;exact h.2 i y o hy ho
 rw[zcb oM]at hy ho;rw[<-hl]at ho;exact h'.2 _ y o hy ho
theorem fM.one {x:Value} {o:aH} (hx:aM w x aj 3 o.row):fM w [(x,o.w)] [o]:=by
 refine⟨rfl,λi y o' hy ho=>?_⟩;cases i with
 | zero=>
  rw[zbp]at hy ho;injection hy with hy
  injection ho with ho
  subst hy;subst ho;exact hx
 | succ j=>simp at hy
theorem fM.push {x:Value} {o:aH} (h:fM w r l) (hx:aM w x aj 3 o.row):fM w (r++[(x,o.w)]) (l++[o]):=h.app (.one hx)
theorem fM.at (h:fM w r l) {i:Nat} (hi:i<l.length): ∃x,r[i]? =some (x,l[i].w)/\aM w x aj 3 l[i].row:=by
 have hl:=h.len;have hr:r[i]? =some r[i]:=zaa oM
 have hn:r[i].2=l[i].w:=by
  have:=zaw (λz=>z[i]?) h.1;simp only[zcf]at this;rw[hr,zaa hi]at this;injection this
 exact⟨r[i].1,by rw[hr,<-hn],h.2 i _ _ hr (zaa hi)⟩
theorem fM.get (h:fM w r l) {i:Nat} {o:aH} (ho:l[i]? =some o): ∃x,r[i]? =some (x,o.w)/\aM w x aj 3 o.row:=by
 obtain⟨hi,e⟩:=zbd.1 ho;subst e;exact h.at hi
theorem fM.take (h:fM w r l) (n:Nat):fM w (r.take n) (l.take n):=⟨by rw[List.map_take,List.map_take,h.1],λi x o hx ho=>by
 rw[zcn]at hx ho
 split at hx
 .rename_i hi;rw[zac hi]at ho;exact h.2 i x o hx ho
 cases hx⟩
theorem fM.drop (h:fM w r l) (n:Nat):fM w (r.drop n) (l.drop n):=⟨by rw[List.map_drop,List.map_drop,h.1],λi x o hx ho=>by
 rw[zct]at hx ho;exact h.2 _ x o hx ho⟩
end
section
variable {F:NP} {w w' w0:Wd} {S:NP} {rs:List HP} {put:HP->List HP} {v x:Value} {r:List (Value×Int)} {l:List aH} {o:aH}
def Di (v:Value) (l:List aH):HP:=iC λw=>cZ w v l
def Oi (r:List (Value×Int)) (l:List aH):HP:=iC λw=>fM w r l
theorem KF (H:Mw.Sep w0 S rs w):Mw.Sep w0 S (Oi [] []::rs) w:=Sep.zm H λ_=>fM.nil
theorem Xq (H:Mw.Sep w0 S (Kz x aj 3 o.row::Oi r l::rs) w):Mw.Sep w0 S (Oi (r++[(x,o.w)]) (l++[o])::rs) w:=
 Sep.rH H λ_ h1 h2=>h2.push h1
theorem uM (H:Mw.Sep w0 S (bW 52 3 aj x o.row::Oi r l::rs) w):Mw.Sep w0 S (Oi (r++[(x,o.w)]) (l++[o])::rs) w:=Xq (iL H At0)
/-! Items that are owned whole:L has each item beside the value of its row. -/
abbrev Held:=Value×aH
def eU (L:List Held):List (Value×Int):=L.map λb=>(b.1,b.2.w)
def dR (v:Value) (L:List Held):HP:=star (bW 82 2 av v (eU L)) (vH 52 3 aj (·.1) (λb=>b.2.row) L)
theorem qF: ∀{L:List Held} {F:NP} {w:Wd},(vH 52 3 aj (·.1) (λb:Held=>b.2.row) L).ok F w->fM w (eU L) (L.map (·.2))
 | [],_,_,_=>fM.nil
 | b::L,F,w,h=>by
  obtain⟨F1,F2,_,_,h1,h2⟩:=h;exact fM.app (fM.one (iE h1)) (qF h2)
theorem Rz {L:List Held} (h:(dR v L).ok F w):cZ w v (L.map (·.2)):=by
 obtain⟨F1,F2,_,_,h1,h2⟩:=h;exact⟨_,iE h1,qF h2⟩
theorem QF {L:List Held} (H:Mw.Sep w0 S rs w) (hat:At rs (dR v L) put):Mw.Sep w0 S (put (Di v (L.map (·.2)))) w:=Sep.look H hat λ_ _ h=>Rz h
theorem dn {L:List Held} (H:Mw.Sep w0 S rs w) (hat:At rs (dR v L) put):cZ w v (L.map (·.2)):=by
 obtain⟨F,hp,_,_⟩:=H.focus hat;exact Rz hp
theorem fK (H:Mw.Sep w0 S rs w):Mw.Sep w0 S (vH 52 3 aj (·.1) (λb:Held=>b.2.row) []::rs) w:=Sep.ET H _ _ _ _ _
theorem nN {L:List Held} (H:Mw.Sep w0 S (bW 52 3 aj x o.row::vH 52 3 aj (·.1) (λb:Held=>b.2.row) L::rs) w):
    Mw.Sep w0 S (vH 52 3 aj (·.1) (λb:Held=>b.2.row) (L++[(x,o)])::rs) w:=Sep.AY (x:=(x,o)) H
end
end Go.Proofs.YtkfpleidaoaonaaGreatDoor
namespace Go.Mw
open Go.RowKit
section
variable {P:Program} {σ:St} {ty:Td} {w w':Wd}
theorem Gives.ext {f:FuncId} {xs:List Od} {ats:Array Td} {vals:LV} {v:Value} (hc:(callFunc f vals.toArray).run P w=.ok (.value v) w') (hv:xs.map (evF σ)=vals:=by exact rfl):
    Gives P (evF σ) (.call {callee:=.value (.func f),args:=xs.toArray,argTypes:=ats}) ty w v w':=λ_ _ _ _=>by
  simp only[execOp,resolve,evF,Deferred.ofValue,invoke,zcl,hv,zbk,zbn,zas];have e:(#[]++vals.toArray++ #[]:Array Value)=vals.toArray:=sM;rw[e];exact hc
end
end Go.Mw
namespace Go.Mw
open Go.RowKit
section
variable {P:Program} {ρ:Od->Value} {ty:Td} {w:Wd} {x y:Od} {T U:Td} {k:IntKind} {a b c:Int}
theorem Gives.agf (hx:ρ x=.int k a) (hy:ρ y=.int k b) (h:k.wrap (a+b)=c):Gives P ρ (.binOp .add T x y U) ty w (.int k c) w:=by subst h;exact Gives.add hx hy
theorem Gives.an0 (hx:ρ x=.int k a) (hy:ρ y=.int k b) (h:k.wrap (a-b)=c):Gives P ρ (.binOp .sub T x y U) ty w (.int k c) w:=by subst h;exact Gives.sub hx hy
theorem Gives.al1 (hx:ρ x=.int k a) (hy:ρ y=.int k b) (h:bits .and k a b=c):Gives P ρ (.binOp .and T x y U) ty w (.int k c) w:=by subst h;exact Gives.and hx hy
theorem Gives.Dj {s t:Td} {j:IntKind} [lF P s j] [lF P t k] (hx:ρ x=.int j a) (h:k.wrap a=c):Gives P ρ (.convert s t x) ty w (.int k c) w:=by subst h;exact Gives.conv hx
end
end Go.Mw
namespace Go.Mw
open Go.RowKit
section
variable {P:Program} {ρ:Od->Value} {ty:Td} {w:Wd} {x y:Od} {T U:Td} {k yk:IntKind} {a b c:Int}
theorem Gives.al2 (hx:ρ x=.int k a) (hy:ρ y=.int yk b) (h0:0<=b) (h:k.wrap (a*2^(Min.min b.toNat k.bits))=c):Gives P ρ (.binOp .shl T x y U) ty w (.int k c) w:=by subst h;exact Gives.shl hx hy h0
theorem Gives.aqj (hx:ρ x=.int k a) (hy:ρ y=.int yk b) (h0:0<=b) (h:a.fdiv (2^(Min.min b.toNat k.bits))=c):Gives P ρ (.binOp .shr T x y U) ty w (.int k c) w:=by subst h;exact Gives.shr hx hy h0
theorem Gives.al3 (hx:ρ x=.int k a) (hy:ρ y=.int k b) (h:bits .xor k a b=c):Gives P ρ (.binOp .xor T x y U) ty w (.int k c) w:=by subst h;exact Gives.xor hx hy
end
end Go.Mw
namespace Go.Mw
open Go.RowKit
section
variable {P:Program} {n:Nat} {ops:AO} {σ:St} {w w0:Wd} {S:NP} {rs:List HP} {put:HP->List HP} {ty:Td} {pos:String} {after:Array Edge} {guard:Option (Nat×Bool)}
theorem aO {i d b k:Nat} {x:Od} {T:Td} [Agg P T k] {cs:LV} {E:Td} {l:LNB} (H:Sep w0 S rs w)
    (ho:ops[i]? =some ⟨some d,.load T x,ty,pos,after,guard⟩:=by exact rfl)
    (hw:Region.wanted ⟨some d,.load T x,ty,pos,after,guard⟩ (eD ops σ)=true:=by kernel_rfl) (hx:evF σ x=.pointer (some ⟨b,0,none⟩):=by exact rfl)
    (hat:At rs (blk b cs E) put:=by exact aT) (hk:cs.length=k:=by exact rfl) (hd:σ d=.agg cs.toArray:=by exact rfl) (h:mI P ops σ w l):mI P ops σ w ((i,false)::l):=
  dN ho hw (Gives.NM hx (H.obj hat) (us:=cs) (by rw[zdg,<-hk,zbl]) hk) hd h
end
end Go.Mw
namespace Go.Mw
open Go.RowKit
theorem Gives.Bv {P:Program} {ρ:Od->Value} {ty:Td} {w:Wd} {x y:Od} {t e m:Td} [ht:mO P t m e] {size bytes:Nat} [hc:Cells P e size bytes] {b o i:Nat} {k:IntKind} (hx:ρ x=.pointer (some ⟨b,o,none⟩)) (hy:ρ y=.int k i) (bX:i<m):Gives P ρ (.indexAddr t x y) ty w (.pointer (some ⟨b,o+i*size,none⟩)) w:=by
 have:=Gives.BI (P:=P) (ty:=ty) (w:=w) (t:=t) hx hy bX
 rwa [Addr.add_lit]at this
end Go.Mw
namespace Go.Proofs.YtkfpleidaoaonaaGreatDoor
open Go Go.Lib Go.Mw
set_option maxRecDepth 4000
def wA (v:Int):Int:=v%18446744073709551616
def wB (v:Int):Int:=v/18446744073709551616%18446744073709551616
def wC (v:Int):Int:=v/340282366920938463463374607431768211456%18446744073709551616
theorem sQ (v:Int):(0<=wA v/\wA v<18446744073709551616)/\(0<=wB v/\wB v<18446744073709551616)/\0<=wC v/\wC v<18446744073709551616:=by
 unfold wA wB wC;omega
theorem Nq (v:Int):v/340282366920938463463374607431768211456=v/18446744073709551616/18446744073709551616:=oM
theorem ajr {n:Int} (h1: -9223372036854775808<=n) (h2:n<9223372036854775808):wB n=(if n<0 then 18446744073709551615 else 0)/\wC n=if n<0 then 18446744073709551615 else 0:=by
 unfold wB wC;rw[Nq]
 split<;>omega
theorem agh (x y:Int):wA (x+y)=(wA x+wA y)%18446744073709551616/\wB (x+y)=(wB x+wB y+(wA x+wA y)/18446744073709551616)%18446744073709551616/\
    wC (x+y)=(wC x+wC y+(wB x+wB y+(wA x+wA y)/18446744073709551616)/18446744073709551616)%18446744073709551616:=by
  have hc: ∀v:Int,wC v=v/18446744073709551616/18446744073709551616%18446744073709551616:=λv=>by unfold wC;rw[Nq]
  rw[hc,hc,hc];unfold wA wB;have e1:(x+y)/18446744073709551616=x/18446744073709551616+y/18446744073709551616+(x%18446744073709551616+y%18446744073709551616)/18446744073709551616:=oM;rw[e1]
  generalize x/18446744073709551616=p
  generalize y/18446744073709551616=q
  generalize (x%18446744073709551616+y%18446744073709551616)/18446744073709551616=c
  refine⟨oM,oM,?_⟩;omega
def Ai (v:Int):Int:=if wA v<9223372036854775808 then wA v else wA v-18446744073709551616
theorem agi {v:Int} (h1: -3138550867693340381917894711603833208051177722232017256448<=v) (h2:v<3138550867693340381917894711603833208051177722232017256448):
    (wA (Ai v)=wA v/\wB (Ai v)=wB v/\wC (Ai v)=wC v)↔gU v=true:=by
  have hc: ∀v:Int,wC v=v/18446744073709551616/18446744073709551616%18446744073709551616:=λv=>by unfold wC;rw[Nq]
  have hl: -9223372036854775808<=Ai v/\Ai v<=9223372036854775807:=by
    have:=(sQ v).1;unfold Ai
    split<;>omega
  unfold gU;rw[decide_eq_true_iff];constructor
  . intro ⟨e1,e2,e3⟩
    rw[hc,hc]at e3;unfold wA at e1;unfold wB at e2
    generalize hu:Ai v=u at *
    have hp1:u/18446744073709551616/18446744073709551616=v/18446744073709551616/18446744073709551616:=oM;have hp2:u/18446744073709551616=v/18446744073709551616:=oM;have Q9:u=v:=oM;rw[<-Q9];exact hl
  intro h
  have e:Ai v=v:=by
    unfold Ai wA
    split<;>omega
  rw[e];exact⟨rfl,rfl,rfl⟩
theorem RA {a b:Int} (ha:fits a) (hb:fits b): -85070591730234615865843651857942052864<=a*b/\a*b<=85070591730234615865843651857942052864:=by
 have h1:a.natAbs<=9223372036854775808:=by unfold fits at ha;omega
 have h2:b.natAbs<=9223372036854775808:=by unfold fits at hb;omega
 have h3:(a*b).natAbs<=9223372036854775808*9223372036854775808:=by rw[Int.natAbs_mul];exact Nat.mul_le_mul h1 h2
 omega
theorem agj {a b:Int} (ha:fits a) (hb:fits b):wA (a*b)=wA a*wA b%18446744073709551616/\
    wB (a*b)=(wA a*wA b/18446744073709551616-(((if b<0 then wA a else 0)+if a<0 then wA b else 0)%18446744073709551616))%18446744073709551616/\
    wC (a*b)=if wB (a*b)<9223372036854775808 then 0 else 18446744073709551615:=by
  obtain⟨m1,m2⟩:=RA ha hb;have hua:wA a=if a<0 then a+18446744073709551616 else a:=by unfold fits at ha;unfold wA;split<;>omega
  have hub:wA b=if b<0 then b+18446744073709551616 else b:=by unfold fits at hb;unfold wA;split<;>omega
  have hP:wA a*wA b=a*b+(if a<0 then 18446744073709551616*b else 0)+(if b<0 then 18446744073709551616*a else 0)+(if a<0/\b<0 then 340282366920938463463374607431768211456 else 0):=by
    rw[hua,hub]
    by_cases h1:a<0<;>by_cases h2:b<0
    . rw[zac h1,zac h2,zac h1,zac h2,zac ⟨h1,h2⟩,Int.add_mul,Int.mul_add,Int.mul_add];omega
    . rw[zac h1,zab h2,zac h1,zab h2,zab (λh=>h2 h.2),Int.add_mul];omega
    . rw[zab h1,zac h2,zab h1,zac h2,zab (λh=>h1 h.1),Int.mul_add];omega
    rw[zab h1,zab h2,zab h1,zab h2,zab (λh=>h1 h.1)];omega
  generalize a*b=p at *
  have hc: ∀v:Int,wC v=v/18446744073709551616/18446744073709551616%18446744073709551616:=λv=>by unfold wC;rw[Nq]
  refine⟨?_,?_,?_⟩
  . rw[hP]
    unfold wA
    by_cases h1:a<0<;>by_cases h2:b<0<;>simp only[h1,h2,if_true,if_false,and_self,and_false,false_and]<;>omega
  . rw[hP,hua,hub]
    unfold wB
    by_cases h1:a<0<;>by_cases h2:b<0<;>simp only[h1,h2,if_true,if_false,and_self,and_false,false_and]<;>omega
  rw[hc];unfold wB
  split<;>omega
section
variable {w:Wd}
end
end Go.Proofs.YtkfpleidaoaonaaGreatDoor
namespace Go.Mw
open Go.RowKit
section
variable {P:Program} {r:Option Nat} {n:Nat} {ops:AO} {Q:Post} {rest:LO} {σ:St} {w w0:Wd} {S:NP} {rs:List HP} {put:HP->List HP} {ty:Td} {pos:String} {after:Array Edge} {p q:HP}
end
end Go.Mw
namespace Go.Proofs.YtkfpleidaoaonaaGreatDoor
open Go Go.Mw Go.Lib
set_option maxRecDepth 4000
def adB (v v':Value):Prop:=∀(w:Wd) ns,aM w v intCells 1 ns->∃ns',aM w v' intCells 1 ns'
theorem adB.refl (v:Value):adB v v:=λ_ ns h=>⟨ns,h⟩
theorem adB.trans {a b c:Value} (h:adB a b) (k:adB b c):adB a c:=λw ns h1=>let⟨ns',h2⟩:=h w ns h1;k w ns' h2
section
variable {w:Wd} {F:NP} {b:Nat} {v0:Value}
end
end Go.Proofs.YtkfpleidaoaonaaGreatDoor
namespace Go.Proofs.YtkfpleidaoaonaaGreatDoor
open Go Go.Mw Go.Lib
set_option maxRecDepth 4000
theorem aqk {α:Type} {enc:α->LV} {k bs e:Nat} [hk:lY enc k] {x:α} {w0 w:Wd} {S:NP} {rs:List HP} (H:Mw.Sep w0 S (blk bs ([x].flatMap enc) e::rs) w):Mw.Sep w0 S (bW e k enc (.slice (some ⟨bs,0,none⟩) 1 1) [x]::rs) w:=
 Sep.rM (n:=1) H At0 (mJ hk.len [x]) dC
section
variable {w:Wd} {F:NP} {b:Nat} {v0:Value}
end
section
variable {w:Wd}
end
end Go.Proofs.YtkfpleidaoaonaaGreatDoor
