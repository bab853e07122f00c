/-
 Regions that draw in which two effects are ready at once:either may come first.
-/
import Derived.Test.YtbkjpdboaclopaaGreatDoorNd3
import Derived.Lib.AppendZerosOnto
import Derived.Stop.BytesEq
set_option linter.all false
namespace Go.Proofs.Mw
open Go.RowKit
variable {P:Program} {r:Option Nat} {n:Nat} {ops:AO} {Q:Post} {lv:List Bool} {pd:LNB} {σ:St} {w:Wd}
def ow (ops:AO) (lv:List Bool) (ids:List Nat) (e:Nat):Bool:=
 (vI ops lv).contains e&&
 ids.all λk=>(nC ops e).contains k||((match jr ops e with | some d=>jr ops k !=some d&& !(looks ops k).contains d | none=>true)&&
  (match jr ops k with | some d=> !(looks ops e).contains d | none=>true))
def pV (P:Program) (r:Option Nat) (n:Nat) (ops:AO) (Q:Post) (lv:List Bool) (pd:LNB) (σ:St) (w:Wd) (e:Nat):Prop:=
 ∀sub lr a,Real P n ops lv pd σ w sub lr a->(∀k∈nC ops e,lr.getD k false=true)->wpOpIn (fen r) 0 P ops (lift n Q) e (wpAnyIn (fen r) 0 P .any ops (lift n Q) (left ops (lr.setIfInBounds e true)) (lr.setIfInBounds e true)) a w
def jQ (fB:dX n ops=true) {e1 e2:Nat} (hre:(vI ops lv==[e1,e2])=true) (h1:pV P r n ops Q lv pd σ w e1) (h2:pV P r n ops Q lv pd σ w e2):FG P r n ops Q lv pd σ w:=by
 have an8:vI ops lv=[e1,e2]:=by simpa using hre
 refine Uq fB (λh0=>by rw[h0]at an8;cases an8) λe he sub lr a hr jI=>?_;rw[an8]at he
 rcases zbb.1 he with rfl | he
 .exact h1 sub lr a hr jI
 rw[zaw]at he;subst he;exact h2 sub lr a hr jI
def acR {X:Type} (lvc:List Bool) (pdc:LNB) (l:X->List (Nat×Value)) (I:X->Wd->Prop) (h1: ∀x τ w',I x w'->FG P r n ops Q lvc pdc (VW (like σ τ) (l x)) w')
    (h2:(∀x σ' w',holds σ' (l x)->I x w'->σ'.ds=σ.ds->FG P r n ops Q lvc pdc σ' w')->FG P r n ops Q lv pd σ w):FG P r n ops Q lv pd σ w:=h2 λx σ' w' hh hI hd=>by
  have:=h1 x σ' w' hI;rw[Jg hd,rX hh]at this;exact this
theorem Oz (fB:dX n ops=true) {e':Nat} {o:Oper} (ho:ops[e']? =some o) (dN:ow ops lv (pd.map (·.1)) e'=true) (hw:Region.wanted o (bY ops σ)=true) (pd':LNB) (oH:pd.filter (λp=> !((above ops e').contains p.1))=pd')
    (h:NC P σ w o λσ' w'=>jo P ops σ' w' pd'/\FG P r n ops Q (lv.set e' true) pd' σ' w'):pV P r n ops Q lv pd σ w e':=by
  unfold ow at dN;simp only[zbr,zba]at dN;obtain⟨atT,aje⟩:=dN;have hmr:e'∈vI ops lv:=zcn.1 atT;intro sub lr a hr jI;have aX:=(zct.1 ho).1;have Pn:=ze ho;obtain⟨Vt,abH⟩:=sN fB ho;have hrd:=Aj.1 hmr;have h0':=BQ hrd.1;obtain⟨σr,Fp,Zf,hσ⟩:=hr.rep;have hnp: ∀p∈sub,p.1∉nC ops e':=λp hp hm=>by have:=jI _ hm;rw[hr.Dq hp]at this;cases this
  have zH: ∀p∈sub,(∀d,o.dst=some d->jr ops p.1≠some d/\d∉looks ops p.1)/\∀d,jr ops p.1=some d->d∉looks ops e':=λp hp=>by
    have:=aje p.1 (zar.2 ⟨p,hr.mem p hp,rfl⟩);rw[Bool.or_eq_true]at this
    rcases this with h1 | h1
    . exact zas (zcn.1 h1) (hnp p hp)
    rw[zbr,Pn]at h1;refine⟨λd hd=>?_,λd hd=>?_⟩
    . have h2:=h1.1
      rw[hd]at h2;simpa using h2
    have h2:=h1.2;rw[hd]at h2;simpa using h2
  have Ev: ∀x∈looks ops e',σr x=σ x:=λx hx=>hσ x λp hp hd=>(zH p hp).2 x hd hx
  have Po: ∀(v:Value) (w':Wd) (a':Act),Rep n (sj σr o.dst v) a'->jo P ops (sj σ o.dst v) w' pd'->Real P n ops (lv.set e' true) pd' (sj σ o.dst v) w' sub (lr.setIfInBounds e' true) a':=by
    intro v w' a' Zj dK
    have uK: ∀p∈sub,p∈pd':=λp hp=>by
      rw[<-oH,zcf];refine⟨hr.mem p hp,?_⟩;cases hc:(above ops e').contains p.1
      . rfl
      have:=Gj hr jI p.1 (zcn.1 hc);rw[hr.Dq hp]at this;cases this
    refine⟨uK,hr.nd,hr.pw,λp hp k hk=>⟨rQ (hr.pr p hp k hk).1,(hr.pr p hp k hk).2⟩,λp hp=>rQ (hr.lvl p hp),λk hk=>?_,by simpa using hr.sz,by simpa using hr.lsz,λk hk j hj=>?_,⟨_,Zj,by simpa[Fz]using Zf,λx hx=>?_⟩,
      λp hp=>?_,hr.own,hr.apart⟩
    . by_cases nW:e'=k
      . subst nW
        have h1:(lr.setIfInBounds e' true).getD e' true=true:=by
          simp[zbp,zbx]
          split<;>rfl
        rw[h1,vJ _ (by rw[hr.lsz];exact aX)];cases hc:(sub.map (·.1)).contains e'
        . rfl
        obtain⟨p,hp,e1⟩:=zar.1 (zcn.1 hc);have:=hr.lvl p hp;rw[e1,h0']at this;cases this
      rw[getD_set_ne true nW,Al nW,hr.lrv k hk]
    . by_cases nW:e'=k
      . subst nW;exact getD_set_true (jI j hj)
      rw[getD_set_ne false nW]at hk;exact getD_set_true (hr.cl k hk j hj)
    . by_cases hd:o.dst=some x
      . rw[hd];show upd σr x v x=upd σ x v x;rw[upd_same,upd_same]
      rw[iT hd,iT hd];exact hσ x hx
    cases hf:p.2 with
    | false=>
      obtain⟨o',v',Ll,LZ,Fy⟩:=dK.get p (uK p hp) hf;refine⟨o',v',Ll,LZ,λw'' hw''=>?_⟩
      rcases hw'' with hw'' | hw''
      . cases hw''
      rw[hw''];exact Fy
    | true=>
      obtain⟨o',v',Ll,LZ,Fy⟩:=hr.yl p hp;refine⟨o',v',Ll,λd hd=>?_,λw'' _=>(Fy w'' (.inl hf)).congr Ll (sN fB Ll).2 λx hx=>(iT λe1=>((zH p hp).1 x e1).2 hx).symm⟩;rw[iT (λe1=>((zH p hp).1 d e1).1 (by rw[ze Ll,hd]))];exact LZ d hd
  unfold wpOpIn;simp only[ho]
  have hww:Region.wanted o (yielded ops a.tmps)=true:=by
    rw[Fp.yielded ops (JI fB),uE ho Ev];exact hw
  rw[zac hww];refine⟨λ_ _=>trivial,?_⟩;unfold NC at h
  have anQ:(o.semAt (fen r).round a.eval)=execOp (evF σ) o:=by
    rw[Oper.semAt_eq _ _ _ λc hc=>?_,Fp.eval,Ak ho abH Ev]
    have iJ: ∀x w',(execOp (evF σ) o).run P w=.ok x w'->∃d,x=.defer d:=λx w' hx=>by
      unfold execOp at hx;rw[hc]at hx;simp only[zbj]at hx;cases hr:(resolve (evF σ) c o.type).run P w<;>rw[hr]at hx<;>simp[Result.andThen]at hx
      exact⟨_,hx.1.symm⟩
    cases hx:(execOp (evF σ) o).run P w with
    | halt x w'=>rw[hx]at h;exact h
    | ok x w'=>
      obtain⟨d,rfl⟩:=iJ x w' hx;rw[hx]at h;exact h
  rw[anQ]
  generalize (execOp (evF σ) o).run P w=res at h |-
  cases res with
  | halt x w'=>exact h.elim
  | ok nx w'=>
    cases nx with
    | value v=>exact h.2 _ _ _ (Po v w' _ (Fp.PD Vt v) h.1)
    | skip=>exact h.2 _ _ _ (Po undef w' _ (Fp.PD Vt undef) h.1)
    | enter f args=>
      refine⟨(λh=>by cases h),rD r (Calls.mono h λen w'' Fe=>?_)⟩;cases en with
      | returned v=>exact Fe.2 _ _ _ (Po v w'' _ (Fp.PD Vt v) Fe.1)
      | _=>exact Fe.elim
    | _=>exact h.elim

variable {xs:List Od} {ats:Array Td} {R:Value->Wd->Prop} {ty:Td} {pos:String} {after:Array Edge} {guard:Option (Nat×Bool)}
def Ka (fB:dX n ops=true) (e:Nat) (pd':LNB) {dst:Option Nat} {f:FuncId} {vals:LV}
    (ho:ops[e]? =some ⟨dst,.call {callee:=.value (.func f),args:=xs.toArray,argTypes:=ats},ty,pos,after,guard⟩)
    (hw:Region.wanted ⟨dst,.call {callee:=.value (.func f),args:=xs.toArray,argTypes:=ats},ty,pos,after,guard⟩ (bY ops σ)=true) (hc:aQ P f vals w R) (hv:xs.map (evF σ)=vals) (dN:ow ops lv (pd.map (·.1)) e=true)
    (oH:pd.filter (λp=> !((above ops e).contains p.1))=pd') (h: ∀v w',R v w'->jo P ops (sj σ dst v) w' pd'/\FG P r n ops Q (lv.set e true) pd' (sj σ dst v) w') (he:qz P f:=by exact eT):pV P r n ops Q lv pd σ w e:=by
  refine Oz fB ho dN hw pd' oH ?_;unfold NC;have e1:execOp (evF σ) ⟨dst,.call {callee:=.value (.func f),args:=xs.toArray,argTypes:=ats},ty,pos,after,guard⟩=callFunc f (#[]++xs.toArray.map (evF σ)++ #[]):=rfl;have e2:(#[]++xs.toArray.map (evF σ)++ #[]:Array Value)=vals.toArray:=by simp[hv]
  rw[e1,he.run,e2];refine Calls.mono hc λen w'' hr=>?_;cases en with
  | returned v=>exact h v w'' hr
  | _=>exact hr.elim
variable {d:Nat}
def GR (fB:dX n ops=true) (e:Nat) (pd':LNB) {op:Op} {C:Value->Wd->Prop} (ho:ops[e]? =some ⟨some d,op,ty,pos,after,guard⟩)
    (hw:Region.wanted ⟨some d,op,ty,pos,after,guard⟩ (bY ops σ)=true) (hg: ∃v w',Gives P (evF σ) op ty w v w'/\C v w') (dN:ow ops lv (pd.map (·.1)) e=true)
    (oH:pd.filter (λp=> !((above ops e).contains p.1))=pd') (h: ∀v w',C v w'->jo P ops (upd σ d v) w' pd'/\FG P r n ops Q (lv.set e true) pd' (upd σ d v) w'):pV P r n ops Q lv pd σ w e:=by
  obtain⟨v,w',hg,hC⟩:=hg;refine Oz fB ho dN hw pd' oH ?_;unfold NC;rw[hg];exact h v w' hC
variable {T:Td} {z:Value} {cs:LV}
def jE {w0:Wd} {S:NP} {rs:List HP} (fB:dX n ops=true) (i:Nat) (pd':LNB) [hz:Zero P T z] (H:Sep w0 S rs w) (ho:ops[i]? =some ⟨some d,.alloc T,ty,pos,after,guard⟩:=by exact rfl)
    (hw:Region.wanted ⟨some d,.alloc T,ty,pos,after,guard⟩ (bY ops σ)=true:=by kernel_rfl) (hcs:z.cells=cs.toArray:=by exact rfl)
    (dN:ow ops lv (pd.map (·.1)) i=true:=by kernel_rfl) (oH:pd.filter (λp=> !((above ops i).contains p.1))=pd':=by exact pD)
    (h: ∀b w',Sep w0 S (blk b cs T::rs) w'->jo P ops (upd σ d (.pointer (some ⟨b,0,none⟩))) w' pd'/\FG P r n ops Q (lv.set i true) pd' (upd σ d (.pointer (some ⟨b,0,none⟩))) w'):pV P r n ops Q lv pd σ w i:=
  GR (C:=λv w'=>∃b,v=.pointer (some ⟨b,0,none⟩)/\Sep w0 S (blk b cs T::rs) w') fB i pd' ho hw
    ⟨.pointer (some ⟨w.heap.size,0,none⟩),w.alloc (.cells cs.toArray T),λ_ _ _ _=>by simp[execOp,Instr.alloc,hz.run,newVar,newRow,hcs],_,rfl,H.alloc _⟩ dN oH
    (λv w' hv=>by obtain⟨b,rfl,hs⟩:=hv;exact h b w' hs)
def OB (a b:ByteArray):(a==b)=(a.data==b.data):=by
 cases a;cases b;rfl
instance alX:LawfulBEq ByteArray where
 eq_of_beq {a b} h:=by
  rw[OB]at h;exact ByteArray.ext (eq_of_beq h)
 rfl {a}:=by rw[OB];exact beq_self_eq_true _

def jc (k:ByteArray) (e:MapEntry):Bool:=match e.key with
 | .string a=>a==k
 | _=>false
def o8 (es:List MapEntry) (k:ByteArray):Option Value:=(es.find? (jc k)).map (·.val)
def oC (es:List MapEntry):Prop:=∀e∈es,∃a,e.key=.string a
variable {f:ByteArray->Option Value} {b:Nat} {ρ:Od->Value} {x:Od} {e:Td} {i:ByteArray} {v:Value}
def Ck (b:Nat) (f:ByteArray->Option Value) (n:Nat):HP:=exH λx:Array MapEntry×Nat=>star (obj b (.map x.1 x.2)) (jk ((oC x.1.toList/\x.1.size=n)/\∀k,o8 x.1.toList k=f k))

section
variable {w0 w w':Wd} {S:NP} {rs:List HP} {put:HP->List HP} {P:Program}
def GU {F:NP}:(Ck b f n).ok F w↔(∀x,F x↔x=b)/\∃es clock,w.heap[b]? =some (.map es clock)/\(oC es.toList/\es.size=n)/\∀k,o8 es.toList k=f k:=by
 constructor
 .rintro⟨⟨es,c⟩,F1,F2,hF,hd,⟨h1,h2⟩,⟨⟨h3,h4⟩,h5⟩⟩
  refine⟨λx=>?_,es,c,h2,h3,h4⟩;rw[hF,h1];exact⟨λh=>h.elim id λh=>(h5 x h).elim,.inl⟩
 rintro⟨h1,es,c,h2,h3,h4⟩;exact⟨⟨es,c⟩,F,λ_=>False,λx=>sM,λ_ _ h=>h,⟨h1,h2⟩,⟨⟨h3,h4⟩,λ_ h=>h⟩⟩
def Sep.ais (h:Sep w0 S rs w) (hat:At rs (Ck b f n) put): ∃es clock,w.heap[b]? =some (.map es clock)/\(oC es.toList/\es.size=n)/\∀k,o8 es.toList k=f k:=by
 obtain⟨F,hp,_,_⟩:=h.focus hat;exact(GU.1 hp).2
def Sep.akT (h:Sep w0 S rs w) (hat:At rs (Mw.obj b (Obj.map #[] 0)) put):Sep w0 S (put (Ck b (λ_=>none) 0)) w:=
 h.imp hat λF hF=>GU.2 ⟨hF.1, #[],0,hF.2,⟨by simp[oC],rfl⟩,λk=>rfl⟩

def UR (k:ByteArray): ∀(es:List MapEntry) (i:Nat),oC es->∃r,Instr.findNow .string (.string k) es i=some r/\r.map (·.2)=o8 es k/\
    (∀j v,r=some (j,v)->∃m,j=i+m/\∃e,es[m]? =some e/\jc k e=true/\es.find? (jc k)=some e/\∀m' e',m'<m->es[m']? =some e'->jc k e'=false):=by
  intro es
  induction es with
  | nil=>intro i _;exact⟨none,rfl,rfl,λ_ _ h=>by cases h⟩
  | cons e es ih=>
    intro i hk;obtain⟨a,ha⟩:=hk e zao;obtain⟨r,h1,h2,h3⟩:=ih (i+1) λx hx=>hk x (zau _ hx);have hs:Instr.sameNow .string (.string k) e.key=some (k==a):=by rw[ha];simp[Instr.sameNow]
    have LX:jc k e=(a==k):=by unfold jc;rw[ha]
    by_cases hka:k=a
    . subst hka
      have hkt:jc k e=true:=by rw[LX];simp
      refine⟨some (i,e.val),?_,?_,?_⟩
      . unfold Instr.findNow;rw[hs];simp
      . simp[o8,hkt]
      rintro j v Pj;injection Pj with Pj
      injection Pj with h4 h5
      exact⟨0,oM,e,rfl,hkt,by simp[hkt],λm' _ hm=>oM⟩
    have hkf:jc k e=false:=by rw[LX];simpa using λh:a=k=>hka h.symm
    refine⟨r,?_,?_,?_⟩
    . unfold Instr.findNow;rw[hs,h1]
      have :(k==a)=false:=by simpa using hka
      rw[this]
    . rw[h2];simp[o8,hkf]
    rintro j v Pj;obtain⟨m,hm,e',he',Pe,hf',aX⟩:=h3 j v Pj;refine⟨m+1,oM,e',by simpa using he',Pe,by simp[hkf,hf'],λm' e'' nX Pk=>?_⟩;cases m' with
    | zero=>simp at Pk;rw[<-Pk];exact hkf
    | succ m'=>exact aX m' e'' oM (by simpa using Pk)
def oZ {kt:Td} (hu:P.underlying kt=some (.string)) (k:ByteArray) (es:List MapEntry) (hk:oC es):
    ∃r,(Instr.findKey kt (.string k) es).run P w=.ok r w/\r.map (·.2)=o8 es k/\
    (∀j v,r=some (j,v)->∃e,es[j]? =some e/\jc k e=true/\∀m' e',m'<j->es[m']? =some e'->jc k e'=false):=by
  obtain⟨r,h1,h2,h3⟩:=UR k es 0 hk;refine⟨r,by simp[Instr.findKey,run_underlying hu,h1],h2,λj v Pj=>?_⟩;obtain⟨m,hm,e,he,nW,_,aX⟩:=h3 j v Pj;have :j=m:=by omega
  subst this;exact⟨e,he,nW,aX⟩
def nV {kt:Td} (hu:P.underlying kt=some (.string)) (b:Bool) (k:ByteArray) (d:Nat):(Instr.checkKey b (d+1) kt (.string k)).run P w=.ok () w:=by
 simp[Instr.checkKey,run_underlying hu]
def iX {es:Array MapEntry} {c:Nat} (h:w.heap[b]? =some (.map es c)):(getObj b).run P w=.ok (.map es c) w:=by
 simp[getObj,Sem.run,h]
def Cm {ty:Td} {y:Od} {T k e:Td} [hm:IsMap P T k e] [hk:lX P k] [hz:Zero P e z] {i:ByteArray}
    {es:Array MapEntry} {c:Nat} (hb:w.heap[b]? =some (.map es c)) (rA:oC es.toList) (hf: ∀k,o8 es.toList k=f k) (hx:ρ x=.map (some b)) (hy:ρ y=.string i):Gives P ρ (.lookup T x y false) ty w ((f i).getD z) w:=by
  obtain⟨r,h1,h2,_⟩:=oZ (P:=P) (w:=w) hk.und i es.toList rA;intro _ _ _ _;rw[<-hf,<-h2];have dN:=nV (P:=P) (w:=w) hk.und es.isEmpty i 9999;simp only[execOp,hx,hy,Instr.lookup,zbj,run_underlying hm.und,zan,iX hb,zbl];rw[dN];simp only[zan,h1];cases r with
  | none=>simp[hz.run]
  | some jv=>obtain⟨j,v⟩:=jv;simp
def P9 {y:Od} {k:Td} [hm:IsMap P T k e] [hk:lX P k] [hz:Zero P e z] {i:ByteArray}
    (H:Sep w0 S rs w) (hat:At rs (Ck b f n) put) (hx:ρ x=.map (some b)) (hy:ρ y=.string i):Gives P ρ (.lookup T x y false) ty w ((f i).getD z) w:=by
  obtain⟨es,c,hb,rA,hf⟩:=H.ais hat;exact Cm hb rA.1 hf hx hy
def aa1 {es:List MapEntry} (k:ByteArray) (hn:o8 es i=none):o8 (es++[{key:=.string i,val:=v,born:=n}]) k=if k=i then some v else o8 es k:=by
 unfold o8 at *;rw[List.find?_append]
 by_cases LX:k=i
 .subst LX
  have h0:es.find? (jc k)=none:=by simpa using hn
  rw[zac rfl,h0];simp[jc]
 rw[zaa LX]
 have :([{key:=.string i,val:=v,born:=n}]:List MapEntry).find? (jc k)=none:=by
  have :jc k {key:=.string i,val:=v,born:=n}=false:=by simp[jc];exact λh=>LX h.symm
  simp[this]
 rw[this];cases es.find? (jc k)<;>rfl
def UU (k i:ByteArray) (v:Value): ∀(es:List MapEntry) (j:Nat) (e:MapEntry),es[j]? =some e->jc i e=true->(∀m' e',m'<j->es[m']? =some e'->jc i e'=false)->
    o8 (es.modify j λe=>{e with key:=.string i,val:=v}) k=if k=i then some v else o8 es k:=by
  intro es
  induction es with
  | nil=>intro j e h;simp at h
  | cons x es ih=>
    intro j e hj nW aX;cases j with
    | zero=>
      simp at hj;subst hj;simp only[List.modify_zero_cons];unfold o8
      by_cases LX:k=i
      . subst LX
        rw[zac rfl];simp[jc]
      rw[zaa LX];have h1:jc k {x with key:=.string i,val:=v}=false:=by simp[jc];exact λh=>LX h.symm
      have h2:jc k x=false:=by
        unfold jc at nW |-
        split at nW
        . rename_i a ha
          simp at nW;simpa[nW]using λh:i=k=>LX h.symm
        cases nW
      simp[h1,h2]
    | succ j=>
      simp only[List.modify_succ_cons];have hx:jc i x=false:=aX 0 x oM rfl;have ih':=ih j e (by simpa using hj) nW λm' e' hm he=>aX (m'+1) e' oM (by simpa using he);unfold o8 at ih' ⊢;rw[zch,zch];cases hkx:jc k x with
      | true=>
        have :k≠i:=λe=>by rw[e,hx]at hkx;cases hkx
        simp[this]
      | false=>simpa using ih'
def LJ {ty:Td} {y z:Od} {T k e:Td} [hm:IsMap P T k e] [hk:lX P k]
    (H:Sep w0 S rs w) (hat:At rs (Ck b f n) put) (hx:ρ x=.map (some b)) (hy:ρ y=.string i) (hz:ρ z=v):
    ∃w',PE P ρ (.mapUpdate T x y z) ty w w'/\Sep w0 S (put (Ck b (λk=>if k=i then some v else f k) (if f i=none then n+1 else n))) w':=by
  obtain⟨F,hp,_,lG⟩:=H.focus hat;obtain⟨hF,es,c,hb,⟨rA,Ph⟩,hf⟩:=GU.1 hp;obtain⟨r,h1,h2,h3⟩:=oZ (P:=P) (w:=w) hk.und i es.toList rA;have dN:=nV (P:=P) (w:=w) hk.und false i 9999;have ajt:=mg hb;have xk: ∀o:Obj,(setObj b o).run P w=.ok () {w with heap:=w.heap.setIfInBounds b o}:=λo=>by simp[Go.setObj,Sem.run,hb]
  have fin: ∀(es':Array MapEntry) (c':Nat),oC es'.toList->es'.size=(if f i=none then n+1 else n)->(∀k,o8 es'.toList k=if k=i then some v else f k)->
      Sep w0 S (put (Ck b (λk=>if k=i then some v else f k) (if f i=none then n+1 else n))) {w with heap:=w.heap.setIfInBounds b (.map es' c')}:=λes' c' Pe hs' hf'=>
    lG _ F _ ⟨rfl,rfl,rfl,sM,λj hj hFj=>by simp only[zbx];rw[zaa (λe=>hFj ((hF j).2 e.symm))]⟩
      (GU.2 ⟨hF,es',c',by simp[ajt],⟨Pe,hs'⟩,hf'⟩) λb hb=>.inl hb
  cases r with
  | none=>
    refine⟨{w with heap:=w.heap.setIfInBounds b (.map (es.push {key:=.string i,val:=v,born:=c}) (c+1))},λ_ _ _ _=>?_,fin _ _ ?_ ?_ ?_⟩
    . simp only[execOp,hx,hy,hz,Instr.mapUpdate,zbj,run_underlying hm.und,zan,iX hb]
      rw[dN];simp only[zan,h1,xk,zbl]
    . intro e he
      simp at he
      rcases he with he | he
      . exact rA e (by simpa using he)
      exact⟨i,by rw[he]⟩
    . have h0:o8 es.toList i=none:=by rw[<-h2];rfl
      rw[zac (by rw[<-hf];exact h0),Array.size_push,Ph]
    intro k;have h0:o8 es.toList i=none:=by rw[<-h2];rfl
    simp only[zfu];rw[aa1 k h0,hf]
  | some jv=>
    obtain⟨j,u⟩:=jv;obtain⟨e,he,nW,aX⟩:=h3 j u rfl;obtain⟨a,ha⟩:=rA e (zag he);have hai:a=i:=by unfold jc at nW;rw[ha]at nW;simpa using nW
    have A8:(((es[j]?).map (·.key)).getD (.string i))=.string i:=by
      have :es[j]? =some e:=by simpa using he
      rw[this];simp[ha,hai]
    have aju:(Instr.keyThatStays (.string i) (.string i)).run P w=.ok (.string i) w:=by simp[Instr.keyThatStays,Instr.sameBits]
    refine⟨{w with heap:=w.heap.setIfInBounds b (.map (es.modify j λe=>{e with key:=.string i,val:=v}) c)},λ_ _ _ _=>?_,fin _ _ ?_ ?_ ?_⟩
    . simp only[execOp,hx,hy,hz,Instr.mapUpdate,zbj,run_underlying hm.und,zan,iX hb]
      rw[dN];simp only[zan,h1,A8,aju,xk,zbj,zbl]
    . intro e' he'
      simp only[zfh]at he';obtain⟨m,nX,rfl⟩:=List.mem_iff_getElem.1 he';rw[List.getElem_modify]
      split
      . exact⟨i,rfl⟩
      exact rA _ (List.getElem_mem _)
    . have h0:o8 es.toList i=some u:=by rw[<-h2];rfl
      rw[zaa (by rw[<-hf,h0];simp),Array.size_modify,Ph]
    intro k;simp only[zfh];rw[UU k i v es.toList j e he nW aX,hf]
end
variable {ty:Td} {w':Wd}
variable {t:Td}
def Gives.ext {f:FuncId} {vals:LV} (hc:(callFunc f vals.toArray).run P w=.ok (.value v) w') (hv:xs.map (evF σ)=vals:=by exact rfl):
    Gives P (evF σ) (.call {callee:=.value (.func f),args:=xs.toArray,argTypes:=ats}) ty w v w':=λ_ _ _ _=>by
  simp only[execOp,resolve,evF,Deferred.ofValue,invoke,zce,hv,zbj,zbl,zan];have e:(#[]++vals.toArray++ #[]:Array Value)=vals.toArray:=sM;rw[e];exact hc
section
section
variable {P:Program} {ρ:Od->Value} {ty:Td} {w:Wd} {x y:Od} {T U:Td} {k:IntKind} {a b c:Int}
def Gives.akU (hx:ρ x=.int k a) (hy:ρ y=.int k b) (h:k.wrap (a+b)=c):Gives P ρ (.binOp .add T x y U) ty w (.int k c) w:=by subst h;exact Gives.add hx hy
def Gives.am5 (hx:ρ x=.int k a) (hy:ρ y=.int k b) (h:k.wrap (a-b)=c):Gives P ρ (.binOp .sub T x y U) ty w (.int k c) w:=by subst h;exact Gives.sub hx hy
def Gives.ao5 (hx:ρ x=.int k a) (hy:ρ y=.int k b) (h:k.wrap (a*b)=c):Gives P ρ (.binOp .mul T x y U) ty w (.int k c) w:=by subst h;exact Gives.mul hx hy
def Gives.akV (hx:ρ x=.int k a) (hy:ρ y=.int k b) (h0:b≠0) (h:k.wrap (a.tdiv b)=c):Gives P ρ (.binOp .quo T x y U) ty w (.int k c) w:=by subst h;exact Gives.quo hx hy h0
def Gives.akW (hx:ρ x=.int k a) (hy:ρ y=.int k b) (h0:b≠0) (h:a.tmod b=c):Gives P ρ (.binOp .rem T x y U) ty w (.int k c) w:=by subst h;exact Gives.rem hx hy h0
def Gives.am6 (hx:ρ x=.int k a) (hy:ρ y=.int k b) (h:bits .and k a b=c):Gives P ρ (.binOp .and T x y U) ty w (.int k c) w:=by subst h;exact Gives.and hx hy
def Gives.zw {s:Td} {j:IntKind} [nk P s j] [nk P t k] (hx:ρ x=.int j a) (h:k.wrap a=c):Gives P ρ (.convert s t x) ty w (.int k c) w:=by subst h;exact Gives.conv hx
end
end
section
section
variable {P:Program} {ρ:Od->Value} {ty:Td} {w:Wd} {x y:Od} {T U:Td} {k yk:IntKind} {a b c:Int}
def Gives.am7 (hx:ρ x=.int k a) (hy:ρ y=.int yk b) (h0:0<=b) (h:k.wrap (a*2^(Min.min b.toNat k.bits))=c):Gives P ρ (.binOp .shl T x y U) ty w (.int k c) w:=by subst h;exact Gives.shl hx hy h0
def Gives.arp (hx:ρ x=.int k a) (hy:ρ y=.int yk b) (h0:0<=b) (h:a.fdiv (2^(Min.min b.toNat k.bits))=c):Gives P ρ (.binOp .shr T x y U) ty w (.int k c) w:=by subst h;exact Gives.shr hx hy h0
def Gives.am8 (hx:ρ x=.int k a) (hy:ρ y=.int k b) (h:bits .xor k a b=c):Gives P ρ (.binOp .xor T x y U) ty w (.int k c) w:=by subst h;exact Gives.xor hx hy
end
end
variable {E:Td}
section
variable {P:Program} {n:Nat} {ops:AO} {σ:St} {w w0:Wd} {S:NP} {rs:List HP} {put:HP->List HP} {ty:Td} {pos:String} {after:Array Edge} {guard:Option (Nat×Bool)}
def UW {i k:Nat} [Agg P T k] {l:LNB} (H:Sep w0 S rs w)
    (ho:ops[i]? =some ⟨some d,.load T x,ty,pos,after,guard⟩:=by exact rfl)
    (hw:Region.wanted ⟨some d,.load T x,ty,pos,after,guard⟩ (bY ops σ)=true:=by kernel_rfl) (hx:evF σ x=.pointer (some ⟨b,0,none⟩):=by exact rfl)
    (hat:At rs (blk b cs E) put:=by exact aT) (hk:cs.length=k:=by exact rfl) (hd:σ d=.agg cs.toArray:=by exact rfl) (h:jo P ops σ w l):jo P ops σ w ((i,false)::l):=
  bQ ho hw (Gives.Ky hx (H.obj hat) (us:=cs) (by rw[zde,<-hk,zbq]) hk) hd h
def sU {p:Prop} (h:p:=by repeat (first | exact eF | refine ay ?_ | refine UW (by assumption) (h:=?_) | refine iL (by assumption) (h:=?_))):p:=h
end
def UY {a:Nat} (h:a<b):Nat.blt a b=true:=by
 unfold Nat.blt;rw[Nat.ble_eq];exact h
variable {bytes:Nat}
def Gives.j6 {y:Od} {m:Td} [ht:zM P t m e] {size:Nat} [hc:Cells P e size bytes] {b o i:Nat} {k:IntKind} (hx:ρ x=.pointer (some ⟨b,o,none⟩)) (hy:ρ y=.int k i) (aX:i<m):Gives P ρ (.indexAddr t x y) ty w (.pointer (some ⟨b,o+i*size,none⟩)) w:=by
 have:=Gives.BO (P:=P) (ty:=ty) (w:=w) (t:=t) hx hy aX
 rwa [Addr.add_lit]at this
open Extern.Stop (cell)
section
variable {P:Program} {r:Option Nat} {n:Nat} {ops:AO} {Q:Post} {rest:LO} {σ:St} {w w0:Wd} {S:NP} {rs:List HP} {put:HP->List HP} {ty:Td} {pos:String} {after:Array Edge} {lv:List Bool} {pd:LNB} {guard:Option (Nat×Bool)}
def j3 (fB:dX n ops=true) (e:Nat) (pd':LNB) {f:FuncId} {vals:LV} {α:Type} {val:α->Value} {φ:α->Prop} {q:α->HP} (H:Sep w0 S rs w)
    (hc:aQ P f vals w λv w'=>∃x,v=val x/\φ x/\Turn noB (q x) w w')
    (ho:ops[e]? =some ⟨some d,.call {callee:=.value (.func f),args:=xs.toArray,argTypes:=ats},ty,pos,after,guard⟩:=by exact rfl)
    (hw:Region.wanted ⟨some d,.call {callee:=.value (.func f),args:=xs.toArray,argTypes:=ats},ty,pos,after,guard⟩ (bY ops σ)=true:=by kernel_rfl) (hv:xs.map (evF σ)=vals:=by exact rfl) (dN:ow ops lv (pd.map (·.1)) e=true:=by kernel_rfl)
    (oH:pd.filter (λp=> !((above ops e).contains p.1))=pd':=by exact pD) (h: ∀x w',φ x->Sep w0 S (q x::rs) w'->Kept noB w w'->jo P ops (upd σ d (val x)) w' pd'/\FG P r n ops Q (lv.set e true) pd' (upd σ d (val x)) w') (he:qz P f:=by exact eT):pV P r n ops Q lv pd σ w e:=by
  refine Ka fB e pd' ho hw hc hv dN oH λv' w' ⟨x,h1,hφ,hk,F',hq,hs⟩=>?_;subst h1;exact h x w' hφ (H.new hk hq λb hb=>(hs b hb).resolve_left id) hk
end
section
variable {P:Program} {r:Option Nat} {n:Nat} {ops:AO} {Q:Post} {rest:LO} {σ:St} {w w' w0:Wd} {S:NP} {rs:List HP} {put:HP->List HP} {ty:Td} {pos:String} {after:Array Edge}
def ait {P:Program} {w:Wd} (t tn ty e:Td) [hs:dn P t e] {kn:IntKind} [hn:nk P tn kn] {size:Nat} [hc:Cells P e size bytes] [hz:Zero P e z] (Es:z.cells.size=size) (h1:0<size)
    (kq:IntKind) (k:Nat) (h0:0<k) (h63:k<=maxLen) (hbytes:k*bytes<=140737488355328):
    ∃c w',(Builtin.append_ #[t,tn] ty #[.slice none 0 0,.int kq k]).run P w=.ok (.slice (some ⟨w.heap.size,0,none⟩) k c) w'/\k<=c/\c<=maxLen/\w'.ownsRow 0 e size (.slice (some ⟨w.heap.size,0,none⟩) 0 c) 0 []/\Kept noB w w':=by
  obtain⟨i,hi,qE⟩:=zbc.1 hc.size;simp only[Prod.mk.injEq]at qE;obtain⟨au7,hby⟩:=qE
  have xq:i.zero=some z:=by
    have:=hz.run w;simp[zeroValue,typeInfo,hi]at this;cases hq:i.zero with
    | none=>simp[hq]at this
    | some u=>simp[hq]at this;rw[this]
  have hge:=grownCap_ge w k 0 e;have hcm:grownCap w k 0 e<=maxLen:=grownCap_le_maxLen w k 0 e h63;have hr:=Lib.run_append_nil_zeros (P:=P) w t tn ty e i z kq kn hs.und hn.und hi xq k h0 oM (by simp only[maxLen]at h63;omega) (by rw[hby];omega);refine⟨_,_,hr,hge,hcm,⟨sM,.inr ⟨w.heap.size,_,_,rfl,zai _,heap_alloc_new w.drew _,zai _,hcm,?_,sM⟩⟩,(Kept.drew w).MF (Kept.alloc _ _)⟩;simp only[Array.size_append,size_zeroCells,Es];rw[<-Nat.add_mul]
  congr 1
  omega
def akX {y:Od} {tn:Td} [hs:dn P t e] {kn:IntKind} [hn:nk P tn kn] {size:Nat} [hc:Cells P e size bytes] [hz:Zero P e z] {m:Nat} {kq:IntKind}
    (H:Sep w0 S rs w) (hx:evF σ x=.slice none 0 0) (hy:evF σ y=.int kq m) (h0:0<m) (Es:z.cells.size=size:=by exact rfl) (h1:0<size:=by decide)
    (h63:m<=maxLen) (hbytes:m*bytes<=140737488355328) (hd:Nat.blt d n=true:=by exact rfl)
    (h: ∀g c w',m<=c->c<=maxLen->Sep w0 S (vF e size (.slice (some ⟨g,0,none⟩) 0 c) 0 []::rs) w'->FL P r n ops Q rest (upd σ d (.slice (some ⟨g,0,none⟩) m c)) w'):
    FL P r n ops Q (⟨some d,.call {callee:=.builtin .append,args:= #[x,y],argTypes:= #[t,tn]},ty,pos,after,none⟩::rest) σ w:=by
  obtain⟨c,w',iw,rW,hcm,oI,hk⟩:=ait (P:=P) (w:=w) (ty:=ty) t tn e Es h1 kq m h0 h63 hbytes
  have k:Sep w0 S (vF e size (.slice (some ⟨w.heap.size,0,none⟩) 0 c) 0 []::rs) w':=H.new (F':=λb=>Value.ownBlock (.slice (some ⟨w.heap.size,0,none⟩) 0 c)=some b) hk ⟨oI,λb=>Iff.rfl⟩ λb hb=>by
    injection hb with hb
    exact Nat.le_of_eq hb
  refine dD (v:=.slice (some ⟨w.heap.size,0,none⟩) m c) (w':=w') (λ_ _ _ _=>?_) hd (h _ c w' rW hcm k);simp only[execOp,resolve,invoke,builtin,zbj,zbl,zan,zce,zav,zci,hx,hy,iw]
end
class IsIface (P:Program) (t:Td):Prop where
 und:P.underlying t=some (.interface (P.methodsAt t))
def IsNil (a:Value) (b:Bool):Prop:=(b=true/\a=.nilIface)\/(b=false/\∃t p,a=.iface t p)
section
variable {P:Program} {w w0:Wd} {ρ:Od->Value} {ty:Td} {x:Od} {S:NP} {rs:List HP} {put:HP->List HP}
def Gives.UZ {U:Td} [h:IsIface P T] {a:Value} {b:Bool} (ha:IsNil a b) (hx:ρ x=a) (hy:ρ (.const .nilIface)=.nilIface):Gives P ρ (.binOp .eql T x (.const .nilIface) U) ty w (.bool b) w:=by
 intro _ _ _ _
 rcases ha with⟨rfl,rfl⟩ | ⟨rfl,t,p,rfl⟩
 .have hg:(eqGuard .eql T x (.const .nilIface) .nilIface .nilIface).run P w=.ok () w:=by cases x<;>rfl
  simp only[execOp,hx,hy,zbj,hg,zan,run_eql_nil_nil w T h.und,zbl]
 have hg:(eqGuard .eql T x (.const .nilIface) (.iface t p) .nilIface).run P w=.ok () w:=rfl;simp only[execOp,hx,hy,zbj,hg,zan,run_eql_held_nil w T t p h.und,zbl]
def Qa {k:Td} [hm:IsMap P T k e] (H:Sep w0 S rs w) (hat:At rs (Ck b f n) put) (hx:ρ x=.map (some b)):
    Gives P ρ (.call {callee:=.builtin .len,args:= #[x],argTypes:= #[T]}) ty w (.int .i64 n) w:=by
  obtain⟨es,c,hb,hk,_⟩:=H.ais hat;intro _ _ _ _;simp[execOp,resolve,invoke,builtin,hx,Builtin.len_,run_underlying hm.und,goInt,iX hb,hk.2]
end
section
variable {P:Program} {r:Option Nat} {n:Nat} {ops:AO} {Q:Post} {rest:LO} {σ:St} {w w0:Wd} {S:NP} {rs:List HP} {put:HP->List HP} {ty:Td} {pos:String} {after:Array Edge}
def Qb {y z:Od} {k el:Td} [hm:IsMap P T k el] [hk:lX P k] {c:Nat} (H:Sep w0 S rs w) (hat:At rs (Ck b f c) put)
    (hx:evF σ x=.map (some b)) (hy:evF σ y=.string i) (hz:evF σ z=v) (h: ∀w',Sep w0 S (put (Ck b (λk=>if k=i then some v else f k) (if f i=none then c+1 else c))) w'->FL P r n ops Q rest σ w'):
    FL P r n ops Q (⟨none,.mapUpdate T x y z,ty,pos,after,none⟩::rest) σ w:=by
  obtain⟨w',ha,hs⟩:=LJ (P:=P) (ty:=ty) (T:=T) H hat hx hy hz;exact Ey ha rfl (h w' hs)
end
structure Had (ns:List (L8)) (f:ByteArray->Option Value) (n:Nat):Prop where
 le:n<=ns.length
 nd:n=ns.length↔ns.Nodup
 val: ∀x,∃c:Nat,c<=ns.length/\(f x).getD (.int .i64 0)=.int .i64 (c:Int)
 mem: ∀x:L8,f ⟨x.toArray⟩=none↔x∉ns
def Had.nil:Had [] (λ_=>none) 0:=⟨zbi _,sM,λx=>⟨0,zbi _,rfl⟩,λx=>sM⟩
def Had.push {ns:List (L8)} (h:Had ns f n) (x:L8) {c:Nat} (hc:c<=ns.length):
    Had (ns++[x]) (λk=>if k=⟨x.toArray⟩then some (.int .i64 ((c+1:Nat):Int))else f k) (if f ⟨x.toArray⟩=none then n+1 else n):=by
  have hl:(ns++[x]).length=ns.length+1:=sM
  have hnd:(ns++[x]).Nodup↔ns.Nodup/\x∉ns:=by
    rw[zep];constructor
    . rintro⟨h1,_,h3⟩
      exact⟨h1,λhx=>h3 x hx x sM rfl⟩
    rintro⟨h1,h2⟩;exact⟨h1,sM,λa ha b hb e=>by rw[zaw]at hb;subst hb;subst e;exact h2 ha⟩
  have rW:=h.le;refine⟨?_,?_,λk=>?_,λk=>?_⟩
  . rw[hl];split<;>omega
  . rw[hl,hnd,<-h.mem x]
    by_cases e:f ⟨x.toArray⟩=none
    . rw[zac e,<-h.nd]
      exact⟨λh1=>⟨oM,e⟩,λh1=>by have:=h1.1;omega⟩
    rw[zaa e];exact⟨λh1=>oM,λh1=>zas h1.2 e⟩
  . by_cases e:k=⟨x.toArray⟩
    . exact⟨c+1,by rw[hl];omega,by rw[zac e];rfl⟩
    obtain⟨d,h1,h2⟩:=h.val k;exact⟨d,by rw[hl];omega,by rw[zaa e];exact h2⟩
  by_cases e:k=x
  . subst e
    rw[zac rfl];simp
  rw[zaa (λhe=>e (by injection he with he;injection he)),h.mem k];simp[e]
variable {rest:LO} {w0:Wd} {S:NP} {rs:List HP} {pos:String} {after:Array Edge}
theorem afp {α:Type} {g:Od} {p:Tmp} {assign body:Code} {gf:FuncId} {lb:LV} (enc:α->Value) (φ ψ:List α->Prop) (J:List α->HP) (Fr0 Fr1:List HP) (H:Sep w0 S (J []::Fr0) w)
    (hg:evF σ g=.func (.func gf) #[] lb.toArray) (hp:Nat.blt p n=true)
    (ajv: ∀(l D:Nat) (ro rb:Obj) (pre:List α) (x:α) (Fr:List HP) (W:Wd),φ (pre++[x])->Sep w0 S (obj l ro::obj D (.deferred (some []))::J pre::Fr) W->
      FW P (some l) n assign (Mh λτ W'=>∃ex:List HP,Sep w0 S (obj l ro::obj D (.deferred (some []))::(ex++J pre::Fr)) W'/\
        ∀W'',Sep w0 S (obj l rb::obj D (.deferred (some []))::(ex++J pre::Fr)) W''->FW P (some l) n body (Mh λ_ W3=>Sep w0 S (obj l rb::obj D (.deferred (some []))::J (pre++[x])::Fr) W3) τ W'') (upd ⟨σ.get,[]⟩ p (enc x)) W)
    (ajw: ∀(l D:Nat) (ro:Obj) (W:Wd),Sep w0 S (obj l ro::obj D (.deferred (some []))::J []::Fr0) W->
      (∀(pre:List α) (x:α) (Fr:List HP) (W:Wd),φ (pre++[x])->Sep w0 S (obj l ro::obj D (.deferred (some []))::J pre::Fr) W->UN P l [enc x] W λW'=>Sep w0 S (obj l ro::obj D (.deferred (some []))::J (pre++[x])::Fr) W')->
      aQ P gf (.func (.yield l) #[] #[]::lb) W λ_ W'=>∃xs,ψ xs/\Sep w0 S (obj l ro::obj D (.deferred (some []))::J xs::Fr1) W')
    (CW: ∀(D:Nat) (W:Wd) (xs:List α),ψ xs->Sep w0 S (obj D (.deferred (some []))::J xs::Fr1) W->Q .normal ⟨σ.get,{target:=.collected D,args:= #[]}::σ.ds⟩ W) (he:qz P gf:=by exact eT):
    FW P none n (.rangeFunc g #[p] assign body) Q σ w:=by
  intro a ha;refine wpIn_rangeFunc λfn hfn=>?_
  let rec_:LoopState->Obj:=λst=>acK st fn a.tmps #[p] assign body w.heap.size
  obtain⟨W1,hW1⟩: ∃W1,(w.alloc (.deferred (some []))).alloc (rec_ .ready)=W1:=⟨_,rfl⟩
  have k:Sep w0 S (obj (w.heap.size+1) (rec_ .ready)::obj w.heap.size (.deferred (some []))::J []::Fr0) W1:=by
    have h1:=(H.alloc (.deferred (some []))).alloc (rec_ .ready);rw[World.size_alloc]at h1;rw[<-hW1];exact h1
  refine⟨w.heap.size+1,[{target:=.collected w.heap.size,args:= #[]}],W1,{target:=.fn (.func gf) lb.toArray,args:= #[.func (.yield (w.heap.size+1)) #[] #[]]},W1,gf,
    #[.func (.yield (w.heap.size+1)) #[] #[]]++lb.toArray,W1,?_,?_,λ_ _=>trivial,?_,(λh=>by cases h),?_⟩
  . rw[<-hW1];exact run_enterLoop_outer _ _ _ _ _
  . rw[ha.eval]
    have e1:(rangeCall g (w.heap.size+1)).callee=.value g:=rfl;simp only[resolve,hg,Deferred.ofValue];simp[evF]
  . simp[invoke,he.run]
  have an9:=ajw (w.heap.size+1) w.heap.size (rec_ .ready) W1 k (λpre x Fr W jI HW=>?_)
  . have e:(#[.func (.yield (w.heap.size+1)) #[] #[]]++lb.toArray:Array Value)=(Value.func (.yield (w.heap.size+1)) #[] #[]::lb).toArray:=sM
    rw[e];refine rD none (Calls.mono an9 λen W3 hr=>?_);cases en with
    | returned v=>
      obtain⟨xs,hψ,hr⟩:=hr;have hl:=Sep.obj hr At0;refine⟨none,_,run_endLoop hl sM,?_⟩;refine⟨⟨σ.get,{target:=.collected w.heap.size,args:= #[]}::σ.ds⟩,⟨ha.size,?_,ha.get⟩,CW w.heap.size _ xs hψ ?_⟩
      . show [_]++a.defers=_
        rw[ha.defers];rfl
      exact(Sep.Yq hr).bI
    | _=>exact hr.elim

  have hl:=Sep.obj HW At0;refine⟨fn,_,assign,body,run_yield hl sM,?_⟩;refine roundIn_of_wpIn (F:=fen none) trivial ?_;have hb:=ajv (w.heap.size+1) w.heap.size (rec_ .ready) (rec_ .busy) pre x Fr W jI HW
  have Zj:Rep n (upd ⟨σ.get,[]⟩ p (enc x)) {tmps:=((#[p].zip [enc x].toArray).foldl (λtmps (t,a)=>tmps.setIfInBounds t a) a.tmps),defers:=[]}:=by
    have h0:Rep n ⟨σ.get,[]⟩ {tmps:=a.tmps,defers:=[]}:=⟨ha.size,rfl,ha.get⟩;have h1:=h0.put (zbe hp) (enc x);simpa[Act.put]using h1
  refine Go.wpIn_mono (hb _ Zj) λen a1 W1' ⟨τ,hτ,hq⟩=>?_;cases en with
  | normal=>
    obtain⟨ex,HW1,hB⟩:=hq;have hl1:=Sep.obj HW1 At0;refine⟨_,run_beginRound hl1 rfl,?_⟩;refine Go.wpIn_mono (hB _ (Sep.Yq HW1) a1 hτ) λen a2 W2 ⟨τ2,hτ2,qD⟩=>?_;cases en with
    | normal=>
      have hl2:=Sep.obj (show Sep w0 S _ W2 from qD) At0;exact⟨_,_,run_endRound none hl2,rfl,Sep.Yq qD⟩
    | _=>exact qD.elim
  | _=>exact hq.elim
def Bd (P:Program) (f:FuncId) (args:LV) (w:Wd) (R:Value->Wd->Prop):Prop:=CallsDIn (fen none) 0 P f args.toArray .returning w λe u w'=>u=.returning/\Ret R e w'
def R4 (P:Program):List Deferred->Wd->(Wd->Prop)->Prop
 | [],w,R=>R w
 | d::ds,w,R=>∃(f:FuncId) (fs args:LV),d={target:=.fn (.func f) #[],args:=args.toArray}/\fs=args/\(∀w,(callFunc f args.toArray).run P w=.ok (.enter f args.toArray) w)/\Bd P f args w λ_ w'=>R4 P ds w' R
variable {fn:Func}
def vS {tmps:Array Value} {R:Ending->Wd->Prop} (hr: ∀w,(results fn tmps).run P w=.ok v w): ∀(ds:List Deferred) (w:Wd),R4 P ds w (λw'=>R (.returned v) w')->LeavesInM (fen none) 0 P fn tmps R ds .returning w
 | [],w,h=>⟨v,hr w,h⟩
 | d::ds,w,⟨f,fs,args,hd,_,he,hc⟩=>by
  subst hd;refine⟨(λe=>by cases e),.inr ⟨(λh=>by cases h),.func f, #[],f,args.toArray,rfl,?_,λ_ _=>trivial,CallsDIn.mono hc λe u' w' hu=>?_⟩⟩
  .have:=he w
   simpa[invoke]using this
  obtain⟨rfl,hr'⟩:=hu;cases e with
  | returned u=>exact vS hr ds w' hr'
  | _=>exact hr'.elim
def ao6 (P:Program) (l:List ResultVar) (R:Value->Wd->Prop):Post:=λe σ w=>match e with
 | .normal | .ret=>∃vs,mV σ l=some vs/\R4 P σ.ds w (R (fJ vs))
 | _=>False
variable {l:List ResultVar}
def Yy (h: ∃vs,mV σ l=some vs/\R4 P σ.ds w (R (fJ vs))):ao6 P l R .normal σ w:=h
variable {c:Code} {a0 a1:Value}
def am9 {f:FuncId} (hf:P.funcs[f]? =some fn)
    (h:FW P none n c (ao6 P l R) (upd (upd und 1 a1) 0 a0) w) (q:FnB fn c n l 2:=by exact⟨rfl,rfl,rfl,rfl⟩):aQ P f [a0,a1] w R:=
  FC (args:=[a0,a1]) hf q.x q.y q.u (λe s a w' hs hq=>by
    cases e with
    | normal=>exact⟨.inl rfl,by obtain⟨vs,h1,h2⟩:=hq;exact vS (λw=>qj hs.get q.z h1) _ _ h2⟩
    | ret=>exact⟨.inr rfl,by obtain⟨vs,h1,h2⟩:=hq;exact vS (λw=>qj hs.get q.z h1) _ _ h2⟩
    | _=>exact hq.elim) h
def akY (l:List ResultVar) (R:Value->Wd->Prop):Post:=λe σ w=>match e with
 | .normal | .ret=>σ.ds=[]/\∃vs,mV σ l=some vs/\R (fJ vs) w
 | _=>False
def K5 (h: ∃vs,mV σ l=some vs/\R (fJ vs) w) (hd:σ.ds=[]:=by exact rfl):akY l R .normal σ w:=⟨hd,h⟩
variable {args:LV}
def K6 {f:FuncId}
    (hf:P.funcs[f]? =some fn) (hb:fn.body=some c) (hn:fn.ntmps=n) (hl:fn.results=l.toArray) (Er:Nat.ble args.length n=true)
    (h:FW P none n c (akY l R) (D8 0 args) w):Bd P f args w R:=by
  refine CallsDIn.mono (callsDIn_of_wp (F:=fen none) (R:=Ret R) hf hb trivial (Go.wpIn_mono (h _ (aoz hn (zbe Er))) ?_)) λe u' w' hu=>hu;rintro e a' w' ⟨s,hs,hq⟩;cases e with
  | normal=>
    obtain⟨hd,vs,h1,h2⟩:=hq;exact⟨by rw[hs.defers,hd],_,qj hs.get hl h1,h2⟩
  | ret=>
    obtain⟨hd,vs,h1,h2⟩:=hq;exact⟨by rw[hs.defers,hd],_,qj hs.get hl h1,h2⟩
  | _=>exact hq.elim
def ana {f:FuncId} (hf:P.funcs[f]? =some fn)
    (h:FW P none n c (akY l R) (upd und 0 a0) w) (q:FnB fn c n l 1:=by exact⟨rfl,rfl,rfl,rfl⟩):Bd P f [a0] w R:=K6 hf q.x q.y q.z q.u h
def anb {f:FuncId} (hf:P.funcs[f]? =some fn)
    (h:FW P none n c (akY l R) (upd (upd und 1 a1) 0 a0) w) (q:FnB fn c n l 2:=by exact⟨rfl,rfl,rfl,rfl⟩):Bd P f [a0,a1] w R:=K6 hf q.x q.y q.z q.u h
def Yz {f:FuncId} {vals:LV} (hv:xs.map (evF σ)=vals:=by exact rfl) (h:FL P none n ops Q rest ⟨σ.get,{target:=.fn (.func f) #[],args:=vals.toArray}::σ.ds⟩ w):
    FL P none n ops Q (⟨none,.defer {callee:=.value (.func f),args:=xs.toArray,argTypes:=ats},ty,pos,after,none⟩::rest) σ w:=λa ha=>
  wpListIn_plain rfl λK hK=>by
    refine⟨λ_ _=>trivial,?_⟩
    have e:(Oper.semAt none a.eval ⟨none,.defer {callee:=.value (.func f),args:=xs.toArray,argTypes:=ats},ty,pos,after,none⟩).run P w=.ok (.defer {target:=.fn (.func f) #[],args:=vals.toArray}) w:=by
      rw[ha.eval];simp[Oper.semAt,execOp,resolve,Deferred.ofValue,evF,hv]
    rw[show(fen none).round=none from rfl,e,Oper.uponIn_defer];exact hK _ _ (h _ ⟨ha.size,by show _::a.defers=_;rw[ha.defers],ha.get⟩)
def Bd.mono {f:FuncId} {R R':Value->Wd->Prop} (h:Bd P f args w R) (hr: ∀v w',R v w'->R' v w'):Bd P f args w R':=
 CallsDIn.mono h λe u w' hu=>⟨hu.1,by
  have h2:=hu.2;cases e<;>first | exact hr _ _ h2 | exact h2⟩
def R5 {f:FuncId} {ds:List Deferred} {R:Wd->Prop} (h:Bd P f args w λ_ w'=>R4 P ds w' R) (he:qz P f:=by exact eT):R4 P ({target:=.fn (.func f) #[],args:=args.toArray}::ds) w R:=
 ⟨f,args,args,rfl,rfl,λw=>he.run _ w,h⟩
section
variable {P:Program} {w w0:Wd} {S:NP} {rs:List HP} {put:HP->List HP}
def Mj {b o:Nat} {v:Value} (H:Sep w0 S rs w) (hat:At rs (blk b cs E) put) (aX:Nat.blt o cs.length=true):Sep w0 S (put (blk b (cs.set o v) E)) (w.setCell ⟨b,o,none⟩ v):=by
 obtain⟨hk,ho⟩:=Ai (v:=v) (H.obj hat) (zbe aX);exact H.setObj hat hk ho
def AB {o:Nat} (hb:w.heap[b]? =some (.cells cs.toArray E (0,0))):w.frozen? ⟨b,o,none⟩=false:=by simp[World.frozen?,hb]
def Gives.acS {s d:Td} {a:Addr} (iw:(convert s d (.pointer (some a))).run P w=.ok (.pointer (some a)) w) (hx:ρ x=.pointer (some a)):Gives P ρ (.convert s d x) ty w (.pointer (some a)) w:=λ_ _ _ _=>by
 simp[execOp,hx,iw]
end
variable {guard:Option (Nat×Bool)}
def ao7 (fB:dX n ops=true) (i:Nat) (pd':LNB) {f:FuncId} {vals:LV} (hc:(callFunc f vals.toArray).run P w=.ok (.value v) w')
    (ho:ops[i]? =some ⟨some d,.call {callee:=.value (.func f),args:=xs.toArray,argTypes:=ats},ty,pos,after,guard⟩:=by exact rfl)
    (hw:Region.wanted ⟨some d,.call {callee:=.value (.func f),args:=xs.toArray,argTypes:=ats},ty,pos,after,guard⟩ (bY ops σ)=true:=by kernel_rfl) (hv:xs.map (evF σ)=vals:=by exact rfl)
    (dN:fE ops lv (pd.map (·.1)) i=true:=by kernel_rfl) (oH:pd.filter (λp=> !((above ops i).contains p.1))=pd':=by exact pD)
    (h:jo P ops (upd σ d v) w' pd'/\FG P r n ops Q (lv.set i true) pd' (upd σ d v) w'):FG P r n ops Q lv pd σ w:=
  vK (C:=λu w''=>u=v/\w''=w') fB i pd' ho hw ⟨v,w',Gives.ext hc hv,rfl,rfl⟩ dN oH λu w'' hu=>by
    obtain⟨rfl,rfl⟩:=hu;exact h
def vT (P:Program) (t:Td) (v:Value) (name:String) (f:FuncId) (u:Value):Prop:=∀w:Wd,(method (P.types.size+Made.depth) t v name).run P w=.ok (f,u) w
def YA {name:String} {u:Value} {f:FuncId} {vals:LV} (hx:evF σ x=.iface t v) (hm:vT P t v name f u) (hc:aQ P f (u::vals) w R)
    (hv:xs.map (evF σ)=vals) (hd:Nat.blt d n=true) (h: ∀v w',R v w'->FL P r n ops Q rest (upd σ d v) w') (he:qz P f:=by exact eT):
    FL P r n ops Q (⟨some d,.call {callee:=.invoke x name,args:=xs.toArray,argTypes:=ats},ty,pos,after,none⟩::rest) σ w:=λa ha=>
  wpListIn_plain rfl λK hK=>by
    refine⟨λ_ _=>trivial,?_⟩;rw[Oper.semAt_eq _ _ _ (λ_ h=>by cases h),ha.eval]
    have e:(execOp (evF σ) ⟨some d,.call {callee:=.invoke x name,args:=xs.toArray,argTypes:=ats},ty,pos,after,none⟩).run P w=.ok (.enter f (u::vals).toArray) w:=by
      have h1:=he.run (#[u]++vals.toArray) w;simp[execOp,resolve,invoke,callMethod,hx,hv,hm w];rw[show(u::vals).toArray= #[u]++vals.toArray from sM];simpa using h1
    rw[e,Oper.uponIn_enter];refine⟨(λh=>by cases h),rD r (Calls.mono hc λe w'' hr=>?_)⟩;cases e with
    | returned v=>exact hK _ _ (h v w'' hr _ (ha.put (zbe hd) v))
    | _=>exact hr.elim
variable {y:Code}
def Gives.aa2 (hu: ∀w:Wd,(Instr.makeInterface T (.pointer (some ⟨b,0,none⟩))).run P w=.ok (.iface T (.pointer (some ⟨b,0,none⟩))) w) (hx:ρ x=.pointer (some ⟨b,0,none⟩)):Gives P ρ (.makeInterface T x) ty w (.iface T (.pointer (some ⟨b,0,none⟩))) w:=λ_ _ _ _=>by
 simp[execOp,hx,hu w]
section
variable {P:Program} {r:Option Nat} {n:Nat} {ops:AO} {Q:Post} {rest:LO} {σ:St} {w w0:Wd} {S:NP} {rs:List HP} {put:HP->List HP} {ty:Td} {pos:String} {after:Array Edge} {op:Op}
def Qn (h:FW P r n y Q σ w):FL P r n ops (jJ P r n y Q) [] σ w:=yj (iK h)
def Sr {id:Nat} {l:LO} (h:FL P r n l.toArray (jJ P r n y Q) l σ w):FW P r n (.seq (.region id l.toArray false) y) Q σ w:=Bo (Jf h)
def Nx {id:Nat} {l:LO} (h:FL P r n l.toArray (jJ P r n y Q) l σ w):FL P r n ops (jJ P r n (.seq (.region id l.toArray false) y) Q) [] σ w:=yj (iK (Bo (Jf h)))
def Sk (h:FW P r n y Q σ w):FW P r n .skip (jJ P r n y Q) σ w:=abQ (iK h)
def Mv {v:Value} (h:FL P r n ops Q rest (upd σ d v) w) (hv:evF σ x=v:=by exact eV) (hd:Nat.blt d n=true:=by exact rfl):
    FL P r n ops Q (⟨some d,.move x,ty,pos,after,none⟩::rest) σ w:=akf hv hd h
def Am {v:Value} (h:FL P r n ops Q rest (upd σ d v) w) (hv:evF σ x=v:=by exact eV) (hd:Nat.blt d n=true:=by exact rfl):
    FL P r n ops Q (⟨some d,.assign x,ty,pos,after,none⟩::rest) σ w:=aex hv hd h
def Pf {y z:Od} (h:FL P r n ops Q rest (upd σ d v) w) (hc:evF σ z=.bool false:=by exact rfl) (hv:evF σ y=v:=by exact eV) (hd:Nat.blt d n=true:=by exact rfl):
    FL P r n ops Q (⟨some d,.pick z x y,ty,pos,after,none⟩::rest) σ w:=ahi hc hv hd h
def On {dst:Option Nat} {j:Nat} {b:Bool} {t:Nat} (h:FL P r n ops Q (⟨dst,op,ty,pos,after,none⟩::rest) σ w) (hj:(ops[j]?).bind (λo:Oper=>o.dst)=some t:=by exact rfl) (hb:σ t=.bool b:=by exact rfl):
    FL P r n ops Q (⟨dst,op,ty,pos,after,some (j,b)⟩::rest) σ w:=alI hj hb h
def Ld {o:Nat} [OneCell P T] (H:Sep w0 S rs w) (h:FL P r n ops Q rest (upd σ d v) w) (hx:evF σ x=.pointer (some ⟨b,o,none⟩):=by exact rfl) (hat:At rs (blk b cs E) put:=by exact aT) (hv:cs[o]? =some v:=by exact rfl) (hd:Nat.blt d n=true:=by exact rfl):
    FL P r n ops Q (⟨some d,.load T x,ty,pos,after,none⟩::rest) σ w:=Me H hx hat hv hd h
section
variable {d:Nat} {x y:Od} {T U:Td} {k:IntKind} {a b:Int}
def Ve (h:FL P r n ops Q rest (upd σ d (.bool (decide (a=b)))) w) (hx:evF σ x=.int k a:=by exact rfl) (hy:evF σ y=.int k b:=by exact rfl) (hd:Nat.blt d n=true:=by exact rfl):
    FL P r n ops Q (⟨some d,.binOp .eql T x y U,ty,pos,after,none⟩::rest) σ w:=dD (Gives.eql hx hy) hd h
def Vn (h:FL P r n ops Q rest (upd σ d (.bool (decide (a≠b)))) w) (hx:evF σ x=.int k a:=by exact rfl) (hy:evF σ y=.int k b:=by exact rfl) (hd:Nat.blt d n=true:=by exact rfl):
    FL P r n ops Q (⟨some d,.binOp .neq T x y U,ty,pos,after,none⟩::rest) σ w:=dD (Gives.neq hx hy) hd h
def Vl (h:FL P r n ops Q rest (upd σ d (.bool (decide (a<b)))) w) (hx:evF σ x=.int k a:=by exact rfl) (hy:evF σ y=.int k b:=by exact rfl) (hd:Nat.blt d n=true:=by exact rfl):
    FL P r n ops Q (⟨some d,.binOp .lss T x y U,ty,pos,after,none⟩::rest) σ w:=dD (Gives.lss hx hy) hd h
def Vx {i:Nat} {vs:Array Value} (h:FL P r n ops Q rest (upd σ d v) w) (hx:evF σ x=.tuple vs:=by exact rfl) (hv:vs[i]? =some v:=by exact rfl) (hd:Nat.blt d n=true:=by exact rfl):
    FL P r n ops Q (⟨some d,.extract x i,ty,pos,after,none⟩::rest) σ w:=dD (Gives.extract hx hv) hd h
def Vf {s f k b:Nat} [CX P s f k] (h:FL P r n ops Q rest (upd σ d (.pointer (some ⟨b,k,none⟩))) w) (hx:evF σ x=.pointer (some ⟨b,0,none⟩):=by exact rfl) (hd:Nat.blt d n=true:=by exact rfl):
    FL P r n ops Q (⟨some d,.fieldAddr s x f,ty,pos,after,none⟩::rest) σ w:=dD (Gives.yt hx) hd h
end
end
variable {l:List ResultVar} {R:Value->Wd->Prop}
def Rs (h:Q .ret σ w):FW P r n .ret (jJ P r n y Q) σ w:=ME (FB h)
variable {op:Op} {d:Nat} {v:Value}
def Gp (fB:dX n ops=true) (i:Nat) (ho:ops[i]? =some ⟨some d,op,ty,pos,after,guard⟩) (hw:Region.wanted ⟨some d,op,ty,pos,after,guard⟩ (bY ops σ)=true) (hg: ∀w,Gives P (evF σ) op ty w v w)
    (h:FG P r n ops Q (lv.set i true) ((i,true)::pd) (upd σ d v) w) (dN:lN ops lv (pd.map (·.1)) i=true:=by kernel_rfl):FG P r n ops Q lv pd σ w:=FGp fB i ho hw hg dN h
def Gl (fB:dX n ops=true) (i:Nat) (ho:ops[i]? =some ⟨some d,op,ty,pos,after,guard⟩) (hw:Region.wanted ⟨some d,op,ty,pos,after,guard⟩ (bY ops σ)=true) (hg:Gives P (evF σ) op ty w v w)
    (h:FG P r n ops Q (lv.set i true) ((i,false)::pd) (upd σ d v) w) (dN:lN ops lv (pd.map (·.1)) i=true:=by kernel_rfl):FG P r n ops Q lv pd σ w:=FGl fB i ho hw hg dN h
def Gm (fB:dX n ops=true) (i:Nat) (h:FG P r n ops Q (lv.set i true) ((i,true)::pd) (upd σ d v) w) (ho:ops[i]? =some ⟨some d,.move x,ty,pos,after,guard⟩:=by exact rfl)
    (hw:Region.wanted ⟨some d,.move x,ty,pos,after,guard⟩ (bY ops σ)=true:=by kernel_rfl) (hv:evF σ x=v:=by exact eV) (dN:lN ops lv (pd.map (·.1)) i=true:=by kernel_rfl):FG P r n ops Q lv pd σ w:=am1 fB i ho hw hv dN h
def Vv (hg:Gives P (evF σ) op ty w v w) (h:FL P r n ops Q rest (upd σ d v) w) (hd:Nat.blt d n=true:=by exact rfl):FL P r n ops Q (⟨some d,op,ty,pos,after,none⟩::rest) σ w:=dD hg hd h
def Cd {c:Od} {x:Code} {t:Bool} (hc:evF σ c=.bool t) (ht:t=true->FW P r n x Q σ w) (hf:t=false->FW P r n y Q σ w):FW P r n (.cond c x y) Q σ w:=L6 hc ht hf
section gives
variable {P:Program} {ρ:Od->Value} {ty:Td} {w w':Wd} {x y z u:Od}
class arq (P:Program) (t:Td):Prop where
 ok:P.eqGuardType P.depth t=false
def run_eqGuard_agg {op:BinOp} [h:arq P t] {xs ys:Array Value} (x y:Od):(eqGuard op t x y (.agg xs) (.agg ys)).run P w=.ok () w:=by
 unfold eqGuard;cases op<;>simp[h.ok,run_program]
end gives

section cells
variable {P:Program} {w:Wd}
def qQ (P:Program) (σ:St) (w:Wd):List ResultVar->LV->Prop
 | [],vs=>vs=[]
 | .tmp t::l,vs=>∃us,vs=σ t::us/\qQ P σ w l us
 | .cell a t::l,vs=>∃v us ad,vs=v::us/\σ a=.pointer (some ad)/\(loadVar t ad).run P w=.ok v w/\qQ P σ w l us
def Qc {σ:St} (g:ResultVar->Sem Value) (hg: ∀t,g (.tmp t)=pure (σ t)) (hc: ∀a t,g (.cell a t)=(do loadVar t (<-asAddr (σ a)))): ∀(l:List ResultVar) (vs:LV),qQ P σ w l vs->
    (List.mapM g l).run P w=.ok vs w:=by
  intro l
  induction l with
  | nil=>intro vs h;have h:vs=[]:=h;subst h;rfl
  | cons r l ih=>
    intro vs h;cases r with
    | cell a t=>
      obtain⟨v,us,ad,rfl,h1,h2,h3⟩:=h;rw[List.mapM_cons,hc,h1];simp[asAddr,h2,ih us h3]
    | tmp t=>
      obtain⟨us,rfl,h3⟩:=h;rw[List.mapM_cons,hg];simp[ih us h3]
def uH {tmps:Array Value} (hσ: ∀i,tmps.getD i undef=σ i) (hl:fn.results=l.toArray) {vs:LV} (h:qQ P σ w l vs):
    (results fn tmps).run P w=.ok (fJ vs) w:=by
  unfold results;rw[hl,List.mapM_toArray]
  have:=Qc (P:=P) (w:=w) (σ:=σ) (λ
    | .tmp t=>pure (tmps.getD t undef)
    | .cell a t=>do loadVar t (<-asAddr (tmps.getD a undef))) (λt=>by simp[hσ]) (λa t=>by simp[hσ]) l vs h
  rw[zbj,Sem.run_map];refine(zay (λr=>(Result.andThen r _).andThen _) this).trans ?_;simp only[zan]
  match vs with
  | []=>simp[fJ]
  | [v]=>simp[fJ]
  | u::v::us=>simp[fJ]
def aa3 (P:Program) (l:List ResultVar) (R:Value->Wd->Prop):Post:=λe σ w=>match e with
 | .normal | .ret=>σ.ds=[]/\∃vs,qQ P σ w l vs/\R (fJ vs) w
 | _=>False
def aiu (h: ∃vs,qQ P σ w l vs/\R (fJ vs) w) (hd:σ.ds=[]:=by exact rfl):aa3 P l R .ret σ w:=⟨hd,h⟩
def YB (h: ∃vs,qQ P σ w l vs/\R (fJ vs) w) (hd:σ.ds=[]:=by exact rfl):aa3 P l R .normal σ w:=⟨hd,h⟩
def xY {f:FuncId}
    (hf:P.funcs[f]? =some fn) (hb:fn.body=some c) (hn:fn.ntmps=n) (hl:fn.results=l.toArray) (Er:Nat.ble args.length n=true)
    (h:FW P none n c (aa3 P l R) (D8 0 args) w):aQ P f args w R:=
  FC hf hb hn Er (λe s a w' hs hq=>by
    cases e with
    | normal=>exact⟨.inl rfl,by obtain⟨h0,vs,h1,h2⟩:=hq;rw[h0];exact⟨_,uH hs.get hl h1,h2⟩⟩
    | ret=>exact⟨.inr rfl,by obtain⟨h0,vs,h1,h2⟩:=hq;rw[h0];exact⟨_,uH hs.get hl h1,h2⟩⟩
    | _=>exact hq.elim) h
section
variable {f:FuncId} {fn:Func} {c:Code} {R:Value->Wd->Prop} {n:Nat} {l:List ResultVar} (hf:P.funcs[f]? =some fn)
include hf
def pE (h:FW P none n c (aa3 P l R) (upd und 0 a0) w) (q:FnB fn c n l 1:=by exact⟨rfl,rfl,rfl,rfl⟩):aQ P f [a0] w R:=xY hf q.x q.y q.z q.u h
def tN (h:FW P none n c (aa3 P l R) (upd (upd und 1 a1) 0 a0) w) (q:FnB fn c n l 2:=by exact⟨rfl,rfl,rfl,rfl⟩):aQ P f [a0,a1] w R:=xY hf q.x q.y q.z q.u h
def AJ {a2:Value} (h:FW P none n c (aa3 P l R) (upd (upd (upd und 2 a2) 1 a1) 0 a0) w) (q:FnB fn c n l 3:=by exact⟨rfl,rfl,rfl,rfl⟩):aQ P f [a0,a1,a2] w R:=xY hf q.x q.y q.z q.u h
def anc {a2 a3:Value} (h:FW P none n c (aa3 P l R) (upd (upd (upd (upd und 3 a3) 2 a2) 1 a1) 0 a0) w) (q:FnB fn c n l 4:=by exact⟨rfl,rfl,rfl,rfl⟩):aQ P f [a0,a1,a2,a3] w R:=xY hf q.x q.y q.z q.u h
end
def mY {b o T k:Nat} [h1:Agg P T k] {cs us:LV} (hb:w.heap[b]? =some (.cells cs.toArray E (0,0))) (hu:(cs.drop o).take k=us) (hk:us.length=k):(loadVar T ⟨b,o,none⟩).run P w=.ok (.agg us.toArray) w:=by
 simp[loadVar,h1.agg,h1.size,xI hb hu hk]
end cells

section drawq
variable {P:Program} {r:Option Nat} {n:Nat} {ops:AO} {Q:Post} {lv:List Bool} {pd:LNB} {σ:St} {w w0:Wd} {S:NP} {rs:List HP} {ty:Td} {pos:String} {after:Array Edge} {guard:Option (Nat×Bool)}
def dA (fB:dX n ops=true) (e:Nat) (pd':LNB) {f:FuncId} {vals:LV} {v:Value} (H:Sep w0 S rs w) (hc:Rk P f vals w v)
    (ho:ops[e]? =some ⟨some d,.call {callee:=.value (.func f),args:=xs.toArray,argTypes:=ats},ty,pos,after,guard⟩:=by exact rfl)
    (hw:Region.wanted ⟨some d,.call {callee:=.value (.func f),args:=xs.toArray,argTypes:=ats},ty,pos,after,guard⟩ (bY ops σ)=true:=by kernel_rfl) (hv:xs.map (evF σ)=vals:=by exact rfl) (dN:fE ops lv (pd.map (·.1)) e=true:=by kernel_rfl)
    (oH:pd.filter (λp=> !((above ops e).contains p.1))=pd':=by exact pD) (h: ∀w',Sep w0 S rs w'->Kept noB w w'->jo P ops (upd σ d v) w' pd'/\FG P r n ops Q (lv.set e true) pd' (upd σ d v) w') (he:qz P f:=by exact eT):FG P r n ops Q lv pd σ w:=
  p8 fB e pd' ho hw hc hv dN oH λv' w' ⟨h1,h2⟩=>by subst h1;exact h w' (H.keep h2) h2
end drawq
def gZ.mid {A:OA} {s:Nat} {xs:LV} (hr:gZ w A n s xs) {l h cap:Nat} (hl:l<=h) (hh:h<=n) (hc:n<=cap):gZ w (if cap=l then A else A.map (·.add (l*s))) (h-l) s ((xs.drop (l*s)).take ((h-l)*s)):=
 (hr.cut (k:=l) (cap:=cap) oM hc).take oM

def ao8 (E:Nat) (v:Value) (n:Nat) (xs:LV):HP:=exH λx:Option (Nat×LV)×Nat=>match x with
 | (none,c)=>jk (v=.slice none n c/\n=0/\xs=[])
 | (some (g,rest),c)=>star (jk (v=.slice (some ⟨g,0,none⟩) n c/\xs.length=n/\n<=c)) (blk g (xs++rest) E)
section pre
variable {w0 w w':Wd} {S:NP} {rs:List HP} {put:HP->List HP}
def akZ {E c:Nat} {A:OA} {xs:LV} {F:NP} (h:(ao8 E (.slice A n c) n xs).ok F w):gZ w A n 1 xs:=by
 obtain⟨⟨_ | ⟨g,rest⟩,c'⟩,hx⟩:=h
 .obtain⟨⟨h1,h2,h3⟩,_⟩:=hx
  subst h2 h3;exact gZ.nil _ _ _
 obtain⟨F1,F2,hF,hd,⟨⟨h1,h2,h3⟩,_⟩,hb⟩:=hx;injection h1 with h1 _ _
 subst h1;refine⟨oM,λ_=>⟨_,rfl,λj u hu=>?_⟩⟩;rw[Addr.add_lit,zdc,jW hb.2,zcl (zax.1 hu).1];exact hu
def Sep.preRow {E c:Nat} {A:OA} {xs:LV} (h:Sep w0 S rs w) (hat:At rs (ao8 E (.slice A n c) n xs) put):gZ w A n 1 xs:=by
 obtain⟨F,hp,_,_⟩:=h.focus hat;exact akZ hp
end pre
end Go.Proofs.Mw
