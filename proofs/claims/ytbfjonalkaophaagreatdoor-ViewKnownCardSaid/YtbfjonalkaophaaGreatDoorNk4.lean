/-
 Regions that draw in which two effects are ready at once:either may come first.
-/
import Derived.Test.YtbfjonalkaophaaGreatDoorNk3
import Derived.Lib.AppendZerosOnto
import Derived.Stop.BytesEq
set_option linter.all false
namespace Go.Proofs.Mw
open Go.RowKit
variable {P:Program} {r:Option Nat} {n:Nat} {ops:AO} {Q:Post} {lv:List Bool} {pd:LNB} {σ:St} {w:Wd}
def oK (ops:AO) (lv:List Bool) (ids:List Nat) (e:Nat):Bool:=
 (vH ops lv).contains e&&
 ids.all λk=>(nS ops e).contains k||((match jL ops e with | some d=>jL ops k !=some d&& !(looks ops k).contains d | none=>true)&&
  (match jL ops k with | some d=> !(looks ops e).contains d | none=>true))
def pV (P:Program) (r:Option Nat) (n:Nat) (ops:AO) (Q:Post) (lv:List Bool) (pd:LNB) (σ:St) (w:Wd) (e:Nat):Prop:=
 ∀sub lr a,Real P n ops lv pd σ w sub lr a->(∀k∈nS ops e,lr.getD k false=true)->wpOpIn (fen r) 0 P ops (lift n Q) e (wpAnyIn (fen r) 0 P .any ops (lift n Q) (left ops (lr.setIfInBounds e true)) (lr.setIfInBounds e true)) a w
def jw (j:eY n ops=true) {e1 e2:Nat} (m:(vH ops lv==[e1,e2])=true) (q:pV P r n ops Q lv pd σ w e1) (s:pV P r n ops Q lv pd σ w e2):FG P r n ops Q lv pd σ w:=by
 have h:vH ops lv=[e1,e2]:=by simpa using m
 refine Tj j (λp=>by rw[p]at h;cases h) λe i sub l a o g=>?_;rw[h]at i
 rcases zax.1 i with rfl | i
 .exact q sub l a o g
 rw[zaw]at i;subst i;exact s sub l a o g
def F7 {X:Type} (e:List Bool) (p:LNB) (l:X->List (Nat×Value)) (I:X->Wd->Prop) (g: ∀x q w',I x w'->FG P r n ops Q e p (Ur (like σ q) (l x)) w')
    (i:(∀x h w',holds h (l x)->I x w'->h.ds=σ.ds->FG P r n ops Q e p h w')->FG P r n ops Q lv pd σ w):FG P r n ops Q lv pd σ w:=i λx h w' o j m=>by
  have:=g x h w' j;rw[Gx m,rU o]at this;exact this
theorem NH (V:eY n ops=true) {e':Nat} {o:Oper} (Z:ops[e']? =some o) (L:oK ops lv (pd.map (·.1)) e'=true) (hw:Region.wanted o (dG ops σ)=true) (C:LNB) (hpd:pd.filter (λp=> !((above ops e').contains p.1))=C)
    (h:MU P σ w o λσ' w'=>jK P ops σ' w' C/\FG P r n ops Q (lv.set e' true) C σ' w'):pV P r n ops Q lv pd σ w e':=by
  unfold oK at L;simp only[zbr,zaz]at L;obtain⟨y,u⟩:=L;have hmr:e'∈vH ops lv:=zcp.1 y;intro sub lr a e F;have yL:=(zdi.1 Z).1;have hdo:=za Z;obtain⟨O,z⟩:=sP V Z;have hrd:=Af.1 hmr;have h0':=BG hrd.1;obtain⟨Y,i,hds,T⟩:=e.rep;have hnp: ∀p∈sub,p.1∉nS ops e':=λp g hm=>by have:=F _ hm;rw[e.CZ g]at this;cases this
  have s: ∀p∈sub,(∀d,o.dst=some d->jL ops p.1≠some d/\d∉looks ops p.1)/\∀d,jL ops p.1=some d->d∉looks ops e':=λp g=>by
    have:=u p.1 (zav.2 ⟨p,e.mem p g,rfl⟩);rw[Bool.or_eq_true]at this
    rcases this with K | K
    . exact zas (zcp.1 K) (hnp p g)
    rw[zbr,hdo]at K;refine⟨λd D=>?_,λd D=>?_⟩
    . have b:=K.1
      rw[D]at b;simpa using b
    have b:=K.2;rw[D]at b;simpa using b
  have E: ∀x∈looks ops e',Y x=σ x:=λx q=>T x λp g D=>(s p g).2 x D q
  have t: ∀(v:Value) (w':Wd) (a':Act),Rep n (rY Y o.dst v) a'->jK P ops (rY σ o.dst v) w' C->Real P n ops (lv.set e' true) C (rY σ o.dst v) w' sub (lr.setIfInBounds e' true) a':=by
    intro v w' a' ha' hst
    have J: ∀p∈sub,p∈C:=λp g=>by
      rw[<-hpd,zca];refine⟨e.mem p g,?_⟩;cases l:(above ops e').contains p.1
      . rfl
      have:=FE e F p.1 (zcp.1 l);rw[e.CZ g]at this;cases this
    refine⟨J,e.nd,e.pw,λp g k N=>⟨rO (e.pr p g k N).1,(e.pr p g k N).2⟩,λp g=>rO (e.lvl p g),λk N=>?_,by simpa using e.sz,by simpa using e.lsz,λk N j hj=>?_,⟨_,ha',by simpa[EP]using hds,λx q=>?_⟩,
      λp g=>?_,e.own,e.apart⟩
    . by_cases H:e'=k
      . subst H
        have K:(lr.setIfInBounds e' true).getD e' true=true:=by
          simp[zbq,zbz]
          split<;>rfl
        rw[K,vI _ (by rw[e.lsz];exact yL)];cases l:(sub.map (·.1)).contains e'
        . rfl
        obtain⟨p,g,S⟩:=zav.1 (zcp.1 l);have:=e.lvl p g;rw[S,h0']at this;cases this
      rw[getD_set_ne true H,Ah H,e.lrv k N]
    . by_cases H:e'=k
      . subst H;exact getD_set_true (F j hj)
      rw[getD_set_ne false H]at N;exact getD_set_true (e.cl k N j hj)
    . by_cases D:o.dst=some x
      . rw[D];show upd Y x v x=upd σ x v x;rw[upd_same,upd_same]
      rw[jf D,jf D];exact T x q
    cases hf:p.2 with
    | false=>
      obtain⟨o',v',A,W,X⟩:=hst.get p (J p g) hf;refine⟨o',v',A,W,λG m=>?_⟩
      rcases m with m | m
      . cases m
      rw[m];exact X
    | true=>
      obtain⟨o',v',A,W,X⟩:=e.yl p g;refine⟨o',v',A,λd D=>?_,λG _=>(X G (.inl hf)).congr A (sP V A).2 λx q=>(jf λS=>((s p g).1 x S).2 q).symm⟩;rw[jf (λS=>((s p g).1 d S).1 (by rw[za A,D]))];exact W d D
  unfold wpOpIn;simp only[Z]
  have hww:Region.wanted o (yielded ops a.tmps)=true:=by
    rw[i.yielded ops (Jf V),uD Z E];exact hw
  rw[zac hww];refine⟨λ_ _=>trivial,?_⟩;unfold MU at h
  have R:(o.semAt (fen r).round a.eval)=execOp (evF σ) o:=by
    rw[Oper.semAt_eq _ _ _ λc l=>?_,i.eval,Ag Z z E]
    have hne: ∀x w',(execOp (evF σ) o).run P w=.ok x w'->∃d,x=.defer d:=λx w' q=>by
      unfold execOp at q;rw[l]at q;simp only[zbj]at q;cases e:(resolve (evF σ) c o.type).run P w<;>rw[e]at q<;>simp[Result.andThen]at q
      exact⟨_,q.1.symm⟩
    cases q:(execOp (evF σ) o).run P w with
    | halt x w'=>rw[q]at h;exact h
    | ok x w'=>
      obtain⟨d,rfl⟩:=hne x w' q;rw[q]at h;exact h
  rw[R]
  generalize (execOp (evF σ) o).run P w=res at h |-
  cases res with
  | halt x w'=>exact h.elim
  | ok nx w'=>
    cases nx with
    | value v=>exact h.2 _ _ _ (t v w' _ (i.Oo O v) h.1)
    | skip=>exact h.2 _ _ _ (t undef w' _ (i.Oo O undef) h.1)
    | enter f args=>
      refine⟨(λh=>by cases h),rC r (Calls.mono h λen G M=>?_)⟩;cases en with
      | returned v=>exact M.2 _ _ _ (t v G _ (i.Oo O v) M.1)
      | _=>exact M.elim
    | _=>exact h.elim

variable {xs:List Od} {ats:Array Td} {R:Value->Wd->Prop} {ty:Td} {pos:String} {after:Array Edge} {guard:Option (Nat×Bool)}
def JI (j:eY n ops=true) (e:Nat) (g:LNB) {d:Option Nat} {f:FuncId} {G:LV}
    (D:ops[e]? =some ⟨d,.call {callee:=.value (.func f),args:=xs.toArray,argTypes:=ats},ty,pos,after,guard⟩)
    (F:Region.wanted ⟨d,.call {callee:=.value (.func f),args:=xs.toArray,argTypes:=ats},ty,pos,after,guard⟩ (dG ops σ)=true) (A:aX P f G w R) (E:xs.map (evF σ)=G) (i:oK ops lv (pd.map (·.1)) e=true)
    (m:pd.filter (λp=> !((above ops e).contains p.1))=g) (h: ∀v w',R v w'->jK P ops (rY σ d v) w' g/\FG P r n ops Q (lv.set e true) g (rY σ d v) w') (C:qB P f:=by exact eT):pV P r n ops Q lv pd σ w e:=by
  refine NH j D i F g m ?_;unfold MU;have s:execOp (evF σ) ⟨d,.call {callee:=.value (.func f),args:=xs.toArray,argTypes:=ats},ty,pos,after,guard⟩=callFunc f (#[]++xs.toArray.map (evF σ)++ #[]):=rfl;have t:(#[]++xs.toArray.map (evF σ)++ #[]:Array Value)=G.toArray:=by simp[E]
  rw[s,C.run,t];refine Calls.mono A λH o q=>?_;cases H with
  | returned v=>exact h v o q
  | _=>exact q.elim
variable {d:Nat}
def F8 (m:eY n ops=true) (e:Nat) (g:LNB) {op:Op} {C:Value->Wd->Prop} (s:ops[e]? =some ⟨some d,op,ty,pos,after,guard⟩)
    (t:Region.wanted ⟨some d,op,ty,pos,after,guard⟩ (dG ops σ)=true) (j: ∃v w',ah P (evF σ) op ty w v w'/\C v w') (i:oK ops lv (pd.map (·.1)) e=true)
    (o:pd.filter (λp=> !((above ops e).contains p.1))=g) (h: ∀v w',C v w'->jK P ops (upd σ d v) w' g/\FG P r n ops Q (lv.set e true) g (upd σ d v) w'):pV P r n ops Q lv pd σ w e:=by
  obtain⟨v,w',j,q⟩:=j;refine NH m s i t g o ?_;unfold MU;rw[j];exact h v w' q
variable {T:Td} {z:Value} {cs:LV}
def jR {w0:Wd} {S:NP} {rs:List HP} (m:eY n ops=true) (i:Nat) (e:LNB) [D:Zero P T z] (H:Sep w0 S rs w) (q:ops[i]? =some ⟨some d,.alloc T,ty,pos,after,guard⟩:=by exact rfl)
    (A:Region.wanted ⟨some d,.alloc T,ty,pos,after,guard⟩ (dG ops σ)=true:=by kernel_rfl) (j:z.cells=cs.toArray:=by exact rfl)
    (g:oK ops lv (pd.map (·.1)) i=true:=by kernel_rfl) (o:pd.filter (λp=> !((above ops i).contains p.1))=e:=by exact pD)
    (h: ∀b w',Sep w0 S (blk b cs T::rs) w'->jK P ops (upd σ d (.pointer (some ⟨b,0,none⟩))) w' e/\FG P r n ops Q (lv.set i true) e (upd σ d (.pointer (some ⟨b,0,none⟩))) w'):pV P r n ops Q lv pd σ w i:=
  F8 (C:=λv w'=>∃b,v=.pointer (some ⟨b,0,none⟩)/\Sep w0 S (blk b cs T::rs) w') m i e q A
    ⟨.pointer (some ⟨w.heap.size,0,none⟩),w.alloc (.cells cs.toArray T),λ_ _ _ _=>by simp[execOp,Instr.alloc,D.run,newVar,newRow,j],_,rfl,H.alloc _⟩ g o
    (λv w' t=>by obtain⟨b,rfl,s⟩:=t;exact h b w' s)
def NI (a b:ByteArray):(a==b)=(a.data==b.data):=by
 cases a;cases b;rfl
instance aiX:LawfulBEq ByteArray where
 eq_of_beq {a b} h:=by
  rw[NI]at h;exact ByteArray.ext (eq_of_beq h)
 rfl {a}:=by rw[NI];exact beq_self_eq_true _

def jy (k:ByteArray) (e:MapEntry):Bool:=match e.key with
 | .string a=>a==k
 | _=>false
def pE (es:List MapEntry) (k:ByteArray):Option Value:=(es.find? (jy k)).map (·.val)
def oL (es:List MapEntry):Prop:=∀e∈es,∃a,e.key=.string a
variable {f:ByteArray->Option Value} {b:Nat} {ρ:Od->Value} {x:Od} {e:Td} {i:ByteArray} {v:Value}
def BQ (b:Nat) (f:ByteArray->Option Value) (n:Nat):HP:=exH λx:Array MapEntry×Nat=>dx (obj b (.map x.1 x.2)) (jH ((oL x.1.toList/\x.1.size=n)/\∀k,pE x.1.toList k=f k))

section
variable {w0 w w':Wd} {S:NP} {rs:List HP} {put:HP->List HP} {P:Program}
def F9 {F:NP}:(BQ b f n).ok F w↔(∀x,F x↔x=b)/\∃e clock,w.heap[b]? =some (.map e clock)/\(oL e.toList/\e.size=n)/\∀k,pE e.toList k=f k:=by
 constructor
 .rintro⟨⟨e,c⟩,q,s,p,t,⟨g,i⟩,⟨⟨j,m⟩,o⟩⟩
  refine⟨λx=>?_,e,c,i,j,m⟩;rw[p,g];exact⟨λh=>h.elim id λh=>(o x h).elim,.inl⟩
 rintro⟨g,e,c,i,j,m⟩;exact⟨⟨e,c⟩,F,λ_=>False,λx=>sM,λ_ _ h=>h,⟨g,i⟩,⟨⟨j,m⟩,λ_ h=>h⟩⟩
def Sep.agA (h:Sep w0 S rs w) (g:At rs (BQ b f n) put): ∃e clock,w.heap[b]? =some (.map e clock)/\(oL e.toList/\e.size=n)/\∀k,pE e.toList k=f k:=by
 obtain⟨F,i,_,_⟩:=h.bG g;exact(F9.1 i).2
def Sep.ain (h:Sep w0 S rs w) (e:At rs (Mw.obj b (Obj.map #[] 0)) put):Sep w0 S (put (BQ b (λ_=>none) 0)) w:=
 h.imp e λF g=>F9.2 ⟨g.1, #[],0,g.2,⟨by simp[oL],rfl⟩,λk=>rfl⟩

def TY (k:ByteArray): ∀(p:List MapEntry) (i:Nat),oL p->∃r,Instr.findNow .string (.string k) p i=some r/\r.map (·.2)=pE p k/\
    (∀j v,r=some (j,v)->∃m,j=i+m/\∃e,p[m]? =some e/\jy k e=true/\p.find? (jy k)=some e/\∀H C,H<m->p[H]? =some C->jy k C=false):=by
  intro p
  induction p with
  | nil=>intro i _;exact⟨none,rfl,rfl,λ_ _ h=>by cases h⟩
  | cons e p Z=>
    intro i L;obtain⟨a,K⟩:=L e zak;obtain⟨r,N,O,V⟩:=Z (i+1) λx Y=>L x (zap _ Y);have M:Instr.sameNow .string (.string k) e.key=some (k==a):=by rw[K];simp[Instr.sameNow]
    have A:jy k e=(a==k):=by unfold jy;rw[K]
    by_cases q:k=a
    . subst q
      have t:jy k e=true:=by rw[A];simp
      refine⟨some (i,e.val),?_,?_,?_⟩
      . unfold Instr.findNow;rw[M];simp
      . simp[pE,t]
      rintro j v o;injection o with o
      injection o with w S
      exact⟨0,oM,e,rfl,t,by simp[t],λH _ W=>oM⟩
    have s:jy k e=false:=by rw[A];simpa using λh:a=k=>q h.symm
    refine⟨r,?_,?_,?_⟩
    . unfold Instr.findNow;rw[M,N]
      have :(k==a)=false:=by simpa using q
      rw[this]
    . rw[O];simp[pE,s]
    rintro j v o;obtain⟨m,W,C,E,G,F,J⟩:=V j v o;refine⟨m+1,oM,C,by simpa using E,G,by simp[s,F],λH D X g=>?_⟩;cases H with
    | zero=>simp at g;rw[<-g];exact s
    | succ H=>exact J H D oM (by simpa using g)
def pq {F:Td} (D:P.underlying F=some (.string)) (k:ByteArray) (h:List MapEntry) (C:oL h):
    ∃r,(Instr.findKey F (.string k) h).run P w=.ok r w/\r.map (·.2)=pE h k/\
    (∀j v,r=some (j,v)->∃e,h[j]? =some e/\jy k e=true/\∀q p,q<j->h[q]? =some p->jy k p=false):=by
  obtain⟨r,s,t,H⟩:=TY k h 0 C;refine⟨r,by simp[Instr.findKey,run_underlying D,s],t,λj v g=>?_⟩;obtain⟨m,E,e,A,i,_,o⟩:=H j v g;have :j=m:=by omega
  subst this;exact⟨e,A,i,o⟩
def ou {g:Td} (h:P.underlying g=some (.string)) (b:Bool) (k:ByteArray) (d:Nat):(Instr.checkKey b (d+1) g (.string k)).run P w=.ok () w:=by
 simp[Instr.checkKey,run_underlying h]
def jm {e:Array MapEntry} {c:Nat} (h:w.heap[b]? =some (.map e c)):(getObj b).run P w=.ok (.map e c) w:=by
 simp[getObj,Sem.run,h]
def BR {ty:Td} {y:Od} {T k e:Td} [s:IsMap P T k e] [m:mD P k] [A:Zero P e z] {i:ByteArray}
    {D:Array MapEntry} {c:Nat} (q:w.heap[b]? =some (.map D c)) (h:oL D.toList) (hf: ∀k,pE D.toList k=f k) (t:ρ x=.map (some b)) (H:ρ y=.string i):ah P ρ (.lookup T x y false) ty w ((f i).getD z) w:=by
  obtain⟨r,o,p,_⟩:=pq (P:=P) (w:=w) m.und i D.toList h;intro _ _ _ _;rw[<-hf,<-p];have g:=ou (P:=P) (w:=w) m.und D.isEmpty i 9999;simp only[execOp,t,H,Instr.lookup,zbj,run_underlying s.und,zar,jm q,zbl];rw[g];simp only[zar,o];cases r with
  | none=>simp[A.run]
  | some C=>obtain⟨j,v⟩:=C;simp
def OP {y:Od} {k:Td} [s:IsMap P T k e] [q:mD P k] [t:Zero P e z] {i:ByteArray}
    (H:Sep w0 S rs w) (g:At rs (BQ b f n) put) (m:ρ x=.map (some b)) (o:ρ y=.string i):ah P ρ (.lookup T x y false) ty w ((f i).getD z) w:=by
  obtain⟨p,c,j,h,hf⟩:=H.agA g;exact BR j h.1 hf m o
def ZG {m:List MapEntry} (k:ByteArray) (j:pE m i=none):pE (m++[{key:=.string i,val:=v,born:=n}]) k=if k=i then some v else pE m k:=by
 unfold pE at *;rw[List.find?_append]
 by_cases e:k=i
 .subst e
  have g:m.find? (jy k)=none:=by simpa using j
  rw[zac rfl,g];simp[jy]
 rw[zab e]
 have :([{key:=.string i,val:=v,born:=n}]:List MapEntry).find? (jy k)=none:=by
  have :jy k {key:=.string i,val:=v,born:=n}=false:=by simp[jy];exact λh=>e h.symm
  simp[this]
 rw[this];cases m.find? (jy k)<;>rfl
def T9 (k i:ByteArray) (v:Value): ∀(o:List MapEntry) (j:Nat) (e:MapEntry),o[j]? =some e->jy i e=true->(∀t s,t<j->o[t]? =some s->jy i s=false)->
    pE (o.modify j λe=>{e with key:=.string i,val:=v}) k=if k=i then some v else pE o k:=by
  intro o
  induction o with
  | nil=>intro j e h;simp at h
  | cons x o F=>
    intro j e H g p;cases j with
    | zero=>
      simp at H;subst H;simp only[List.modify_zero_cons];unfold pE
      by_cases m:k=i
      . subst m
        rw[zac rfl];simp[jy]
      rw[zab m];have A:jy k {x with key:=.string i,val:=v}=false:=by simp[jy];exact λh=>m h.symm
      have C:jy k x=false:=by
        unfold jy at g |-
        split at g
        . rename_i a G
          simp at g;simpa[g]using λh:i=k=>m h.symm
        cases g
      simp[A,C]
    | succ j=>
      simp only[List.modify_succ_cons];have E:jy i x=false:=p 0 x oM rfl;have q:=F j e (by simpa using H) g λt s J D=>p (t+1) s oM (by simpa using D);unfold pE at q ⊢;rw[zcm,zcm];cases hkx:jy k x with
      | true=>
        have :k≠i:=λe=>by rw[e,E]at hkx;cases hkx
        simp[this]
      | false=>simpa using q
def KW {ty:Td} {y z:Od} {T k e:Td} [hm:IsMap P T k e] [hk:mD P k]
    (H:Sep w0 S rs w) (Z:At rs (BQ b f n) put) (hx:ρ x=.map (some b)) (hy:ρ y=.string i) (hz:ρ z=v):
    ∃w',Oq P ρ (.mapUpdate T x y z) ty w w'/\Sep w0 S (put (BQ b (λk=>if k=i then some v else f k) (if f i=none then n+1 else n))) w':=by
  obtain⟨F,hp,_,N⟩:=H.bG Z;obtain⟨hF,s,c,D,⟨h,O⟩,hf⟩:=F9.1 hp;obtain⟨r,h1,W,h3⟩:=pq (P:=P) (w:=w) hk.und i s.toList h;have K:=ou (P:=P) (w:=w) hk.und false i 9999;have J:=lq D;have A: ∀o:Obj,(setObj b o).run P w=.ok () {w with heap:=w.heap.setIfInBounds b o}:=λo=>by simp[Go.setObj,Sem.run,D]
  have E: ∀(g:Array MapEntry) (V:Nat),oL g.toList->g.size=(if f i=none then n+1 else n)->(∀k,pE g.toList k=if k=i then some v else f k)->
      Sep w0 S (put (BQ b (λk=>if k=i then some v else f k) (if f i=none then n+1 else n))) {w with heap:=w.heap.setIfInBounds b (.map g V)}:=λg V l R d=>
    N _ F _ ⟨rfl,rfl,rfl,sM,λj hj X=>by simp only[zbz];rw[zab (λe=>X ((hF j).2 e.symm))]⟩
      (F9.2 ⟨hF,g,V,by simp[J],⟨l,R⟩,d⟩) λb D=>.inl D
  cases r with
  | none=>
    refine⟨{w with heap:=w.heap.setIfInBounds b (.map (s.push {key:=.string i,val:=v,born:=c}) (c+1))},λ_ _ _ _=>?_,E _ _ ?_ ?_ ?_⟩
    . simp only[execOp,hx,hy,hz,Instr.mapUpdate,zbj,run_underlying hm.und,zar,jm D]
      rw[K];simp only[zar,h1,A,zbl]
    . intro e q
      simp at q
      rcases q with q | q
      . exact h e (by simpa using q)
      exact⟨i,by rw[q]⟩
    . have G:pE s.toList i=none:=by rw[<-W];rfl
      rw[zac (by rw[<-hf];exact G),Array.size_push,O]
    intro k;have G:pE s.toList i=none:=by rw[<-W];rfl
    simp only[zfv];rw[ZG k G,hf]
  | some jv=>
    obtain⟨j,u⟩:=jv;obtain⟨e,q,t,Q⟩:=h3 j u rfl;obtain⟨a,ha⟩:=h e (zag q);have Y:a=i:=by unfold jy at t;rw[ha]at t;simpa using t
    have M:(((s[j]?).map (·.key)).getD (.string i))=.string i:=by
      have :s[j]? =some e:=by simpa using q
      rw[this];simp[ha,Y]
    have C:(Instr.keyThatStays (.string i) (.string i)).run P w=.ok (.string i) w:=by simp[Instr.keyThatStays,Instr.sameBits]
    refine⟨{w with heap:=w.heap.setIfInBounds b (.map (s.modify j λe=>{e with key:=.string i,val:=v}) c)},λ_ _ _ _=>?_,E _ _ ?_ ?_ ?_⟩
    . simp only[execOp,hx,hy,hz,Instr.mapUpdate,zbj,run_underlying hm.und,zar,jm D]
      rw[K];simp only[zar,h1,M,C,A,zbj,zbl]
    . intro e' L
      simp only[zfl]at L;obtain⟨m,Gj,rfl⟩:=zfy.1 L;rw[List.getElem_modify]
      split
      . exact⟨i,rfl⟩
      exact h _ (zgd _)
    . have G:pE s.toList i=some u:=by rw[<-W];rfl
      rw[zab (by rw[<-hf,G];simp),Array.size_modify,O]
    intro k;simp only[zfl];rw[T9 k i v s.toList j e q t Q,hf]
end
variable {ty:Td} {w':Wd}
variable {t:Td}
def ah.ext {f:FuncId} {vals:LV} (h:(callFunc f vals.toArray).run P w=.ok (.value v) w') (g:xs.map (evF σ)=vals:=by exact rfl):
    ah P (evF σ) (.call {callee:=.value (.func f),args:=xs.toArray,argTypes:=ats}) ty w v w':=λ_ _ _ _=>by
  simp only[execOp,resolve,evF,Deferred.ofValue,invoke,zch,g,zbj,zbl,zar];have e:(#[]++vals.toArray++ #[]:Array Value)=vals.toArray:=sM;rw[e];exact h
section
section
variable {P:Program} {ρ:Od->Value} {ty:Td} {w:Wd} {x y:Od} {T U:Td} {k:IntKind} {a b c:Int}
def ah.adu (e:ρ x=.int k a) (g:ρ y=.int k b) (h:k.wrap (a+b)=c):ah P ρ (.binOp .add T x y U) ty w (.int k c) w:=by subst h;exact ah.add e g
def ah.ajU (e:ρ x=.int k a) (g:ρ y=.int k b) (h:k.wrap (a-b)=c):ah P ρ (.binOp .sub T x y U) ty w (.int k c) w:=by subst h;exact ah.sub e g
def ah.alq (e:ρ x=.int k a) (g:ρ y=.int k b) (h:k.wrap (a*b)=c):ah P ρ (.binOp .mul T x y U) ty w (.int k c) w:=by subst h;exact ah.mul e g
def ah.aio (g:ρ x=.int k a) (i:ρ y=.int k b) (e:b≠0) (h:k.wrap (a.tdiv b)=c):ah P ρ (.binOp .quo T x y U) ty w (.int k c) w:=by subst h;exact ah.quo g i e
def ah.aip (g:ρ x=.int k a) (i:ρ y=.int k b) (e:b≠0) (h:a.tmod b=c):ah P ρ (.binOp .rem T x y U) ty w (.int k c) w:=by subst h;exact ah.rem g i e
def ah.ajV (e:ρ x=.int k a) (g:ρ y=.int k b) (h:bits .and k a b=c):ah P ρ (.binOp .and T x y U) ty w (.int k c) w:=by subst h;exact ah.and e g
def ah.zy {s:Td} {j:IntKind} [nO P s j] [nO P t k] (e:ρ x=.int j a) (h:k.wrap a=c):ah P ρ (.convert s t x) ty w (.int k c) w:=by subst h;exact ah.conv e
end
end
section
section
variable {P:Program} {ρ:Od->Value} {ty:Td} {w:Wd} {x y:Od} {T U:Td} {k yk:IntKind} {a b c:Int}
def ah.ajW (g:ρ x=.int k a) (i:ρ y=.int yk b) (e:0<=b) (h:k.wrap (a*2^(Min.min b.toNat k.bits))=c):ah P ρ (.binOp .shl T x y U) ty w (.int k c) w:=by subst h;exact ah.shl g i e
def ah.anj (g:ρ x=.int k a) (i:ρ y=.int yk b) (e:0<=b) (h:a.fdiv (2^(Min.min b.toNat k.bits))=c):ah P ρ (.binOp .shr T x y U) ty w (.int k c) w:=by subst h;exact ah.shr g i e
def ah.ajX (e:ρ x=.int k a) (g:ρ y=.int k b) (h:bits .xor k a b=c):ah P ρ (.binOp .xor T x y U) ty w (.int k c) w:=by subst h;exact ah.xor e g
end
end
variable {E:Td}
section
variable {P:Program} {n:Nat} {ops:AO} {σ:St} {w w0:Wd} {S:NP} {rs:List HP} {put:HP->List HP} {ty:Td} {pos:String} {after:Array Edge} {guard:Option (Nat×Bool)}
def Av {i k:Nat} [Agg P T k] {l:LNB} (H:Sep w0 S rs w)
    (m:ops[i]? =some ⟨some d,.load T x,ty,pos,after,guard⟩:=by exact rfl)
    (o:Region.wanted ⟨some d,.load T x,ty,pos,after,guard⟩ (dG ops σ)=true:=by kernel_rfl) (p:evF σ x=.pointer (some ⟨b,0,none⟩):=by exact rfl)
    (e:At rs (blk b cs E) put:=by exact aT) (g:cs.length=k:=by exact rfl) (j:σ d=.agg cs.toArray:=by exact rfl) (h:jK P ops σ w l):jK P ops σ w ((i,false)::l):=
  bE m o (ah.JZ p (H.obj e) (us:=cs) (by rw[zdh,<-g,zbo]) g) j h
def sU {p:Prop} (h:p:=by repeat (first | exact dw | refine av ?_ | refine Av (by assumption) (h:=?_) | refine jG (by assumption) (h:=?_))):p:=h
end
def Ua {a:Nat} (h:a<b):Nat.blt a b=true:=by
 unfold Nat.blt;rw[Nat.ble_eq];exact h
variable {bytes:Nat}
def ah.lI {y:Od} {m:Td} [q:zI P t m e] {size:Nat} [p:Cells P e size bytes] {b o i:Nat} {k:IntKind} (g:ρ x=.pointer (some ⟨b,o,none⟩)) (j:ρ y=.int k i) (h:i<m):ah P ρ (.indexAddr t x y) ty w (.pointer (some ⟨b,o+i*size,none⟩)) w:=by
 have:=ah.BD (P:=P) (ty:=ty) (w:=w) (t:=t) g j h
 rwa [Addr.add_lit]at this
open Extern.Stop (cell)
section
variable {P:Program} {r:Option Nat} {n:Nat} {ops:AO} {Q:Post} {rest:LO} {σ:St} {w w0:Wd} {S:NP} {rs:List HP} {put:HP->List HP} {ty:Td} {pos:String} {after:Array Edge} {lv:List Bool} {pd:LNB} {guard:Option (Nat×Bool)}
def jS (j:eY n ops=true) (e:Nat) (g:LNB) {f:FuncId} {L:LV} {M:Type} {val:M->Value} {N:M->Prop} {q:M->HP} (H:Sep w0 S rs w)
    (t:aX P f L w λv w'=>∃x,v=val x/\N x/\cO noB (q x) w w')
    (A:ops[e]? =some ⟨some d,.call {callee:=.value (.func f),args:=xs.toArray,argTypes:=ats},ty,pos,after,guard⟩:=by exact rfl)
    (F:Region.wanted ⟨some d,.call {callee:=.value (.func f),args:=xs.toArray,argTypes:=ats},ty,pos,after,guard⟩ (dG ops σ)=true:=by kernel_rfl) (E:xs.map (evF σ)=L:=by exact rfl) (i:oK ops lv (pd.map (·.1)) e=true:=by kernel_rfl)
    (m:pd.filter (λp=> !((above ops e).contains p.1))=g:=by exact pD) (h: ∀x w',N x->Sep w0 S (q x::rs) w'->aS noB w w'->jK P ops (upd σ d (val x)) w' g/\FG P r n ops Q (lv.set e true) g (upd σ d (val x)) w') (J:qB P f:=by exact eT):pV P r n ops Q lv pd σ w e:=by
  refine JI j e g A F t E i m λK w' ⟨x,s,o,hk,G,C,D⟩=>?_;subst s;exact h x w' o (H.new hk C λb hb=>(D b hb).resolve_left id) hk
end
section
variable {P:Program} {r:Option Nat} {n:Nat} {ops:AO} {Q:Post} {rest:LO} {σ:St} {w w' w0:Wd} {S:NP} {rs:List HP} {put:HP->List HP} {ty:Td} {pos:String} {after:Array Edge}
def agB {P:Program} {w:Wd} (t A ty e:Td) [J:dR P t e] {M:IntKind} [F:nO P A M] {size:Nat} [E:Cells P e size bytes] [K:Zero P e z] (H:z.cells.size=size) (L:0<size)
    (C:IntKind) (k:Nat) (D:0<k) (g:k<=maxLen) (o:k*bytes<=140737488355328):
    ∃c w',(Builtin.append_ #[t,A] ty #[.slice none 0 0,.int C k]).run P w=.ok (.slice (some ⟨w.heap.size,0,none⟩) k c) w'/\k<=c/\c<=maxLen/\w'.ownsRow 0 e size (.slice (some ⟨w.heap.size,0,none⟩) 0 c) 0 []/\aS noB w w':=by
  obtain⟨i,hi,m⟩:=zbb.1 E.size;simp only[Prod.mk.injEq]at m;obtain⟨s,p⟩:=m
  have h:i.zero=some z:=by
    have:=K.run w;simp[zeroValue,typeInfo,hi]at this;cases hq:i.zero with
    | none=>simp[hq]at this
    | some u=>simp[hq]at this;rw[this]
  have q:=grownCap_ge w k 0 e;have j:grownCap w k 0 e<=maxLen:=grownCap_le_maxLen w k 0 e g;have G:=Lib.run_append_nil_zeros (P:=P) w t A ty e i z C M J.und F.und hi h k D oM (by simp only[maxLen]at g;omega) (by rw[p];omega);refine⟨_,_,G,q,j,⟨sM,.inr ⟨w.heap.size,_,_,rfl,zai _,heap_alloc_new w.drew _,zai _,j,?_,sM⟩⟩,(aS.drew w).Lv (aS.alloc _ _)⟩;simp only[Array.size_append,size_zeroCells,H];rw[<-Nat.add_mul]
  congr 1
  omega
def aiq {y:Od} {O:Td} [M:dR P t e] {V:IntKind} [L:nO P O V] {size:Nat} [K:Cells P e size bytes] [N:Zero P e z] {m:Nat} {k:IntKind}
    (H:Sep w0 S rs w) (G:evF σ x=.slice none 0 0) (J:evF σ y=.int k m) (C:0<m) (s:z.cells.size=size:=by exact rfl) (D:0<size:=by decide)
    (h63:m<=maxLen) (hbytes:m*bytes<=140737488355328) (E:Nat.blt d n=true:=by exact rfl)
    (h: ∀g c w',m<=c->c<=maxLen->Sep w0 S (vE e size (.slice (some ⟨g,0,none⟩) 0 c) 0 []::rs) w'->FL P r n ops Q rest (upd σ d (.slice (some ⟨g,0,none⟩) m c)) w'):
    FL P r n ops Q (⟨some d,.call {callee:=.builtin .append,args:= #[x,y],argTypes:= #[t,O]},ty,pos,after,none⟩::rest) σ w:=by
  obtain⟨c,w',j,q,p,i,F⟩:=agB (P:=P) (w:=w) (ty:=ty) t O e s D k m C h63 hbytes
  have A:Sep w0 S (vE e size (.slice (some ⟨w.heap.size,0,none⟩) 0 c) 0 []::rs) w':=H.new (F':=λb=>Value.ownBlock (.slice (some ⟨w.heap.size,0,none⟩) 0 c)=some b) F ⟨i,λb=>Iff.rfl⟩ λb o=>by
    injection o with o
    exact Nat.le_of_eq o
  refine eu (v:=.slice (some ⟨w.heap.size,0,none⟩) m c) (w':=w') (λ_ _ _ _=>?_) E (h _ c w' q p A);simp only[execOp,resolve,invoke,builtin,zbj,zbl,zar,zch,zbc,zcn,G,J,j]
end
class IsIface (P:Program) (t:Td):Prop where
 und:P.underlying t=some (.interface (P.methodsAt t))
def IsNil (a:Value) (b:Bool):Prop:=(b=true/\a=.nilIface)\/(b=false/\∃t p,a=.iface t p)
section
variable {P:Program} {w w0:Wd} {ρ:Od->Value} {ty:Td} {x:Od} {S:NP} {rs:List HP} {put:HP->List HP}
def ah.Ub {U:Td} [h:IsIface P T] {a:Value} {b:Bool} (j:IsNil a b) (g:ρ x=a) (i:ρ (.const .nilIface)=.nilIface):ah P ρ (.binOp .eql T x (.const .nilIface) U) ty w (.bool b) w:=by
 intro _ _ _ _
 rcases j with⟨rfl,rfl⟩ | ⟨rfl,t,p,rfl⟩
 .have e:(eqGuard .eql T x (.const .nilIface) .nilIface .nilIface).run P w=.ok () w:=by cases x<;>rfl
  simp only[execOp,g,i,zbj,e,zar,run_eql_nil_nil w T h.und,zbl]
 have e:(eqGuard .eql T x (.const .nilIface) (.iface t p) .nilIface).run P w=.ok () w:=rfl;simp only[execOp,g,i,zbj,e,zar,run_eql_held_nil w T t p h.und,zbl]
def OQ {k:Td} [j:IsMap P T k e] (H:Sep w0 S rs w) (h:At rs (BQ b f n) put) (m:ρ x=.map (some b)):
    ah P ρ (.call {callee:=.builtin .len,args:= #[x],argTypes:= #[T]}) ty w (.int .i64 n) w:=by
  obtain⟨o,c,g,i,_⟩:=H.agA h;intro _ _ _ _;simp[execOp,resolve,invoke,builtin,m,Builtin.len_,run_underlying j.und,goInt,jm g,i.2]
end
section
variable {P:Program} {r:Option Nat} {n:Nat} {ops:AO} {Q:Post} {rest:LO} {σ:St} {w w0:Wd} {S:NP} {rs:List HP} {put:HP->List HP} {ty:Td} {pos:String} {after:Array Edge}
def OT {y z:Od} {k el:Td} [s:IsMap P T k el] [q:mD P k] {c:Nat} (H:Sep w0 S rs w) (e:At rs (BQ b f c) put)
    (m:evF σ x=.map (some b)) (o:evF σ y=.string i) (p:evF σ z=v) (h: ∀w',Sep w0 S (put (BQ b (λk=>if k=i then some v else f k) (if f i=none then c+1 else c))) w'->FL P r n ops Q rest σ w'):
    FL P r n ops Q (⟨none,.mapUpdate T x y z,ty,pos,after,none⟩::rest) σ w:=by
  obtain⟨w',g,j⟩:=KW (P:=P) (ty:=ty) (T:=T) H e m o p;exact Ee g rfl (h w' j)
end
structure Had (ns:List (L8)) (f:ByteArray->Option Value) (n:Nat):Prop where
 le:n<=ns.length
 nd:n=ns.length↔ns.Nodup
 val: ∀x,∃c:Nat,c<=ns.length/\(f x).getD (.int .i64 0)=.int .i64 (c:Int)
 mem: ∀x:L8,f ⟨x.toArray⟩=none↔x∉ns
def Had.nil:Had [] (λ_=>none) 0:=⟨zbk _,sM,λx=>⟨0,zbk _,rfl⟩,λx=>sM⟩
def Had.push {C:List (L8)} (h:Had C f n) (x:L8) {c:Nat} (A:c<=C.length):
    Had (C++[x]) (λk=>if k=⟨x.toArray⟩then some (.int .i64 ((c+1:Nat):Int))else f k) (if f ⟨x.toArray⟩=none then n+1 else n):=by
  have i:(C++[x]).length=C.length+1:=sM
  have o:(C++[x]).Nodup↔C.Nodup/\x∉C:=by
    rw[zet];constructor
    . rintro⟨g,_,q⟩
      exact⟨g,λH=>q x H x sM rfl⟩
    rintro⟨g,j⟩;exact⟨g,sM,λa s b p e=>by rw[zaw]at p;subst p;subst e;exact j s⟩
  have t:=h.le;refine⟨?_,?_,λk=>?_,λk=>?_⟩
  . rw[i];split<;>omega
  . rw[i,o,<-h.mem x]
    by_cases e:f ⟨x.toArray⟩=none
    . rw[zac e,<-h.nd]
      exact⟨λg=>⟨oM,e⟩,λg=>by have:=g.1;omega⟩
    rw[zab e];exact⟨λg=>oM,λg=>zas g.2 e⟩
  . by_cases e:k=⟨x.toArray⟩
    . exact⟨c+1,by rw[i];omega,by rw[zac e];rfl⟩
    obtain⟨d,g,j⟩:=h.val k;exact⟨d,by rw[i];omega,by rw[zab e];exact j⟩
  by_cases e:k=x
  . subst e
    rw[zac rfl];simp
  rw[zab (λm=>e (by injection m with m;injection m)),h.mem k];simp[e]
variable {rest:LO} {w0:Wd} {S:NP} {rs:List HP} {pos:String} {after:Array Edge}
theorem ady {α:Type} {g:Od} {p:Tmp} {assign body:Code} {gf:FuncId} {lb:LV} (i:α->Value) (φ ψ:List α->Prop) (J:List α->HP) (j G:List HP) (H:Sep w0 S (J []::j) w)
    (hg:evF σ g=.func (.func gf) #[] lb.toArray) (hp:Nat.blt p n=true)
    (o: ∀(l D:Nat) (ro rb:Obj) (pre:List α) (x:α) (Fr:List HP) (W:Wd),φ (pre++[x])->Sep w0 S (obj l ro::obj D (.deferred (some []))::J pre::Fr) W->
      FW P (some l) n assign (Lg λτ L=>∃ex:List HP,Sep w0 S (obj l ro::obj D (.deferred (some []))::(ex++J pre::Fr)) L/\
        ∀M,Sep w0 S (obj l rb::obj D (.deferred (some []))::(ex++J pre::Fr)) M->FW P (some l) n body (Lg λ_ z=>Sep w0 S (obj l rb::obj D (.deferred (some []))::J (pre++[x])::Fr) z) τ M) (upd ⟨σ.get,[]⟩ p (i x)) W)
    (s: ∀(l D:Nat) (ro:Obj) (W:Wd),Sep w0 S (obj l ro::obj D (.deferred (some []))::J []::j) W->
      (∀(pre:List α) (x:α) (Fr:List HP) (W:Wd),φ (pre++[x])->Sep w0 S (obj l ro::obj D (.deferred (some []))::J pre::Fr) W->TP P l [i x] W λL=>Sep w0 S (obj l ro::obj D (.deferred (some []))::J (pre++[x])::Fr) L)->
      aX P gf (.func (.yield l) #[] #[]::lb) W λ_ L=>∃C,ψ C/\Sep w0 S (obj l ro::obj D (.deferred (some []))::J C::G) L)
    (q: ∀(D:Nat) (W:Wd) (C:List α),ψ C->Sep w0 S (obj D (.deferred (some []))::J C::G) W->Q .normal ⟨σ.get,{target:=.collected D,args:= #[]}::σ.ds⟩ W) (he:qB P gf:=by exact eT):
    FW P none n (.rangeFunc g #[p] assign body) Q σ w:=by
  intro a E;refine wpIn_rangeFunc λfn hfn=>?_
  let r:LoopState->Obj:=λst=>aa2 st fn a.tmps #[p] assign body w.heap.size
  obtain⟨m,O⟩: ∃m,(w.alloc (.deferred (some []))).alloc (r .ready)=m:=⟨_,rfl⟩
  have H1:Sep w0 S (obj (w.heap.size+1) (r .ready)::obj w.heap.size (.deferred (some []))::J []::j) m:=by
    have Z:=(H.alloc (.deferred (some []))).alloc (r .ready);rw[World.size_alloc]at Z;rw[<-O];exact Z
  refine⟨w.heap.size+1,[{target:=.collected w.heap.size,args:= #[]}],m,{target:=.fn (.func gf) lb.toArray,args:= #[.func (.yield (w.heap.size+1)) #[] #[]]},m,gf,
    #[.func (.yield (w.heap.size+1)) #[] #[]]++lb.toArray,m,?_,?_,λ_ _=>trivial,?_,(λh=>by cases h),?_⟩
  . rw[<-O];exact run_enterLoop_outer _ _ _ _ _
  . rw[E.eval]
    have e1:(rangeCall g (w.heap.size+1)).callee=.value g:=rfl;simp only[resolve,hg,Deferred.ofValue];simp[evF]
  . simp[invoke,he.run]
  have Y:=s (w.heap.size+1) w.heap.size (r .ready) m H1 (λpre x Fr W V y=>?_)
  . have e:(#[.func (.yield (w.heap.size+1)) #[] #[]]++lb.toArray:Array Value)=(Value.func (.yield (w.heap.size+1)) #[] #[]::lb).toArray:=sM
    rw[e];refine rC none (Calls.mono Y λN z X=>?_);cases N with
    | returned v=>
      obtain⟨C,u,X⟩:=X;have b:=Sep.obj X At0;refine⟨none,_,run_endLoop b sM,?_⟩;refine⟨⟨σ.get,{target:=.collected w.heap.size,args:= #[]}::σ.ds⟩,⟨E.size,?_,E.get⟩,q w.heap.size _ C u ?_⟩
      . show [_]++a.defers=_
        rw[E.defers];rfl
      exact(Sep.Xj X).bN
    | _=>exact X.elim

  have b:=Sep.obj y At0;refine⟨fn,_,assign,body,run_yield b sM,?_⟩;refine roundIn_of_wpIn (F:=fen none) trivial ?_;have hb:=o (w.heap.size+1) w.heap.size (r .ready) (r .busy) pre x Fr W V y
  have k:Rep n (upd ⟨σ.get,[]⟩ p (i x)) {tmps:=((#[p].zip [i x].toArray).foldl (λtmps (t,a)=>tmps.setIfInBounds t a) a.tmps),defers:=[]}:=by
    have h0:Rep n ⟨σ.get,[]⟩ {tmps:=a.tmps,defers:=[]}:=⟨E.size,rfl,E.get⟩;have Z:=h0.put (zbd hp) (i x);simpa[Act.put]using Z
  refine Go.wpIn_mono (hb _ k) λN a1 W1' ⟨τ,f,R⟩=>?_;cases N with
  | normal=>
    obtain⟨ex,K,hB⟩:=R;have c:=Sep.obj K At0;refine⟨_,run_beginRound c rfl,?_⟩;refine Go.wpIn_mono (hB _ (Sep.Xj K) a1 f) λN a2 W2 ⟨τ2,T,A⟩=>?_;cases N with
    | normal=>
      have d:=Sep.obj (show Sep w0 S _ W2 from A) At0;exact⟨_,_,run_endRound none d,rfl,Sep.Xj A⟩
    | _=>exact A.elim
  | _=>exact R.elim
def A8 (P:Program) (f:FuncId) (args:LV) (w:Wd) (R:Value->Wd->Prop):Prop:=CallsDIn (fen none) 0 P f args.toArray .returning w λe u w'=>u=.returning/\Ret R e w'
def QX (P:Program):List Deferred->Wd->(Wd->Prop)->Prop
 | [],w,R=>R w
 | d::ds,w,R=>∃(f:FuncId) (fs args:LV),d={target:=.fn (.func f) #[],args:=args.toArray}/\fs=args/\(∀w,(callFunc f args.toArray).run P w=.ok (.enter f args.toArray) w)/\A8 P f args w λ_ w'=>QX P ds w' R
variable {fn:Func}
def vT {t:Array Value} {R:Ending->Wd->Prop} (i: ∀w,(results fn t).run P w=.ok v w): ∀(ds:List Deferred) (w:Wd),QX P ds w (λw'=>R (.returned v) w')->LeavesInM (fen none) 0 P fn t R ds .returning w
 | [],w,h=>⟨v,i w,h⟩
 | d::ds,w,⟨f,fs,args,hd,_,he,hc⟩=>by
  subst hd;refine⟨(λe=>by cases e),.inr ⟨(λh=>by cases h),.func f, #[],f,args.toArray,rfl,?_,λ_ _=>trivial,CallsDIn.mono hc λe m w' j=>?_⟩⟩
  .have:=he w
   simpa[invoke]using this
  obtain⟨rfl,g⟩:=j;cases e with
  | returned u=>exact vT i ds w' g
  | _=>exact g.elim
def alr (P:Program) (l:List ResultVar) (R:Value->Wd->Prop):Post:=λe σ w=>match e with
 | .normal | .ret=>∃vs,nG σ l=some vs/\QX P σ.ds w (R (fU vs))
 | _=>False
variable {l:List ResultVar}
def Xr (h: ∃v,nG σ l=some v/\QX P σ.ds w (R (fU v))):alr P l R .normal σ w:=h
variable {c:Code} {a0 a1:Value}
def ajY {f:FuncId} (hf:P.funcs[f]? =some fn)
    (h:FW P none n c (alr P l R) (upd (upd und 1 a1) 0 a0) w) (q:FnB fn c n l 2:=by exact⟨rfl,rfl,rfl,rfl⟩):aX P f [a0,a1] w R:=
  ES (args:=[a0,a1]) hf q.x q.y q.u (λe s a w' m j=>by
    cases e with
    | normal=>exact⟨.inl rfl,by obtain⟨v,g,i⟩:=j;exact vT (λw=>qj m.get q.z g) _ _ i⟩
    | ret=>exact⟨.inr rfl,by obtain⟨v,g,i⟩:=j;exact vT (λw=>qj m.get q.z g) _ _ i⟩
    | _=>exact j.elim) h
def air (l:List ResultVar) (R:Value->Wd->Prop):Post:=λe σ w=>match e with
 | .normal | .ret=>σ.ds=[]/\∃vs,nG σ l=some vs/\R (fU vs) w
 | _=>False
def KE (h: ∃v,nG σ l=some v/\R (fU v) w) (e:σ.ds=[]:=by exact rfl):air l R .normal σ w:=⟨e,h⟩
variable {args:LV}
def KF {f:FuncId}
    (hf:P.funcs[f]? =some fn) (t:fn.body=some c) (H:fn.ntmps=n) (q:fn.results=l.toArray) (g:Nat.ble args.length n=true)
    (h:FW P none n c (air l R) (DI 0 args) w):A8 P f args w R:=by
  refine CallsDIn.mono (callsDIn_of_wp (F:=fen none) (R:=Ret R) hf t trivial (Go.wpIn_mono (h _ (akL H (zbd g))) ?_)) λe u w' A=>A;rintro e a w' ⟨s,i,p⟩;cases e with
  | normal=>
    obtain⟨o,v,j,m⟩:=p;exact⟨by rw[i.defers,o],_,qj i.get q j,m⟩
  | ret=>
    obtain⟨o,v,j,m⟩:=p;exact⟨by rw[i.defers,o],_,qj i.get q j,m⟩
  | _=>exact p.elim
def ajZ {f:FuncId} (hf:P.funcs[f]? =some fn)
    (h:FW P none n c (air l R) (upd und 0 a0) w) (q:FnB fn c n l 1:=by exact⟨rfl,rfl,rfl,rfl⟩):A8 P f [a0] w R:=KF hf q.x q.y q.z q.u h
def aj0 {f:FuncId} (hf:P.funcs[f]? =some fn)
    (h:FW P none n c (air l R) (upd (upd und 1 a1) 0 a0) w) (q:FnB fn c n l 2:=by exact⟨rfl,rfl,rfl,rfl⟩):A8 P f [a0,a1] w R:=KF hf q.x q.y q.z q.u h
def Xt {f:FuncId} {vals:LV} (j:xs.map (evF σ)=vals:=by exact rfl) (h:FL P none n ops Q rest ⟨σ.get,{target:=.fn (.func f) #[],args:=vals.toArray}::σ.ds⟩ w):
    FL P none n ops Q (⟨none,.defer {callee:=.value (.func f),args:=xs.toArray,argTypes:=ats},ty,pos,after,none⟩::rest) σ w:=λa g=>
  wpListIn_plain rfl λK i=>by
    refine⟨λ_ _=>trivial,?_⟩
    have e:(Oper.semAt none a.eval ⟨none,.defer {callee:=.value (.func f),args:=xs.toArray,argTypes:=ats},ty,pos,after,none⟩).run P w=.ok (.defer {target:=.fn (.func f) #[],args:=vals.toArray}) w:=by
      rw[g.eval];simp[Oper.semAt,execOp,resolve,Deferred.ofValue,evF,j]
    rw[show(fen none).round=none from rfl,e,Oper.uponIn_defer];exact i _ _ (h _ ⟨g.size,by show _::a.defers=_;rw[g.defers],g.get⟩)
def A8.mono {f:FuncId} {R m:Value->Wd->Prop} (h:A8 P f args w R) (j: ∀v w',R v w'->m v w'):A8 P f args w m:=
 CallsDIn.mono h λe u w' i=>⟨i.1,by
  have g:=i.2;cases e<;>first | exact j _ _ g | exact g⟩
def QY {f:FuncId} {ds:List Deferred} {R:Wd->Prop} (h:A8 P f args w λ_ w'=>QX P ds w' R) (e:qB P f:=by exact eT):QX P ({target:=.fn (.func f) #[],args:=args.toArray}::ds) w R:=
 ⟨f,args,args,rfl,rfl,λw=>e.run _ w,h⟩
section
variable {P:Program} {w w0:Wd} {S:NP} {rs:List HP} {put:HP->List HP}
def Lj {b o:Nat} {v:Value} (H:Sep w0 S rs w) (h:At rs (blk b cs E) put) (e:Nat.blt o cs.length=true):Sep w0 S (put (blk b (cs.set o v) E)) (w.setCell ⟨b,o,none⟩ v):=by
 obtain⟨g,i⟩:=Ae (v:=v) (H.obj h) (zbd e);exact H.setObj h g i
def AA {o:Nat} (h:w.heap[b]? =some (.cells cs.toArray E (0,0))):w.frozen? ⟨b,o,none⟩=false:=by simp[World.frozen?,h]
def ah.aa9 {s d:Td} {a:Addr} (h:(convert s d (.pointer (some a))).run P w=.ok (.pointer (some a)) w) (e:ρ x=.pointer (some a)):ah P ρ (.convert s d x) ty w (.pointer (some a)) w:=λ_ _ _ _=>by
 simp[execOp,e,h]
end
variable {guard:Option (Nat×Bool)}
def als (m:eY n ops=true) (i:Nat) (e:LNB) {f:FuncId} {vals:LV} (q:(callFunc f vals.toArray).run P w=.ok (.value v) w')
    (s:ops[i]? =some ⟨some d,.call {callee:=.value (.func f),args:=xs.toArray,argTypes:=ats},ty,pos,after,guard⟩:=by exact rfl)
    (A:Region.wanted ⟨some d,.call {callee:=.value (.func f),args:=xs.toArray,argTypes:=ats},ty,pos,after,guard⟩ (dG ops σ)=true:=by kernel_rfl) (H:xs.map (evF σ)=vals:=by exact rfl)
    (j:gy ops lv (pd.map (·.1)) i=true:=by kernel_rfl) (o:pd.filter (λp=> !((above ops i).contains p.1))=e:=by exact pD)
    (h:jK P ops (upd σ d v) w' e/\FG P r n ops Q (lv.set i true) e (upd σ d v) w'):FG P r n ops Q lv pd σ w:=
  vJ (C:=λu g=>u=v/\g=w') m i e s A ⟨v,w',ah.ext q H,rfl,rfl⟩ j o λu g t=>by
    obtain⟨rfl,rfl⟩:=t;exact h
def vU (P:Program) (t:Td) (v:Value) (name:String) (f:FuncId) (u:Value):Prop:=∀w:Wd,(method (P.types.size+Made.depth) t v name).run P w=.ok (f,u) w
def Xu {name:String} {u:Value} {f:FuncId} {vals:LV} (A:evF σ x=.iface t v) (s:vU P t v name f u) (p:aX P f (u::vals) w R)
    (H:xs.map (evF σ)=vals) (q:Nat.blt d n=true) (h: ∀v w',R v w'->FL P r n ops Q rest (upd σ d v) w') (he:qB P f:=by exact eT):
    FL P r n ops Q (⟨some d,.call {callee:=.invoke x name,args:=xs.toArray,argTypes:=ats},ty,pos,after,none⟩::rest) σ w:=λa i=>
  wpListIn_plain rfl λK o=>by
    refine⟨λ_ _=>trivial,?_⟩;rw[Oper.semAt_eq _ _ _ (λ_ h=>by cases h),i.eval]
    have e:(execOp (evF σ) ⟨some d,.call {callee:=.invoke x name,args:=xs.toArray,argTypes:=ats},ty,pos,after,none⟩).run P w=.ok (.enter f (u::vals).toArray) w:=by
      have m:=he.run (#[u]++vals.toArray) w;simp[execOp,resolve,invoke,callMethod,A,H,s w];rw[show(u::vals).toArray= #[u]++vals.toArray from sM];simpa using m
    rw[e,Oper.uponIn_enter];refine⟨(λh=>by cases h),rC r (Calls.mono p λe g j=>?_)⟩;cases e with
    | returned v=>exact o _ _ (h v g j _ (i.put (zbd q) v))
    | _=>exact j.elim
variable {y:Code}
def ah.ZH (h: ∀w:Wd,(Instr.makeInterface T (.pointer (some ⟨b,0,none⟩))).run P w=.ok (.iface T (.pointer (some ⟨b,0,none⟩))) w) (e:ρ x=.pointer (some ⟨b,0,none⟩)):ah P ρ (.makeInterface T x) ty w (.iface T (.pointer (some ⟨b,0,none⟩))) w:=λ_ _ _ _=>by
 simp[execOp,e,h w]
section
variable {P:Program} {r:Option Nat} {n:Nat} {ops:AO} {Q:Post} {rest:LO} {σ:St} {w w0:Wd} {S:NP} {rs:List HP} {put:HP->List HP} {ty:Td} {pos:String} {after:Array Edge} {op:Op}
def Qn (h:FW P r n y Q σ w):FL P r n ops (jX P r n y Q) [] σ w:=yj (ig h)
def Sr {id:Nat} {l:LO} (h:FL P r n l.toArray (jX P r n y Q) l σ w):FW P r n (.seq (.region id l.toArray false) y) Q σ w:=zG (Gs h)
def Nx {id:Nat} {l:LO} (h:FL P r n l.toArray (jX P r n y Q) l σ w):FL P r n ops (jX P r n (.seq (.region id l.toArray false) y) Q) [] σ w:=yj (ig (zG (Gs h)))
def Sk (h:FW P r n y Q σ w):FW P r n .skip (jX P r n y Q) σ w:=aai (ig h)
def Mv {v:Value} (h:FL P r n ops Q rest (upd σ d v) w) (g:evF σ x=v:=by exact eV) (e:Nat.blt d n=true:=by exact rfl):
    FL P r n ops Q (⟨some d,.move x,ty,pos,after,none⟩::rest) σ w:=ahF g e h
def Am {v:Value} (h:FL P r n ops Q rest (upd σ d v) w) (g:evF σ x=v:=by exact eV) (e:Nat.blt d n=true:=by exact rfl):
    FL P r n ops Q (⟨some d,.assign x,ty,pos,after,none⟩::rest) σ w:=acE g e h
def Pf {y z:Od} (h:FL P r n ops Q rest (upd σ d v) w) (e:evF σ z=.bool false:=by exact rfl) (i:evF σ y=v:=by exact eV) (g:Nat.blt d n=true:=by exact rfl):
    FL P r n ops Q (⟨some d,.pick z x y,ty,pos,after,none⟩::rest) σ w:=afj e i g h
def On {d:Option Nat} {j:Nat} {b:Bool} {t:Nat} (h:FL P r n ops Q (⟨d,op,ty,pos,after,none⟩::rest) σ w) (g:(ops[j]?).bind (λo:Oper=>o.dst)=some t:=by exact rfl) (e:σ t=.bool b:=by exact rfl):
    FL P r n ops Q (⟨d,op,ty,pos,after,some (j,b)⟩::rest) σ w:=aiJ g e h
def Ld {o:Nat} [OneCell P T] (H:Sep w0 S rs w) (h:FL P r n ops Q rest (upd σ d v) w) (j:evF σ x=.pointer (some ⟨b,o,none⟩):=by exact rfl) (e:At rs (blk b cs E) put:=by exact aT) (i:cs[o]? =some v:=by exact rfl) (g:Nat.blt d n=true:=by exact rfl):
    FL P r n ops Q (⟨some d,.load T x,ty,pos,after,none⟩::rest) σ w:=Lb H j e i g h
section
variable {d:Nat} {x y:Od} {T U:Td} {k:IntKind} {a b:Int}
def Ve (h:FL P r n ops Q rest (upd σ d (.bool (decide (a=b)))) w) (g:evF σ x=.int k a:=by exact rfl) (i:evF σ y=.int k b:=by exact rfl) (e:Nat.blt d n=true:=by exact rfl):
    FL P r n ops Q (⟨some d,.binOp .eql T x y U,ty,pos,after,none⟩::rest) σ w:=eu (ah.eql g i) e h
def Vn (h:FL P r n ops Q rest (upd σ d (.bool (decide (a≠b)))) w) (g:evF σ x=.int k a:=by exact rfl) (i:evF σ y=.int k b:=by exact rfl) (e:Nat.blt d n=true:=by exact rfl):
    FL P r n ops Q (⟨some d,.binOp .neq T x y U,ty,pos,after,none⟩::rest) σ w:=eu (ah.neq g i) e h
def Vl (h:FL P r n ops Q rest (upd σ d (.bool (decide (a<b)))) w) (g:evF σ x=.int k a:=by exact rfl) (i:evF σ y=.int k b:=by exact rfl) (e:Nat.blt d n=true:=by exact rfl):
    FL P r n ops Q (⟨some d,.binOp .lss T x y U,ty,pos,after,none⟩::rest) σ w:=eu (ah.lss g i) e h
def Vx {i:Nat} {j:Array Value} (h:FL P r n ops Q rest (upd σ d v) w) (g:evF σ x=.tuple j:=by exact rfl) (hv:j[i]? =some v:=by exact rfl) (e:Nat.blt d n=true:=by exact rfl):
    FL P r n ops Q (⟨some d,.extract x i,ty,pos,after,none⟩::rest) σ w:=eu (ah.extract g hv) e h
def Vf {s f k b:Nat} [Cq P s f k] (h:FL P r n ops Q rest (upd σ d (.pointer (some ⟨b,k,none⟩))) w) (hx:evF σ x=.pointer (some ⟨b,0,none⟩):=by exact rfl) (e:Nat.blt d n=true:=by exact rfl):
    FL P r n ops Q (⟨some d,.fieldAddr s x f,ty,pos,after,none⟩::rest) σ w:=eu (ah.yt hx) e h
end
end
variable {l:List ResultVar} {R:Value->Wd->Prop}
def Rs (h:Q .ret σ w):FW P r n .ret (jX P r n y Q) σ w:=Lu (ER h)
variable {op:Op} {d:Nat} {v:Value}
def Gp (g:eY n ops=true) (i:Nat) (m:ops[i]? =some ⟨some d,op,ty,pos,after,guard⟩) (o:Region.wanted ⟨some d,op,ty,pos,after,guard⟩ (dG ops σ)=true) (j: ∀w,ah P (evF σ) op ty w v w)
    (h:FG P r n ops Q (lv.set i true) ((i,true)::pd) (upd σ d v) w) (e:lU ops lv (pd.map (·.1)) i=true:=by kernel_rfl):FG P r n ops Q lv pd σ w:=FGp g i m o j e h
def Gl (g:eY n ops=true) (i:Nat) (m:ops[i]? =some ⟨some d,op,ty,pos,after,guard⟩) (o:Region.wanted ⟨some d,op,ty,pos,after,guard⟩ (dG ops σ)=true) (j:ah P (evF σ) op ty w v w)
    (h:FG P r n ops Q (lv.set i true) ((i,false)::pd) (upd σ d v) w) (e:lU ops lv (pd.map (·.1)) i=true:=by kernel_rfl):FG P r n ops Q lv pd σ w:=FGl g i m o j e h
def Gm (g:eY n ops=true) (i:Nat) (h:FG P r n ops Q (lv.set i true) ((i,true)::pd) (upd σ d v) w) (j:ops[i]? =some ⟨some d,.move x,ty,pos,after,guard⟩:=by exact rfl)
    (o:Region.wanted ⟨some d,.move x,ty,pos,after,guard⟩ (dG ops σ)=true:=by kernel_rfl) (m:evF σ x=v:=by exact eV) (e:lU ops lv (pd.map (·.1)) i=true:=by kernel_rfl):FG P r n ops Q lv pd σ w:=ajO g i j o m e h
def Vv (g:ah P (evF σ) op ty w v w) (h:FL P r n ops Q rest (upd σ d v) w) (e:Nat.blt d n=true:=by exact rfl):FL P r n ops Q (⟨some d,op,ty,pos,after,none⟩::rest) σ w:=eu g e h
def Cd {c:Od} {x:Code} {t:Bool} (h:evF σ c=.bool t) (e:t=true->FW P r n x Q σ w) (hf:t=false->FW P r n y Q σ w):FW P r n (.cond c x y) Q σ w:=K4 h e hf
section gives
variable {P:Program} {ρ:Od->Value} {ty:Td} {w w':Wd} {x y z u:Od}
class ank (P:Program) (t:Td):Prop where
 ok:P.eqGuardType P.depth t=false
def run_eqGuard_agg {op:BinOp} [h:ank P t] {xs g:Array Value} (x y:Od):(eqGuard op t x y (.agg xs) (.agg g)).run P w=.ok () w:=by
 unfold eqGuard;cases op<;>simp[h.ok,run_program]
end gives

section cells
variable {P:Program} {w:Wd}
def qV (P:Program) (σ:St) (w:Wd):List ResultVar->LV->Prop
 | [],vs=>vs=[]
 | .tmp t::l,vs=>∃us,vs=σ t::us/\qV P σ w l us
 | .cell a t::l,vs=>∃v us ad,vs=v::us/\σ a=.pointer (some ad)/\(loadVar t ad).run P w=.ok v w/\qV P σ w l us
def OU {σ:St} (g:ResultVar->Sem Value) (q: ∀t,g (.tmp t)=pure (σ t)) (p: ∀a t,g (.cell a t)=(do loadVar t (<-asAddr (σ a)))): ∀(l:List ResultVar) (e:LV),qV P σ w l e->
    (List.mapM g l).run P w=.ok e w:=by
  intro l
  induction l with
  | nil=>intro e h;have h:e=[]:=h;subst h;rfl
  | cons r l j=>
    intro e h;cases r with
    | cell a t=>
      obtain⟨v,u,s,rfl,m,o,i⟩:=h;rw[List.mapM_cons,p,m];simp[asAddr,o,j u i]
    | tmp t=>
      obtain⟨u,rfl,i⟩:=h;rw[List.mapM_cons,q];simp[j u i]
def uH {j:Array Value} (e: ∀i,j.getD i undef=σ i) (g:fn.results=l.toArray) {m:LV} (h:qV P σ w l m):
    (results fn j).run P w=.ok (fU m) w:=by
  unfold results;rw[g,List.mapM_toArray]
  have:=OU (P:=P) (w:=w) (σ:=σ) (λ
    | .tmp t=>pure (j.getD t undef)
    | .cell a t=>do loadVar t (<-asAddr (j.getD a undef))) (λt=>by simp[e]) (λa t=>by simp[e]) l m h
  rw[zbj,Sem.run_map];refine(zay (λr=>(Result.andThen r _).andThen _) this).trans ?_;simp only[zar]
  match m with
  | []=>simp[fU]
  | [v]=>simp[fU]
  | u::v::us=>simp[fU]
def ZI (P:Program) (l:List ResultVar) (R:Value->Wd->Prop):Post:=λe σ w=>match e with
 | .normal | .ret=>σ.ds=[]/\∃vs,qV P σ w l vs/\R (fU vs) w
 | _=>False
def agC (h: ∃v,qV P σ w l v/\R (fU v) w) (e:σ.ds=[]:=by exact rfl):ZI P l R .ret σ w:=⟨e,h⟩
def Xv (h: ∃v,qV P σ w l v/\R (fU v) w) (e:σ.ds=[]:=by exact rfl):ZI P l R .normal σ w:=⟨e,h⟩
def xW {f:FuncId}
    (hf:P.funcs[f]? =some fn) (t:fn.body=some c) (H:fn.ntmps=n) (p:fn.results=l.toArray) (g:Nat.ble args.length n=true)
    (h:FW P none n c (ZI P l R) (DI 0 args) w):aX P f args w R:=
  ES hf t H g (λe s a w' q o=>by
    cases e with
    | normal=>exact⟨.inl rfl,by obtain⟨i,v,j,m⟩:=o;rw[i];exact⟨_,uH q.get p j,m⟩⟩
    | ret=>exact⟨.inr rfl,by obtain⟨i,v,j,m⟩:=o;rw[i];exact⟨_,uH q.get p j,m⟩⟩
    | _=>exact o.elim) h
section
variable {f:FuncId} {fn:Func} {c:Code} {R:Value->Wd->Prop} {n:Nat} {l:List ResultVar} (hf:P.funcs[f]? =some fn)
include hf
def pI (h:FW P none n c (ZI P l R) (upd und 0 a0) w) (q:FnB fn c n l 1:=by exact⟨rfl,rfl,rfl,rfl⟩):aX P f [a0] w R:=xW hf q.x q.y q.z q.u h
def tQ (h:FW P none n c (ZI P l R) (upd (upd und 1 a1) 0 a0) w) (q:FnB fn c n l 2:=by exact⟨rfl,rfl,rfl,rfl⟩):aX P f [a0,a1] w R:=xW hf q.x q.y q.z q.u h
def AB {a:Value} (h:FW P none n c (ZI P l R) (upd (upd (upd und 2 a) 1 a1) 0 a0) w) (q:FnB fn c n l 3:=by exact⟨rfl,rfl,rfl,rfl⟩):aX P f [a0,a1,a] w R:=xW hf q.x q.y q.z q.u h
def aj1 {a g:Value} (h:FW P none n c (ZI P l R) (upd (upd (upd (upd und 3 g) 2 a) 1 a1) 0 a0) w) (q:FnB fn c n l 4:=by exact⟨rfl,rfl,rfl,rfl⟩):aX P f [a0,a1,a,g] w R:=xW hf q.x q.y q.z q.u h
end
def nL {b o T k:Nat} [h:Agg P T k] {cs us:LV} (e:w.heap[b]? =some (.cells cs.toArray E (0,0))) (i:(cs.drop o).take k=us) (g:us.length=k):(loadVar T ⟨b,o,none⟩).run P w=.ok (.agg us.toArray) w:=by
 simp[loadVar,h.agg,h.size,xG e i g]
end cells

section drawq
variable {P:Program} {r:Option Nat} {n:Nat} {ops:AO} {Q:Post} {lv:List Bool} {pd:LNB} {σ:St} {w w0:Wd} {S:NP} {rs:List HP} {ty:Td} {pos:String} {after:Array Edge} {guard:Option (Nat×Bool)}
def dS (j:eY n ops=true) (e:Nat) (g:LNB) {f:FuncId} {vals:LV} {v:Value} (H:Sep w0 S rs w) (s:Rk P f vals w v)
    (t:ops[e]? =some ⟨some d,.call {callee:=.value (.func f),args:=xs.toArray,argTypes:=ats},ty,pos,after,guard⟩:=by exact rfl)
    (C:Region.wanted ⟨some d,.call {callee:=.value (.func f),args:=xs.toArray,argTypes:=ats},ty,pos,after,guard⟩ (dG ops σ)=true:=by kernel_rfl) (A:xs.map (evF σ)=vals:=by exact rfl) (i:gy ops lv (pd.map (·.1)) e=true:=by kernel_rfl)
    (m:pd.filter (λp=> !((above ops e).contains p.1))=g:=by exact pD) (h: ∀w',Sep w0 S rs w'->aS noB w w'->jK P ops (upd σ d v) w' g/\FG P r n ops Q (lv.set e true) g (upd σ d v) w') (D:qB P f:=by exact eT):FG P r n ops Q lv pd σ w:=
  p8 j e g t C s A i m λE w' ⟨q,o⟩=>by subst q;exact h w' (H.aK o) o
end drawq
def iU.mid {A:OA} {s:Nat} {xs:LV} (g:iU w A n s xs) {l h cap:Nat} (j:l<=h) (i:h<=n) (e:n<=cap):iU w (if cap=l then A else A.map (·.add (l*s))) (h-l) s ((xs.drop (l*s)).take ((h-l)*s)):=
 (g.cut (k:=l) (cap:=cap) oM e).take oM

def alu (E:Nat) (v:Value) (n:Nat) (xs:LV):HP:=exH λx:Option (Nat×LV)×Nat=>match x with
 | (none,c)=>jH (v=.slice none n c/\n=0/\xs=[])
 | (some (g,rest),c)=>dx (jH (v=.slice (some ⟨g,0,none⟩) n c/\xs.length=n/\n<=c)) (blk g (xs++rest) E)
section pre
variable {w0 w w':Wd} {S:NP} {rs:List HP} {put:HP->List HP}
def ais {E c:Nat} {A:OA} {xs:LV} {F:NP} (h:(alu E (.slice A n c) n xs).ok F w):iU w A n 1 xs:=by
 obtain⟨⟨_ | ⟨g,rest⟩,H⟩,p⟩:=h
 .obtain⟨⟨e,i,m⟩,_⟩:=p
  subst i m;exact iU.nil _ _ _
 obtain⟨s,t,C,D,⟨⟨e,i,m⟩,_⟩,q⟩:=p;injection e with e _ _
 subst e;refine⟨oM,λ_=>⟨_,rfl,λj u o=>?_⟩⟩;rw[Addr.add_lit,zde,lu q.2,zce (zba.1 o).1];exact o
def Sep.preRow {E c:Nat} {A:OA} {xs:LV} (h:Sep w0 S rs w) (e:At rs (alu E (.slice A n c) n xs) put):iU w A n 1 xs:=by
 obtain⟨F,g,_,_⟩:=h.bG e;exact ais g
end pre
end Go.Proofs.Mw
