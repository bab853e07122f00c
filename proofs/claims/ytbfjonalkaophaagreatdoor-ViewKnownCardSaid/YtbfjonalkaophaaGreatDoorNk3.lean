/-
 Closures,and ranges over functions whose bodies never leave. Nothing of a given program stands here.
-/
import Derived.Test.YtbfjonalkaophaaGreatDoorNk2
set_option linter.all false
namespace Go.Proofs.Mw
open Go.RowKit
variable {P:Program} {r:Option Nat} {n:Nat} {ops:AO} {Q:Post} {rest:LO} {σ:St} {w w0:Wd} {S:NP} {rs:List HP} {ty:Td} {pos:String} {after:Array Edge}
variable {ρ:Od->Value}
def ah.makeFunc {f:Fn} {fs cs:List Od} {us vs:LV} (c:fs.map ρ=us) (h:cs.map ρ=vs):ah P ρ (.makeFunc f fs.toArray cs.toArray) ty w (.func f us.toArray vs.toArray) w:=λ_ _ _ _=>by
 simp[execOp,Instr.makeFunc,c,h]
variable {d:Nat} {y:Od} {xs:List Od} {ats:Array Td}
def fQ {f:FuncId} {fs cs:LV} {vals:LV} {R:Value->Wd->Prop} (u:evF σ y=.func (.func f) fs.toArray cs.toArray) (o:aX P f (fs++vals++cs) w R)
    (t:xs.map (evF σ)=vals) (s:Nat.blt d n=true) (h: ∀v w',R v w'->FL P r n ops Q rest (upd σ d v) w') (he:qB P f:=by exact eT):
    FL P r n ops Q (⟨some d,.call {callee:=.value y,args:=xs.toArray,argTypes:=ats},ty,pos,after,none⟩::rest) σ w:=λa g=>
  wpListIn_plain rfl λK m=>by
    refine⟨λ_ _=>trivial,?_⟩;rw[Oper.semAt_eq _ _ _ (λ_ h=>by cases h),g.eval]
    have e:(execOp (evF σ) ⟨some d,.call {callee:=.value y,args:=xs.toArray,argTypes:=ats},ty,pos,after,none⟩).run P w=.ok (.enter f (fs++vals++cs).toArray) w:=by
      simp[execOp,resolve,u,Deferred.ofValue,invoke,t];rw[<-he.run (fs++(vals++cs)).toArray w]
    rw[e,Oper.uponIn_enter];refine⟨(λh=>by cases h),rC r (Calls.mono o λe c j=>?_)⟩;cases e with
    | returned v=>exact m _ _ (h v c j _ (g.put (zbd s) v))
    | _=>exact j.elim
def TP (P:Program) (l:Nat) (xs:LV) (w:Wd) (R:Wd->Prop):Prop:=
 ∃fn tmps assign body,(Instr.yield l xs.toArray).run P w=.ok (.round l fn tmps assign body) w/\RoundIn (fen none) 0 P l fn tmps assign body w (Ret λv w'=>v=.bool true/\R w')
variable {vals:LV}
def afZ {l:Nat} {R:Wd->Prop} (D:evF σ y=.func (.yield l) #[] #[]) (H:TP P l vals w R)
    (C:xs.map (evF σ)=vals) (A:Nat.blt d n=true) (h: ∀w',R w'->FL P r n ops Q rest (upd σ d (.bool true)) w'):
    FL P r n ops Q (⟨some d,.call {callee:=.value y,args:=xs.toArray,argTypes:=ats},ty,pos,after,none⟩::rest) σ w:=λa j=>
  wpListIn_plain rfl λK u=>by
    obtain⟨s,t,assign,body,f,c⟩:=H;refine⟨λ_ _=>trivial,?_⟩;rw[Oper.semAt_eq _ _ _ (λ_ h=>by cases h),j.eval]
    have e:(execOp (evF σ) ⟨some d,.call {callee:=.value y,args:=xs.toArray,argTypes:=ats},ty,pos,after,none⟩).run P w=.ok (.round l s t assign body) w:=by
      simp[execOp,resolve,D,Deferred.ofValue,invoke,C,f]
    rw[e,Oper.uponIn_round];refine⟨(λh=>by cases h),RoundIn.mono (F:=fen r) c λo g m=>?_⟩;cases o with
    | returned v=>obtain⟨rfl,hR⟩:=m;exact u _ _ (h g hR _ (j.put (zbd A) _))
    | _=>exact m.elim

def Xi {l:List ResultVar} {R:Value->Wd->Prop} {v:LV} {D:Nat} {put:HP->List HP} (H:Sep w0 S rs w) (c:At rs (Mw.obj D (.deferred (some []))) put) (hR: ∀w',Sep w0 S (put (Mw.obj D (.deferred none))) w'->R (fU v) w')
    (h:nG σ l=some v:=by simp only[nG,zdk,upd_same,upd_ne,ne_eq,Nat.reduceEqDiff,not_false_eq_true];rfl) (j:σ.ds=[{target:=.collected D,args:= #[]}]:=by exact rfl):Qfn l R .normal σ w:=by
  refine⟨v,h,?_⟩;rw[j];have f:=H.obj c;have d:=lq f;exact⟨D,rfl,f,hR _ (H.setObj c ⟨rfl,rfl,rfl,sM,λk _ g=>by simp only;rw[zff (λe=>g e.symm)]⟩ (by simp[d]))⟩

def aa2 (st:LoopState) (fn:FuncId) (tmps:Array Value) (ps:Array Tmp) (assign body:Code) (D:Nat):Obj:=.loop {state:=st,pending:=none,fn:=fn,tmps:=tmps,params:=ps,assign:=assign,body:=body,defers:=D}

variable {b:Nat}
def Sep.Xj {o g:Obj} (h:Sep w0 S (Mw.obj b o::rs) w):Sep w0 S (Mw.obj b g::rs) (w.putObj b g):=by
 have e:=h.obj At0;have c:=lq e;exact h.setObj (At0 (p:=Mw.obj b o) (l:=rs)) ⟨rfl,rfl,rfl,by simp[World.putObj],λk _ d=>World.putObj_heap_other d⟩ (World.putObj_heap_same c)

def Lg (K:St->Wd->Prop):Post:=λe σ w=>match e with
 | .normal=>K σ w
 | _=>False
variable {bytes c i m o s:Nat} {T e t:Td} {x:Od} {v z:Value} {place:Nat->Option (Nat×Nat)} {us:LV}
def qO {K:St->Wd->Prop} (h:K σ w):Lg K .normal σ w:=h

section
variable {P:Program} {r:Option Nat} {n:Nat} {ops:AO} {Q:Post} {rest:LO} {σ:St} {w w0:Wd} {S:NP} {rs:List HP} {put:HP->List HP} {op:Op} {ty:Td} {pos:String} {after:Array Edge}
def adj {t:Nat} {p:Prop} [Decidable p] {l:LO} (e:σ.get t=.bool (decide p)) (d:p->FL P r n ops Q l (upd σ t (.bool true)) w) (c: ¬p->FL P r n ops Q l (upd σ t (.bool false)) w):FL P r n ops Q l σ w:=
 eO e (λh=>d (zbe h)) (λh=>c (of_decide_eq_false h))
def ah6 {A:Option Nat} {j:Nat} {b:Bool} {t:Nat} (m:(ops[j]?).bind (λo:Oper=>o.dst)=some t) (f:σ.get t=undef) (g:OY n A=true)
    (h:FL P r n ops Q rest (rY σ A undef) w):
    FL P r n ops Q (⟨A,op,ty,pos,after,some (j,b)⟩::rest) σ w:=λa c=>by
  have e:=h _ (c.Oo g undef)
  have H:Go.yielded ops a.tmps j=none:=by
    unfold Go.yielded;have d:=c.get t;rw[f]at d;simp only[m,zeb];cases hq:a.tmps[t]? with
    | none=>rfl
    | some v=>
      have s:v=undef:=by simpa[zbq,hq]using d
      subst s;rfl
  have u:Region.wanted ⟨A,op,ty,pos,after,some (j,b)⟩ (Go.yielded ops a.tmps)=false:=by
    simp[Region.wanted,H]
  unfold wpListIn;rw[zab (by simp[u])];exact⟨λ_ _=>trivial,e⟩
def ah.af0 {f k:Nat} [h:Cq P s f k] {a:Addr} {j:Nat} (c:ρ x=.pointer (some (a.add j))):ah P ρ (.fieldAddr s x f) ty w (.pointer (some (a.add (j+k)))) w:=λ_ _ _ _=>by
 simp only[execOp,c,zbj,h.run,zar,zbl,add_add]
def run_equalIn_map_nil (d:Nat) {k:Td} (h:P.underlying T=some (.map k e)) (a:Option Nat):(Op.equalIn (d+1) T (.map a) (.map none)).run P w=.ok a.isNone w:=by
 cases a<;>simp[Op.equalIn,run_underlying h]
def ah.ah7 {U k:Td} [h:IsMap P T k e] {a:Option Nat} (c:ρ x=.map a) (d:ρ y=.map none):ah P ρ (.binOp .eql T x y U) ty w (.bool a.isNone) w:=
 .bin c d (λ_ _=>by rw[eqGuard_at_map];rfl) (by
  have :(Op.equal T (.map a) (.map none)).run P w=.ok a.isNone w:=run_equalIn_map_nil 9999 h.und a;simp[binOp,this])
def run_equalIn_slice_nil (d:Nat) (h:P.underlying T=some (.slice e)) (a:OA) (m c:Nat):(Op.equalIn (d+1) T (.slice a m c) (.slice none 0 0)).run P w=.ok a.isNone w:=by
 cases a<;>simp[Op.equalIn,run_underlying h]
def ah.af2 {U:Td} [h:dR P T e] {a:OA} (d:ρ x=.slice a m c) (f:ρ y=.slice none 0 0):ah P ρ (.binOp .eql T x y U) ty w (.bool a.isNone) w:=
 .bin d f (λ_ _=>by rw[eqGuard_at_slice];rfl) (by
  have :(Op.equal T (.slice a m c) (.slice none 0 0)).run P w=.ok a.isNone w:=run_equalIn_slice_nil 9999 h.und a m c;simp[binOp,this])
def ah.extract {g:Array Value} (c:ρ x=.tuple g) (h:g[i]? =some v):ah P ρ (.extract x i) ty w v w:=λ_ _ _ _=>by
 simp[execOp,c,Instr.extract,h]
def ah.af3 {s:Td} [C:dR P s e] [H:nO P e .u8] [v:mD P t] {A:OA} {l:L8} (K:ρ x=.slice A m c) (o:iU w A m 1 (l.map λu=>Value.int .u8 u.toNat)):ah P ρ (.convert s t x) ty w (.string ⟨l.toArray⟩) w:=λ_ _ _ _=>by
  have d:l.length=m:=by have:=o.len;simpa using this
  have g:(convert s t (.slice A m c)).run P w=.ok (.string ⟨l.toArray⟩) w:=by
    rcases A with _ | a
    . have f:m=0:=by
        rcases zeh m with f | f
        . exact f
        obtain⟨D,h,_⟩:=o.at_ f;cases h
      have J:l=[]:=zbf (by rw[d,f]);subst J;rw[run_convert_bytes_string w s t e none m c C.und H.und v.und];rfl
    rw[<-d];refine run_convert_bytes_back w s t e a c l C.und H.und v.und λj G=>?_;obtain⟨D,h,E⟩:=o.at_ oM;injection h with h
    subst h;exact E j _ (by simp[G])
  simp only[execOp,K,zbj,g,zar,zbl]
class amq (P:Program) (f:FuncId):Prop where
 run: ∀args w,(callFunc f args).run P w=((Extern.MapsClone.clone args).run P w).andThen λv w'=>.ok (.value v) w'
def lay (zs:LV) (o:Nat) (us:LV):LV:=zs.take o++us++zs.drop (o+us.length)
def QM (o:Nat): ∀(c:LV) (k:Nat) (z:LV),o+k+c.length<=z.length->
    (c.zipIdx k).foldl (fun(cs:Array Value) (x:Value×Nat)=>cs.setIfInBounds (o+x.2) x.1) z.toArray=(lay z (o+k) c).toArray
  | [],k,z,_=>by simp[lay]
  | u::c,k,z,h=>by
    simp only[List.zipIdx_cons,List.foldl_cons];have e:z.toArray.setIfInBounds (o+k) u=(z.set (o+k) u).toArray:=sM;rw[e,QM o c (k+1) _ (by simp at h ⊢;omega)]
    congr 1
    have:=list_seg_step z (o+k) u c (by simp at h;omega);unfold lay;simp only[zat];rw[<-Nat.add_assoc];exact this
def bQ (place:Nat->Option (Nat×Nat)) (ρ:Od->Value):List (Nat×Od)->LV->LV->Prop
 | [],zs,out=>zs=out
 | (i,x)::l,zs,out=>∃o us,place i=some (o,us.length)/\(ρ x).cells=us.toArray/\o+us.length<=zs.length/\bQ place ρ l (lay zs o us) out
def FZ: ∀{l:List (Nat×Od)} {d c:LV},bQ place ρ l d c->Instr.fill place d.toArray (l.map fun(i,x)=>(i,ρ x))=some c.toArray
 | [],d,c,h=>by have h:d=c:=h;subst h;rfl
 | (i,x)::l,d,c,⟨o,us,h1,h2,h3,h4⟩=>by
  simp only[zbc,Instr.fill,h1,h2]
  have e:(us.toArray.zipIdx.foldl (fun(cs:Array Value) (x:Value×Nat)=>cs.setIfInBounds (o+x.2) x.1) d.toArray)=(lay d o us).toArray:=by
   have f:us.toArray.zipIdx=(us.zipIdx 0).toArray:=sM;rw[f,List.foldl_toArray];exact QM o us 0 d (by simpa using h3)
  have g:(us.toArray.size≠us.length||o+us.toArray.size>d.toArray.size)=false:=by simp;omega
  simp only[g];exact(zay (λz=>Instr.fill place z (l.map fun(i,x)=>(i,ρ x))) e).trans (FZ h4)
def bQ.nil {z:LV}:bQ place ρ [] z z:=rfl
def ah8 {z:LV} (h:o<z.length):lay z o [v]=z.set o v:=by
 unfold lay;rw[List.set_eq_take_append_cons_drop,zac h];simp
def bQ.one {l:List (Nat×Od)} {j z out:LV} (d:place i=some (o,1)) (g:ρ x=v) (f:v.oneCell'=true) (c:o<j.length) (e:j.set o v=z) (h:bQ place ρ l z out):bQ place ρ ((i,x)::l) j out:=by
 subst e;refine⟨o,[v],d,?_,c,by rw[ah8 c];exact h⟩;rw[g];cases v<;>first | rfl | cases f
def bQ.many {i o:Nat} {l:List (Nat×Od)} {us g z out:LV} (d:place i=some (o,us.length)) (f:ρ x=.agg us.toArray) (c:o+us.length<=g.length) (e:lay g o us=z) (h:bQ place ρ l z out):bQ place ρ ((i,x)::l) g out:=by
 subst e;exact⟨o,us,d,by rw[f];rfl,c,h⟩
class af4 (P:Program) (T:Td) (zs:outParam (LV)) (pl:outParam (List (Nat×Nat))):Prop where
 zero: ∀w,(zeroValue T).run P w=.ok (.agg zs.toArray) w
 und: ∃fields:Array Field,P.underlying T=some (.struct fields)/\∀w,(fields.mapM λf=>(do pure (f.offset,<-sizeOf f.type):Sem (Nat×Nat))).run P w=.ok pl.toArray w
def ah.build {z:LV} {pl:List (Nat×Nat)} [f:af4 P T z pl] {parts:List (Nat×Od)} {out:LV} (h:bQ (λi:Nat=>pl[i]?) ρ parts z out):ah P ρ (.build T parts.toArray) ty w (.agg out.toArray) w:=λ_ _ _ _=>by
 obtain⟨fields,j,d⟩:=f.und;have g:=FZ h;have c:=d w;simp only[execOp,Instr.build,zbj,f.zero,zar,run_underlying j,c,Value.cells,zch,zbl];have e:(λx:Nat=>pl.toArray[x]?)=λi:Nat=>pl[i]? :=by funext i;simp
 simp only[e,g,zbl,zar]

def ah9 {a b c:LV} (d:a.length=o) (h:b.length=us.length):lay (a++(b++c)) o us=(a++us)++c:=by
 unfold lay;rw[zen oM,zaj oM,<-zbp a b c,zeo kN,zbv kN,zby]
def dI (ρ:Od->Value) (size:Nat):List Od->LV->Prop
 | [],out=>out=[]
 | x::l,out=>∃us rest,(ρ x).cells=us.toArray/\us.length=size/\out=us++rest/\dI ρ size l rest
def KC {size:Nat}: ∀(l:List Od) (k:Nat) (a z o:LV),a.length=k*size->z.length=l.length*size->dI ρ size l o->
    bQ (λi=>some (i*size,size)) ρ ((l.zipIdx k).map λp=>(p.2,p.1)) (a++z) (a++o)
  | [],k,a,z,o,_,hz,h=>by
    have h:o=[]:=h;subst h;have :z=[]:=zbf (by simpa using hz);subst this;exact rfl
  | x::l,k,a,z,o,ha,hz,⟨us,rest,h1,h2,h3,h4⟩=>by
    subst h3;have c:z.length=size+l.length*size:=by rw[hz,zat,Nat.add_mul];omega
    refine⟨k*size,us,by rw[h2],h1,by rw[zad,ha,c,h2];omega,?_⟩;have e:z=z.take size++z.drop size:=(zbs size z).symm;rw[e,ah9 ha (by rw[zah,h2];omega),<-zbp];exact KC l (k+1) (a++us) (z.drop size) rest (by rw[zad,ha,h2,Nat.add_mul];omega) Iz h4
def dI.nil {size:Nat}:dI ρ size [] []:=rfl
def dI.one {l:List Od} {rest:LV} (d:ρ x=v) (c:v.oneCell'=true) (h:dI ρ 1 l rest):dI ρ 1 (x::l) (v::rest):=
 ⟨[v],rest,(by rw[d];cases v<;>first | rfl | cases c),rfl,rfl,h⟩
def dI.many {size:Nat} {l:List Od} {rest:LV} (d:ρ x=.agg us.toArray) (c:us.length=size) (h:dI ρ size l rest):dI ρ size (x::l) (us++rest):=
 ⟨us,rest,by rw[d];rfl,c,rfl,h⟩
def ah.buildSlice {parts:List (Nat×Od)} {C:LV} {size:Nat} [o:dR P t e] [u:Cells P e size bytes] [A:Zero P e z] (s:dI ρ size xs C) (H:parts=(xs.zipIdx 0).map λp=>(p.2,p.1)) (f:Nat.ble (xs.length*size) 16777216=true):
    ah P ρ (.buildSlice t xs.length parts.toArray) ty w (.slice (some ⟨w.heap.size,0,none⟩) xs.length xs.length) (w.alloc (.cells C.toArray e)):=λ_ _ _ _=>by
  obtain⟨i,hi,c⟩:=zbb.1 u.size;simp only[Prod.mk.injEq]at c;have v:=zbd f
  have h: ∀Z:LV,Z.length=xs.length*size->Instr.fill (λi=>some (i*size,size)) Z.toArray (parts.map fun(i,x)=>(i,ρ x))=some C.toArray:=λZ g=>by
    subst H;exact FZ (KC xs 0 [] Z C sM g s)
  have d: ¬(2^24<xs.length*size):=oM
  by_cases j:xs.length*size=0
  . have:=h [] (by simp[j])
    simp at this;simp only[execOp,Instr.buildSlice,zbj,run_underlying o.und,zar,sizeOf,typeInfo,run_program,hi,zbl,c.1];simp only[j,Array.range_zero'];simp;rw[this];simp[newRow]
  obtain⟨Z,g⟩: ∃Z:LV,(Array.range (xs.length*size)).map (λx=>z.cells[x%z.cells.size]!)=Z.toArray:=⟨_,(Array.toArray_toList).symm⟩
  have m:Z.length=xs.length*size:=by
    have:=zay Array.size g;simpa using this.symm
  simp only[execOp,Instr.buildSlice,zbj,run_underlying o.und,zar,sizeOf,typeInfo,run_program,hi,zbl,c.1];simp only[gt_iff_lt,d,if_false,j,A.run,zar,zbj,zbl,zch,g,h Z m];simp[newRow]
def j5 {xs:List Od} {parts:List (Nat×Od)} {out:LV} {size:Nat} [o:dR P t e] [m:Cells P e size bytes] [s:Zero P e z] (H:Sep w0 S rs w) (f:dI (evF σ) size xs out) (j:parts=(xs.zipIdx 0).map λp=>(p.2,p.1)) (c:Nat.ble (xs.length*size) 16777216=true) (g:Nat.blt d n=true)
    (h: ∀b w',Sep w0 S (blk b out e::rs) w'->aS noB w w'->FL P r n ops Q rest (upd σ d (.slice (some ⟨b,0,none⟩) xs.length xs.length)) w'):
    FL P r n ops Q (⟨some d,.buildSlice t xs.length parts.toArray,ty,pos,after,none⟩::rest) σ w:=
  eu (ah.buildSlice f j c) g (h _ _ (H.alloc _) (aS.alloc _ _))
def Sep.mg {E:Nat} {cs:LV} (H:Sep w0 S rs w) (h:At rs (blk b cs E) put) (c:cs.length=m*s):iU w (some ⟨b,0,none⟩) m s cs:=
 ⟨c,λ_=>⟨_,rfl,λj u d=>by rw[Addr.add_lit,zde,lu (H.obj h)];exact d⟩⟩
end
def str (l:L8):Value:=.string ⟨l.toArray⟩
def af5 (s:ByteArray):Value.string s=str s.data.toList:=by cases s;simp[str]
def size_mk (l:L8):(⟨l.toArray⟩:ByteArray).size=l.length:=by simp[ByteArray.size]
def extract_mk (l:L8) (a b:Nat):(⟨l.toArray⟩:ByteArray).extract a b=⟨((l.take b).drop a).toArray⟩:=by
 apply ByteArray.ext;rw[ByteArray.data_extract];apply Array.ext';rw[Array.toList_extract];simp[zfz,List.drop_take]
variable {k:IntKind}
def adk (a b:L8):(⟨a.toArray⟩:ByteArray)++⟨b.toArray⟩=⟨(a++b).toArray⟩:=by
 apply ByteArray.ext;rw[ByteArray.data_append];simp
section gives
variable {P:Program} {ρ:Od->Value} {ty:Td} {w w':Wd} {x y z:Od} {a b l:L8}
def ah.ane [h:mD P t] (c:ρ x=str l):ah P ρ (.call {callee:=.builtin .len,args:= #[x],argTypes:= #[t]}) ty w (.int .i64 l.length) w:=by
 have:=ah.lenStr (P:=P) (ty:=ty) (w:=w) (t:=t) c;rw[size_mk]at this;exact this
def ah.anf {U:Td} (h:ρ x=str a) (c:ρ y=str b):ah P ρ (.binOp .eql T x y U) ty w (.bool (decide (a=b))) w:=by
 have:=ah.amU (P:=P) (ty:=ty) (w:=w) (T:=T) (U:=U) h c;rw[ByteArray.toList_mk,ByteArray.toList_mk,show(a==b)=decide (a=b)from by rw[zdx];simp]at this;exact this
def ah.ang {U:Td} (h:ρ x=str a) (c:ρ y=str b):ah P ρ (.binOp .neq T x y U) ty w (.bool (decide (a≠b))) w:=by
 have:=ah.amV (P:=P) (ty:=ty) (w:=w) (T:=T) (U:=U) h c;rw[ByteArray.toList_mk,ByteArray.toList_mk,show(!(a==b))=decide (a≠b)from by rw[zdx];simp]at this;exact this
def ah.anh {U:Td} (h:ρ x=str a) (c:ρ y=str b):ah P ρ (.binOp .lss T x y U) ty w (.bool (Op.bytesLess a b)) w:=.bin h c (λ_ _=>rfl) (by
 show(Op.stringOp .lss _ _).run P w=_
 simp only[Op.stringOp,ByteArray.toList_mk];rfl)
def ah.Xk {U:Td} (c:ρ x=str a) (d:ρ y=str b) (h:a.length+b.length<=9223372036854775807):ah P ρ (.binOp .add T x y U) ty w (str (a++b)) w:=.bin c d (λ_ _=>rfl) (by
 show(Op.stringOp .add _ _).run P w=_
 simp only[Op.stringOp,size_mk];rw[zab (by show ¬(((a.length+b.length:Nat):Int)>9223372036854775807);omega),adk];rfl)
def ah.ani [h:mD P t] {c:UInt8} (g:ρ x=str l) (j:ρ y=.int k i) (f:l[i]? =some c):ah P ρ (.index t x y) ty w (.int .u8 c.toNat) w:=λ_ _ _ _=>by
 have d:=(zba.1 f).1
 have e:(⟨l.toArray⟩:ByteArray)[i]? =some c:=by
  rw[getElem?_pos (h:=by rw[size_mk];exact d)];show some (l.toArray[i])=_
  rw[List.getElem_toArray,<-zaa d,f]
 simp only[execOp,Instr.index,g,j,str,zbj];simp[asIntOf,run_underlying h.und,e]
def ah.qP [h:mD P t] {i:Nat} (c:ρ x=str l) (d:ρ y=.int k i) (hi:i<=l.length):ah P ρ (.slice t x none (some y) none) ty w (str (l.take i)) w:=λ_ _ _ _=>by
 have e1:(0:Int)<=(i:Int)/\(i:Int)<=((⟨l.toArray⟩:ByteArray).size:Int):=by rw[size_mk];omega
 simp[execOp,c,d,str,Instr.sliceAt,Instr.slice,run_underlying h.und,Instr.sliceBounds,Instr.sliceBound,asIntOf,e1,extract_mk,size_mk]
 try omega
def ah.qd [h:mD P t] {i:Nat} (c:ρ x=str l) (d:ρ y=.int k i) (hi:i<=l.length):ah P ρ (.slice t x (some y) none none) ty w (str (l.drop i)) w:=λ_ _ _ _=>by
 have e:(0:Int)<=(i:Int)/\(i:Int)<=((⟨l.toArray⟩:ByteArray).size:Int):=by rw[size_mk];omega
 simp[execOp,c,d,str,Instr.sliceAt,Instr.slice,run_underlying h.und,Instr.sliceBounds,Instr.sliceBound,asIntOf,e,extract_mk,size_mk]
 try omega
def ah.EA [h:mD P t] {j:IntKind} {i m:Nat} (f:ρ x=str l) (g:ρ y=.int k i) (o:ρ z=.int j m) (hi:i<=m) (d:m<=l.length):ah P ρ (.slice t x (some y) (some z) none) ty w (str ((l.take m).drop i)) w:=λ_ _ _ _=>by
 have e:(0:Int)<=(i:Int)/\(i:Int)<=(m:Int):=oM;have c:(0:Int)<=(m:Int)/\(m:Int)<=((⟨l.toArray⟩:ByteArray).size:Int):=by rw[size_mk];omega
 simp[execOp,f,g,o,str,Instr.sliceAt,Instr.slice,run_underlying h.und,Instr.sliceBounds,Instr.sliceBound,asIntOf,e,c,extract_mk,size_mk,hi,d]
def KU (r:Int):L8:=(Utf8.encode r).data.toList
def Nu (r:Int):Value.string (Utf8.encode r)=str (KU r):=by
 unfold KU str
 congr 1
def ah.af6 {s:Td} [h:nO P s k] [c:mD P t] {n:Int} (d:ρ x=.int k n):ah P ρ (.convert s t x) ty w (str (KU n)) w:=λ_ _ _ _=>by
 rw[<-Nu];simp[execOp,d,convert,run_underlying h.und,run_underlying c.und,Conv.intToString]
def ah.Nv {s:Td} [j:dR P s e] [g:nO P e .u8] [f:mD P t] {A:OA} (d:ρ x=.slice A m c) (h:iU w A m 1 (l.map λu=>Value.int .u8 u.toNat)):ah P ρ (.convert s t x) ty w (str l) w:=ah.af3 d h
end gives
section rules
variable {P:Program} {r:Option Nat} {n:Nat} {ops:AO} {Q:Post} {rest:LO} {σ:St} {w w' w0:Wd} {S:NP} {rs:List HP} {put:HP->List HP} {ty:Td} {pos:String} {after:Array Edge} {l:L8}
end rules
class Di (P:Program) (s f:Nat) (o:outParam Nat) (t:outParam Td):Prop where
 und: ∃fields,P.underlying s=some (.struct fields)/\(fields[f]?).map (λf:Field=>(f.offset,f.type))=some (o,t)
variable {cs:LV}
class EqData (P:Program) (T:Td) (α:Type) [DecidableEq α] (enc:α->LV):Prop where
 run: ∀(a b:α) (w:Wd),(Op.equalIn 10000 T (.agg (enc a).toArray) (.agg (enc b).toArray)).run P w=.ok (decide (a=b)) w
 guard:P.eqGuardType P.depth T=false
section gives
variable {P:Program} {ρ:Od->Value} {ty:Td} {w w':Wd} {x y z:Od} {l:L8}
def Dj {t:Td} [h:OneCell P t] (c:cs[o]? =some v):(part t cs.toArray o).run P w=.ok v w:=by
 simp[part,h.agg,c]
def JC {t k:Td} [h:Agg P t k] (c:(cs.drop o).take k=us):(part t cs.toArray o).run P w=.ok (.agg us.toArray) w:=by
 have e:cs.toArray.extract o (o+k)=us.toArray:=by
  subst c;apply Array.ext';rw[Array.toList_extract];simp[zfz]
 simp only[part,zbj,h.agg,zar,if_true,h.size,zbl];rw[e]
def ah.Xl {f t:Nat} [h:Di P s f o t] [C:OneCell P t] (A:ρ x=.agg cs.toArray) (H:cs[o]? =some v):ah P ρ (.field s x f) ty w v w:=λ_ _ _ _=>by
 obtain⟨fields,m,u⟩:=h.und;obtain⟨j,e,g⟩:=zbb.1 u;simp only[Prod.mk.injEq]at g;obtain⟨c,d⟩:=g;subst d;subst c;simp[execOp,A,Instr.field,run_underlying m,e,asAgg,Dj (P:=P) (w:=w) (t:=j.type) H]
def ah.af7 {f t k:Nat} [h:Di P s f o t] [A:Agg P t k] (H:ρ x=.agg cs.toArray) (v:(cs.drop o).take k=us):ah P ρ (.field s x f) ty w (.agg us.toArray) w:=λ_ _ _ _=>by
 obtain⟨fields,m,u⟩:=h.und;obtain⟨j,e,g⟩:=zbb.1 u;simp only[Prod.mk.injEq]at g;obtain⟨c,d⟩:=g;subst d;subst c;simp[execOp,H,Instr.field,run_underlying m,e,asAgg,JC (P:=P) (w:=w) (t:=j.type) (k:=k) v]
def ah.aia {t e:Nat} [h:zI P t m e] [d:OneCell P e] (g:ρ x=.agg cs.toArray) (j:ρ y=.int k i) (hi:i<m) (f:cs[i]? =some v):ah P ρ (.index t x y) ty w v w:=λ_ _ _ _=>by
 have c:(0:Int)<=(i:Int)/\(i:Int)<(m:Int):=oM;simp[execOp,g,j,Instr.index,asIntOf,run_underlying h.und,c,hi,d.size,Dj (P:=P) (w:=w) (t:=e) f]
def ah.zw {t:Td} [h:mD P t] {i:Nat} (c:ρ x=str l) (d:ρ y=.int k i) (hi:i<l.length):ah P ρ (.index t x y) ty w (.int .u8 (l.getD i 0).toNat) w:=
 ah.ani c d (by rw[zao,zaa hi];rfl)
def ah.aib {U:Td} {g:Type} [DecidableEq g] {enc:g->LV} [h:EqData P T g enc] (a b:g) (c:ρ x=.agg (enc a).toArray) (d:ρ y=.agg (enc b).toArray):ah P ρ (.binOp .eql T x y U) ty w (.bool (decide (a=b))) w:=
 .bin c d (λx y=>run_eqGuard_agg w .eql T x y _ _ h.guard) (by rw[run_eql_struct,h.run];rfl)
def ah.af8 {U:Td} {g:Type} [DecidableEq g] {enc:g->LV} [h:EqData P T g enc] (a b:g) (c:ρ x=.agg (enc a).toArray) (d:ρ y=.agg (enc b).toArray):ah P ρ (.binOp .neq T x y U) ty w (.bool (decide (a≠b))) w:=
 .bin c d (λx y=>run_eqGuard_agg w .neq T x y _ _ h.guard) (by rw[run_neq_struct,h.run];simp[Result.andThen])
end gives
variable {l:List HP} {f:FuncId} {a:HP} {E:Td}
def cO (F:NP) (q:HP) (w w':Wd):Prop:=aS F w w'/\∃F',q.ok F' w'/\∀b,F' b->F b\/w.heap.size<=b
section
variable {P:Program} {r:Option Nat} {n:Nat} {ops:AO} {Q:Post} {rest:LO} {σ:St} {w w' w0:Wd} {S F:NP} {rs:List HP} {p q:HP} {put:HP->List HP} {op:Op} {ty:Td} {pos:String} {after:Array Edge}
def Dk:(jA [p]).ok F w↔p.ok F w:=by
 constructor
 .rintro⟨c,g,e,j,f,⟨_,d⟩⟩
  have :F=c:=funext λb=>propext ((e b).trans ⟨λh=>h.elim id λh=>(d b h).elim,.inl⟩);rw[this];exact f
 intro h;exact⟨F,λ_=>False,λb=>sM,λ_ _ h=>h,h,trivial,λ_ h=>h⟩
def Sep.dA (h:p.ok F w):Sep w F [p] w:=Sep.start [p] (Dk.2 h)
def Sep.bf (h:Sep w0 F [p] w):cO F p w0 w:=by
 obtain⟨d,c,e,f⟩:=h;exact⟨d,c,Dk.1 e,f⟩
def cO.refl (h:p.ok F w):cO F p w w:=⟨aS.refl _ _,F,h,λ_ c=>.inl c⟩
def Sep.yF {b c d e f g:HP} (h:Sep w0 S (a::b::c::d::e::f::g::p::l) w):Sep w0 S (p::a::b::c::d::e::f::g::l) w:=Sep.front (l1:=[a,b,c,d,e,f,g]) h
def Sep.ajM {b c d e f g i:HP} (h:Sep w0 S (a::b::c::d::e::f::g::i::p::l) w):Sep w0 S (p::a::b::c::d::e::f::g::i::l) w:=Sep.front (l1:=[a,b,c,d,e,f,g,i]) h
def Sep.ajN {b c d e f g i j:HP} (h:Sep w0 S (a::b::c::d::e::f::g::i::j::p::l) w):Sep w0 S (p::a::b::c::d::e::f::g::i::j::l) w:=Sep.front (l1:=[a,b,c,d,e,f,g,i,j]) h
def Sep.aiW (h:Sep w0 S (p::a::l) w):Sep w0 S (a::p::l) w:=h.aJ
def Sep.F4 {b:HP} (h:Sep w0 S (p::a::b::l) w):Sep w0 S (a::b::p::l) w:=h.aR.aR
def Sep.first (h:Sep w0 S (p::rs) w):Sep w0 S [p] w:=by
 induction rs with
 | nil=>exact h
 | cons a rs i=>exact i (h.aJ.bN)
def Sep.firsts {l rs:List HP} (h:Sep w0 S (l++rs) w):Sep w0 S l w:=by
 have:=(Sep.bundle h).first.parts
 rwa [zbt]at this
def fF
    (e:aX P f vals w λc w'=>c=v/\w=w') (j:xs.map (evF σ)=vals:=by exact rfl) (g:Nat.blt d n=true:=by exact rfl)
    (h:FL P r n ops Q rest (upd σ d v) w) (s:qB P f:=by exact eT):
    FL P r n ops Q (⟨some d,.call {callee:=.value (.func f),args:=xs.toArray,argTypes:=ats},ty,pos,after,none⟩::rest) σ w:=
  aO e j g λc w' ⟨o,m⟩=>by subst o;subst m;exact h
def eP {d b o:Nat} [OneCell P T] {cs:LV} {v:Value} (c:w.heap[b]? =some (.cells cs.toArray E (0,0))) (g:evF σ x=.pointer (some ⟨b,o,none⟩):=by exact rfl)
    (f:cs[o]? =some v:=by exact rfl) (e:Nat.blt d n=true:=by exact rfl) (h:FL P r n ops Q rest (upd σ d v) w):
    FL P r n ops Q (⟨some d,.load T x,ty,pos,after,none⟩::rest) σ w:=eu (ah.nP g c f) e h
def Nw {vals:LV} (H:Sep w0 S rs w) (e:At rs p put)
    (o: ∀F,p.ok F w->(∀b,F b->S b\/w0.heap.size<=b)->aX P f vals w λg w'=>g=v/\cO F q w w') (D:xs.map (evF σ)=vals:=by exact rfl) (s:Nat.blt d n=true:=by exact rfl)
    (h: ∀w',Sep w0 S (put q) w'->FL P r n ops Q rest (upd σ d v) w') (G:qB P f:=by exact eT):
    FL P r n ops Q (⟨some d,.call {callee:=.value (.func f),args:=xs.toArray,argTypes:=ats},ty,pos,after,none⟩::rest) σ w:=by
  obtain⟨F,u,m,c⟩:=H.bG e;refine aO (o F u m) D s λg w' ⟨E,t,j,A,C⟩=>?_;subst E;exact h w' (c w' j _ t A C)
def Sep.af9 (h:Sep w0 S (q::rs) w) (E:At rs p put): ∃F o,p.ok F w/\q.ok o w/\(∀b,o b->¬F b)/\(∀b,F b->S b\/w0.heap.size<=b)/\
    ∀w' m L,aS F w w'->L.ok m w'->(∀b,m b->F b\/w.heap.size<=b)->Sep w0 S (q::put L) w':=by
  obtain⟨u,G,⟨o,Fr,s,D,K,N⟩,t⟩:=h;have V:Sep w0 S rs w:=⟨u,Fr,N,λb d=>t b ((s b).2 (.inr d))⟩;obtain⟨l,O,rfl,A⟩:=E;obtain⟨F,F2,c,v,T,C⟩:=Bd N;refine⟨F,o,T,K,λb d e=>D b d ((c b).2 (.inl e)),λb d=>t b ((s b).2 (.inr ((c b).2 (.inl d)))),λw' m L H J g=>?_⟩;have j:=(jA (l++O)).low C;have f:=q.low K;rw[A];refine⟨u.trans H λb d=>t b ((s b).2 (.inr ((c b).2 (.inl d)))),λb=>o b\/(m b\/F2 b),⟨o,λb=>m b\/F2 b,λb=>Iff.rfl,λb d e=>?_,q.loc H.size (λb d=>H.block b (f b d) λR=>D b d ((c b).2 (.inl R))) K,?_⟩,?_⟩
  . rcases e with e | e
    . rcases g b e with h | h
      . exact D b d ((c b).2 (.inl h))
      have:=f b d;omega
    exact D b d ((c b).2 (.inr e))
  . refine Ed (F1:=m) (F2:=F2) (λb=>Iff.rfl) (λb d e=>?_) J ((jA (l++O)).loc H.size (λb d=>H.block b (j b d) (λu=>v b u d)) C)
    rcases g b d with h | h
    . exact v b h e
    have:=j b e;omega
  rintro b (d | d | d)
  . exact t b ((s b).2 (.inl d))
  . rcases g b d with h | h
    . exact t b ((s b).2 (.inr ((c b).2 (.inl h))))
    exact .inr (zcl u.size h)
  exact t b ((s b).2 (.inr ((c b).2 (.inr d))))
def HP.stay (h:p.ok F w) (c:aS noB w w'):p.ok F w':=p.loc c.size (λb d=>c.block b (p.low h b d) id) h
def F5 {C:Type} {val:C->Value} {D:C->Prop} {q:C->HP} (H:Sep w0 S rs w)
    (j:aX P f vals w λv w'=>∃x,v=val x/\D x/\cO noB (q x) w w') (t:xs.map (evF σ)=vals:=by exact rfl) (m:Nat.blt d n=true:=by exact rfl)
    (h: ∀x w',D x->Sep w0 S (q x::rs) w'->aS noB w w'->FL P r n ops Q rest (upd σ d (val x)) w') (A:qB P f:=by exact eT):
    FL P r n ops Q (⟨some d,.call {callee:=.value (.func f),args:=xs.toArray,argTypes:=ats},ty,pos,after,none⟩::rest) σ w:=by
  refine aO j t m λv w' ⟨x,u,c,e,F,o,s⟩=>?_;subst u;exact h x w' c (H.new e o λb g=>(s b g).resolve_left id) e
end
section
variable {P:Program} {r:Option Nat} {n:Nat} {ops:AO} {Q:Post} {lv:List Bool} {pd pd':LNB} {σ:St} {w w' w0:Wd} {S F:NP} {rs:List HP} {p q:HP} {put:HP->List HP} {op:Op} {ty:Td} {pos:String} {after:Array Edge} {guard:Option (Nat×Bool)}
def aga {id:Nat} {l:LO} (e:P.follows .mixedOrders=true) (H:Sep w0 S rs w) (c:eY n l.toArray=true:=by kernel_rfl) (h:eY n l.toArray=true->∀w',Sep w0 S rs w'->FG P r n l.toArray Q (List.replicate l.length false) [] σ w'):FW P r n (.region id l.toArray true) Q σ w:=
 ahG e c λw' d=>h c w' (H.aK d)
def gu {t:Nat} {g:Prop} [Decidable g] (c:σ.get t=.bool (decide g)) (e:g->FG P r n ops Q lv pd (upd σ t (.bool true)) w) (d: ¬g->FG P r n ops Q lv pd (upd σ t (.bool false)) w):FG P r n ops Q lv pd σ w:=by
 by_cases h:g
 .have:=e h
  rw[show Value.bool true=σ t from by rw[c,zau h],uS]at this;exact this
 have:=d h;rw[show Value.bool false=σ t from by rw[c,zam h],uS]at this;exact this
def qQ {t:Nat} {b:Bool} (h:σ.get t=.bool b) (d:b=true->FG P r n ops Q lv pd (upd σ t (.bool true)) w) (c:b=false->FG P r n ops Q lv pd (upd σ t (.bool false)) w):FG P r n ops Q lv pd σ w:=by
 cases b
 .have:=c rfl
  rw[show Value.bool false=σ t from h.symm,uS]at this;exact this
 have:=d rfl;rw[show Value.bool true=σ t from h.symm,uS]at this;exact this
def ajO (e:eY n ops=true) (i:Nat) (f:ops[i]? =some ⟨some d,.move x,ty,pos,after,guard⟩:=by exact rfl)
    (j:Region.wanted ⟨some d,.move x,ty,pos,after,guard⟩ (dG ops σ)=true:=by kernel_rfl) (g:evF σ x=v:=by exact eV) (c:lU ops lv (pd.map (·.1)) i=true:=by kernel_rfl)
    (h:FG P r n ops Q (lv.set i true) ((i,true)::pd) (upd σ d v) w):FG P r n ops Q lv pd σ w:=FGp e i f j (λ_=>ah.move g) c h
def vS (f:eY n ops=true) (i:Nat) [OneCell P T] (H:Sep w0 S rs w) (g:ops[i]? =some ⟨some d,.load T x,ty,pos,after,guard⟩:=by exact rfl)
    (j:Region.wanted ⟨some d,.load T x,ty,pos,after,guard⟩ (dG ops σ)=true:=by kernel_rfl) (m:evF σ x=.pointer (some ⟨b,o,none⟩):=by exact rfl)
    (c:At rs (blk b cs E) put:=by exact aT) (hv:cs[o]? =some v:=by exact rfl) (e:lU ops lv (pd.map (·.1)) i=true:=by kernel_rfl)
    (h:FG P r n ops Q (lv.set i true) ((i,false)::pd) (upd σ d v) w):FG P r n ops Q lv pd σ w:=FGl f i g j (ah.nP m (H.obj c) hv) e h
def aic (f:eY n ops=true) (i:Nat) {k:Nat} [Agg P T k] {cs us:LV} (H:Sep w0 S rs w) (j:ops[i]? =some ⟨some d,.load T x,ty,pos,after,guard⟩:=by exact rfl)
    (s:Region.wanted ⟨some d,.load T x,ty,pos,after,guard⟩ (dG ops σ)=true:=by kernel_rfl) (t:evF σ x=.pointer (some ⟨b,o,none⟩):=by exact rfl)
    (c:At rs (blk b cs E) put:=by exact aT) (m:(cs.drop o).take k=us) (g:us.length=k) (e:lU ops lv (pd.map (·.1)) i=true:=by kernel_rfl)
    (h:FG P r n ops Q (lv.set i true) ((i,false)::pd) (upd σ d (.agg us.toArray)) w):FG P r n ops Q lv pd σ w:=FGl f i j s (ah.JZ t (H.obj c) m g) e h
def jG {i d b o:Nat} [OneCell P T] {l:LNB} (H:Sep w0 S rs w) (f:ops[i]? =some ⟨some d,.load T x,ty,pos,after,guard⟩:=by exact rfl)
    (j:Region.wanted ⟨some d,.load T x,ty,pos,after,guard⟩ (dG ops σ)=true:=by kernel_rfl) (m:evF σ x=.pointer (some ⟨b,o,none⟩):=by exact rfl)
    (c:At rs (blk b cs E) put:=by exact aT) (g:cs[o]? =some v:=by exact rfl) (e:σ d=v:=by exact rfl) (h:jK P ops σ w l):jK P ops σ w ((i,false)::l):=
  bE f j (ah.nP m (H.obj c) g) e h
def mJ (g:eY n ops=true) (e:Nat) (pd':LNB) [OneCell P T] {D:LV} (H:Sep w0 S rs w) (m:ops[e]? =some ⟨none,.store T x y,ty,pos,after,guard⟩:=by exact rfl)
    (u:Region.wanted ⟨none,.store T x y,ty,pos,after,guard⟩ (dG ops σ)=true:=by kernel_rfl) (A:evF σ x=.pointer (some ⟨b,o,none⟩):=by exact rfl)
    (C:evF σ y=v:=by exact eV) (t:v.oneCell'=true:=by exact rfl)
    (c:At rs (blk b cs E) put:=by exact aT) (f:Nat.blt o cs.length=true:=by exact rfl)
    (s:cs.set o v=D:=by first | (simp only[zcz,zfr];rfl) | exact rfl) (d:gy ops lv (pd.map (·.1)) e=true:=by kernel_rfl) (j:pd.filter (λp=> !((above ops e).contains p.1))=pd':=by exact pD)
    (h: ∀w',Sep w0 S (put (blk b D E)) w'->jK P ops σ w' pd'/\FG P r n ops Q (lv.set e true) pd' σ w'):FG P r n ops Q lv pd σ w:=
  Ww g e pd' m u (YU D H A C t c f s) d j h
def agb (o:eY n ops=true) (i:Nat) (pd':LNB) [T:dR P t e] {size:Nat} [R:Cells P e size bytes] [V:Zero P e z] {v:Value} {k m c:Nat} {xs news:LV} {A:OA}
    (H:Sep w0 S rs w) (K:iU w A m size news) (G: ∀u∈news,u.oneCell'=true) (g:k+m<=maxLen) (f:(k+m)*bytes<=140737488355328)
    (J:ops[i]? =some ⟨some d,.call {callee:=.builtin .append,args:= #[x,y],argTypes:= #[t,t]},ty,pos,after,guard⟩:=by exact rfl)
    (L:Region.wanted ⟨some d,.call {callee:=.builtin .append,args:= #[x,y],argTypes:= #[t,t]},ty,pos,after,guard⟩ (dG ops σ)=true:=by kernel_rfl)
    (N:evF σ x=v:=by exact rfl) (O:evF σ y=.slice A m c:=by exact rfl) (hat:At rs (vE e size v k xs) put:=by exact aT)
    (C:0<size:=by decide) (D:z.cells.size=size:=by exact rfl) (j:gy ops lv (pd.map (·.1)) i=true:=by kernel_rfl) (s:pd.filter (λp=> !((above ops i).contains p.1))=pd':=by exact pD)
    (h: ∀E w',Sep w0 S (put (vE e size E (k+m) (xs++news))) w'->jK P ops (upd σ d E) w' pd'/\FG P r n ops Q (lv.set i true) pd' (upd σ d E) w'):FG P r n ops Q lv pd σ w:=
  vJ o i pd' J L (Ai H N O hat K G C D g f) j s h
def TQ (j:eY n ops=true) (i:Nat) (pd':LNB) {parts:List (Nat×Od)} {K:LV} {size:Nat} [G:dR P t e] [E:Cells P e size bytes] [J:Zero P e z] (H:Sep w0 S rs w) (o:dI (evF σ) size xs K)
    (s:ops[i]? =some ⟨some d,.buildSlice t xs.length parts.toArray,ty,pos,after,guard⟩:=by exact rfl)
    (D:Region.wanted ⟨some d,.buildSlice t xs.length parts.toArray,ty,pos,after,guard⟩ (dG ops σ)=true:=by kernel_rfl)
    (u:parts=(xs.zipIdx 0).map λp=>(p.2,p.1):=by exact rfl) (c:Nat.ble (xs.length*size) 16777216=true:=by exact rfl)
    (g:gy ops lv (pd.map (·.1)) i=true:=by kernel_rfl) (m:pd.filter (λp=> !((above ops i).contains p.1))=pd':=by exact pD)
    (h: ∀b w',Sep w0 S (blk b K e::rs) w'->jK P ops (upd σ d (.slice (some ⟨b,0,none⟩) xs.length xs.length)) w' pd'/\FG P r n ops Q (lv.set i true) pd' (upd σ d (.slice (some ⟨b,0,none⟩) xs.length xs.length)) w'):FG P r n ops Q lv pd σ w:=
  vJ j i pd' (C:=λv w'=>∃b,v=.slice (some ⟨b,0,none⟩) xs.length xs.length/\Sep w0 S (blk b K e::rs) w') s D ⟨_,_,ah.buildSlice o u c,_,rfl,H.alloc _⟩ g m λv w' ⟨b,A,f⟩=>by subst A;exact h b w' f
def Lh (g:eY n ops=true) (e:Nat) (pd':LNB) (H:Sep w0 S rs w) (t:aX P f vals w λm w'=>m=v/\w=w')
    (u:ops[e]? =some ⟨some d,.call {callee:=.value (.func f),args:=xs.toArray,argTypes:=ats},ty,pos,after,guard⟩:=by exact rfl)
    (C:Region.wanted ⟨some d,.call {callee:=.value (.func f),args:=xs.toArray,argTypes:=ats},ty,pos,after,guard⟩ (dG ops σ)=true:=by kernel_rfl) (A:xs.map (evF σ)=vals:=by exact rfl) (c:gy ops lv (pd.map (·.1)) e=true:=by kernel_rfl)
    (j:pd.filter (λp=> !((above ops e).contains p.1))=pd':=by exact pD) (h: ∀w',Sep w0 S rs w'->jK P ops (upd σ d v) w' pd'/\FG P r n ops Q (lv.set e true) pd' (upd σ d v) w') (D:qB P f:=by exact eT):FG P r n ops Q lv pd σ w:=
  p8 g e pd' u C t A c j λm w' ⟨o,s⟩=>by subst o;subst s;exact h w H
def dF (g:eY n ops=true) (e:Nat) (pd':LNB) {f:FuncId} {L:Type} {val:L->Value} {N:L->Prop} {q:L->HP} (H:Sep w0 S rs w)
    (u:aX P f vals w λv w'=>∃x,v=val x/\N x/\cO noB (q x) w w')
    (A:ops[e]? =some ⟨some d,.call {callee:=.value (.func f),args:=xs.toArray,argTypes:=ats},ty,pos,after,guard⟩:=by exact rfl)
    (G:Region.wanted ⟨some d,.call {callee:=.value (.func f),args:=xs.toArray,argTypes:=ats},ty,pos,after,guard⟩ (dG ops σ)=true:=by kernel_rfl) (E:xs.map (evF σ)=vals:=by exact rfl) (c:gy ops lv (pd.map (·.1)) e=true:=by kernel_rfl)
    (j:pd.filter (λp=> !((above ops e).contains p.1))=pd':=by exact pD) (h: ∀x w',N x->Sep w0 S (q x::rs) w'->aS noB w w'->jK P ops (upd σ d (val x)) w' pd'/\FG P r n ops Q (lv.set e true) pd' (upd σ d (val x)) w') (J:qB P f:=by exact eT):FG P r n ops Q lv pd σ w:=by
  refine p8 g e pd' A G u E c j λK w' ⟨x,s,m,o,F,C,D⟩=>?_;subst s;exact h x w' m (H.new o C λb t=>(D b t).resolve_left id) o
end
section
variable {P:Program} {r:Option Nat} {n:Nat} {ops:AO} {Q:Post} {lv:List Bool} {pd pd':LNB} {rest:LO} {σ:St} {w w' w0:Wd} {S F:NP} {rs:List HP} {put:HP->List HP} {op:Op} {ty:Td} {pos:String} {after:Array Edge} {guard:Option (Nat×Bool)}
def ah.alk [s:dR P t e] [m:Cells P e 1 bytes] [A:Zero P e z] {k:Nat} (v:ρ x=.int .i64 k) (H:ρ y=.int .i64 k) (g:z.cells= #[z]) (j:bytes*k<=281474976710656) (o:k<=maxLen):
    ah P ρ (.makeSlice t x y) ty w (.slice (some ⟨w.heap.size,0,none⟩) k k) (w.alloc (.cells (List.replicate k z).toArray e)):=λ_ _ _ _=>by
  obtain⟨i,hi,d⟩:=zbb.1 m.size;simp only[Prod.mk.injEq]at d
  have f:i.zero=some z:=by
    have:=A.run w;simp[zeroValue,typeInfo,hi]at this;cases hq:i.zero with
    | none=>simp[hq]at this
    | some u=>simp[hq]at this;rw[this]
  have c:=run_make (P:=P) w t e i z s.und hi f .i64 .i64 (k:Int) (k:Int) oM oM (by rw[d.2,<-Int.natCast_mul];generalize bytes*k=q at j ⊢;omega) (by unfold maxLen at o;omega)
  have h:madeCells z.cells ((k:Int).toNat*i.size)=(List.replicate k z).toArray:=by
    rw[g,d.1];have:=toList_madeCells_one z (k*1);simp only[zdv];rw[zfc]at this ⊢;rw[<-this]
  rw[h]at c;simp only[execOp,v,H,zbj,c,zar,zbl,zdv]
def agc [u:dR P t e] [s:Cells P e 1 bytes] [v:Zero P e z] {k:Nat} (H:Sep w0 S rs w) (j:k<=maxLen) (f:bytes*k<=281474976710656) (m:evF σ x=.int .i64 k:=by exact rfl) (o:evF σ y=.int .i64 k:=by exact rfl) (c:z.cells= #[z]:=by exact rfl) (g:Nat.blt d n=true:=by exact rfl)
    (h: ∀b w',Sep w0 S (blk b (List.replicate k z) e::rs) w'->aS noB w w'->FL P r n ops Q rest (upd σ d (.slice (some ⟨b,0,none⟩) k k)) w'):
    FL P r n ops Q (⟨some d,.makeSlice t x y,ty,pos,after,none⟩::rest) σ w:=
  eu (ah.alk m o c f j) g (h _ _ (H.alloc _) (aS.alloc _ _))
def ah.conv {s t:Td} {k j:IntKind} [h:nO P s j] [c:nO P t k] {a:Int} (d:ρ x=.int j a):ah P ρ (.convert s t x) ty w (.int k (k.wrap a)) w:=
 ah.akP (by rw[h.und];rfl) c.und d
def ah.aa3 {a:Addr} [h:OneCell P T] (d:ρ x=.pointer (some a)) (c:w.cell? a=some v):ah P ρ (.load T x) ty w v w:=λ_ _ _ _=>by
 simp[execOp,d,Instr.loadAt,Instr.sureAddr,loadVar,h.agg,c]
def ah.ajP {k:Nat} {a:Addr} [h:Agg P T k] (e:ρ x=.pointer (some a)) (c: ∀j u,us[j]? =some u->w.cell? (a.add j)=some u) (d:us.length=k):ah P ρ (.load T x) ty w (.agg us.toArray) w:=λ_ _ _ _=>by
 have:=run_loadCells_list (P:=P) w a us c;rw[d]at this;simp[execOp,e,Instr.loadAt,Instr.sureAddr,loadVar,h.agg,h.size,this]
end
section
variable {w w' w0:Wd} {S:NP} {rs:List HP} {put:HP->List HP}
def Sep.aa4 {E:Nat} {xs:LV} (h:Sep w0 S rs w) (f:At rs (vE E s v n xs) put) (N:0<n):
    ∃g c rest,v=.slice (some ⟨g,0,none⟩) n c/\(xs++rest).length=c*s/\xs.length=n*s/\n<=c/\c<=maxLen/\Sep w0 S (put (blk g (xs++rest) E)) w:=by
  obtain⟨F,J,L,H⟩:=h.bG f;obtain⟨⟨D,G⟩,u⟩:=J
  rcases G with⟨_,K⟩ | ⟨g,c,d,A,_,C,m,j,o,t⟩
  . omega
  have e:d=(xs++d.toList.drop (n*s)).toArray:=by
    rw[<-t,zbs,Array.toArray_toList]
  refine⟨g,c,d.toList.drop (n*s),A,?_,D,m,j,?_⟩
  . have:=zay Array.size e
    rw[o]at this;simpa using this.symm
  refine h.imp f λF u=>⟨λb=>?_,?_⟩
  . rw[u.2 b,A]
    simp[Value.ownBlock,eq_comm]
  show w.heap[g]? =some (.cells (xs++d.toList.drop (n*s)).toArray E (0,0))
  rw[C,<-e]
def Sep.aa5 {E s n c g:Nat} {xs rest:LV} (h:Sep w0 S rs w) (d:At rs (blk g (xs++rest) E) put) (m:(xs++rest).length=c*s) (j:xs.length=n*s) (e:n<=c) (o:c<=maxLen):
    Sep w0 S (put (vE E s (.slice (some ⟨g,0,none⟩) n c) n xs)) w:=
  h.imp d λF f=>⟨⟨j,.inr ⟨g,c,(xs++rest).toArray,rfl,zai _,f.2,e,o,by simpa using m,by rw[<-j];simp⟩⟩,λx=>by rw[f.1 x];simp[Value.ownBlock,eq_comm]⟩
def adl {xs rest:LV} (h:i<xs.length):(xs++rest).set i v=xs.set i v++rest:=by
 rw[List.set_append_left _ _ h]
end
section
variable {P:Program} {r:Option Nat} {n:Nat} {ops:AO} {Q:Post} {lv:List Bool} {pd pd':LNB} {rest:LO} {σ:St} {w w' w0:Wd} {S F:NP} {rs:List HP} {p q p0:HP} {put:HP->List HP} {op:Op} {ty:Td} {pos:String} {after:Array Edge} {guard:Option (Nat×Bool)}
end
def TR (P:Program) (l:Nat) (xs:LV) (w:Wd) (R:Bool->Wd->Prop):Prop:=
 ∃fn tmps assign body,(Instr.yield l xs.toArray).run P w=.ok (.round l fn tmps assign body) w/\RoundIn (fen none) 0 P l fn tmps assign body w (Ret λv w'=>∃b,v=.bool b/\R b w')
def Dl {l:Nat} {R:Bool->Wd->Prop} (D:evF σ y=.func (.yield l) #[] #[]) (H:TR P l vals w R)
    (C:xs.map (evF σ)=vals) (A:Nat.blt d n=true) (h: ∀b w',R b w'->FL P r n ops Q rest (upd σ d (.bool b)) w'):
    FL P r n ops Q (⟨some d,.call {callee:=.value y,args:=xs.toArray,argTypes:=ats},ty,pos,after,none⟩::rest) σ w:=λa j=>
  wpListIn_plain rfl λK u=>by
    obtain⟨s,t,assign,body,f,c⟩:=H;refine⟨λ_ _=>trivial,?_⟩;rw[Oper.semAt_eq _ _ _ (λ_ h=>by cases h),j.eval]
    have e:(execOp (evF σ) ⟨some d,.call {callee:=.value y,args:=xs.toArray,argTypes:=ats},ty,pos,after,none⟩).run P w=.ok (.round l s t assign body) w:=by
      simp[execOp,resolve,D,Deferred.ofValue,invoke,C,f]
    rw[e,Oper.uponIn_round];refine⟨(λh=>by cases h),RoundIn.mono (F:=fen r) c λo g m=>?_⟩;cases o with
    | returned v=>obtain⟨b,rfl,hR⟩:=m;exact u _ _ (h b g hR _ (j.put (zbd A) _))
    | _=>exact m.elim

def Zu (K Kr:Wd->Prop):Post:=λe _ w=>match e with
 | .normal=>K w
 | .ret=>Kr w
 | _=>False
def DZ {K g:Wd->Prop} (h:K w):Zu K g .normal σ w:=h
def Ar {K g:Wd->Prop} (h:g w):Zu K g .ret σ w:=h

def agd {l:List ResultVar} {R:Value->Wd->Prop} {v:LV} {D:Nat} {put:HP->List HP} (H:Sep w0 S rs w) (c:At rs (Mw.obj D (.deferred (some []))) put) (hR: ∀w',Sep w0 S (put (Mw.obj D (.deferred none))) w'->R (fU v) w')
    (h:nG σ l=some v:=by simp only[nG,zdk,upd_same,upd_ne,ne_eq,Nat.reduceEqDiff,not_false_eq_true];rfl) (d:σ.ds=[{target:=.collected D,args:= #[]}]:=by exact rfl):Qfn l R .ret σ w:=
  Xi (l:=l) (R:=R) H c hR h d
def aa6:Op->Bool
 | .buildSlice .. =>true
 | .makeSlice .. =>true
 | _=>false
def aie (ops:AO) (i:Nat):Bool:=match ops[i]? with
 | some o=>aa6 o.op
 | none=>false
def aif (ops:AO) (M:Nat):List Bool:=(List.range ops.size).map λi=>Nat.blt i M

section
variable (P:Program) (r:Option Nat) (n:Nat) (ops:AO) (Q:Post) (M:Nat) (w0:Wd) (S:NP) (rs:List HP) (β:Nat->Nat)
end

variable {M k i:Nat} {ps:List HP} {β:Nat->Nat} {op:Op} {guard:Option (Nat×Bool)}
def stA (ops:AO) (v:Nat->Value) (σ:St):Nat->St
 | 0=>σ
 | j+1=>rY (stA ops v σ j) (jL ops j) (v j)
def pcs (ops:AO) (β:Nat->Nat) (ob:Nat->Obj) (L:Nat->Bool):Nat->List HP
 | 0=>[]
 | j+1=>if(aie ops j&&L j)=true then obj (β j) (ob j)::pcs ops β ob L j else pcs ops β ob L j
def QN {o ob':Nat->Obj} {L L':Nat->Bool}: ∀{j:Nat},(∀x,x<j->o x=ob' x/\(aie ops x&&L x)=(aie ops x&&L' x))->pcs ops β o L j=pcs ops β ob' L' j
 | 0,_=>rfl
 | j+1,h=>by
  show(if _ then _ else _)=(if _ then _ else _)
  rw[QN λx c=>h x (Nat.lt_succ_of_lt c),(h j (zfo j)).1,(h j (zfo j)).2]
def agf {v:Nat->Value}: ∀{j:Nat},(stA ops v σ j).ds=σ.ds
 | 0=>rfl
 | j+1=>by show(rY (stA ops v σ j) _ _).ds=_;rw[EP];exact agf
def QO {v:Nat->Value} {x:Nat}: ∀{j:Nat},(∀i,i<j->jL ops i≠some x)->stA ops v σ j x=σ x
 | 0,_=>rfl
 | j+1,h=>by
  show rY (stA ops v σ j) _ _ x=_
  rw[jf (h j (zfo j))];exact QO λi hi=>h i (Nat.lt_succ_of_lt hi)
def agh {v:Nat->Value} (f:jL ops i=some d): ∀{j:Nat},i<j->(∀k,k<j->k≠i->jL ops k≠some d)->stA ops v σ j d=v i
 | 0,h,_=>zas h (zdy _)
 | j+1,h,hne=>by
  show rY (stA ops v σ j) _ _ d=_
  by_cases c:j=i
  .subst c;rw[f];exact upd_same _ _ _
  rw[jf (hne j (zfo j) c)];exact agh f (Nat.lt_of_le_of_ne (Nat.le_of_lt_succ h) λe=>c e.symm) λk g=>hne k (Nat.lt_succ_of_lt g)

def StepA (P:Program) (ops:AO) (w0:Wd) (S:NP) (rs:List HP) (β:Nat->Nat) (i:Nat) (σ:St) (v:Value) (ob:Obj):Prop:=
 ∃o,ops[i]? =some o/\if aa6 o.op=true then ∀w,Sep w0 S rs w->w.heap.size=β i->(execOp (evF σ) o).run P w=.ok (.value v) (w.alloc ob)else ∀w,Sep w0 S rs w->(execOp (evF σ) o).run P w=.ok (.value v) w

def Fits (ops:AO) (β:Nat->Nat):List Nat->NP
 | [],_=>True
 | i::s,N=>if aie ops i=true then β i=N/\Fits ops β s (N+1)else Fits ops β s N
structure CkA (ops:AO) (M:Nat):Prop where
 le:M<=ops.size
 ug: ∀i,i<M->∃o d,ops[i]? =some o/\o.guard=none/\o.dst=some d
 pr: ∀i,i<M->∀e∈nS ops i,e<i
 lk: ∀i,i<M->∀k,k<M->∀d,jL ops k=some d->d∈looks ops i->k∈nS ops i
 ds: ∀i,i<M->∀k,k<M->i≠k->∀d,jL ops k=some d->jL ops i≠some d
 ab: ∀j,M<=j->j<ops.size->∀i,i<M->i∈above ops j
structure alm (P:Program) (r:Option Nat) (n:Nat) (ops:AO) (Q:Post) (M:Nat) (w0:Wd) (S:NP) (rs:List HP) (σ:St) (lr:Array Bool) (a:Act) (w:Wd):Prop where
 sz:lr.size=ops.size
 cl: ∀i,lr.getD i false=true->∀e∈nS ops i,lr.getD e false=true
 hi: ∀j,M<=j->j<ops.size->lr.getD j true=false
 fut: ∀s:List Nat,s.Nodup->(∀i,i∈s↔i<M/\lr.getD i true=false)->∃β,Fits ops β s w.heap.size/\∃v ob,
  (∀j,j<M->StepA P ops w0 S rs β j (stA ops v σ j) (v j) (ob j))/\(∀w',Sep w0 S (pcs ops β ob (λ_=>true) M++rs) w'->FG P r n ops Q (aif ops M) [] (stA ops v σ M) w')/\
  (∃σr,Rep n σr a/\σr.ds=σ.ds/\(∀i,i<M->lr.getD i true=true->∀d,jL ops i=some d->σr d=v i)/\∀x,(∀i,i<M->lr.getD i true=true->jL ops i≠some x)->σr x=σ x)/\
  Sep w0 S (pcs ops β ob (λi=>lr.getD i true) M++rs) w

def adn (h:i<ops.size):(aif ops M).getD i true=Nat.blt i M:=by
 simp[aif,zao,h]
def alm.fin (t:CkA ops M) {l:Array Bool} {a:Act} (h:alm P r n ops Q M w0 S rs σ l a w) (c: ∀i,i<M->l.getD i true=true):wpAnyIn (fen r) 0 P .any ops (lift n Q) (left ops l) l a w:=by
 obtain⟨β,_,v,K,_,g,⟨C,j,u,E,G⟩,e⟩:=h.fut [] List.nodup_nil (λi=>⟨(λhi=>by cases hi),λhi=>by have D:=hi.2;rw[c i hi.1]at D;cases D⟩);rw[QN (ob':=K) (L':=λ_=>true) λx s=>⟨rfl,by rw[c x s]⟩]at e
 have A:C=stA ops v σ M:=by
  refine St.aah (λx=>?_) (by rw[u,agf])
  by_cases s: ∃i,i<M/\jL ops i=some x
  .obtain⟨i,hi,f⟩:=s
   rw[E i hi (c i hi) x f,agh f hi λk J H=>t.ds k J i hi H x f]
  have m: ∀i,i<M->jL ops i≠some x:=λi hi f=>s ⟨i,hi,f⟩;rw[G x λi hi _=>m i hi,QO m]
 subst A;refine g w e [] l a ⟨(λ_ d=>by cases d),List.nodup_nil,List.Pairwise.nil,(λ_ d=>by cases d),(λ_ d=>by cases d),λi hi=>?_,h.sz,by simp[aif],h.cl,⟨_,j,rfl,λ_ _=>rfl⟩,(λ_ d=>by cases d),(λ_ d=>by cases d),(λ_ d=>by cases d)⟩;rw[adn hi]
 rcases zdp i M with o | o
 .rw[c i o,show Nat.blt i M=true from by rw[Nat.blt_eq];exact o];rfl
 rw[h.hi i o hi,show Nat.blt i M=false from by rw[<-zdr,Nat.blt_eq];omega];rfl
end Go.Proofs.Mw
