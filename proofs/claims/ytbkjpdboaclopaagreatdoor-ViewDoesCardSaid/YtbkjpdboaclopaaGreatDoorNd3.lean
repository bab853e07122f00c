/-
 Closures,and ranges over functions whose bodies never leave. Nothing of a given program stands here.
-/
import Derived.Test.YtbkjpdboaclopaaGreatDoorNd2
set_option linter.all false
namespace Go.Proofs.Mw
open Go.RowKit
variable {P:Program} {r:Option Nat} {n:Nat} {ops:AO} {Q:Post} {rest:LO} {σ:St} {w w0:Wd} {S:NP} {rs:List HP} {ty:Td} {pos:String} {after:Array Edge}
variable {ρ:Od->Value}
def Gives.makeFunc {fn:Fn} {fs cs:List Od} {us vs:LV} (hf:fs.map ρ=us) (hc:cs.map ρ=vs):Gives P ρ (.makeFunc fn fs.toArray cs.toArray) ty w (.func fn us.toArray vs.toArray) w:=λ_ _ _ _=>by
 simp[execOp,Instr.makeFunc,hf,hc]
variable {d:Nat} {y:Od} {xs:List Od} {ats:Array Td}
def eY {f:FuncId} {fs cs:LV} {vals:LV} {R:Value->Wd->Prop} (hy:evF σ y=.func (.func f) fs.toArray cs.toArray) (hc:aQ P f (fs++vals++cs) w R)
    (hv:xs.map (evF σ)=vals) (hd:Nat.blt d n=true) (h: ∀v w',R v w'->FL P r n ops Q rest (upd σ d v) w') (he:qz P f:=by exact eT):
    FL P r n ops Q (⟨some d,.call {callee:=.value y,args:=xs.toArray,argTypes:=ats},ty,pos,after,none⟩::rest) σ w:=λa ha=>
  wpListIn_plain rfl λK hK=>by
    refine⟨λ_ _=>trivial,?_⟩;rw[Oper.semAt_eq _ _ _ (λ_ h=>by cases h),ha.eval]
    have e:(execOp (evF σ) ⟨some d,.call {callee:=.value y,args:=xs.toArray,argTypes:=ats},ty,pos,after,none⟩).run P w=.ok (.enter f (fs++vals++cs).toArray) w:=by
      simp[execOp,resolve,hy,Deferred.ofValue,invoke,hv];rw[<-he.run (fs++(vals++cs)).toArray w]
    rw[e,Oper.uponIn_enter];refine⟨(λh=>by cases h),rD r (Calls.mono hc λe w'' hr=>?_)⟩;cases e with
    | returned v=>exact hK _ _ (h v w'' hr _ (ha.put (zbe hd) v))
    | _=>exact hr.elim
def UN (P:Program) (l:Nat) (xs:LV) (w:Wd) (R:Wd->Prop):Prop:=
 ∃fn tmps assign body,(Instr.yield l xs.toArray).run P w=.ok (.round l fn tmps assign body) w/\RoundIn (fen none) 0 P l fn tmps assign body w (Ret λv w'=>v=.bool true/\R w')
variable {vals:LV}
def ahW {l:Nat} {R:Wd->Prop} (hy:evF σ y=.func (.yield l) #[] #[]) (hc:UN P l vals w R)
    (hv:xs.map (evF σ)=vals) (hd:Nat.blt d n=true) (h: ∀w',R w'->FL P r n ops Q rest (upd σ d (.bool true)) w'):
    FL P r n ops Q (⟨some d,.call {callee:=.value y,args:=xs.toArray,argTypes:=ats},ty,pos,after,none⟩::rest) σ w:=λa ha=>
  wpListIn_plain rfl λK hK=>by
    obtain⟨fn,tmps,assign,body,iw,Kq⟩:=hc;refine⟨λ_ _=>trivial,?_⟩;rw[Oper.semAt_eq _ _ _ (λ_ h=>by cases h),ha.eval]
    have e:(execOp (evF σ) ⟨some d,.call {callee:=.value y,args:=xs.toArray,argTypes:=ats},ty,pos,after,none⟩).run P w=.ok (.round l fn tmps assign body) w:=by
      simp[execOp,resolve,hy,Deferred.ofValue,invoke,hv,iw]
    rw[e,Oper.uponIn_round];refine⟨(λh=>by cases h),RoundIn.mono (F:=fen r) Kq λen w'' hr=>?_⟩;cases en with
    | returned v=>obtain⟨rfl,hR⟩:=hr;exact hK _ _ (h w'' hR _ (ha.put (zbe hd) _))
    | _=>exact hr.elim

def Yp {l:List ResultVar} {R:Value->Wd->Prop} {vs:LV} {D:Nat} {put:HP->List HP} (H:Sep w0 S rs w) (hat:At rs (Mw.obj D (.deferred (some []))) put) (hR: ∀w',Sep w0 S (put (Mw.obj D (.deferred none))) w'->R (fJ vs) w')
    (h:mV σ l=some vs:=by simp only[mV,zdv,upd_same,upd_ne,ne_eq,Nat.reduceEqDiff,not_false_eq_true];rfl) (hd:σ.ds=[{target:=.collected D,args:= #[]}]:=by exact rfl):Qfn l R .normal σ w:=by
  refine⟨vs,h,?_⟩;rw[hd];have hD:=H.obj hat;have aX:=mg hD;exact⟨D,rfl,hD,hR _ (H.setObj hat ⟨rfl,rfl,rfl,sM,λk _ hS=>by simp only;rw[zez (λe=>hS e.symm)]⟩ (by simp[aX]))⟩

def acK (st:LoopState) (fn:FuncId) (tmps:Array Value) (ps:Array Tmp) (assign body:Code) (D:Nat):Obj:=.loop {state:=st,pending:=none,fn:=fn,tmps:=tmps,params:=ps,assign:=assign,body:=body,defers:=D}

variable {b:Nat}
def Sep.Yq {o o':Obj} (h:Sep w0 S (Mw.obj b o::rs) w):Sep w0 S (Mw.obj b o'::rs) (w.putObj b o'):=by
 have hb:=h.obj At0;have aX:=mg hb;exact h.setObj (At0 (p:=Mw.obj b o) (l:=rs)) ⟨rfl,rfl,rfl,by simp[World.putObj],λk _ hS=>World.putObj_heap_other hS⟩ (World.putObj_heap_same aX)

def Mh (K:St->Wd->Prop):Post:=λe σ w=>match e with
 | .normal=>K σ w
 | _=>False
variable {bytes c i m o s:Nat} {T e t:Td} {x:Od} {v z:Value} {place:Nat->Option (Nat×Nat)} {us:LV}
def qP {K:St->Wd->Prop} (h:K σ w):Mh K .normal σ w:=h

section
variable {P:Program} {r:Option Nat} {n:Nat} {ops:AO} {Q:Post} {rest:LO} {σ:St} {w w0:Wd} {S:NP} {rs:List HP} {put:HP->List HP} {op:Op} {ty:Td} {pos:String} {after:Array Edge}
def afb {t:Nat} {p:Prop} [Decidable p] {l:LO} (hb:σ.get t=.bool (decide p)) (h1:p->FL P r n ops Q l (upd σ t (.bool true)) w) (h0: ¬p->FL P r n ops Q l (upd σ t (.bool false)) w):FL P r n ops Q l σ w:=
 dL hb (λh=>h1 (zbd h)) (λh=>h0 (of_decide_eq_false h))
def akF {dst:Option Nat} {j:Nat} {b:Bool} {t:Nat} (hj:(ops[j]?).bind (λo:Oper=>o.dst)=some t) (hb:σ.get t=undef) (hd:Qr n dst=true)
    (h:FL P r n ops Q rest (sj σ dst undef) w):
    FL P r n ops Q (⟨dst,op,ty,pos,after,some (j,b)⟩::rest) σ w:=λa ha=>by
  have h1:=h _ (ha.PD hd undef)
  have hy:Go.yielded ops a.tmps j=none:=by
    unfold Go.yielded;have hg:=ha.get t;rw[hb]at hg;simp only[hj,zdy];cases hq:a.tmps[t]? with
    | none=>rfl
    | some v=>
      have hv:v=undef:=by simpa[zbp,hq]using hg
      subst hv;rfl
  have hw:Region.wanted ⟨dst,op,ty,pos,after,some (j,b)⟩ (Go.yielded ops a.tmps)=false:=by
    simp[Region.wanted,hy]
  unfold wpListIn;rw[zaa (by simp[hw])];exact⟨λ_ _=>trivial,h1⟩
def Gives.ahX {f k:Nat} [h:CX P s f k] {a:Addr} {j:Nat} (hx:ρ x=.pointer (some (a.add j))):Gives P ρ (.fieldAddr s x f) ty w (.pointer (some (a.add (j+k)))) w:=λ_ _ _ _=>by
 simp only[execOp,hx,zbj,h.run,zan,zbl,add_add]
def run_equalIn_map_nil (d:Nat) {k:Td} (he:P.underlying T=some (.map k e)) (a:Option Nat):(Op.equalIn (d+1) T (.map a) (.map none)).run P w=.ok a.isNone w:=by
 cases a<;>simp[Op.equalIn,run_underlying he]
def Gives.akG {U k:Td} [hm:IsMap P T k e] {a:Option Nat} (hx:ρ x=.map a) (hy:ρ y=.map none):Gives P ρ (.binOp .eql T x y U) ty w (.bool a.isNone) w:=
 .bin hx hy (λ_ _=>by rw[eqGuard_at_map];rfl) (by
  have :(Op.equal T (.map a) (.map none)).run P w=.ok a.isNone w:=run_equalIn_map_nil 9999 hm.und a;simp[binOp,this])
def run_equalIn_slice_nil (d:Nat) (he:P.underlying T=some (.slice e)) (a:OA) (m c:Nat):(Op.equalIn (d+1) T (.slice a m c) (.slice none 0 0)).run P w=.ok a.isNone w:=by
 cases a<;>simp[Op.equalIn,run_underlying he]
def Gives.ahY {U:Td} [hm:dn P T e] {a:OA} (hx:ρ x=.slice a m c) (hy:ρ y=.slice none 0 0):Gives P ρ (.binOp .eql T x y U) ty w (.bool a.isNone) w:=
 .bin hx hy (λ_ _=>by rw[eqGuard_at_slice];rfl) (by
  have :(Op.equal T (.slice a m c) (.slice none 0 0)).run P w=.ok a.isNone w:=run_equalIn_slice_nil 9999 hm.und a m c;simp[binOp,this])
def Gives.extract {vs:Array Value} (hx:ρ x=.tuple vs) (hv:vs[i]? =some v):Gives P ρ (.extract x i) ty w v w:=λ_ _ _ _=>by
 simp[execOp,hx,Instr.extract,hv]
def Gives.ahZ {s:Td} [hs:dn P s e] [he:nk P e .u8] [hd:lX P t] {A:OA} {l:L8} (hx:ρ x=.slice A m c) (hr:gZ w A m 1 (l.map λu=>Value.int .u8 u.toNat)):Gives P ρ (.convert s t x) ty w (.string ⟨l.toArray⟩) w:=λ_ _ _ _=>by
  have hlen:l.length=m:=by have:=hr.len;simpa using this
  have iw:(convert s t (.slice A m c)).run P w=.ok (.string ⟨l.toArray⟩) w:=by
    rcases A with _ | a
    . have h0:m=0:=by
        rcases zef m with h0 | h0
        . exact h0
        obtain⟨ad,h,_⟩:=hr.at_ h0;cases h
      have hl:l=[]:=zbg (by rw[hlen,h0]);subst hl;rw[run_convert_bytes_string w s t e none m c hs.und he.und hd.und];rfl
    rw[<-hlen];refine run_convert_bytes_back w s t e a c l hs.und he.und hd.und λj hj=>?_;obtain⟨ad,h,hc⟩:=hr.at_ oM;injection h with h
    subst h;exact hc j _ (by simp[hj])
  simp only[execOp,hx,zbj,iw,zan,zbl]
class aqy (P:Program) (f:FuncId):Prop where
 run: ∀args w,(callFunc f args).run P w=((Extern.MapsClone.clone args).run P w).andThen λv w'=>.ok (.value v) w'
def lay (zs:LV) (o:Nat) (us:LV):LV:=zs.take o++us++zs.drop (o+us.length)
def RU (o:Nat): ∀(us:LV) (k:Nat) (zs:LV),o+k+us.length<=zs.length->
    (us.zipIdx k).foldl (fun(cs:Array Value) (x:Value×Nat)=>cs.setIfInBounds (o+x.2) x.1) zs.toArray=(lay zs (o+k) us).toArray
  | [],k,zs,_=>by simp[lay]
  | u::us,k,zs,h=>by
    simp only[List.zipIdx_cons,List.foldl_cons];have e:zs.toArray.setIfInBounds (o+k) u=(zs.set (o+k) u).toArray:=sM;rw[e,RU o us (k+1) _ (by simp at h ⊢;omega)]
    congr 1
    have:=list_seg_step zs (o+k) u us (by simp at h;omega);unfold lay;simp only[zaq];rw[<-Nat.add_assoc];exact this
def Fills (place:Nat->Option (Nat×Nat)) (ρ:Od->Value):List (Nat×Od)->LV->LV->Prop
 | [],zs,out=>zs=out
 | (i,x)::l,zs,out=>∃o us,place i=some (o,us.length)/\(ρ x).cells=us.toArray/\o+us.length<=zs.length/\Fills place ρ l (lay zs o us) out
def GJ: ∀{l:List (Nat×Od)} {zs out:LV},Fills place ρ l zs out->Instr.fill place zs.toArray (l.map fun(i,x)=>(i,ρ x))=some out.toArray
 | [],zs,out,h=>by have h:zs=out:=h;subst h;rfl
 | (i,x)::l,zs,out,⟨o,us,h1,h2,h3,h4⟩=>by
  simp only[zav,Instr.fill,h1,h2]
  have e:(us.toArray.zipIdx.foldl (fun(cs:Array Value) (x:Value×Nat)=>cs.setIfInBounds (o+x.2) x.1) zs.toArray)=(lay zs o us).toArray:=by
   have e0:us.toArray.zipIdx=(us.zipIdx 0).toArray:=sM;rw[e0,List.foldl_toArray];exact RU o us 0 zs (by simpa using h3)
  have e2:(us.toArray.size≠us.length||o+us.toArray.size>zs.toArray.size)=false:=by simp;omega
  simp only[e2];exact(zay (λz=>Instr.fill place z (l.map fun(i,x)=>(i,ρ x))) e).trans (GJ h4)
def Fills.nil {zs:LV}:Fills place ρ [] zs zs:=rfl
def akH {zs:LV} (h:o<zs.length):lay zs o [v]=zs.set o v:=by
 unfold lay;rw[List.set_eq_take_append_cons_drop,zac h];simp
def Fills.one {l:List (Nat×Od)} {zs zs' out:LV} (hp:place i=some (o,1)) (hx:ρ x=v) (hv:v.oneCell'=true) (ho:o<zs.length) (hs:zs.set o v=zs') (h:Fills place ρ l zs' out):Fills place ρ ((i,x)::l) zs out:=by
 subst hs;refine⟨o,[v],hp,?_,ho,by rw[akH ho];exact h⟩;rw[hx];cases v<;>first | rfl | cases hv
def Fills.many {l:List (Nat×Od)} {us zs zs' out:LV} (hp:place i=some (o,us.length)) (hx:ρ x=.agg us.toArray) (ho:o+us.length<=zs.length) (hs:lay zs o us=zs') (h:Fills place ρ l zs' out):Fills place ρ ((i,x)::l) zs out:=by
 subst hs;exact⟨o,us,hp,by rw[hx];rfl,ho,h⟩
class ah0 (P:Program) (T:Td) (zs:outParam (LV)) (pl:outParam (List (Nat×Nat))):Prop where
 zero: ∀w,(zeroValue T).run P w=.ok (.agg zs.toArray) w
 und: ∃fields:Array Field,P.underlying T=some (.struct fields)/\∀w,(fields.mapM λf=>(do pure (f.offset,<-sizeOf f.type):Sem (Nat×Nat))).run P w=.ok pl.toArray w
def Gives.build {zs:LV} {pl:List (Nat×Nat)} [hb:ah0 P T zs pl] {parts:List (Nat×Od)} {out:LV} (h:Fills (λi:Nat=>pl[i]?) ρ parts zs out):Gives P ρ (.build T parts.toArray) ty w (.agg out.toArray) w:=λ_ _ _ _=>by
 obtain⟨fields,hu,Ql⟩:=hb.und;have hf:=GJ h;have hpl':=Ql w;simp only[execOp,Instr.build,zbj,hb.zero,zan,run_underlying hu,hpl',Value.cells,zce,zbl];have e:(λx:Nat=>pl.toArray[x]?)=λi:Nat=>pl[i]? :=by funext i;simp
 simp only[e,hf,zbl,zan]

def akI {a b c:LV} (ho:a.length=o) (hb:b.length=us.length):lay (a++(b++c)) o us=(a++us)++c:=by
 unfold lay;rw[zek oM,zaj oM,<-zbm a b c,zel (by simp;omega),zbu (by simp;omega),zbw]
def eu (ρ:Od->Value) (size:Nat):List Od->LV->Prop
 | [],out=>out=[]
 | x::l,out=>∃us rest,(ρ x).cells=us.toArray/\us.length=size/\out=us++rest/\eu ρ size l rest
def K3 {size:Nat}: ∀(l:List Od) (k:Nat) (a z out:LV),a.length=k*size->z.length=l.length*size->eu ρ size l out->
    Fills (λi=>some (i*size,size)) ρ ((l.zipIdx k).map λp=>(p.2,p.1)) (a++z) (a++out)
  | [],k,a,z,out,_,hz,h=>by
    have h:out=[]:=h;subst h;have :z=[]:=zbg (by simpa using hz);subst this;exact rfl
  | x::l,k,a,z,out,ha,hz,⟨us,rest,h1,h2,h3,h4⟩=>by
    subst h3;have hz':z.length=size+l.length*size:=by rw[hz,zaq,Nat.add_mul];omega
    refine⟨k*size,us,by rw[h2],h1,by rw[zad,ha,hz',h2];omega,?_⟩;have e:z=z.take size++z.drop size:=(zbs size z).symm;rw[e,akI ha (by rw[zah,h2];omega),<-zbm];exact K3 l (k+1) (a++us) (z.drop size) rest (by rw[zad,ha,h2,Nat.add_mul];omega) (by rw[zbo];omega) h4
def eu.nil {size:Nat}:eu ρ size [] []:=rfl
def eu.one {l:List Od} {rest:LV} (hx:ρ x=v) (hv:v.oneCell'=true) (h:eu ρ 1 l rest):eu ρ 1 (x::l) (v::rest):=
 ⟨[v],rest,(by rw[hx];cases v<;>first | rfl | cases hv),rfl,rfl,h⟩
def eu.many {size:Nat} {l:List Od} {rest:LV} (hx:ρ x=.agg us.toArray) (hl:us.length=size) (h:eu ρ size l rest):eu ρ size (x::l) (us++rest):=
 ⟨us,rest,by rw[hx];rfl,hl,rfl,h⟩
def Gives.buildSlice {parts:List (Nat×Od)} {out:LV} {size:Nat} [hs:dn P t e] [hc:Cells P e size bytes] [hz:Zero P e z] (hE:eu ρ size xs out) (hp:parts=(xs.zipIdx 0).map λp=>(p.2,p.1)) (hlen:Nat.ble (xs.length*size) 16777216=true):
    Gives P ρ (.buildSlice t xs.length parts.toArray) ty w (.slice (some ⟨w.heap.size,0,none⟩) xs.length xs.length) (w.alloc (.cells out.toArray e)):=λ_ _ _ _=>by
  obtain⟨i,hi,qE⟩:=zbc.1 hc.size;simp only[Prod.mk.injEq]at qE;have rW:=zbe hlen
  have amj: ∀Z:LV,Z.length=xs.length*size->Instr.fill (λi=>some (i*size,size)) Z.toArray (parts.map fun(i,x)=>(i,ρ x))=some out.toArray:=λZ hZ=>by
    subst hp;exact GJ (K3 xs 0 [] Z out sM hZ hE)
  have pR: ¬(2^24<xs.length*size):=oM
  by_cases h0:xs.length*size=0
  . have:=amj [] (by simp[h0])
    simp at this;simp only[execOp,Instr.buildSlice,zbj,run_underlying hs.und,zan,sizeOf,typeInfo,run_program,hi,zbl,qE.1];simp only[h0,Array.range_zero'];simp;rw[this];simp[newRow]
  obtain⟨Z,hZ⟩: ∃Z:LV,(Array.range (xs.length*size)).map (λx=>z.cells[x%z.cells.size]!)=Z.toArray:=⟨_,(Array.toArray_toList).symm⟩
  have hZl:Z.length=xs.length*size:=by
    have:=zay Array.size hZ;simpa using this.symm
  simp only[execOp,Instr.buildSlice,zbj,run_underlying hs.und,zan,sizeOf,typeInfo,run_program,hi,zbl,qE.1];simp only[gt_iff_lt,pR,if_false,h0,hz.run,zan,zbj,zbl,zce,hZ,amj Z hZl];simp[newRow]
def nM {xs:List Od} {parts:List (Nat×Od)} {out:LV} {size:Nat} [hs:dn P t e] [hc:Cells P e size bytes] [hz:Zero P e z] (H:Sep w0 S rs w) (hE:eu (evF σ) size xs out) (hp:parts=(xs.zipIdx 0).map λp=>(p.2,p.1)) (hlen:Nat.ble (xs.length*size) 16777216=true) (hd:Nat.blt d n=true)
    (h: ∀b w',Sep w0 S (blk b out e::rs) w'->Kept noB w w'->FL P r n ops Q rest (upd σ d (.slice (some ⟨b,0,none⟩) xs.length xs.length)) w'):
    FL P r n ops Q (⟨some d,.buildSlice t xs.length parts.toArray,ty,pos,after,none⟩::rest) σ w:=
  dD (Gives.buildSlice hE hp hlen) hd (h _ _ (H.alloc _) (Kept.alloc _ _))
def Sep.lV {E:Nat} {cs:LV} (H:Sep w0 S rs w) (hat:At rs (blk b cs E) put) (hl:cs.length=m*s):gZ w (some ⟨b,0,none⟩) m s cs:=
 ⟨hl,λ_=>⟨_,rfl,λj u hu=>by rw[Addr.add_lit,zdc,jW (H.obj hat)];exact hu⟩⟩
end
def str (l:L8):Value:=.string ⟨l.toArray⟩
def J6 (s:ByteArray):Value.string s=str s.data.toList:=by cases s;simp[str]
def size_mk (l:L8):(⟨l.toArray⟩:ByteArray).size=l.length:=by simp[ByteArray.size]
def extract_mk (l:L8) (a b:Nat):(⟨l.toArray⟩:ByteArray).extract a b=⟨((l.take b).drop a).toArray⟩:=by
 apply ByteArray.ext;rw[ByteArray.data_extract];apply Array.ext';rw[Array.toList_extract];simp[zfw,List.drop_take]
variable {k:IntKind}
def afc (a b:L8):(⟨a.toArray⟩:ByteArray)++⟨b.toArray⟩=⟨(a++b).toArray⟩:=by
 apply ByteArray.ext;rw[ByteArray.data_append];simp
section gives
variable {P:Program} {ρ:Od->Value} {ty:Td} {w w':Wd} {x y z:Od} {a b l:L8}
def Gives.ari [h:lX P t] (hx:ρ x=str l):Gives P ρ (.call {callee:=.builtin .len,args:= #[x],argTypes:= #[t]}) ty w (.int .i64 l.length) w:=by
 have:=Gives.lenStr (P:=P) (ty:=ty) (w:=w) (t:=t) hx;rw[size_mk]at this;exact this
def Gives.arj {U:Td} (hx:ρ x=str a) (hy:ρ y=str b):Gives P ρ (.binOp .eql T x y U) ty w (.bool (decide (a=b))) w:=by
 have:=Gives.aq3 (P:=P) (ty:=ty) (w:=w) (T:=T) (U:=U) hx hy;rw[ByteArray.toList_mk,ByteArray.toList_mk,show(a==b)=decide (a=b)from by rw[zdu];simp]at this;exact this
def Gives.ark {U:Td} (hx:ρ x=str a) (hy:ρ y=str b):Gives P ρ (.binOp .neq T x y U) ty w (.bool (decide (a≠b))) w:=by
 have:=Gives.aq4 (P:=P) (ty:=ty) (w:=w) (T:=T) (U:=U) hx hy;rw[ByteArray.toList_mk,ByteArray.toList_mk,show(!(a==b))=decide (a≠b)from by rw[zdu];simp]at this;exact this
def Gives.arl {U:Td} (hx:ρ x=str a) (hy:ρ y=str b):Gives P ρ (.binOp .lss T x y U) ty w (.bool (Op.bytesLess a b)) w:=.bin hx hy (λ_ _=>rfl) (by
 show(Op.stringOp .lss _ _).run P w=_
 simp only[Op.stringOp,ByteArray.toList_mk];rfl)
def Gives.Yr {U:Td} (hx:ρ x=str a) (hy:ρ y=str b) (h:a.length+b.length<=9223372036854775807):Gives P ρ (.binOp .add T x y U) ty w (str (a++b)) w:=.bin hx hy (λ_ _=>rfl) (by
 show(Op.stringOp .add _ _).run P w=_
 simp only[Op.stringOp,size_mk];rw[zaa (by show ¬(((a.length+b.length:Nat):Int)>9223372036854775807);omega),afc];rfl)
def Gives.arn [h:lX P t] {c:UInt8} (hx:ρ x=str l) (hy:ρ y=.int k i) (hc:l[i]? =some c):Gives P ρ (.index t x y) ty w (.int .u8 c.toNat) w:=λ_ _ _ _=>by
 have aX:=(zax.1 hc).1
 have e:(⟨l.toArray⟩:ByteArray)[i]? =some c:=by
  rw[getElem?_pos (h:=by rw[size_mk];exact aX)];show some (l.toArray[i])=_
  rw[List.getElem_toArray,<-zab aX,hc]
 simp only[execOp,Instr.index,hx,hy,str,zbj];simp[asIntOf,run_underlying h.und,e]
def Gives.sQ [h:lX P t] {i:Nat} (hx:ρ x=str l) (hy:ρ y=.int k i) (hi:i<=l.length):Gives P ρ (.slice t x none (some y) none) ty w (str (l.take i)) w:=λ_ _ _ _=>by
 have e1:(0:Int)<=(i:Int)/\(i:Int)<=((⟨l.toArray⟩:ByteArray).size:Int):=by rw[size_mk];omega
 simp[execOp,hx,hy,str,Instr.sliceAt,Instr.slice,run_underlying h.und,Instr.sliceBounds,Instr.sliceBound,asIntOf,e1,extract_mk,size_mk]
 try omega
def Gives.qc [h:lX P t] {i:Nat} (hx:ρ x=str l) (hy:ρ y=.int k i) (hi:i<=l.length):Gives P ρ (.slice t x (some y) none none) ty w (str (l.drop i)) w:=λ_ _ _ _=>by
 have e1:(0:Int)<=(i:Int)/\(i:Int)<=((⟨l.toArray⟩:ByteArray).size:Int):=by rw[size_mk];omega
 simp[execOp,hx,hy,str,Instr.sliceAt,Instr.slice,run_underlying h.und,Instr.sliceBounds,Instr.sliceBound,asIntOf,e1,extract_mk,size_mk]
 try omega
def Gives.EP [h:lX P t] {j:IntKind} {i m:Nat} (hx:ρ x=str l) (hy:ρ y=.int k i) (hz:ρ z=.int j m) (hi:i<=m) (hm:m<=l.length):Gives P ρ (.slice t x (some y) (some z) none) ty w (str ((l.take m).drop i)) w:=λ_ _ _ _=>by
 have e1:(0:Int)<=(i:Int)/\(i:Int)<=(m:Int):=oM;have e2:(0:Int)<=(m:Int)/\(m:Int)<=((⟨l.toArray⟩:ByteArray).size:Int):=by rw[size_mk];omega
 simp[execOp,hx,hy,hz,str,Instr.sliceAt,Instr.slice,run_underlying h.und,Instr.sliceBounds,Instr.sliceBound,asIntOf,e1,e2,extract_mk,size_mk,hi,hm]
def LH (r:Int):L8:=(Utf8.encode r).data.toList
def Oo (r:Int):Value.string (Utf8.encode r)=str (LH r):=by
 unfold LH str
 congr 1
def Gives.ah1 {s:Td} [hs:nk P s k] [ht:lX P t] {n:Int} (hx:ρ x=.int k n):Gives P ρ (.convert s t x) ty w (str (LH n)) w:=λ_ _ _ _=>by
 rw[<-Oo];simp[execOp,hx,convert,run_underlying hs.und,run_underlying ht.und,Conv.intToString]
def Gives.Oq {s:Td} [hs:dn P s e] [he:nk P e .u8] [hd:lX P t] {A:OA} (hx:ρ x=.slice A m c) (hr:gZ w A m 1 (l.map λu=>Value.int .u8 u.toNat)):Gives P ρ (.convert s t x) ty w (str l) w:=Gives.ahZ hx hr
end gives
section rules
variable {P:Program} {r:Option Nat} {n:Nat} {ops:AO} {Q:Post} {rest:LO} {σ:St} {w w' w0:Wd} {S:NP} {rs:List HP} {put:HP->List HP} {ty:Td} {pos:String} {after:Array Edge} {l:L8}
end rules
class Dx (P:Program) (s f:Nat) (o:outParam Nat) (t:outParam Td):Prop where
 und: ∃fields,P.underlying s=some (.struct fields)/\(fields[f]?).map (λf:Field=>(f.offset,f.type))=some (o,t)
variable {cs:LV}
class EqData (P:Program) (T:Td) (α:Type) [DecidableEq α] (enc:α->LV):Prop where
 run: ∀(a b:α) (w:Wd),(Op.equalIn 10000 T (.agg (enc a).toArray) (.agg (enc b).toArray)).run P w=.ok (decide (a=b)) w
 guard:P.eqGuardType P.depth T=false
section gives
variable {P:Program} {ρ:Od->Value} {ty:Td} {w w':Wd} {x y z:Od} {l:L8}
def Dy {t:Td} [h1:OneCell P t] (hv:cs[o]? =some v):(part t cs.toArray o).run P w=.ok v w:=by
 simp[part,h1.agg,hv]
def J7 {t k:Td} [h1:Agg P t k] (hu:(cs.drop o).take k=us):(part t cs.toArray o).run P w=.ok (.agg us.toArray) w:=by
 have e:cs.toArray.extract o (o+k)=us.toArray:=by
  subst hu;apply Array.ext';rw[Array.toList_extract];simp[zfw]
 simp only[part,zbj,h1.agg,zan,if_true,h1.size,zbl];rw[e]
def Gives.Yt {f t:Nat} [h:Dx P s f o t] [h1:OneCell P t] (hx:ρ x=.agg cs.toArray) (hv:cs[o]? =some v):Gives P ρ (.field s x f) ty w v w:=λ_ _ _ _=>by
 obtain⟨fields,hf,hm⟩:=h.und;obtain⟨fl,Mr,he⟩:=zbc.1 hm;simp only[Prod.mk.injEq]at he;obtain⟨Lj,VD⟩:=he;subst VD;subst Lj;simp[execOp,hx,Instr.field,run_underlying hf,Mr,asAgg,Dy (P:=P) (w:=w) (t:=fl.type) hv]
def Gives.ah2 {f t k:Nat} [h:Dx P s f o t] [h1:Agg P t k] (hx:ρ x=.agg cs.toArray) (hu:(cs.drop o).take k=us):Gives P ρ (.field s x f) ty w (.agg us.toArray) w:=λ_ _ _ _=>by
 obtain⟨fields,hf,hm⟩:=h.und;obtain⟨fl,Mr,he⟩:=zbc.1 hm;simp only[Prod.mk.injEq]at he;obtain⟨Lj,VD⟩:=he;subst VD;subst Lj;simp[execOp,hx,Instr.field,run_underlying hf,Mr,asAgg,J7 (P:=P) (w:=w) (t:=fl.type) (k:=k) hu]
def Gives.akJ {t e:Nat} [h:zM P t m e] [h1:OneCell P e] (hx:ρ x=.agg cs.toArray) (hy:ρ y=.int k i) (hi:i<m) (hv:cs[i]? =some v):Gives P ρ (.index t x y) ty w v w:=λ_ _ _ _=>by
 have e1:(0:Int)<=(i:Int)/\(i:Int)<(m:Int):=oM;simp[execOp,hx,hy,Instr.index,asIntOf,run_underlying h.und,e1,hi,h1.size,Dy (P:=P) (w:=w) (t:=e) hv]
def Gives.zu {t:Td} [h:lX P t] {i:Nat} (hx:ρ x=str l) (hy:ρ y=.int k i) (hi:i<l.length):Gives P ρ (.index t x y) ty w (.int .u8 (l.getD i 0).toNat) w:=
 Gives.arn hx hy (by rw[zaz,zab hi];rfl)
def Gives.afd {U:Td} {α:Type} [DecidableEq α] {enc:α->LV} [h:EqData P T α enc] (a b:α) (hx:ρ x=.agg (enc a).toArray) (hy:ρ y=.agg (enc b).toArray):Gives P ρ (.binOp .eql T x y U) ty w (.bool (decide (a=b))) w:=
 .bin hx hy (λx y=>run_eqGuard_agg w .eql T x y _ _ h.guard) (by rw[run_eql_struct,h.run];rfl)
def Gives.akK {U:Td} {α:Type} [DecidableEq α] {enc:α->LV} [h:EqData P T α enc] (a b:α) (hx:ρ x=.agg (enc a).toArray) (hy:ρ y=.agg (enc b).toArray):Gives P ρ (.binOp .neq T x y U) ty w (.bool (decide (a≠b))) w:=
 .bin hx hy (λx y=>run_eqGuard_agg w .neq T x y _ _ h.guard) (by rw[run_neq_struct,h.run];simp[Result.andThen])
end gives
variable {l:List HP} {f:FuncId} {a:HP} {E:Td}
def Turn (F:NP) (q:HP) (w w':Wd):Prop:=Kept F w w'/\∃F',q.ok F' w'/\∀b,F' b->F b\/w.heap.size<=b
section
variable {P:Program} {r:Option Nat} {n:Nat} {ops:AO} {Q:Post} {rest:LO} {σ:St} {w w' w0:Wd} {S F:NP} {rs:List HP} {p q:HP} {put:HP->List HP} {op:Op} {ty:Td} {pos:String} {after:Array Edge}
def DC:(je [p]).ok F w↔p.ok F w:=by
 constructor
 .rintro⟨F1,F2,hF,hd,hp,⟨_,h2⟩⟩
  have :F=F1:=funext λb=>propext ((hF b).trans ⟨λh=>h.elim id λh=>(h2 b h).elim,.inl⟩);rw[this];exact hp
 intro h;exact⟨F,λ_=>False,λb=>sM,λ_ _ h=>h,h,trivial,λ_ h=>h⟩
def Sep.bW (h:p.ok F w):Sep w F [p] w:=Sep.start [p] (DC.2 h)
def Sep.turn (h:Sep w0 F [p] w):Turn F p w0 w:=by
 obtain⟨h1,F',hF,hs⟩:=h;exact⟨h1,F',DC.1 hF,hs⟩
def Turn.refl (h:p.ok F w):Turn F p w w:=⟨Kept.refl _ _,F,h,λ_ hb=>.inl hb⟩
def Sep.Ci {b c d e f g:HP} (h:Sep w0 S (a::b::c::d::e::f::g::p::l) w):Sep w0 S (p::a::b::c::d::e::f::g::l) w:=Sep.front (l1:=[a,b,c,d,e,f,g]) h
def Sep.amZ {b c d e f g i:HP} (h:Sep w0 S (a::b::c::d::e::f::g::i::p::l) w):Sep w0 S (p::a::b::c::d::e::f::g::i::l) w:=Sep.front (l1:=[a,b,c,d,e,f,g,i]) h
def Sep.am0 {b c d e f g i j:HP} (h:Sep w0 S (a::b::c::d::e::f::g::i::j::p::l) w):Sep w0 S (p::a::b::c::d::e::f::g::i::j::l) w:=Sep.front (l1:=[a,b,c,d,e,f,g,i,j]) h
def Sep.alV (h:Sep w0 S (p::a::l) w):Sep w0 S (a::p::l) w:=h.aF
def Sep.GK {b:HP} (h:Sep w0 S (p::a::b::l) w):Sep w0 S (a::b::p::l) w:=h.aO.aO
def Sep.first (h:Sep w0 S (p::rs) w):Sep w0 S [p] w:=by
 induction rs with
 | nil=>exact h
 | cons a rs ih=>exact ih (h.aF.bI)
def Sep.firsts {l rs:List HP} (h:Sep w0 S (l++rs) w):Sep w0 S l w:=by
 have:=(Sep.bundle h).first.parts
 rwa [zbt]at this
def eG
    (hc:aQ P f vals w λv' w'=>v'=v/\w=w') (hv:xs.map (evF σ)=vals:=by exact rfl) (hd:Nat.blt d n=true:=by exact rfl)
    (h:FL P r n ops Q rest (upd σ d v) w) (he:qz P f:=by exact eT):
    FL P r n ops Q (⟨some d,.call {callee:=.value (.func f),args:=xs.toArray,argTypes:=ats},ty,pos,after,none⟩::rest) σ w:=
  aL hc hv hd λv' w' ⟨hx,hw⟩=>by subst hx;subst hw;exact h
def dM {d b o:Nat} [OneCell P T] {cs:LV} {v:Value} (hb:w.heap[b]? =some (.cells cs.toArray E (0,0))) (hx:evF σ x=.pointer (some ⟨b,o,none⟩):=by exact rfl)
    (hv:cs[o]? =some v:=by exact rfl) (hd:Nat.blt d n=true:=by exact rfl) (h:FL P r n ops Q rest (upd σ d v) w):
    FL P r n ops Q (⟨some d,.load T x,ty,pos,after,none⟩::rest) σ w:=dD (Gives.nu hx hb hv) hd h
def Ot {vals:LV} (H:Sep w0 S rs w) (hat:At rs p put)
    (hc: ∀F,p.ok F w->(∀b,F b->S b\/w0.heap.size<=b)->aQ P f vals w λv' w'=>v'=v/\Turn F q w w') (hv:xs.map (evF σ)=vals:=by exact rfl) (hd:Nat.blt d n=true:=by exact rfl)
    (h: ∀w',Sep w0 S (put q) w'->FL P r n ops Q rest (upd σ d v) w') (he:qz P f:=by exact eT):
    FL P r n ops Q (⟨some d,.call {callee:=.value (.func f),args:=xs.toArray,argTypes:=ats},ty,pos,after,none⟩::rest) σ w:=by
  obtain⟨F,hp,hS,lG⟩:=H.focus hat;refine aL (hc F hp hS) hv hd λv' w' ⟨hx,hk,F',hq,hs⟩=>?_;subst hx;exact h w' (lG w' F' _ hk hq hs)
def Sep.ah3 (h:Sep w0 S (q::rs) w) (hat:At rs p put): ∃F Fq,p.ok F w/\q.ok Fq w/\(∀b,Fq b->¬F b)/\(∀b,F b->S b\/w0.heap.size<=b)/\
    ∀w' F' p',Kept F w w'->p'.ok F' w'->(∀b,F' b->F b\/w.heap.size<=b)->Sep w0 S (q::put p') w':=by
  obtain⟨h1,G,⟨Fq,Fr,hG,hd,hq,hr⟩,hS⟩:=h;have h2:Sep w0 S rs w:=⟨h1,Fr,hr,λb hb=>hS b ((hG b).2 (.inr hb))⟩;obtain⟨l1,l2,rfl,lG⟩:=hat;obtain⟨F,F2,Fb,G8,hp,Vp⟩:=Bq hr;refine⟨F,Fq,hp,hq,λb hb hb2=>hd b hb ((Fb b).2 (.inl hb2)),λb hb=>hS b ((hG b).2 (.inr ((Fb b).2 (.inl hb)))),λw' F' p' hk hp' iC=>?_⟩;have xE:=(je (l1++l2)).low Vp;have amk:=q.low hq;rw[lG];refine⟨h1.trans hk λb hb=>hS b ((hG b).2 (.inr ((Fb b).2 (.inl hb)))),λb=>Fq b\/(F' b\/F2 b),⟨Fq,λb=>F' b\/F2 b,λb=>Iff.rfl,λb hb hb2=>?_,q.loc hk.size (λb hb=>hk.block b (amk b hb) λhf=>hd b hb ((Fb b).2 (.inl hf))) hq,?_⟩,?_⟩
  . rcases hb2 with hb2 | hb2
    . rcases iC b hb2 with h | h
      . exact hd b hb ((Fb b).2 (.inl h))
      have:=amk b hb;omega
    exact hd b hb ((Fb b).2 (.inr hb2))
  . refine Ew (F1:=F') (F2:=F2) (λb=>Iff.rfl) (λb hb hb2=>?_) hp' ((je (l1++l2)).loc hk.size (λb hb=>hk.block b (xE b hb) (λh1=>G8 b h1 hb)) Vp)
    rcases iC b hb with h | h
    . exact G8 b h hb2
    have:=xE b hb2;omega
  rintro b (hb | hb | hb)
  . exact hS b ((hG b).2 (.inl hb))
  . rcases iC b hb with h | h
    . exact hS b ((hG b).2 (.inr ((Fb b).2 (.inl h))))
    exact .inr (zck h1.size h)
  exact hS b ((hG b).2 (.inr ((Fb b).2 (.inr hb))))
def HP.stay (h:p.ok F w) (hk:Kept noB w w'):p.ok F w':=p.loc hk.size (λb hb=>hk.block b (p.low h b hb) id) h
def GL {α:Type} {val:α->Value} {φ:α->Prop} {q:α->HP} (H:Sep w0 S rs w)
    (hc:aQ P f vals w λv w'=>∃x,v=val x/\φ x/\Turn noB (q x) w w') (hv:xs.map (evF σ)=vals:=by exact rfl) (hd:Nat.blt d n=true:=by exact rfl)
    (h: ∀x w',φ x->Sep w0 S (q x::rs) w'->Kept noB w w'->FL P r n ops Q rest (upd σ d (val x)) w') (he:qz P f:=by exact eT):
    FL P r n ops Q (⟨some d,.call {callee:=.value (.func f),args:=xs.toArray,argTypes:=ats},ty,pos,after,none⟩::rest) σ w:=by
  refine aL hc hv hd λv w' ⟨x,hx,hφ,hk,F',hq,hs⟩=>?_;subst hx;exact h x w' hφ (H.new hk hq λb hb=>(hs b hb).resolve_left id) hk
end
section
variable {P:Program} {r:Option Nat} {n:Nat} {ops:AO} {Q:Post} {lv:List Bool} {pd pd':LNB} {σ:St} {w w' w0:Wd} {S F:NP} {rs:List HP} {p q:HP} {put:HP->List HP} {op:Op} {ty:Td} {pos:String} {after:Array Edge} {guard:Option (Nat×Bool)}
def ah4 {id:Nat} {l:LO} (hm:P.follows .mixedOrders=true) (H:Sep w0 S rs w) (fB:dX n l.toArray=true:=by kernel_rfl) (h:dX n l.toArray=true->∀w',Sep w0 S rs w'->FG P r n l.toArray Q (List.replicate l.length false) [] σ w'):FW P r n (.region id l.toArray true) Q σ w:=
 akg hm fB λw' hk=>h fB w' (H.keep hk)
def fK {t:Nat} {φ:Prop} [Decidable φ] (hb:σ.get t=.bool (decide φ)) (h1:φ->FG P r n ops Q lv pd (upd σ t (.bool true)) w) (h0: ¬φ->FG P r n ops Q lv pd (upd σ t (.bool false)) w):FG P r n ops Q lv pd σ w:=by
 by_cases hp:φ
 .have:=h1 hp
  rw[show Value.bool true=σ t from by rw[hb,zap hp],uT]at this;exact this
 have:=h0 hp;rw[show Value.bool false=σ t from by rw[hb,zal hp],uT]at this;exact this
def GN {t:Nat} {b:Bool} (hb:σ.get t=.bool b) (h1:b=true->FG P r n ops Q lv pd (upd σ t (.bool true)) w) (h0:b=false->FG P r n ops Q lv pd (upd σ t (.bool false)) w):FG P r n ops Q lv pd σ w:=by
 cases b
 .have:=h0 rfl
  rw[show Value.bool false=σ t from hb.symm,uT]at this;exact this
 have:=h1 rfl;rw[show Value.bool true=σ t from hb.symm,uT]at this;exact this
def am1 (fB:dX n ops=true) (i:Nat) (ho:ops[i]? =some ⟨some d,.move x,ty,pos,after,guard⟩:=by exact rfl)
    (hw:Region.wanted ⟨some d,.move x,ty,pos,after,guard⟩ (bY ops σ)=true:=by kernel_rfl) (hv:evF σ x=v:=by exact eV) (dN:lN ops lv (pd.map (·.1)) i=true:=by kernel_rfl)
    (h:FG P r n ops Q (lv.set i true) ((i,true)::pd) (upd σ d v) w):FG P r n ops Q lv pd σ w:=FGp fB i ho hw (λ_=>Gives.move hv) dN h
def vR (fB:dX n ops=true) (i:Nat) [OneCell P T] (H:Sep w0 S rs w) (ho:ops[i]? =some ⟨some d,.load T x,ty,pos,after,guard⟩:=by exact rfl)
    (hw:Region.wanted ⟨some d,.load T x,ty,pos,after,guard⟩ (bY ops σ)=true:=by kernel_rfl) (hx:evF σ x=.pointer (some ⟨b,o,none⟩):=by exact rfl)
    (hat:At rs (blk b cs E) put:=by exact aT) (hv:cs[o]? =some v:=by exact rfl) (dN:lN ops lv (pd.map (·.1)) i=true:=by kernel_rfl)
    (h:FG P r n ops Q (lv.set i true) ((i,false)::pd) (upd σ d v) w):FG P r n ops Q lv pd σ w:=FGl fB i ho hw (Gives.nu hx (H.obj hat) hv) dN h
def akL (fB:dX n ops=true) (i:Nat) {k:Nat} [Agg P T k] {cs us:LV} (H:Sep w0 S rs w) (ho:ops[i]? =some ⟨some d,.load T x,ty,pos,after,guard⟩:=by exact rfl)
    (hw:Region.wanted ⟨some d,.load T x,ty,pos,after,guard⟩ (bY ops σ)=true:=by kernel_rfl) (hx:evF σ x=.pointer (some ⟨b,o,none⟩):=by exact rfl)
    (hat:At rs (blk b cs E) put:=by exact aT) (hu:(cs.drop o).take k=us) (hk:us.length=k) (dN:lN ops lv (pd.map (·.1)) i=true:=by kernel_rfl)
    (h:FG P r n ops Q (lv.set i true) ((i,false)::pd) (upd σ d (.agg us.toArray)) w):FG P r n ops Q lv pd σ w:=FGl fB i ho hw (Gives.Ky hx (H.obj hat) hu hk) dN h
def iL {i d b o:Nat} [OneCell P T] {l:LNB} (H:Sep w0 S rs w) (ho:ops[i]? =some ⟨some d,.load T x,ty,pos,after,guard⟩:=by exact rfl)
    (hw:Region.wanted ⟨some d,.load T x,ty,pos,after,guard⟩ (bY ops σ)=true:=by kernel_rfl) (hx:evF σ x=.pointer (some ⟨b,o,none⟩):=by exact rfl)
    (hat:At rs (blk b cs E) put:=by exact aT) (hv:cs[o]? =some v:=by exact rfl) (hd:σ d=v:=by exact rfl) (h:jo P ops σ w l):jo P ops σ w ((i,false)::l):=
  bQ ho hw (Gives.nu hx (H.obj hat) hv) hd h
def l8 (fB:dX n ops=true) (e:Nat) (pd':LNB) [OneCell P T] {cs':LV} (H:Sep w0 S rs w) (ho:ops[e]? =some ⟨none,.store T x y,ty,pos,after,guard⟩:=by exact rfl)
    (hw:Region.wanted ⟨none,.store T x y,ty,pos,after,guard⟩ (bY ops σ)=true:=by kernel_rfl) (hx:evF σ x=.pointer (some ⟨b,o,none⟩):=by exact rfl)
    (hy:evF σ y=v:=by exact eV) (hv:v.oneCell'=true:=by exact rfl)
    (hat:At rs (blk b cs E) put:=by exact aT) (aX:Nat.blt o cs.length=true:=by exact rfl)
    (hs:cs.set o v=cs':=by first | (simp only[zdf,zfq];rfl) | exact rfl) (dN:fE ops lv (pd.map (·.1)) e=true:=by kernel_rfl) (oH:pd.filter (λp=> !((above ops e).contains p.1))=pd':=by exact pD)
    (h: ∀w',Sep w0 S (put (blk b cs' E)) w'->jo P ops σ w' pd'/\FG P r n ops Q (lv.set e true) pd' σ w'):FG P r n ops Q lv pd σ w:=
  XL fB e pd' ho hw (aar cs' H hx hy hv hat aX hs) dN oH h
def ah5 (fB:dX n ops=true) (i:Nat) (pd':LNB) [hs:dn P t e] {size:Nat} [hc:Cells P e size bytes] [hz:Zero P e z] {v:Value} {k m c:Nat} {xs news:LV} {A:OA}
    (H:Sep w0 S rs w) (hr:gZ w A m size news) (h1: ∀u∈news,u.oneCell'=true) (h63:k+m<=maxLen) (hbytes:(k+m)*bytes<=140737488355328)
    (ho:ops[i]? =some ⟨some d,.call {callee:=.builtin .append,args:= #[x,y],argTypes:= #[t,t]},ty,pos,after,guard⟩:=by exact rfl)
    (hw:Region.wanted ⟨some d,.call {callee:=.builtin .append,args:= #[x,y],argTypes:= #[t,t]},ty,pos,after,guard⟩ (bY ops σ)=true:=by kernel_rfl)
    (hx:evF σ x=v:=by exact rfl) (hy:evF σ y=.slice A m c:=by exact rfl) (hat:At rs (vF e size v k xs) put:=by exact aT)
    (Ph:0<size:=by decide) (Es:z.cells.size=size:=by exact rfl) (dN:fE ops lv (pd.map (·.1)) i=true:=by kernel_rfl) (oH:pd.filter (λp=> !((above ops i).contains p.1))=pd':=by exact pD)
    (h: ∀v' w',Sep w0 S (put (vF e size v' (k+m) (xs++news))) w'->jo P ops (upd σ d v') w' pd'/\FG P r n ops Q (lv.set i true) pd' (upd σ d v') w'):FG P r n ops Q lv pd σ w:=
  vK fB i pd' ho hw (Ap H hx hy hat hr h1 Ph Es h63 hbytes) dN oH h
def UO (fB:dX n ops=true) (i:Nat) (pd':LNB) {parts:List (Nat×Od)} {out:LV} {size:Nat} [hs:dn P t e] [hc:Cells P e size bytes] [hz:Zero P e z] (H:Sep w0 S rs w) (hE:eu (evF σ) size xs out)
    (ho:ops[i]? =some ⟨some d,.buildSlice t xs.length parts.toArray,ty,pos,after,guard⟩:=by exact rfl)
    (hw:Region.wanted ⟨some d,.buildSlice t xs.length parts.toArray,ty,pos,after,guard⟩ (bY ops σ)=true:=by kernel_rfl)
    (hp:parts=(xs.zipIdx 0).map λp=>(p.2,p.1):=by exact rfl) (hlen:Nat.ble (xs.length*size) 16777216=true:=by exact rfl)
    (dN:fE ops lv (pd.map (·.1)) i=true:=by kernel_rfl) (oH:pd.filter (λp=> !((above ops i).contains p.1))=pd':=by exact pD)
    (h: ∀b w',Sep w0 S (blk b out e::rs) w'->jo P ops (upd σ d (.slice (some ⟨b,0,none⟩) xs.length xs.length)) w' pd'/\FG P r n ops Q (lv.set i true) pd' (upd σ d (.slice (some ⟨b,0,none⟩) xs.length xs.length)) w'):FG P r n ops Q lv pd σ w:=
  vK fB i pd' (C:=λv w'=>∃b,v=.slice (some ⟨b,0,none⟩) xs.length xs.length/\Sep w0 S (blk b out e::rs) w') ho hw ⟨_,_,Gives.buildSlice hE hp hlen,_,rfl,H.alloc _⟩ dN oH λv w' ⟨b,hv,af0⟩=>by subst hv;exact h b w' af0
def Mi (fB:dX n ops=true) (e:Nat) (pd':LNB) (H:Sep w0 S rs w) (hc:aQ P f vals w λv' w'=>v'=v/\w=w')
    (ho:ops[e]? =some ⟨some d,.call {callee:=.value (.func f),args:=xs.toArray,argTypes:=ats},ty,pos,after,guard⟩:=by exact rfl)
    (hw:Region.wanted ⟨some d,.call {callee:=.value (.func f),args:=xs.toArray,argTypes:=ats},ty,pos,after,guard⟩ (bY ops σ)=true:=by kernel_rfl) (hv:xs.map (evF σ)=vals:=by exact rfl) (dN:fE ops lv (pd.map (·.1)) e=true:=by kernel_rfl)
    (oH:pd.filter (λp=> !((above ops e).contains p.1))=pd':=by exact pD) (h: ∀w',Sep w0 S rs w'->jo P ops (upd σ d v) w' pd'/\FG P r n ops Q (lv.set e true) pd' (upd σ d v) w') (he:qz P f:=by exact eT):FG P r n ops Q lv pd σ w:=
  p8 fB e pd' ho hw hc hv dN oH λv' w' ⟨h1,h2⟩=>by subst h1;subst h2;exact h w H
def eB (fB:dX n ops=true) (e:Nat) (pd':LNB) {f:FuncId} {α:Type} {val:α->Value} {φ:α->Prop} {q:α->HP} (H:Sep w0 S rs w)
    (hc:aQ P f vals w λv w'=>∃x,v=val x/\φ x/\Turn noB (q x) w w')
    (ho:ops[e]? =some ⟨some d,.call {callee:=.value (.func f),args:=xs.toArray,argTypes:=ats},ty,pos,after,guard⟩:=by exact rfl)
    (hw:Region.wanted ⟨some d,.call {callee:=.value (.func f),args:=xs.toArray,argTypes:=ats},ty,pos,after,guard⟩ (bY ops σ)=true:=by kernel_rfl) (hv:xs.map (evF σ)=vals:=by exact rfl) (dN:fE ops lv (pd.map (·.1)) e=true:=by kernel_rfl)
    (oH:pd.filter (λp=> !((above ops e).contains p.1))=pd':=by exact pD) (h: ∀x w',φ x->Sep w0 S (q x::rs) w'->Kept noB w w'->jo P ops (upd σ d (val x)) w' pd'/\FG P r n ops Q (lv.set e true) pd' (upd σ d (val x)) w') (he:qz P f:=by exact eT):FG P r n ops Q lv pd σ w:=by
  refine p8 fB e pd' ho hw hc hv dN oH λv' w' ⟨x,h1,hφ,hk,F',hq,hs⟩=>?_;subst h1;exact h x w' hφ (H.new hk hq λb hb=>(hs b hb).resolve_left id) hk
end
section
variable {P:Program} {r:Option Nat} {n:Nat} {ops:AO} {Q:Post} {lv:List Bool} {pd pd':LNB} {rest:LO} {σ:St} {w w' w0:Wd} {S F:NP} {rs:List HP} {put:HP->List HP} {op:Op} {ty:Td} {pos:String} {after:Array Edge} {guard:Option (Nat×Bool)}
def Gives.ao1 [hs:dn P t e] [hc:Cells P e 1 bytes] [hz:Zero P e z] {k:Nat} (hx:ρ x=.int .i64 k) (hy:ρ y=.int .i64 k) (hzc:z.cells= #[z]) (hb:bytes*k<=281474976710656) (hk:k<=maxLen):
    Gives P ρ (.makeSlice t x y) ty w (.slice (some ⟨w.heap.size,0,none⟩) k k) (w.alloc (.cells (List.replicate k z).toArray e)):=λ_ _ _ _=>by
  obtain⟨i,hi,qE⟩:=zbc.1 hc.size;simp only[Prod.mk.injEq]at qE
  have xq:i.zero=some z:=by
    have:=hz.run w;simp[zeroValue,typeInfo,hi]at this;cases hq:i.zero with
    | none=>simp[hq]at this
    | some u=>simp[hq]at this;rw[this]
  have iw:=run_make (P:=P) w t e i z hs.und hi xq .i64 .i64 (k:Int) (k:Int) oM oM (by rw[qE.2,<-Int.natCast_mul];generalize bytes*k=q at hb ⊢;omega) (by unfold maxLen at hk;omega)
  have hcells:madeCells z.cells ((k:Int).toNat*i.size)=(List.replicate k z).toArray:=by
    rw[hzc,qE.1];have:=toList_madeCells_one z (k*1);simp only[zds];rw[zfd]at this ⊢;rw[<-this]
  rw[hcells]at iw;simp only[execOp,hx,hy,zbj,iw,zan,zbl,zds]
def ah6 [hs:dn P t e] [hc:Cells P e 1 bytes] [hz:Zero P e z] {k:Nat} (H:Sep w0 S rs w) (hk:k<=maxLen) (hb:bytes*k<=281474976710656) (hx:evF σ x=.int .i64 k:=by exact rfl) (hy:evF σ y=.int .i64 k:=by exact rfl) (hzc:z.cells= #[z]:=by exact rfl) (hd:Nat.blt d n=true:=by exact rfl)
    (h: ∀b w',Sep w0 S (blk b (List.replicate k z) e::rs) w'->Kept noB w w'->FL P r n ops Q rest (upd σ d (.slice (some ⟨b,0,none⟩) k k)) w'):
    FL P r n ops Q (⟨some d,.makeSlice t x y,ty,pos,after,none⟩::rest) σ w:=
  dD (Gives.ao1 hx hy hzc hb hk) hd (h _ _ (H.alloc _) (Kept.alloc _ _))
def Gives.conv {s t:Td} {k j:IntKind} [hs:nk P s j] [ht:nk P t k] {a:Int} (hx:ρ x=.int j a):Gives P ρ (.convert s t x) ty w (.int k (k.wrap a)) w:=
 Gives.aoD (by rw[hs.und];rfl) ht.und hx
def Gives.acL {a:Addr} [h1:OneCell P T] (hx:ρ x=.pointer (some a)) (hc:w.cell? a=some v):Gives P ρ (.load T x) ty w v w:=λ_ _ _ _=>by
 simp[execOp,hx,Instr.loadAt,Instr.sureAddr,loadVar,h1.agg,hc]
def Gives.am2 {k:Nat} {a:Addr} [h1:Agg P T k] (hx:ρ x=.pointer (some a)) (hc: ∀j u,us[j]? =some u->w.cell? (a.add j)=some u) (hk:us.length=k):Gives P ρ (.load T x) ty w (.agg us.toArray) w:=λ_ _ _ _=>by
 have:=run_loadCells_list (P:=P) w a us hc;rw[hk]at this;simp[execOp,hx,Instr.loadAt,Instr.sureAddr,loadVar,h1.agg,h1.size,this]
end
section
variable {w w' w0:Wd} {S:NP} {rs:List HP} {put:HP->List HP}
def Sep.acM {E:Nat} {xs:LV} (h:Sep w0 S rs w) (hat:At rs (vF E s v n xs) put) (hn:0<n):
    ∃g c rest,v=.slice (some ⟨g,0,none⟩) n c/\(xs++rest).length=c*s/\xs.length=n*s/\n<=c/\c<=maxLen/\Sep w0 S (put (blk g (xs++rest) E)) w:=by
  obtain⟨F,hp,hS,lG⟩:=h.focus hat;obtain⟨⟨hl,ho⟩,hF⟩:=hp
  rcases ho with⟨_,h0⟩ | ⟨g,c,cur,hv,_,hh,rW,hmax,Ph,yH⟩
  . omega
  have e:cur=(xs++cur.toList.drop (n*s)).toArray:=by
    rw[<-yH,zbs,Array.toArray_toList]
  refine⟨g,c,cur.toList.drop (n*s),hv,?_,hl,rW,hmax,?_⟩
  . have:=zay Array.size e
    rw[Ph]at this;simpa using this.symm
  refine h.imp hat λF hF=>⟨λb=>?_,?_⟩
  . rw[hF.2 b,hv]
    simp[Value.ownBlock,eq_comm]
  show w.heap[g]? =some (.cells (xs++cur.toList.drop (n*s)).toArray E (0,0))
  rw[hh,<-e]
def Sep.acN {E s n c g:Nat} {xs rest:LV} (h:Sep w0 S rs w) (hat:At rs (blk g (xs++rest) E) put) (hc:(xs++rest).length=c*s) (hl:xs.length=n*s) (rW:n<=c) (hm:c<=maxLen):
    Sep w0 S (put (vF E s (.slice (some ⟨g,0,none⟩) n c) n xs)) w:=
  h.imp hat λF hF=>⟨⟨hl,.inr ⟨g,c,(xs++rest).toArray,rfl,zai _,hF.2,rW,hm,by simpa using hc,by rw[<-hl];simp⟩⟩,λx=>by rw[hF.1 x];simp[Value.ownBlock,eq_comm]⟩
def afe {xs rest:LV} (h:i<xs.length):(xs++rest).set i v=xs.set i v++rest:=by
 rw[List.set_append_left _ _ h]
end
section
variable {P:Program} {r:Option Nat} {n:Nat} {ops:AO} {Q:Post} {lv:List Bool} {pd pd':LNB} {rest:LO} {σ:St} {w w' w0:Wd} {S F:NP} {rs:List HP} {p q p0:HP} {put:HP->List HP} {op:Op} {ty:Td} {pos:String} {after:Array Edge} {guard:Option (Nat×Bool)}
end
def UQ (P:Program) (l:Nat) (xs:LV) (w:Wd) (R:Bool->Wd->Prop):Prop:=
 ∃fn tmps assign body,(Instr.yield l xs.toArray).run P w=.ok (.round l fn tmps assign body) w/\RoundIn (fen none) 0 P l fn tmps assign body w (Ret λv w'=>∃b,v=.bool b/\R b w')
def DF {l:Nat} {R:Bool->Wd->Prop} (hy:evF σ y=.func (.yield l) #[] #[]) (hc:UQ P l vals w R)
    (hv:xs.map (evF σ)=vals) (hd:Nat.blt d n=true) (h: ∀b w',R b w'->FL P r n ops Q rest (upd σ d (.bool b)) w'):
    FL P r n ops Q (⟨some d,.call {callee:=.value y,args:=xs.toArray,argTypes:=ats},ty,pos,after,none⟩::rest) σ w:=λa ha=>
  wpListIn_plain rfl λK hK=>by
    obtain⟨fn,tmps,assign,body,iw,Kq⟩:=hc;refine⟨λ_ _=>trivial,?_⟩;rw[Oper.semAt_eq _ _ _ (λ_ h=>by cases h),ha.eval]
    have e:(execOp (evF σ) ⟨some d,.call {callee:=.value y,args:=xs.toArray,argTypes:=ats},ty,pos,after,none⟩).run P w=.ok (.round l fn tmps assign body) w:=by
      simp[execOp,resolve,hy,Deferred.ofValue,invoke,hv,iw]
    rw[e,Oper.uponIn_round];refine⟨(λh=>by cases h),RoundIn.mono (F:=fen r) Kq λen w'' hr=>?_⟩;cases en with
    | returned v=>obtain⟨b,rfl,hR⟩:=hr;exact hK _ _ (h b w'' hR _ (ha.put (zbe hd) _))
    | _=>exact hr.elim

def aaS (K Kr:Wd->Prop):Post:=λe _ w=>match e with
 | .normal=>K w
 | .ret=>Kr w
 | _=>False
def Ej {K Kr:Wd->Prop} (h:K w):aaS K Kr .normal σ w:=h
def AA {K Kr:Wd->Prop} (h:Kr w):aaS K Kr .ret σ w:=h

def ah7 {l:List ResultVar} {R:Value->Wd->Prop} {vs:LV} {D:Nat} {put:HP->List HP} (H:Sep w0 S rs w) (hat:At rs (Mw.obj D (.deferred (some []))) put) (hR: ∀w',Sep w0 S (put (Mw.obj D (.deferred none))) w'->R (fJ vs) w')
    (h:mV σ l=some vs:=by simp only[mV,zdv,upd_same,upd_ne,ne_eq,Nat.reduceEqDiff,not_false_eq_true];rfl) (hd:σ.ds=[{target:=.collected D,args:= #[]}]:=by exact rfl):Qfn l R .ret σ w:=
  Yp (l:=l) (R:=R) H hat hR h hd
def acO:Op->Bool
 | .buildSlice .. =>true
 | .makeSlice .. =>true
 | _=>false
def akM (ops:AO) (i:Nat):Bool:=match ops[i]? with
 | some o=>acO o.op
 | none=>false
def akN (ops:AO) (M:Nat):List Bool:=(List.range ops.size).map λi=>Nat.blt i M

section
variable (P:Program) (r:Option Nat) (n:Nat) (ops:AO) (Q:Post) (M:Nat) (w0:Wd) (S:NP) (rs:List HP) (β:Nat->Nat)
end

variable {M k i:Nat} {ps:List HP} {β:Nat->Nat} {op:Op} {guard:Option (Nat×Bool)}
def stA (ops:AO) (v:Nat->Value) (σ:St):Nat->St
 | 0=>σ
 | j+1=>sj (stA ops v σ j) (jr ops j) (v j)
def pcs (ops:AO) (β:Nat->Nat) (ob:Nat->Obj) (L:Nat->Bool):Nat->List HP
 | 0=>[]
 | j+1=>if(akM ops j&&L j)=true then obj (β j) (ob j)::pcs ops β ob L j else pcs ops β ob L j
def RV {ob ob':Nat->Obj} {L L':Nat->Bool}: ∀{j:Nat},(∀x,x<j->ob x=ob' x/\(akM ops x&&L x)=(akM ops x&&L' x))->pcs ops β ob L j=pcs ops β ob' L' j
 | 0,_=>rfl
 | j+1,h=>by
  show(if _ then _ else _)=(if _ then _ else _)
  rw[RV λx hx=>h x (Nat.lt_succ_of_lt hx),(h j (zfl j)).1,(h j (zfl j)).2]
def ah8 {v:Nat->Value}: ∀{j:Nat},(stA ops v σ j).ds=σ.ds
 | 0=>rfl
 | j+1=>by show(sj (stA ops v σ j) _ _).ds=_;rw[Fz];exact ah8
def RX {v:Nat->Value} {x:Nat}: ∀{j:Nat},(∀i,i<j->jr ops i≠some x)->stA ops v σ j x=σ x
 | 0,_=>rfl
 | j+1,h=>by
  show sj (stA ops v σ j) _ _ x=_
  rw[iT (h j (zfl j))];exact RX λi hi=>h i (Nat.lt_succ_of_lt hi)
def ah9 {v:Nat->Value} (hd:jr ops i=some d): ∀{j:Nat},i<j->(∀k,k<j->k≠i->jr ops k≠some d)->stA ops v σ j d=v i
 | 0,h,_=>zas h (zdw _)
 | j+1,h,iJ=>by
  show sj (stA ops v σ j) _ _ d=_
  by_cases hji:j=i
  .subst hji;rw[hd];exact upd_same _ _ _
  rw[iT (iJ j (zfl j) hji)];exact ah9 hd (Nat.lt_of_le_of_ne (Nat.le_of_lt_succ h) λe=>hji e.symm) λk hk=>iJ k (Nat.lt_succ_of_lt hk)

def StepA (P:Program) (ops:AO) (w0:Wd) (S:NP) (rs:List HP) (β:Nat->Nat) (i:Nat) (σ:St) (v:Value) (ob:Obj):Prop:=
 ∃o,ops[i]? =some o/\if acO o.op=true then ∀w,Sep w0 S rs w->w.heap.size=β i->(execOp (evF σ) o).run P w=.ok (.value v) (w.alloc ob)else ∀w,Sep w0 S rs w->(execOp (evF σ) o).run P w=.ok (.value v) w

def Fits (ops:AO) (β:Nat->Nat):List Nat->NP
 | [],_=>True
 | i::s,N=>if akM ops i=true then β i=N/\Fits ops β s (N+1)else Fits ops β s N
structure CkA (ops:AO) (M:Nat):Prop where
 le:M<=ops.size
 ug: ∀i,i<M->∃o d,ops[i]? =some o/\o.guard=none/\o.dst=some d
 pr: ∀i,i<M->∀e∈nC ops i,e<i
 lk: ∀i,i<M->∀k,k<M->∀d,jr ops k=some d->d∈looks ops i->k∈nC ops i
 ds: ∀i,i<M->∀k,k<M->i≠k->∀d,jr ops k=some d->jr ops i≠some d
 ab: ∀j,M<=j->j<ops.size->∀i,i<M->i∈above ops j
structure ao2 (P:Program) (r:Option Nat) (n:Nat) (ops:AO) (Q:Post) (M:Nat) (w0:Wd) (S:NP) (rs:List HP) (σ:St) (lr:Array Bool) (a:Act) (w:Wd):Prop where
 sz:lr.size=ops.size
 cl: ∀i,lr.getD i false=true->∀e∈nC ops i,lr.getD e false=true
 hi: ∀j,M<=j->j<ops.size->lr.getD j true=false
 fut: ∀s:List Nat,s.Nodup->(∀i,i∈s↔i<M/\lr.getD i true=false)->∃β,Fits ops β s w.heap.size/\∃v ob,
  (∀j,j<M->StepA P ops w0 S rs β j (stA ops v σ j) (v j) (ob j))/\(∀w',Sep w0 S (pcs ops β ob (λ_=>true) M++rs) w'->FG P r n ops Q (akN ops M) [] (stA ops v σ M) w')/\
  (∃σr,Rep n σr a/\σr.ds=σ.ds/\(∀i,i<M->lr.getD i true=true->∀d,jr ops i=some d->σr d=v i)/\∀x,(∀i,i<M->lr.getD i true=true->jr ops i≠some x)->σr x=σ x)/\
  Sep w0 S (pcs ops β ob (λi=>lr.getD i true) M++rs) w

def aff (h:i<ops.size):(akN ops M).getD i true=Nat.blt i M:=by
 simp[akN,zaz,h]
def ao2.fin (dN:CkA ops M) {lr:Array Bool} {a:Act} (h:ao2 P r n ops Q M w0 S rs σ lr a w) (jN: ∀i,i<M->lr.getD i true=true):wpAnyIn (fen r) 0 P .any ops (lift n Q) (left ops lr) lr a w:=by
 obtain⟨β,_,v,ob,_,bX,⟨σr,Fp,Zf,ha,hb⟩,af0⟩:=h.fut [] List.nodup_nil (λi=>⟨(λhi=>by cases hi),λhi=>by have h2:=hi.2;rw[jN i hi.1]at h2;cases h2⟩);rw[RV (ob':=ob) (L':=λ_=>true) λx hx=>⟨rfl,by rw[jN x hx]⟩]at af0
 have hσ:σr=stA ops v σ M:=by
  refine St.abP (λx=>?_) (by rw[Zf,ah8])
  by_cases hx: ∃i,i<M/\jr ops i=some x
  .obtain⟨i,hi,hd⟩:=hx
   rw[ha i hi (jN i hi) x hd,ah9 hd hi λk hk LX=>dN.ds k hk i hi LX x hd]
  have pG: ∀i,i<M->jr ops i≠some x:=λi hi hd=>hx ⟨i,hi,hd⟩;rw[hb x λi hi _=>pG i hi,RX pG]
 subst hσ;refine bX w af0 [] lr a ⟨(λ_ hp=>by cases hp),List.nodup_nil,List.Pairwise.nil,(λ_ hp=>by cases hp),(λ_ hp=>by cases hp),λi hi=>?_,h.sz,by simp[akN],h.cl,⟨_,Fp,rfl,λ_ _=>rfl⟩,(λ_ hp=>by cases hp),(λ_ hp=>by cases hp),(λ_ hp=>by cases hp)⟩;rw[aff hi]
 rcases zdo i M with h1 | h1
 .rw[jN i h1,show Nat.blt i M=true from by rw[Nat.blt_eq];exact h1];rfl
 rw[h.hi i h1 hi,show Nat.blt i M=false from by rw[<-zdq,Nat.blt_eq];omega];rfl
end Go.Proofs.Mw
