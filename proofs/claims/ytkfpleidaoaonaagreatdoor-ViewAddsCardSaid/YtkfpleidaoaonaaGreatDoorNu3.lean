/-
 More rules of the walk. Nothing of a given program stands here.
-/
import Derived.Test.YtkfpleidaoaonaaGreatDoorNu1
import Derived.Test.YtkfpleidaoaonaaGreatDoorNu2
import Derived.Laws.BytesArg
import Derived.Laws.RangeString
import Derived.Laws.Strings
import Derived.Laws.IdiomStrings
import Derived.Laws.StructEq
set_option linter.unusedVariables false
set_option linter.unusedSimpArgs false
namespace Go.Mw
open Go.RowKit
section
variable {P:Program} {r:Option Nat} {n:Nat} {ops:AO} {Q:Post} {rest:LO} {σ:St} {w w0:Wd} {S:NP} {rs:List HP} {put:HP->List HP} {op:Op} {ty:Td} {pos:String} {after:Array Edge}
theorem aC {t:Nat} {p:Prop} [Decidable p] {l:LO} (hb:σ.get t=.bool (decide p)) (h1:p->FL P r n ops Q l (upd σ t (.bool true)) w) (h0: ¬p->FL P r n ops Q l (upd σ t (.bool false)) w):FL P r n ops Q l σ w:=
 iN hb (λh=>h1 (zba h)) (λh=>h0 (of_decide_eq_false h))
theorem aj4 {dst:Option Nat} {j:Nat} {b:Bool} {t:Nat} (hj:(ops[j]?).bind (λo:Oper=>o.dst)=some t) (hb:σ.get t=undef) (hd:Rj n dst=true)
    (h:FL P r n ops Q rest (uV σ dst undef) w):
    FL P r n ops Q (⟨dst,op,ty,pos,after,some (j,b)⟩::rest) σ w:=λa ha=>by
  have h1:=h _ (ha.Qx hd undef)
  have hy:Go.yielded ops a.tmps j=none:=by
    unfold Go.yielded;have hg:=ha.get t;rw[hb]at hg;simp only[hj,zdr];cases hq:a.tmps[t]? with
    | none=>rfl
    | some v=>
      have hv:v=undef:=by simpa[zbm,hq]using hg
      subst hv;rfl
  have hw:Region.wanted ⟨dst,op,ty,pos,after,some (j,b)⟩ (Go.yielded ops a.tmps)=false:=by
    simp[Region.wanted,hy]
  unfold wpListIn;rw[zab (by simp[hw])];exact⟨λ_ _=>trivial,h1⟩
theorem Gives.DN {ρ:Od->Value} {x:Od} {s f k:Nat} [h:cK P s f k] {a:Addr} {j:Nat} (hx:ρ x=.pointer (some (a.add j))):Gives P ρ (.fieldAddr s x f) ty w (.pointer (some (a.add (j+k)))) w:=λ_ _ _ _=>by
 simp only[execOp,hx,zbk,h.run,zas,zbn,add_add]
theorem run_equalIn_map_nil (d:Nat) {T k e:Td} (he:P.underlying T=some (.map k e)) (a:Option Nat):(Op.equalIn (d+1) T (.map a) (.map none)).run P w=.ok a.isNone w:=by
 cases a<;>simp[Op.equalIn,run_underlying he]
theorem Gives.aj5 {ρ:Od->Value} {x y:Od} {T U k e:Td} [hm:IsMap P T k e] {a:Option Nat} (hx:ρ x=.map a) (hy:ρ y=.map none):Gives P ρ (.binOp .eql T x y U) ty w (.bool a.isNone) w:=
 .bin hx hy (λ_ _=>by rw[eqGuard_at_map];rfl) (by
  have :(Op.equal T (.map a) (.map none)).run P w=.ok a.isNone w:=run_equalIn_map_nil 9999 hm.und a;simp[binOp,this])
theorem run_equalIn_slice_nil (d:Nat) {T e:Td} (he:P.underlying T=some (.slice e)) (a:OA) (m c:Nat):(Op.equalIn (d+1) T (.slice a m c) (.slice none 0 0)).run P w=.ok a.isNone w:=by
 cases a<;>simp[Op.equalIn,run_underlying he]
theorem Gives.ahv {ρ:Od->Value} {x y:Od} {T U e:Td} [hm:dD P T e] {a:OA} {m c:Nat} (hx:ρ x=.slice a m c) (hy:ρ y=.slice none 0 0):Gives P ρ (.binOp .eql T x y U) ty w (.bool a.isNone) w:=
 .bin hx hy (λ_ _=>by rw[eqGuard_at_slice];rfl) (by
  have :(Op.equal T (.slice a m c) (.slice none 0 0)).run P w=.ok a.isNone w:=run_equalIn_slice_nil 9999 hm.und a m c;simp[binOp,this])
theorem Gives.extract {ρ:Od->Value} {x:Od} {i:Nat} {vs:Array Value} {v:Value} (hx:ρ x=.tuple vs) (hv:vs[i]? =some v):Gives P ρ (.extract x i) ty w v w:=λ_ _ _ _=>by
 simp[execOp,hx,Instr.extract,hv]
theorem Gives.ahw {ρ:Od->Value} {x:Od} {s t e:Td} [hs:dD P s e] [he:lF P e .u8] [hd:nZ P t] {A:OA} {m c:Nat} {l:L8} (hx:ρ x=.slice A m c) (hr:jB w A m 1 (l.map λu=>Value.int .u8 u.toNat)):Gives P ρ (.convert s t x) ty w (.string ⟨l.toArray⟩) w:=λ_ _ _ _=>by
  have hlen:l.length=m:=by have:=hr.len;simpa using this
  have jG:(convert s t (.slice A m c)).run P w=.ok (.string ⟨l.toArray⟩) w:=by
    rcases A with _ | a
    . have h0:m=0:=by
        rcases zeh m with h0 | h0
        . exact h0
        obtain⟨ad,h,_⟩:=hr.at_ h0;cases h
      have hl:l=[]:=zbi (by rw[hlen,h0]);subst hl;rw[run_convert_bytes_string w s t e none m c hs.und he.und hd.und];rfl
    rw[<-hlen];refine run_convert_bytes_back w s t e a c l hs.und he.und hd.und λj hj=>?_;obtain⟨ad,h,hc⟩:=hr.at_ oM;injection h with h
    subst h;exact hc j _ (by simp[hj])
  simp only[execOp,hx,zbk,jG,zas,zbn]
class apA (P:Program) (f:FuncId):Prop where
 run: ∀args w,(callFunc f args).run P w=((Extern.MapsClone.clone args).run P w).andThen λv w'=>.ok (.value v) w'
def lay (zs:LV) (o:Nat) (us:LV):LV:=zs.take o++us++zs.drop (o+us.length)
theorem Tx (o:Nat): ∀(us:LV) (k:Nat) (zs:LV),o+k+us.length<=zs.length->
    (us.zipIdx k).foldl (fun(cs:Array Value) (x:Value×Nat)=>cs.setIfInBounds (o+x.2) x.1) zs.toArray=(lay zs (o+k) us).toArray
  | [],k,zs,_=>by simp[lay]
  | u::us,k,zs,h=>by
    simp only[List.zipIdx_cons,List.foldl_cons];have e:zs.toArray.setIfInBounds (o+k) u=(zs.set (o+k) u).toArray:=sM;rw[e,Tx o us (k+1) _ (by simp at h ⊢;omega)]
    congr 1
    have:=list_seg_step zs (o+k) u us (by simp at h;omega);unfold lay;simp only[zal];rw[<-Nat.add_assoc];exact this
def Fills (place:Nat->Option (Nat×Nat)) (ρ:Od->Value):List (Nat×Od)->LV->LV->Prop
 | [],zs,out=>zs=out
 | (i,x)::l,zs,out=>∃o us,place i=some (o,us.length)/\(ρ x).cells=us.toArray/\o+us.length<=zs.length/\Fills place ρ l (lay zs o us) out
theorem Nw {place:Nat->Option (Nat×Nat)} {ρ:Od->Value}: ∀{l:List (Nat×Od)} {zs out:LV},Fills place ρ l zs out->Instr.fill place zs.toArray (l.map fun(i,x)=>(i,ρ x))=some out.toArray
 | [],zs,out,h=>by have h:zs=out:=h;subst h;rfl
 | (i,x)::l,zs,out,⟨o,us,h1,h2,h3,h4⟩=>by
  simp only[zax,Instr.fill,h1,h2]
  have e:(us.toArray.zipIdx.foldl (fun(cs:Array Value) (x:Value×Nat)=>cs.setIfInBounds (o+x.2) x.1) zs.toArray)=(lay zs o us).toArray:=by
   have e0:us.toArray.zipIdx=(us.zipIdx 0).toArray:=sM;rw[e0,List.foldl_toArray];exact Tx o us 0 zs (by simpa using h3)
  have e2:(us.toArray.size≠us.length||o+us.toArray.size>zs.toArray.size)=false:=by simp;omega
  simp only[e2];exact(zaw (λz=>Instr.fill place z (l.map fun(i,x)=>(i,ρ x))) e).trans (Nw h4)
theorem Fills.nil {place:Nat->Option (Nat×Nat)} {ρ:Od->Value} {zs:LV}:Fills place ρ [] zs zs:=rfl
theorem aj6 {zs:LV} {o:Nat} {v:Value} (h:o<zs.length):lay zs o [v]=zs.set o v:=by
 unfold lay;rw[List.set_eq_take_append_cons_drop,zac h];simp
theorem Fills.one {place:Nat->Option (Nat×Nat)} {ρ:Od->Value} {i o:Nat} {x:Od} {l:List (Nat×Od)} {v:Value} {zs zs' out:LV} (hp:place i=some (o,1)) (hx:ρ x=v) (hv:v.oneCell'=true) (ho:o<zs.length) (hs:zs.set o v=zs') (h:Fills place ρ l zs' out):Fills place ρ ((i,x)::l) zs out:=by
 subst hs;refine⟨o,[v],hp,?_,ho,by rw[aj6 ho];exact h⟩;rw[hx];cases v<;>first | rfl | cases hv
theorem Fills.many {place:Nat->Option (Nat×Nat)} {ρ:Od->Value} {i o:Nat} {x:Od} {l:List (Nat×Od)} {us zs zs' out:LV} (hp:place i=some (o,us.length)) (hx:ρ x=.agg us.toArray) (ho:o+us.length<=zs.length) (hs:lay zs o us=zs') (h:Fills place ρ l zs' out):Fills place ρ ((i,x)::l) zs out:=by
 subst hs;exact⟨o,us,hp,by rw[hx];rfl,ho,h⟩
class mh (P:Program) (T:Td) (zs:outParam (LV)) (pl:outParam (List (Nat×Nat))):Prop where
 zero: ∀w,(zeroValue T).run P w=.ok (.agg zs.toArray) w
 und: ∃fields:Array Field,P.underlying T=some (.struct fields)/\∀w,(fields.mapM λf=>(do pure (f.offset,<-sizeOf f.type):Sem (Nat×Nat))).run P w=.ok pl.toArray w
theorem Gives.build {ρ:Od->Value} {T:Td} {zs:LV} {pl:List (Nat×Nat)} [hb:mh P T zs pl] {parts:List (Nat×Od)} {out:LV} (h:Fills (λi:Nat=>pl[i]?) ρ parts zs out):Gives P ρ (.build T parts.toArray) ty w (.agg out.toArray) w:=λ_ _ _ _=>by
 obtain⟨fields,hu,Zz⟩:=hb.und;have hf:=Nw h;have hpl':=Zz w;simp only[execOp,Instr.build,zbk,hb.zero,zas,run_underlying hu,hpl',Value.cells,zcl,zbn];have e:(λx:Nat=>pl.toArray[x]?)=λi:Nat=>pl[i]? :=by funext i;simp
 simp only[e,hf,zbn,zas]

theorem aj7 {a us b c:LV} {o:Nat} (ho:a.length=o) (hb:b.length=us.length):lay (a++(b++c)) o us=(a++us)++c:=by
 unfold lay;rw[zej oM,zaf oM,<-zbs a b c,zfe (by simp;omega),zca (by simp;omega),zbr]
def bE (ρ:Od->Value) (size:Nat):List Od->LV->Prop
 | [],out=>out=[]
 | x::l,out=>∃us rest,(ρ x).cells=us.toArray/\us.length=size/\out=us++rest/\bE ρ size l rest
theorem Mt {ρ:Od->Value} {size:Nat}: ∀(l:List Od) (k:Nat) (a z out:LV),a.length=k*size->z.length=l.length*size->bE ρ size l out->
    Fills (λi=>some (i*size,size)) ρ ((l.zipIdx k).map λp=>(p.2,p.1)) (a++z) (a++out)
  | [],k,a,z,out,_,hz,h=>by
    have h:out=[]:=h;subst h;have :z=[]:=zbi (by simpa using hz);subst this;exact rfl
  | x::l,k,a,z,out,ha,hz,⟨us,rest,h1,h2,h3,h4⟩=>by
    subst h3;have hz':z.length=size+l.length*size:=by rw[hz,zal,Nat.add_mul];omega
    refine⟨k*size,us,by rw[h2],h1,by rw[zad,ha,hz',h2];omega,?_⟩;have e:z=z.take size++z.drop size:=(zbx size z).symm;rw[e,aj7 ha (by rw[zag,h2];omega),<-zbs];exact Mt l (k+1) (a++us) (z.drop size) rest (by rw[zad,ha,h2,Nat.add_mul];omega) (by rw[zbu];omega) h4
theorem bE.nil {ρ:Od->Value} {size:Nat}:bE ρ size [] []:=rfl
theorem bE.one {ρ:Od->Value} {x:Od} {l:List Od} {v:Value} {rest:LV} (hx:ρ x=v) (hv:v.oneCell'=true) (h:bE ρ 1 l rest):bE ρ 1 (x::l) (v::rest):=
 ⟨[v],rest,(by rw[hx];cases v<;>first | rfl | cases hv),rfl,rfl,h⟩
theorem bE.many {ρ:Od->Value} {size:Nat} {x:Od} {l:List Od} {us rest:LV} (hx:ρ x=.agg us.toArray) (hl:us.length=size) (h:bE ρ size l rest):bE ρ size (x::l) (us++rest):=
 ⟨us,rest,by rw[hx];rfl,hl,rfl,h⟩
theorem Gives.buildSlice {ρ:Od->Value} {t e:Td} {xs:List Od} {parts:List (Nat×Od)} {out:LV} {size bytes:Nat} [hs:dD P t e] [hc:Cells P e size bytes] {z:Value} [hz:Zero P e z] (hE:bE ρ size xs out) (hp:parts=(xs.zipIdx 0).map λp=>(p.2,p.1)) (hlen:Nat.ble (xs.length*size) 16777216=true):
    Gives P ρ (.buildSlice t xs.length parts.toArray) ty w (.slice (some ⟨w.heap.size,0,none⟩) xs.length xs.length) (w.alloc (.cells out.toArray e)):=λ_ _ _ _=>by
  obtain⟨i,hi,uD⟩:=zbb.1 hc.size;simp only[Prod.mk.injEq]at uD;have qQ:=zbc hlen
  have alE: ∀Z:LV,Z.length=xs.length*size->Instr.fill (λi=>some (i*size,size)) Z.toArray (parts.map fun(i,x)=>(i,ρ x))=some out.toArray:=λZ hZ=>by
    subst hp;exact Nw (Mt xs 0 [] Z out sM hZ hE)
  have rU: ¬(2^24<xs.length*size):=oM
  by_cases h0:xs.length*size=0
  . have:=alE [] (by simp[h0])
    simp at this;simp only[execOp,Instr.buildSlice,zbk,run_underlying hs.und,zas,sizeOf,typeInfo,run_program,hi,zbn,uD.1];simp only[h0,Array.range_zero'];simp;rw[this];simp[newRow]
  obtain⟨Z,hZ⟩: ∃Z:LV,(Array.range (xs.length*size)).map (λx=>z.cells[x%z.cells.size]!)=Z.toArray:=⟨_,(Array.toArray_toList).symm⟩
  have hZl:Z.length=xs.length*size:=by
    have:=zaw Array.size hZ;simpa using this.symm
  simp only[execOp,Instr.buildSlice,zbk,run_underlying hs.und,zas,sizeOf,typeInfo,run_program,hi,zbn,uD.1];simp only[gt_iff_lt,rU,if_false,h0,hz.run,zas,zbk,zbn,zcl,hZ,alE Z hZl];simp[newRow]
theorem pV {d:Nat} {t e:Td} {xs:List Od} {parts:List (Nat×Od)} {out:LV} {size bytes:Nat} [hs:dD P t e] [hc:Cells P e size bytes] {z:Value} [hz:Zero P e z] (H:Sep w0 S rs w) (hE:bE (evF σ) size xs out) (hp:parts=(xs.zipIdx 0).map λp=>(p.2,p.1)) (hlen:Nat.ble (xs.length*size) 16777216=true) (hd:Nat.blt d n=true)
    (h: ∀b w',Sep w0 S (blk b out e::rs) w'->Kept noB w w'->FL P r n ops Q rest (upd σ d (.slice (some ⟨b,0,none⟩) xs.length xs.length)) w'):
    FL P r n ops Q (⟨some d,.buildSlice t xs.length parts.toArray,ty,pos,after,none⟩::rest) σ w:=
  dU (Gives.buildSlice hE hp hlen) hd (h _ _ (H.alloc _) (Kept.alloc _ _))
theorem Sep.qJ {b E m s:Nat} {cs:LV} (H:Sep w0 S rs w) (hat:At rs (blk b cs E) put) (hl:cs.length=m*s):jB w (some ⟨b,0,none⟩) m s cs:=
 ⟨hl,λ_=>⟨_,rfl,λj u hu=>by rw[Addr.add_lit,zds,mY (H.obj hat)];exact hu⟩⟩
end
def str (l:L8):Value:=.string ⟨l.toArray⟩
theorem oZ (s:ByteArray):Value.string s=str s.data.toList:=by cases s;simp[str]
theorem size_mk (l:L8):(⟨l.toArray⟩:ByteArray).size=l.length:=by simp[ByteArray.size]
theorem extract_mk (l:L8) (a b:Nat):(⟨l.toArray⟩:ByteArray).extract a b=⟨((l.take b).drop a).toArray⟩:=by
 apply ByteArray.ext;rw[ByteArray.data_extract];apply Array.ext';rw[Array.toList_extract];simp[zfv,List.drop_take]
theorem aeG (a b:L8):(⟨a.toArray⟩:ByteArray)++⟨b.toArray⟩=⟨(a++b).toArray⟩:=by
 apply ByteArray.ext;rw[ByteArray.data_append];simp
section gives
variable {P:Program} {ρ:Od->Value} {ty:Td} {w w':Wd} {x y z:Od} {a b l:L8}
theorem Gives.aqu {t:Td} [h:nZ P t] (hx:ρ x=str l):Gives P ρ (.call {callee:=.builtin .len,args:= #[x],argTypes:= #[t]}) ty w (.int .i64 l.length) w:=by
 have:=Gives.lenStr (P:=P) (ty:=ty) (w:=w) (t:=t) hx;rw[size_mk]at this;exact this
theorem Gives.aqv {T U:Td} (hx:ρ x=str a) (hy:ρ y=str b):Gives P ρ (.binOp .eql T x y U) ty w (.bool (decide (a=b))) w:=by
 have:=Gives.aqf (P:=P) (ty:=ty) (w:=w) (T:=T) (U:=U) hx hy;rw[ByteArray.toList_mk,ByteArray.toList_mk,show(a==b)=decide (a=b)from by rw[zdj];simp]at this;exact this
theorem Gives.aqw {T U:Td} (hx:ρ x=str a) (hy:ρ y=str b):Gives P ρ (.binOp .neq T x y U) ty w (.bool (decide (a≠b))) w:=by
 have:=Gives.aqg (P:=P) (ty:=ty) (w:=w) (T:=T) (U:=U) hx hy;rw[ByteArray.toList_mk,ByteArray.toList_mk,show(!(a==b))=decide (a≠b)from by rw[zdj];simp]at this;exact this
theorem Gives.aqx {T U:Td} (hx:ρ x=str a) (hy:ρ y=str b):Gives P ρ (.binOp .lss T x y U) ty w (.bool (Op.bytesLess a b)) w:=.bin hx hy (λ_ _=>rfl) (by
 show(Op.stringOp .lss _ _).run P w=_
 simp only[Op.stringOp,ByteArray.toList_mk];rfl)
theorem Gives.Yq {T U:Td} (hx:ρ x=str a) (hy:ρ y=str b) (h:a.length+b.length<=9223372036854775807):Gives P ρ (.binOp .add T x y U) ty w (str (a++b)) w:=.bin hx hy (λ_ _=>rfl) (by
 show(Op.stringOp .add _ _).run P w=_
 simp only[Op.stringOp,size_mk];rw[zab (by show ¬(((a.length+b.length:Nat):Int)>9223372036854775807);omega),aeG];rfl)
theorem Gives.aqy {t:Td} [h:nZ P t] {k:IntKind} {i:Nat} {c:UInt8} (hx:ρ x=str l) (hy:ρ y=.int k i) (hc:l[i]? =some c):Gives P ρ (.index t x y) ty w (.int .u8 c.toNat) w:=λ_ _ _ _=>by
 have bX:=(zbd.1 hc).1
 have e:(⟨l.toArray⟩:ByteArray)[i]? =some c:=by
  rw[getElem?_pos (h:=by rw[size_mk];exact bX)];show some (l.toArray[i])=_
  rw[List.getElem_toArray,<-zaa bX,hc]
 simp only[execOp,Instr.index,hx,hy,str,zbk];simp[asIntOf,run_underlying h.und,e]
theorem Gives.lV {t:Td} [h:nZ P t] {k:IntKind} {i:Nat} (hx:ρ x=str l) (hy:ρ y=.int k i) (hi:i<=l.length):Gives P ρ (.slice t x none (some y) none) ty w (str (l.take i)) w:=λ_ _ _ _=>by
 have e1:(0:Int)<=(i:Int)/\(i:Int)<=((⟨l.toArray⟩:ByteArray).size:Int):=by rw[size_mk];omega
 simp[execOp,hx,hy,str,Instr.sliceAt,Instr.slice,run_underlying h.und,Instr.sliceBounds,Instr.sliceBound,asIntOf,e1,extract_mk,size_mk]
 try omega
theorem Gives.sG {t:Td} [h:nZ P t] {k:IntKind} {i:Nat} (hx:ρ x=str l) (hy:ρ y=.int k i) (hi:i<=l.length):Gives P ρ (.slice t x (some y) none none) ty w (str (l.drop i)) w:=λ_ _ _ _=>by
 have e1:(0:Int)<=(i:Int)/\(i:Int)<=((⟨l.toArray⟩:ByteArray).size:Int):=by rw[size_mk];omega
 simp[execOp,hx,hy,str,Instr.sliceAt,Instr.slice,run_underlying h.und,Instr.sliceBounds,Instr.sliceBound,asIntOf,e1,extract_mk,size_mk]
 try omega
theorem Gives.GJ {t:Td} [h:nZ P t] {k j:IntKind} {i m:Nat} (hx:ρ x=str l) (hy:ρ y=.int k i) (hz:ρ z=.int j m) (hi:i<=m) (hm:m<=l.length):Gives P ρ (.slice t x (some y) (some z) none) ty w (str ((l.take m).drop i)) w:=λ_ _ _ _=>by
 have e1:(0:Int)<=(i:Int)/\(i:Int)<=(m:Int):=oM;have e2:(0:Int)<=(m:Int)/\(m:Int)<=((⟨l.toArray⟩:ByteArray).size:Int):=by rw[size_mk];omega
 simp[execOp,hx,hy,hz,str,Instr.sliceAt,Instr.slice,run_underlying h.und,Instr.sliceBounds,Instr.sliceBound,asIntOf,e1,e2,extract_mk,size_mk,hi,hm]
def Nc (r:Int):L8:=(Utf8.encode r).data.toList
theorem O5 (r:Int):Value.string (Utf8.encode r)=str (Nc r):=by
 unfold Nc str
 congr 1
theorem Gives.ahx {s t:Td} {k:IntKind} [hs:lF P s k] [ht:nZ P t] {n:Int} (hx:ρ x=.int k n):Gives P ρ (.convert s t x) ty w (str (Nc n)) w:=λ_ _ _ _=>by
 rw[<-O5];simp[execOp,hx,convert,run_underlying hs.und,run_underlying ht.und,Conv.intToString]
theorem Gives.amh {s t e:Td} [hs:dD P s e] [he:lF P e .u8] [hd:nZ P t] {A:OA} {m c:Nat} (hx:ρ x=.slice A m c) (hr:jB w A m 1 (l.map λu=>Value.int .u8 u.toNat)):Gives P ρ (.convert s t x) ty w (str l) w:=Gives.ahw hx hr
end gives
section rules
variable {P:Program} {r:Option Nat} {n:Nat} {ops:AO} {Q:Post} {rest:LO} {σ:St} {w w' w0:Wd} {S:NP} {rs:List HP} {put:HP->List HP} {ty:Td} {pos:String} {after:Array Edge} {l:L8}
end rules
class EJ (P:Program) (s f:Nat) (o:outParam Nat) (t:outParam Td):Prop where
 und: ∃fields,P.underlying s=some (.struct fields)/\(fields[f]?).map (λf:Field=>(f.offset,f.type))=some (o,t)
class EqData (P:Program) (T:Td) (α:Type) [DecidableEq α] (enc:α->LV):Prop where
 run: ∀(a b:α) (w:Wd),(Op.equalIn 10000 T (.agg (enc a).toArray) (.agg (enc b).toArray)).run P w=.ok (decide (a=b)) w
 guard:P.eqGuardType P.depth T=false
section gives
variable {P:Program} {ρ:Od->Value} {ty:Td} {w w':Wd} {x y z:Od} {l:L8}
theorem EK {t:Td} [h1:OneCell P t] {cs:LV} {o:Nat} {v:Value} (hv:cs[o]? =some v):(part t cs.toArray o).run P w=.ok v w:=by
 simp[part,h1.agg,hv]
theorem K9 {t k:Td} [h1:Agg P t k] {cs us:LV} {o:Nat} (hu:(cs.drop o).take k=us):(part t cs.toArray o).run P w=.ok (.agg us.toArray) w:=by
 have e:cs.toArray.extract o (o+k)=us.toArray:=by
  subst hu;apply Array.ext';rw[Array.toList_extract];simp[zfv]
 simp only[part,zbk,h1.agg,zas,if_true,h1.size,zbn];rw[e]
theorem Gives.Yr {s f o t:Nat} [h:EJ P s f o t] [h1:OneCell P t] {cs:LV} {v:Value} (hx:ρ x=.agg cs.toArray) (hv:cs[o]? =some v):Gives P ρ (.field s x f) ty w v w:=λ_ _ _ _=>by
 obtain⟨fields,hf,hm⟩:=h.und;obtain⟨fl,Fy,he⟩:=zbb.1 hm;simp only[Prod.mk.injEq]at he;obtain⟨Um,he2⟩:=he;subst he2;subst Um;simp[execOp,hx,Instr.field,run_underlying hf,Fy,asAgg,EK (P:=P) (w:=w) (t:=fl.type) hv]
theorem Gives.ahy {s f o t k:Nat} [h:EJ P s f o t] [h1:Agg P t k] {cs us:LV} (hx:ρ x=.agg cs.toArray) (hu:(cs.drop o).take k=us):Gives P ρ (.field s x f) ty w (.agg us.toArray) w:=λ_ _ _ _=>by
 obtain⟨fields,hf,hm⟩:=h.und;obtain⟨fl,Fy,he⟩:=zbb.1 hm;simp only[Prod.mk.injEq]at he;obtain⟨Um,he2⟩:=he;subst he2;subst Um;simp[execOp,hx,Instr.field,run_underlying hf,Fy,asAgg,K9 (P:=P) (w:=w) (t:=fl.type) (k:=k) hu]
theorem Gives.aj8 {t m e:Nat} [h:mO P t m e] [h1:OneCell P e] {k:IntKind} {i:Nat} {cs:LV} {v:Value} (hx:ρ x=.agg cs.toArray) (hy:ρ y=.int k i) (hi:i<m) (hv:cs[i]? =some v):Gives P ρ (.index t x y) ty w v w:=λ_ _ _ _=>by
 have e1:(0:Int)<=(i:Int)/\(i:Int)<(m:Int):=oM;simp[execOp,hx,hy,Instr.index,asIntOf,run_underlying h.und,e1,hi,h1.size,EK (P:=P) (w:=w) (t:=e) hv]
theorem Gives.CO {t:Td} [h:nZ P t] {k:IntKind} {i:Nat} (hx:ρ x=str l) (hy:ρ y=.int k i) (hi:i<l.length):Gives P ρ (.index t x y) ty w (.int .u8 (l.getD i 0).toNat) w:=
 Gives.aqy hx hy (by rw[zau,zaa hi];rfl)
theorem Gives.aj9 {T U:Td} {α:Type} [DecidableEq α] {enc:α->LV} [h:EqData P T α enc] (a b:α) (hx:ρ x=.agg (enc a).toArray) (hy:ρ y=.agg (enc b).toArray):Gives P ρ (.binOp .eql T x y U) ty w (.bool (decide (a=b))) w:=
 .bin hx hy (λx y=>run_eqGuard_agg w .eql T x y _ _ h.guard) (by rw[run_eql_struct,h.run];rfl)
theorem Gives.Yt {T U:Td} {α:Type} [DecidableEq α] {enc:α->LV} [h:EqData P T α enc] (a b:α) (hx:ρ x=.agg (enc a).toArray) (hy:ρ y=.agg (enc b).toArray):Gives P ρ (.binOp .neq T x y U) ty w (.bool (decide (a≠b))) w:=
 .bin hx hy (λx y=>run_eqGuard_agg w .neq T x y _ _ h.guard) (by rw[run_neq_struct,h.run];simp[Result.andThen])
end gives
def Turn (F:NP) (q:HP) (w w':Wd):Prop:=Kept F w w'/\∃F',q.ok F' w'/\∀b,F' b->F b\/w.heap.size<=b
section
variable {P:Program} {r:Option Nat} {n:Nat} {ops:AO} {Q:Post} {rest:LO} {σ:St} {w w' w0:Wd} {S F:NP} {rs:List HP} {p q:HP} {put:HP->List HP} {op:Op} {ty:Td} {pos:String} {after:Array Edge}
theorem EL {F:NP}:(lC [p]).ok F w↔p.ok F w:=by
 constructor
 .rintro⟨F1,F2,hF,hd,hp,⟨_,h2⟩⟩
  have :F=F1:=funext λb=>propext ((hF b).trans ⟨λh=>h.elim id λh=>(h2 b h).elim,.inl⟩);rw[this];exact hp
 intro h;exact⟨F,λ_=>False,λb=>sM,λ_ _ h=>h,h,trivial,λ_ h=>h⟩
theorem Sep.dZ (h:p.ok F w):Sep w F [p] w:=Sep.start [p] (EL.2 h)
theorem Sep.turn (h:Sep w0 F [p] w):Turn F p w0 w:=by
 obtain⟨h1,F',hF,hs⟩:=h;exact⟨h1,F',EL.1 hF,hs⟩
theorem Turn.refl (h:p.ok F w):Turn F p w w:=⟨Kept.refl _ _,F,h,λ_ hb=>.inl hb⟩
theorem Sep.yL {a b c d e f g p:HP} {l:List HP} (h:Sep w0 S (a::b::c::d::e::f::g::p::l) w):Sep w0 S (p::a::b::c::d::e::f::g::l) w:=Sep.front (l1:=[a,b,c,d,e,f,g]) h
theorem Sep.VJ {a b c d e f g i p:HP} {l:List HP} (h:Sep w0 S (a::b::c::d::e::f::g::i::p::l) w):Sep w0 S (p::a::b::c::d::e::f::g::i::l) w:=Sep.front (l1:=[a,b,c,d,e,f,g,i]) h
theorem Sep.sH {a b c d e f g i j p:HP} {l:List HP} (h:Sep w0 S (a::b::c::d::e::f::g::i::j::p::l) w):Sep w0 S (p::a::b::c::d::e::f::g::i::j::l) w:=Sep.front (l1:=[a,b,c,d,e,f,g,i,j]) h
theorem Sep.ald {a p:HP} {l:List HP} (h:Sep w0 S (p::a::l) w):Sep w0 S (a::p::l) w:=h.aJ
theorem Sep.JR {a b p:HP} {l:List HP} (h:Sep w0 S (p::a::b::l) w):Sep w0 S (a::b::p::l) w:=h.bF.bF
theorem Sep.first (h:Sep w0 S (p::rs) w):Sep w0 S [p] w:=by
 induction rs with
 | nil=>exact h
 | cons a rs ih=>exact ih (h.aJ.eF)
theorem Sep.firsts {l rs:List HP} (h:Sep w0 S (l++rs) w):Sep w0 S l w:=by
 have:=(Sep.bundle h).first.parts
 rwa [zci]at this
theorem gX {d:Nat} {f:FuncId} {xs:List Od} {ats:Array Td} {vals:LV} {v:Value} [he:bC P f]
    (hc:aN P f vals w λv' w'=>v'=v/\w=w') (hv:xs.map (evF σ)=vals:=by exact rfl) (hd:Nat.blt d n=true:=by exact rfl)
    (h:FL P r n ops Q rest (upd σ d v) w):
    FL P r n ops Q (⟨some d,.call {callee:=.value (.func f),args:=xs.toArray,argTypes:=ats},ty,pos,after,none⟩::rest) σ w:=
  aS hc hv hd λv' w' ⟨hx,hw⟩=>by subst hx;subst hw;exact h
theorem ig {d b o:Nat} {x:Od} {T:Td} [OneCell P T] {cs:LV} {E:Td} {v:Value} (hb:w.heap[b]? =some (.cells cs.toArray E (0,0))) (hx:evF σ x=.pointer (some ⟨b,o,none⟩):=by exact rfl)
    (hv:cs[o]? =some v:=by exact rfl) (hd:Nat.blt d n=true:=by exact rfl) (h:FL P r n ops Q rest (upd σ d v) w):
    FL P r n ops Q (⟨some d,.load T x,ty,pos,after,none⟩::rest) σ w:=dU (Gives.xZ hx hb hv) hd h
theorem O6 {d:Nat} {f:FuncId} {xs:List Od} {ats:Array Td} {vals:LV} {v:Value} [he:bC P f] (H:Sep w0 S rs w) (hat:At rs p put)
    (hc: ∀F,p.ok F w->(∀b,F b->S b\/w0.heap.size<=b)->aN P f vals w λv' w'=>v'=v/\Turn F q w w') (hv:xs.map (evF σ)=vals:=by exact rfl) (hd:Nat.blt d n=true:=by exact rfl)
    (h: ∀w',Sep w0 S (put q) w'->FL P r n ops Q rest (upd σ d v) w'):
    FL P r n ops Q (⟨some d,.call {callee:=.value (.func f),args:=xs.toArray,argTypes:=ats},ty,pos,after,none⟩::rest) σ w:=by
  obtain⟨F,hp,hS,nA⟩:=H.focus hat;refine aS (hc F hp hS) hv hd λv' w' ⟨hx,hk,F',hq,hs⟩=>?_;subst hx;exact h w' (nA w' F' _ hk hq hs)
theorem Sep.ahz (h:Sep w0 S (q::rs) w) (hat:At rs p put): ∃F Fq,p.ok F w/\q.ok Fq w/\(∀b,Fq b->¬F b)/\(∀b,F b->S b\/w0.heap.size<=b)/\
    ∀w' F' p',Kept F w w'->p'.ok F' w'->(∀b,F' b->F b\/w.heap.size<=b)->Sep w0 S (q::put p') w':=by
  obtain⟨h1,G,⟨Fq,Fr,hG,hd,hq,hr⟩,hS⟩:=h;have h2:Sep w0 S rs w:=⟨h1,Fr,hr,λb hb=>hS b ((hG b).2 (.inr hb))⟩;obtain⟨l1,l2,rfl,nA⟩:=hat;obtain⟨F,F2,G6,Lx,hp,V7⟩:=CW hr;refine⟨F,Fq,hp,hq,λb hb hb2=>hd b hb ((G6 b).2 (.inl hb2)),λb hb=>hS b ((hG b).2 (.inr ((G6 b).2 (.inl hb)))),λw' F' p' hk hp' jw=>?_⟩;have Ng:=(lC (l1++l2)).low V7;have alF:=q.low hq;rw[nA];refine⟨h1.trans hk λb hb=>hS b ((hG b).2 (.inr ((G6 b).2 (.inl hb)))),λb=>Fq b\/(F' b\/F2 b),⟨Fq,λb=>F' b\/F2 b,λb=>Iff.rfl,λb hb hb2=>?_,q.loc hk.size (λb hb=>hk.block b (alF b hb) λhf=>hd b hb ((G6 b).2 (.inl hf))) hq,?_⟩,?_⟩
  . rcases hb2 with hb2 | hb2
    . rcases jw b hb2 with h | h
      . exact hd b hb ((G6 b).2 (.inl h))
      have:=alF b hb;omega
    exact hd b hb ((G6 b).2 (.inr hb2))
  . refine Gg (F1:=F') (F2:=F2) (λb=>Iff.rfl) (λb hb hb2=>?_) hp' ((lC (l1++l2)).loc hk.size (λb hb=>hk.block b (Ng b hb) (λh1=>Lx b h1 hb)) V7)
    rcases jw b hb with h | h
    . exact Lx b h hb2
    have:=Ng b hb2;omega
  rintro b (hb | hb | hb)
  . exact hS b ((hG b).2 (.inl hb))
  . rcases jw b hb with h | h
    . exact hS b ((hG b).2 (.inr ((G6 b).2 (.inl h))))
    exact .inr (zcp h1.size h)
  exact hS b ((hG b).2 (.inr ((G6 b).2 (.inr hb))))
theorem HP.stay {F:NP} (h:p.ok F w) (hk:Kept noB w w'):p.ok F w':=p.loc hk.size (λb hb=>hk.block b (p.low h b hb) id) h
theorem dx {d:Nat} {f:FuncId} {xs:List Od} {ats:Array Td} {vals:LV} {α:Type} {val:α->Value} {φ:α->Prop} {q:α->HP} [he:bC P f] (H:Sep w0 S rs w)
    (hc:aN P f vals w λv w'=>∃x,v=val x/\φ x/\Turn noB (q x) w w') (hv:xs.map (evF σ)=vals:=by exact rfl) (hd:Nat.blt d n=true:=by exact rfl)
    (h: ∀x w',φ x->Sep w0 S (q x::rs) w'->Kept noB w w'->FL P r n ops Q rest (upd σ d (val x)) w'):
    FL P r n ops Q (⟨some d,.call {callee:=.value (.func f),args:=xs.toArray,argTypes:=ats},ty,pos,after,none⟩::rest) σ w:=by
  refine aS hc hv hd λv w' ⟨x,hx,hφ,hk,F',hq,hs⟩=>?_;subst hx;exact h x w' hφ (H.new hk hq λb hb=>(hs b hb).resolve_left id) hk
end
section
variable {P:Program} {r:Option Nat} {n:Nat} {ops:AO} {Q:Post} {lv:List Bool} {pd pd':LNB} {σ:St} {w w' w0:Wd} {S F:NP} {rs:List HP} {p q:HP} {put:HP->List HP} {op:Op} {ty:Td} {pos:String} {after:Array Edge} {guard:Option (Nat×Bool)}
theorem ahA {id:Nat} {l:LO} (hm:P.follows .mixedOrders=true) (H:Sep w0 S rs w) (gT:fT n l.toArray=true:=by kernel_rfl) (h:fT n l.toArray=true->∀w',Sep w0 S rs w'->FG P r n l.toArray Q (List.replicate l.length false) [] σ w'):FW P r n (.region id l.toArray true) Q σ w:=
 ajJ hm gT λw' hk=>h gT w' (H.keep hk)
theorem fP {t:Nat} {φ:Prop} [Decidable φ] (hb:σ.get t=.bool (decide φ)) (h1:φ->FG P r n ops Q lv pd (upd σ t (.bool true)) w) (h0: ¬φ->FG P r n ops Q lv pd (upd σ t (.bool false)) w):FG P r n ops Q lv pd σ w:=by
 by_cases hp:φ
 .have:=h1 hp
  rw[show Value.bool true=σ t from by rw[hb,zbe hp],xX]at this;exact this
 have:=h0 hp;rw[show Value.bool false=σ t from by rw[hb,zar hp],xX]at this;exact this
theorem AV {t:Nat} {b:Bool} (hb:σ.get t=.bool b) (h1:b=true->FG P r n ops Q lv pd (upd σ t (.bool true)) w) (h0:b=false->FG P r n ops Q lv pd (upd σ t (.bool false)) w):FG P r n ops Q lv pd σ w:=by
 cases b
 .have:=h0 rfl
  rw[show Value.bool false=σ t from hb.symm,xX]at this;exact this
 have:=h1 rfl;rw[show Value.bool true=σ t from hb.symm,xX]at this;exact this
theorem ami (gT:fT n ops=true) (i:Nat) {d:Nat} {x:Od} {v:Value} (ho:ops[i]? =some ⟨some d,.move x,ty,pos,after,guard⟩:=by exact rfl)
    (hw:Region.wanted ⟨some d,.move x,ty,pos,after,guard⟩ (eD ops σ)=true:=by kernel_rfl) (hv:evF σ x=v:=by exact eV) (fq:nO ops lv (pd.map (·.1)) i=true:=by kernel_rfl)
    (h:FG P r n ops Q (lv.set i true) ((i,true)::pd) (upd σ d v) w):FG P r n ops Q lv pd σ w:=FGp gT i ho hw (λ_=>Gives.move hv) fq h
theorem aa6 (gT:fT n ops=true) (i:Nat) {d b o:Nat} {x:Od} {T:Td} [OneCell P T] {cs:LV} {E:Td} {v:Value} (H:Sep w0 S rs w) (ho:ops[i]? =some ⟨some d,.load T x,ty,pos,after,guard⟩:=by exact rfl)
    (hw:Region.wanted ⟨some d,.load T x,ty,pos,after,guard⟩ (eD ops σ)=true:=by kernel_rfl) (hx:evF σ x=.pointer (some ⟨b,o,none⟩):=by exact rfl)
    (hat:At rs (blk b cs E) put:=by exact aT) (hv:cs[o]? =some v:=by exact rfl) (fq:nO ops lv (pd.map (·.1)) i=true:=by kernel_rfl)
    (h:FG P r n ops Q (lv.set i true) ((i,false)::pd) (upd σ d v) w):FG P r n ops Q lv pd σ w:=FGl gT i ho hw (Gives.xZ hx (H.obj hat) hv) fq h
theorem akb (gT:fT n ops=true) (i:Nat) {d b o k:Nat} {x:Od} {T:Td} [Agg P T k] {cs us:LV} {E:Td} (H:Sep w0 S rs w) (ho:ops[i]? =some ⟨some d,.load T x,ty,pos,after,guard⟩:=by exact rfl)
    (hw:Region.wanted ⟨some d,.load T x,ty,pos,after,guard⟩ (eD ops σ)=true:=by kernel_rfl) (hx:evF σ x=.pointer (some ⟨b,o,none⟩):=by exact rfl)
    (hat:At rs (blk b cs E) put:=by exact aT) (hu:(cs.drop o).take k=us) (hk:us.length=k) (fq:nO ops lv (pd.map (·.1)) i=true:=by kernel_rfl)
    (h:FG P r n ops Q (lv.set i true) ((i,false)::pd) (upd σ d (.agg us.toArray)) w):FG P r n ops Q lv pd σ w:=FGl gT i ho hw (Gives.NM hx (H.obj hat) hu hk) fq h
theorem aY {i d b o:Nat} {x:Od} {T:Td} [OneCell P T] {cs:LV} {E:Td} {v:Value} {l:LNB} (H:Sep w0 S rs w) (ho:ops[i]? =some ⟨some d,.load T x,ty,pos,after,guard⟩:=by exact rfl)
    (hw:Region.wanted ⟨some d,.load T x,ty,pos,after,guard⟩ (eD ops σ)=true:=by kernel_rfl) (hx:evF σ x=.pointer (some ⟨b,o,none⟩):=by exact rfl)
    (hat:At rs (blk b cs E) put:=by exact aT) (hv:cs[o]? =some v:=by exact rfl) (hd:σ d=v:=by exact rfl) (h:mI P ops σ w l):mI P ops σ w ((i,false)::l):=
  dN ho hw (Gives.xZ hx (H.obj hat) hv) hd h
theorem qd (gT:fT n ops=true) (e:Nat) (pd':LNB) {b o:Nat} {x y:Od} {T:Td} [OneCell P T] {cs cs':LV} {E:Td} {v:Value} (H:Sep w0 S rs w) (ho:ops[e]? =some ⟨none,.store T x y,ty,pos,after,guard⟩:=by exact rfl)
    (hw:Region.wanted ⟨none,.store T x y,ty,pos,after,guard⟩ (eD ops σ)=true:=by kernel_rfl) (hx:evF σ x=.pointer (some ⟨b,o,none⟩):=by exact rfl)
    (hy:evF σ y=v:=by exact eV) (hv:v.oneCell'=true:=by exact rfl)
    (hat:At rs (blk b cs E) put:=by exact aT) (bX:Nat.blt o cs.length=true:=by exact rfl)
    (hs:cs.set o v=cs':=by first | (simp only[zeg,zgf];rfl) | exact rfl) (fq:gY ops lv (pd.map (·.1)) e=true:=by kernel_rfl) (rC:pd.filter (λp=> !((above ops e).contains p.1))=pd':=by exact pD)
    (h: ∀w',Sep w0 S (put (blk b cs' E)) w'->mI P ops σ w' pd'/\FG P r n ops Q (lv.set e true) pd' σ w'):FG P r n ops Q lv pd σ w:=
  XW gT e pd' ho hw (aaA cs' H hx hy hv hat bX hs) fq rC h
theorem bU (gT:fT n ops=true) (i:Nat) (pd':LNB) {d:Nat} {t e:Td} {xs:List Od} {parts:List (Nat×Od)} {out:LV} {size bytes:Nat} [hs:dD P t e] [hc:Cells P e size bytes] {z:Value} [hz:Zero P e z] (H:Sep w0 S rs w) (hE:bE (evF σ) size xs out)
    (ho:ops[i]? =some ⟨some d,.buildSlice t xs.length parts.toArray,ty,pos,after,guard⟩:=by exact rfl)
    (hw:Region.wanted ⟨some d,.buildSlice t xs.length parts.toArray,ty,pos,after,guard⟩ (eD ops σ)=true:=by kernel_rfl)
    (hp:parts=(xs.zipIdx 0).map λp=>(p.2,p.1):=by exact rfl) (hlen:Nat.ble (xs.length*size) 16777216=true:=by exact rfl)
    (fq:gY ops lv (pd.map (·.1)) i=true:=by kernel_rfl) (rC:pd.filter (λp=> !((above ops i).contains p.1))=pd':=by exact pD)
    (h: ∀b w',Sep w0 S (blk b out e::rs) w'->mI P ops (upd σ d (.slice (some ⟨b,0,none⟩) xs.length xs.length)) w' pd'/\FG P r n ops Q (lv.set i true) pd' (upd σ d (.slice (some ⟨b,0,none⟩) xs.length xs.length)) w'):FG P r n ops Q lv pd σ w:=
  Av gT i pd' (C:=λv w'=>∃b,v=.slice (some ⟨b,0,none⟩) xs.length xs.length/\Sep w0 S (blk b out e::rs) w') ho hw ⟨_,_,Gives.buildSlice hE hp hlen,_,rfl,H.alloc _⟩ fq rC λv w' ⟨b,hv,afC⟩=>by subst hv;exact h b w' afC
theorem Ny (gT:fT n ops=true) (e:Nat) (pd':LNB) {d:Nat} {f:FuncId} {xs:List Od} {ats:Array Td} {vals:LV} {v:Value} [he:bC P f] (H:Sep w0 S rs w) (hc:aN P f vals w λv' w'=>v'=v/\w=w')
    (ho:ops[e]? =some ⟨some d,.call {callee:=.value (.func f),args:=xs.toArray,argTypes:=ats},ty,pos,after,guard⟩:=by exact rfl)
    (hw:Region.wanted ⟨some d,.call {callee:=.value (.func f),args:=xs.toArray,argTypes:=ats},ty,pos,after,guard⟩ (eD ops σ)=true:=by kernel_rfl) (hv:xs.map (evF σ)=vals:=by exact rfl) (fq:gY ops lv (pd.map (·.1)) e=true:=by kernel_rfl)
    (rC:pd.filter (λp=> !((above ops e).contains p.1))=pd':=by exact pD) (h: ∀w',Sep w0 S rs w'->mI P ops (upd σ d v) w' pd'/\FG P r n ops Q (lv.set e true) pd' (upd σ d v) w'):FG P r n ops Q lv pd σ w:=
  fO gT e pd' ho hw hc hv fq rC λv' w' ⟨h1,h2⟩=>by subst h1;subst h2;exact h w H
theorem dL (gT:fT n ops=true) (e:Nat) (pd':LNB) {d:Nat} {f:FuncId} {xs:List Od} {ats:Array Td} {vals:LV} {α:Type} {val:α->Value} {φ:α->Prop} {q:α->HP} [he:bC P f] (H:Sep w0 S rs w)
    (hc:aN P f vals w λv w'=>∃x,v=val x/\φ x/\Turn noB (q x) w w')
    (ho:ops[e]? =some ⟨some d,.call {callee:=.value (.func f),args:=xs.toArray,argTypes:=ats},ty,pos,after,guard⟩:=by exact rfl)
    (hw:Region.wanted ⟨some d,.call {callee:=.value (.func f),args:=xs.toArray,argTypes:=ats},ty,pos,after,guard⟩ (eD ops σ)=true:=by kernel_rfl) (hv:xs.map (evF σ)=vals:=by exact rfl) (fq:gY ops lv (pd.map (·.1)) e=true:=by kernel_rfl)
    (rC:pd.filter (λp=> !((above ops e).contains p.1))=pd':=by exact pD) (h: ∀x w',φ x->Sep w0 S (q x::rs) w'->Kept noB w w'->mI P ops (upd σ d (val x)) w' pd'/\FG P r n ops Q (lv.set e true) pd' (upd σ d (val x)) w'):FG P r n ops Q lv pd σ w:=by
  refine fO gT e pd' ho hw hc hv fq rC λv' w' ⟨x,h1,hφ,hk,F',hq,hs⟩=>?_;subst h1;exact h x w' hφ (H.new hk hq λb hb=>(hs b hb).resolve_left id) hk
end
section
variable {P:Program} {r:Option Nat} {n:Nat} {ops:AO} {Q:Post} {rest:LO} {σ:St} {w w0:Wd} {S:NP} {rs:List HP} {put:HP->List HP} {ty:Td} {pos:String} {after:Array Edge} {op:Op}
theorem Qn {y:Code} (h:FW P r n y Q σ w):FL P r n ops (gu P r n y Q) [] σ w:=zK (aU h)
theorem Sr {id:Nat} {l:LO} {y:Code} (h:FL P r n l.toArray (gu P r n y Q) l σ w):FW P r n (.seq (.region id l.toArray false) y) Q σ w:=fC (Ko h)
theorem Nx {id:Nat} {l:LO} {y:Code} (h:FL P r n l.toArray (gu P r n y Q) l σ w):FL P r n ops (gu P r n (.seq (.region id l.toArray false) y) Q) [] σ w:=zK (aU (fC (Ko h)))
theorem Sk {y:Code} (h:FW P r n y Q σ w):FW P r n .skip (gu P r n y Q) σ w:=ab6 (aU h)
theorem Mv {d:Nat} {x:Od} {v:Value} (h:FL P r n ops Q rest (upd σ d v) w) (hv:evF σ x=v:=by exact eV) (hd:Nat.blt d n=true:=by exact rfl):
    FL P r n ops Q (⟨some d,.move x,ty,pos,after,none⟩::rest) σ w:=ajI hv hd h
theorem Am {d:Nat} {x:Od} {v:Value} (h:FL P r n ops Q rest (upd σ d v) w) (hv:evF σ x=v:=by exact eV) (hd:Nat.blt d n=true:=by exact rfl):
    FL P r n ops Q (⟨some d,.assign x,ty,pos,after,none⟩::rest) σ w:=adZ hv hd h
theorem Pf {d:Nat} {x y z:Od} {v:Value} (h:FL P r n ops Q rest (upd σ d v) w) (hc:evF σ z=.bool false:=by exact rfl) (hv:evF σ y=v:=by exact eV) (hd:Nat.blt d n=true:=by exact rfl):
    FL P r n ops Q (⟨some d,.pick z x y,ty,pos,after,none⟩::rest) σ w:=agM hc hv hd h
theorem On {dst:Option Nat} {j:Nat} {b:Bool} {t:Nat} (h:FL P r n ops Q (⟨dst,op,ty,pos,after,none⟩::rest) σ w) (hj:(ops[j]?).bind (λo:Oper=>o.dst)=some t:=by exact rfl) (hb:σ t=.bool b:=by exact rfl):
    FL P r n ops Q (⟨dst,op,ty,pos,after,some (j,b)⟩::rest) σ w:=akY hj hb h
theorem Ld {d b o:Nat} {x:Od} {T:Td} [OneCell P T] {cs:LV} {E:Td} {v:Value} (H:Sep w0 S rs w) (h:FL P r n ops Q rest (upd σ d v) w) (hx:evF σ x=.pointer (some ⟨b,o,none⟩):=by exact rfl) (hat:At rs (blk b cs E) put:=by exact aT) (hv:cs[o]? =some v:=by exact rfl) (hd:Nat.blt d n=true:=by exact rfl):
    FL P r n ops Q (⟨some d,.load T x,ty,pos,after,none⟩::rest) σ w:=acw H hx hat hv hd h
section
variable {d:Nat} {x y:Od} {T U:Td} {k:IntKind} {a b:Int}
theorem Vl (h:FL P r n ops Q rest (upd σ d (.bool (decide (a<b)))) w) (hx:evF σ x=.int k a:=by exact rfl) (hy:evF σ y=.int k b:=by exact rfl) (hd:Nat.blt d n=true:=by exact rfl):
    FL P r n ops Q (⟨some d,.binOp .lss T x y U,ty,pos,after,none⟩::rest) σ w:=dU (Gives.lss hx hy) hd h
theorem Vx {i:Nat} {vs:Array Value} {v:Value} (h:FL P r n ops Q rest (upd σ d v) w) (hx:evF σ x=.tuple vs:=by exact rfl) (hv:vs[i]? =some v:=by exact rfl) (hd:Nat.blt d n=true:=by exact rfl):
    FL P r n ops Q (⟨some d,.extract x i,ty,pos,after,none⟩::rest) σ w:=dU (Gives.extract hx hv) hd h
theorem Vf {s f k b:Nat} [cK P s f k] (h:FL P r n ops Q rest (upd σ d (.pointer (some ⟨b,k,none⟩))) w) (hx:evF σ x=.pointer (some ⟨b,0,none⟩):=by exact rfl) (hd:Nat.blt d n=true:=by exact rfl):
    FL P r n ops Q (⟨some d,.fieldAddr s x f,ty,pos,after,none⟩::rest) σ w:=dU (Gives.ou hx) hd h
end
end
section
variable {P:Program} {n:Nat} {Q:Post} {σ:St} {w:Wd} {l:List ResultVar} {R:Value->Wd->Prop}
theorem Rb {r:Option Nat} {id:Nat} {y:Code} (h:Q .ret σ w):FW P r n .ret (gy id (gu P r n y Q)) σ w:=fu (dF (fG h))
theorem Rs {r:Option Nat} {y:Code} (h:Q .ret σ w):FW P r n .ret (gu P r n y Q) σ w:=fu (fG h)
end
section
variable {P:Program} {r:Option Nat} {n:Nat} {ops:AO} {Q:Post} {rest:LO} {σ:St} {w:Wd} {ty:Td} {pos:String} {after:Array Edge} {guard:Option (Nat×Bool)} {lv:List Bool} {pd:LNB} {op:Op} {d:Nat} {v:Value}
theorem Gp (gT:fT n ops=true) (i:Nat) (ho:ops[i]? =some ⟨some d,op,ty,pos,after,guard⟩) (hw:Region.wanted ⟨some d,op,ty,pos,after,guard⟩ (eD ops σ)=true) (hg: ∀w,Gives P (evF σ) op ty w v w)
    (h:FG P r n ops Q (lv.set i true) ((i,true)::pd) (upd σ d v) w) (fq:nO ops lv (pd.map (·.1)) i=true:=by kernel_rfl):FG P r n ops Q lv pd σ w:=FGp gT i ho hw hg fq h
theorem Gl (gT:fT n ops=true) (i:Nat) (ho:ops[i]? =some ⟨some d,op,ty,pos,after,guard⟩) (hw:Region.wanted ⟨some d,op,ty,pos,after,guard⟩ (eD ops σ)=true) (hg:Gives P (evF σ) op ty w v w)
    (h:FG P r n ops Q (lv.set i true) ((i,false)::pd) (upd σ d v) w) (fq:nO ops lv (pd.map (·.1)) i=true:=by kernel_rfl):FG P r n ops Q lv pd σ w:=FGl gT i ho hw hg fq h
theorem Gm (gT:fT n ops=true) (i:Nat) {x:Od} (h:FG P r n ops Q (lv.set i true) ((i,true)::pd) (upd σ d v) w) (ho:ops[i]? =some ⟨some d,.move x,ty,pos,after,guard⟩:=by exact rfl)
    (hw:Region.wanted ⟨some d,.move x,ty,pos,after,guard⟩ (eD ops σ)=true:=by kernel_rfl) (hv:evF σ x=v:=by exact eV) (fq:nO ops lv (pd.map (·.1)) i=true:=by kernel_rfl):FG P r n ops Q lv pd σ w:=ami gT i ho hw hv fq h
theorem Vv (hg:Gives P (evF σ) op ty w v w) (h:FL P r n ops Q rest (upd σ d v) w) (hd:Nat.blt d n=true:=by exact rfl):FL P r n ops Q (⟨some d,op,ty,pos,after,none⟩::rest) σ w:=dU hg hd h
theorem Cp {c:Od} {x y:Code} {p:Prop} [Decidable p] (hc:evF σ c=.bool (decide p)) (ht:p->FW P r n x Q σ w) (hf: ¬p->FW P r n y Q σ w):FW P r n (.cond c x y) Q σ w:=afO hc ht hf
theorem Cd {c:Od} {x y:Code} {t:Bool} (hc:evF σ c=.bool t) (ht:t=true->FW P r n x Q σ w) (hf:t=false->FW P r n y Q σ w):FW P r n (.cond c x y) Q σ w:=Nk hc ht hf
end
open Go
/-! Goals told by their kind. -/
section
variable {P:Program} {ρ:Od->Value} {ty:Td} {w w':Wd} {v:Value} {x y u:Od}
theorem aqz {o:BinOp} {T U:Td} (h:Gives P ρ (.binOp o T x y U) ty w v w'):Gives P ρ (.binOp o T x y U) ty w v w':=h
theorem aqA {T U:Td} (h:Gives P ρ (.binOp .eql T x y U) ty w v w'):Gives P ρ (.binOp .eql T x y U) ty w v w':=h
theorem aqB {T U:Td} (h:Gives P ρ (.binOp .neq T x y U) ty w v w'):Gives P ρ (.binOp .neq T x y U) ty w v w':=h
theorem amj {s f:Nat} (h:Gives P ρ (.fieldAddr s x f) ty w v w'):Gives P ρ (.fieldAddr s x f) ty w v w':=h
theorem aod {b:Builtin} {xs:Array Od} {ts:Array Td} (h:Gives P ρ (.call {callee:=.builtin b,args:=xs,argTypes:=ts}) ty w v w'):Gives P ρ (.call {callee:=.builtin b,args:=xs,argTypes:=ts}) ty w v w':=h
theorem aoe {s t:Td} (h:Gives P ρ (.convert s t x) ty w v w'):Gives P ρ (.convert s t x) ty w v w':=h
theorem amk {t:Td} {a b c:Option Od} (h:Gives P ρ (.slice t x a b c) ty w v w'):Gives P ρ (.slice t x a b c) ty w v w':=h
theorem aof {t:Td} (h:Gives P ρ (.indexAddr t x y) ty w v w'):Gives P ρ (.indexAddr t x y) ty w v w':=h
theorem iUn {o:UnOp} {T:Td} (h:Gives P ρ (.unOp o T x) ty w v w'):Gives P ρ (.unOp o T x) ty w v w':=h
theorem aog (h:Gives P ρ (.pick u x y) ty w v w'):Gives P ρ (.pick u x y) ty w v w':=h
end
theorem gq {p:Prop} (h:p:=by first
 | exact Gives.nilCheck rfl
 | (apply amj;first | exact Gives.ou rfl | exact Gives.p8 rfl (by assumption) oM | exact Gives.field rfl | exact Gives.DN rfl)
 | exact Gives.extract rfl rfl
 | (apply aqz;first
  | (apply aqA;first | exact Gives.eql rfl rfl | exact Gives.aqv rfl rfl | exact Gives.aqd rfl rfl | exact Gives.alM rfl rfl | exact Gives.aj5 rfl rfl | exact Gives.ahv rfl rfl)
  | (apply aqB;first | exact Gives.neq rfl rfl | exact Gives.aqw rfl rfl | exact Gives.aqe rfl rfl | exact Gives.alN rfl rfl)
  | exact Gives.lss rfl rfl
  | exact Gives.leq rfl rfl
  | exact Gives.gtr rfl rfl
  | exact Gives.geq rfl rfl
  | exact Gives.M5 rfl rfl rfl oM
  | exact Gives.afP rfl rfl rfl oM
  | exact Gives.alL rfl rfl rfl oM
  | exact Gives.aqx rfl rfl
  | exact Gives.Yq rfl rfl (by first | omega | (simp;done) | (simp;omega))
  | exact Gives.add rfl rfl
  | exact Gives.sub rfl rfl
  | exact Gives.mul rfl rfl
  | exact Gives.and rfl rfl
  | exact Gives.or rfl rfl
  | exact Gives.xor rfl rfl
  | exact Gives.shl rfl rfl oM
  | exact Gives.shr rfl rfl oM
  | exact Gives.rem rfl rfl oM
  | exact Gives.quo rfl rfl oM)
 | (apply aod;first | exact Gives.aqu rfl | exact Gives.agO rfl | exact Gives.min rfl rfl | exact Gives.max rfl rfl)
 | (apply aof;first | exact Gives.mK rfl rfl (by assumption) oM | exact Gives.Bv rfl rfl oM | exact Gives.BI rfl rfl oM | exact Gives.aql rfl rfl (by assumption) (by first | exact At0 | exact At1) (by exact sz) oM)
 | (apply aog;first | exact Gives.anL rfl rfl | exact Gives.akZ rfl rfl | exact Gives.pick rfl rfl rfl)
 | (apply iUn;first | exact Gives.notP rfl | exact Gives.not rfl | exact Gives.neg rfl)
 | (apply aoe;first | exact Gives.aoq rfl | exact Gives.akl rfl oM | exact Gives.acO rfl oM | exact Gives.ahM rfl oM | exact Gives.ahx rfl | exact Gives.conv rfl)
 | exact Gives.CO rfl rfl oM
 | (apply amk;first | exact Gives.sliceTo rfl rfl oM | exact Gives.sliceFrom rfl rfl oM | exact Gives.lV rfl rfl oM | exact Gives.sG rfl rfl oM | exact Gives.ad2 rfl rfl rfl oM oM | exact Gives.GJ rfl rfl rfl oM oM | exact Gives.agP rfl)
 | exact Gives.Yr rfl rfl
 | exact Gives.ahy rfl rfl
 | exact Gives.aj8 rfl rfl oM rfl
 | exact Gives.makeFunc rfl rfl
 | fail):p:=h
section
variable {P:Program} {r:Option Nat} {n:Nat} {ops:AO} {Q:Post} {rest:LO} {σ:St} {w:Wd} {ty:Td} {pos:String} {after:Array Edge} {guard:Option (Nat×Bool)} {lv:List Bool} {pd:LNB} {op:Op} {d:Nat} {v:Value}
theorem Vq (h:FL P r n ops Q rest (upd σ d v) w) (hg:Gives P (evF σ) op ty w v w:=by exact gq) (hd:Nat.blt d n=true:=by exact rfl):FL P r n ops Q (⟨some d,op,ty,pos,after,none⟩::rest) σ w:=dU hg hd h
/-! Regions that draw,the operations one behind the other. -/
theorem sT {l:LNB} (h:l.all (λp=>p.2)=true:=by kernel_rfl):mI P ops σ w l:=by
 induction l with
 | nil=>trivial
 | cons p l ih=>
  obtain⟨i,b⟩:=p;simp only[List.all_cons,zbv]at h;obtain⟨rfl,h⟩:=h;exact ih h
theorem Ds {w0:Wd} {S:NP} {rs:List HP} {id:Nat} {l:LO} (h:fT n l.toArray=true->∀w',Sep w0 S rs w'->FG P r n l.toArray Q (List.replicate l.length false) [] σ w') (hm:P.follows .mixedOrders=true:=by exact rfl) (H:Sep w0 S rs w:=by assumption) (gT:fT n l.toArray=true:=by kernel_rfl):FW P r n (.region id l.toArray true) Q σ w:=ahA hm H gT h
def FGn (P:Program) (r:Option Nat) (n:Nat) (ops:AO) (Q:Post) (i:Nat) (lv:List Bool) (pd:LNB) (σ:St) (w:Wd):Prop:=nO ops lv (pd.map (·.1)) i=true->FG P r n ops Q lv pd σ w
theorem G0 {k:Nat} (h:FGn P r n ops Q 0 (List.replicate k false) pd σ w) (fq:nO ops (List.replicate k false) (pd.map (·.1)) 0=true:=by decide+kernel):FG P r n ops Q (List.replicate k false) pd σ w:=h fq
theorem GS {j:Nat} (h:FGn P r n ops Q (j+1) (lv.set j true) pd σ w) (fq:nO ops (lv.set j true) (pd.map (·.1)) (j+1)=true:=by decide+kernel):FG P r n ops Q (lv.set j true) pd σ w:=h fq
section
variable {i:Nat}
theorem Gn {d:Nat} {v:Value} (ho:ops[i]? =some ⟨some d,op,ty,pos,after,guard⟩) (hg: ∀w,Gives P (evF σ) op ty w v w) (h:FG P r n ops Q (lv.set i true) ((i,true)::pd) (upd σ d v) w) (gT:fT n ops=true:=by assumption)
    (hw:Region.wanted ⟨some d,op,ty,pos,after,guard⟩ (eD ops σ)=true:=by exact rfl):FGn P r n ops Q i lv pd σ w:=λfq=>FGp gT i ho hw hg fq h
theorem Gt {d:Nat} {v:Value} (ho:ops[i]? =some ⟨some d,op,ty,pos,after,guard⟩) (hg:Gives P (evF σ) op ty w v w) (h:FG P r n ops Q (lv.set i true) ((i,false)::pd) (upd σ d v) w) (gT:fT n ops=true:=by assumption)
    (hw:Region.wanted ⟨some d,op,ty,pos,after,guard⟩ (eD ops σ)=true:=by exact rfl):FGn P r n ops Q i lv pd σ w:=λfq=>FGl gT i ho hw hg fq h
theorem Gu {w0:Wd} {S:NP} {rs:List HP} {put:HP->List HP} {d b o:Nat} {x:Od} {T:Td} [OneCell P T] {cs:LV} {E:Td} {v:Value} (ho:ops[i]? =some ⟨some d,.load T x,ty,pos,after,guard⟩) (H:Sep w0 S rs w) (h:FG P r n ops Q (lv.set i true) ((i,false)::pd) (upd σ d v) w) (gT:fT n ops=true:=by assumption)
    (hw:Region.wanted ⟨some d,.load T x,ty,pos,after,guard⟩ (eD ops σ)=true:=by exact rfl) (hx:evF σ x=.pointer (some ⟨b,o,none⟩):=by exact rfl)
    (hat:At rs (blk b cs E) put:=by exact aT) (hv:cs[o]? =some v:=by exact rfl):FGn P r n ops Q i lv pd σ w:=λfq=>FGl gT i ho hw (Gives.xZ hx (H.obj hat) hv) fq h
theorem Gw {w0:Wd} {S:NP} {rs:List HP} {put:HP->List HP} {d b k:Nat} {x:Od} {T:Td} [Agg P T k] {cs:LV} {E:Td} (ho:ops[i]? =some ⟨some d,.load T x,ty,pos,after,guard⟩) (H:Sep w0 S rs w) (h:FG P r n ops Q (lv.set i true) ((i,false)::pd) (upd σ d (.agg cs.toArray)) w) (gT:fT n ops=true:=by assumption)
    (hw:Region.wanted ⟨some d,.load T x,ty,pos,after,guard⟩ (eD ops σ)=true:=by exact rfl) (hx:evF σ x=.pointer (some ⟨b,0,none⟩):=by exact rfl)
    (hat:At rs (blk b cs E) put:=by exact aT) (hk:cs.length=k:=by exact rfl):FGn P r n ops Q i lv pd σ w:=λfq=>FGl gT i ho hw (Gives.NM (us:=cs) hx (H.obj hat) (by rw[zdg,<-hk,zbl]) hk) fq h
theorem Gv {d:Nat} {v:Value} (ho:ops[i]? =some ⟨some d,op,ty,pos,after,guard⟩) (gT:fT n ops=true) (h:FG P r n ops Q (lv.set i true) ((i,true)::pd) (upd σ d v) w)
    (hg: ∀w,Gives P (evF σ) op ty w v w:=by intro w_;first | exact Gives.move (by exact eV) | exact Gives.assign rfl | exact gq | fail)
    (hw:Region.wanted ⟨some d,op,ty,pos,after,guard⟩ (eD ops σ)=true:=by exact rfl):FGn P r n ops Q i lv pd σ w:=λfq=>FGp gT i ho hw hg fq h
theorem Go' {d:Nat} (ho:ops[i]? =some ⟨some d,op,ty,pos,after,guard⟩) (gT:fT n ops=true) (h:FG P r n ops Q (lv.set i true) ((i,true)::pd) (upd σ d undef) w)
    (hw:Region.wanted ⟨some d,op,ty,pos,after,guard⟩ (eD ops σ)=false:=by exact rfl):FGn P r n ops Q i lv pd σ w:=λfq=>RZ gT i ho hw fq h
end
theorem Vc (c:Int) (h:FL P r n ops Q rest (upd σ d (.int .i64 c)) w) (hg:Gives P (evF σ) op ty w (.int .i64 c) w:=by first | exact Gives.M5 rfl rfl oM oM | exact Gives.afP rfl rfl oM oM | exact Gives.alL rfl rfl oM oM) (hd:Nat.blt d n=true:=by exact rfl):FL P r n ops Q (⟨some d,op,ty,pos,after,none⟩::rest) σ w:=dU hg hd h
theorem Gc (gT:fT n ops=true) (i:Nat) (c:Int) (h:FG P r n ops Q (lv.set i true) ((i,true)::pd) (upd σ d (.int .i64 c)) w) (ho:ops[i]? =some ⟨some d,op,ty,pos,after,guard⟩:=by exact rfl) (hw:Region.wanted ⟨some d,op,ty,pos,after,guard⟩ (eD ops σ)=true:=by exact rfl)
    (hg: ∀w,Gives P (evF σ) op ty w (.int .i64 c) w:=by intro w_;first | exact Gives.M5 rfl rfl oM oM | exact Gives.afP rfl rfl oM oM | exact Gives.alL rfl rfl oM oM) (fq:nO ops lv (pd.map (·.1)) i=true:=by kernel_rfl):FG P r n ops Q lv pd σ w:=FGp gT i ho hw hg fq h
theorem Vb (us:LV) (h:FL P r n ops Q rest (upd σ d (.agg us.toArray)) w) (hg:Gives P (evF σ) op ty w (.agg us.toArray) w:=by refine Gives.build ?_;repeat (first | exact Fills.nil | refine Fills.one rfl rfl rfl sM rfl ?_ | refine Fills.many rfl rfl sM rfl ?_)) (hd:Nat.blt d n=true:=by exact rfl):FL P r n ops Q (⟨some d,op,ty,pos,after,none⟩::rest) σ w:=dU hg hd h
theorem Gb (gT:fT n ops=true) (i:Nat) (us:LV) (h:FG P r n ops Q (lv.set i true) ((i,true)::pd) (upd σ d (.agg us.toArray)) w) (ho:ops[i]? =some ⟨some d,op,ty,pos,after,guard⟩:=by exact rfl) (hw:Region.wanted ⟨some d,op,ty,pos,after,guard⟩ (eD ops σ)=true:=by exact rfl)
    (hg: ∀w,Gives P (evF σ) op ty w (.agg us.toArray) w:=by intro w_;refine Gives.build ?_;repeat (first | exact Fills.nil | refine Fills.one rfl rfl rfl sM rfl ?_ | refine Fills.many rfl rfl sM rfl ?_)) (fq:nO ops lv (pd.map (·.1)) i=true:=by kernel_rfl):FG P r n ops Q lv pd σ w:=FGp gT i ho hw hg fq h
theorem Bs {w0:Wd} {S:NP} {rs:List HP} {t e k:Nat} {parts:List (Nat×Od)} {size bytes:Nat} [hs:dD P t e] [hc:Cells P e size bytes] {z:Value} [hz:Zero P e z] (H:Sep w0 S rs w) (out:LV)
    (h: ∀b w',Sep w0 S (blk b out e::rs) w'->Kept noB w w'->FL P r n ops Q rest (upd σ d (.slice (some ⟨b,0,none⟩) k k)) w') (hk:(parts.map (·.2)).length=k:=by exact rfl)
    (hE:bE (evF σ) size (parts.map (·.2)) out:=by repeat (first | exact bE.nil | refine bE.one rfl rfl ?_ | refine bE.many rfl rfl ?_)) (hp:parts=((parts.map (·.2)).zipIdx 0).map λp=>(p.2,p.1):=by exact rfl) (hl:Nat.ble (k*size) 16777216=true:=by exact rfl) (hd:Nat.blt d n=true:=by exact rfl):
    FL P r n ops Q (⟨some d,.buildSlice t k parts.toArray,ty,pos,after,none⟩::rest) σ w:=by
  subst hk;exact pV H hE hp hl hd h
end
/-! Goals of a walk told by their heads. -/
section
variable {P:Program} {r:Option Nat} {n:Nat} {ops:AO} {Q:Post} {l rest:LO} {σ:St} {w:Wd} {dst:Option Nat} {op:Op} {ty:Td} {pos:String} {after:Array Edge} {g:Nat×Bool} {d i:Nat} {c:Code} {x y z:Od} {T:Td} {lv:List Bool} {pd:LNB}
theorem iFW (h:FW P r n c Q σ w):FW P r n c Q σ w:=h
theorem iFL (h:FL P r n ops Q l σ w):FL P r n ops Q l σ w:=h
theorem iFG (h:FG P r n ops Q lv pd σ w):FG P r n ops Q lv pd σ w:=h
theorem iMv (h:FL P r n ops Q (⟨some d,.move x,ty,pos,after,none⟩::rest) σ w):FL P r n ops Q (⟨some d,.move x,ty,pos,after,none⟩::rest) σ w:=h
theorem iAm (h:FL P r n ops Q (⟨some d,.assign x,ty,pos,after,none⟩::rest) σ w):FL P r n ops Q (⟨some d,.assign x,ty,pos,after,none⟩::rest) σ w:=h
theorem iLd (h:FL P r n ops Q (⟨some d,.load T x,ty,pos,after,none⟩::rest) σ w):FL P r n ops Q (⟨some d,.load T x,ty,pos,after,none⟩::rest) σ w:=h
theorem aqC (h:FL P r n ops Q (⟨some d,op,ty,pos,after,none⟩::rest) σ w):FL P r n ops Q (⟨some d,op,ty,pos,after,none⟩::rest) σ w:=h
theorem iGd (h:FL P r n ops Q (⟨dst,op,ty,pos,after,some g⟩::rest) σ w):FL P r n ops Q (⟨dst,op,ty,pos,after,some g⟩::rest) σ w:=h
theorem iCo {c':Code} (h:FW P r n (.cond x c c') Q σ w):FW P r n (.cond x c c') Q σ w:=h
theorem tb {p:Prop} (h:p:=by first | with_reducible rfl | (simp only[Bool.not_true,Bool.not_false];done) | fail):p:=h
theorem On' {j:Nat} {b b':Bool} {t:Nat} (hj:(ops[j]?).bind (λo:Oper=>o.dst)=some t) (hb:σ t=.bool b') (h:FL P r n ops Q (⟨dst,op,ty,pos,after,none⟩::rest) σ w) (hbb:b'=b:=by exact tb):FL P r n ops Q (⟨dst,op,ty,pos,after,some (j,b)⟩::rest) σ w:=akY hj (by rw[hb,hbb]) h
theorem Of' {j:Nat} {b b':Bool} {t:Nat} (hj:(ops[j]?).bind (λo:Oper=>o.dst)=some t) (hb:σ t=.bool b') (h:FL P r n ops Q rest (uV σ dst undef) w) (hbb:(!b')=b:=by exact tb) (hd:Rj n dst=true:=by exact rfl):FL P r n ops Q (⟨dst,op,ty,pos,after,some (j,b)⟩::rest) σ w:=alK hj (by rw[hb,<-hbb,Bool.not_not]) hd h
theorem Ct {c':Code} {t:Bool} (hv:evF σ x=.bool t) (h:FW P r n c Q σ w) (ht:t=true:=by exact tb):FW P r n (.cond x c c') Q σ w:=xu (by rw[hv,ht]) h
theorem Cf {c':Code} {t:Bool} (hv:evF σ x=.bool t) (h:FW P r n c' Q σ w) (ht:t=false:=by exact tb):FW P r n (.cond x c c') Q σ w:=FB (by rw[hv,ht]) h
end
theorem aB {p q:Prop} (hc:p) (h:p->q:=by intro c;first | exact zat rfl c | exact(c trivial).elim | exact zat c dC | exact zat c sM | omega | fail):q:=h hc
structure Bx (q:Prop):Prop where
 g:q
theorem Xs {p q:Prop} (hq:q) (h:Bx q->p:=by
 intro h
 first
 | (apply iFL;first
  | (apply iMv;refine Mv ?_)
  | (apply iAm;refine Am ?_)
  | (apply iLd;first
   | refine Ld (by assumption) ?_
   | refine iA (by assumption) (h:=?_)
   | refine dU (Gives.iJ rfl (by assumption) (by assumption) (by assumption) rfl) rfl ?_
   | refine dU (Gives.Lg rfl (by assumption) (by assumption) (by assumption) rfl) rfl ?_
   | refine dU (Gives.jQ rfl (by assumption) (by assumption) (by assumption)) rfl ?_)
  | (apply aqC;refine Vq ?_))
 | (apply iFG;(first | refine GS ?_ | refine G0 ?_);(first | refine Gv rfl (by assumption) ?_ | refine Gu rfl (by assumption) ?_ | refine Gw rfl (by assumption) ?_ | refine Gt rfl (Gives.iJ rfl (by assumption) (by assumption) (by assumption) rfl) ?_ | refine Gt rfl (Gives.Lg rfl (by assumption) (by assumption) (by assumption) rfl) ?_ | refine Gt rfl (Gives.jQ rfl (by assumption) (by assumption) (by assumption)) ?_ | refine Gt rfl (Gives.an5 rfl (by assumption) (by first | exact At0 | exact At1) (by exact sz) oM) ?_))
 exact h.g):p:=h ⟨hq⟩
theorem Xg {p q:Prop} (hq:q) (h:Bx q->p:=by
 intro h
 repeat (first
 | (apply iFL;first
  | refine zK ?_
  | (apply iGd;first | refine On' rfl rfl ?_ | refine Of' rfl rfl ?_ | refine aj4 rfl rfl rfl ?_))
 | (apply iFW;first
  | refine fC ?_
  | refine Ko ?_
  | refine NJ ?_
  | refine ab6 ?_
  | (apply iCo;first | refine Ct rfl ?_ | refine Cf rfl ?_)
  | refine fu ?_
  | refine Nj ?_
  | refine FW_scope ?_)
 | (apply iFG;first
  | refine dP (by assumption) (by decide+kernel) ?_
  | ((first | refine GS ?_ | refine G0 ?_);refine Go' rfl (by assumption) ?_))
 | refine aU ?_
 | refine y9 ?_
 | refine fG ?_
 | refine zY ?_
 | refine dF ?_
 | refine Ej ?_
 | refine xq rfl ?_
 | refine mW ?_
 | refine CS ?_
 | refine nG (hR:=?_)
 | refine ZQ (hR:=?_)
 | refine Qscope_normal ?_
 | refine Qscope_ret ?_)
 exact h.g):p:=h ⟨hq⟩
theorem Za1 {p q:Prop} (hq:q) (h:Bx q->p:=by intro h;(iterate 1 (first | refine Xs ?_ | (refine Xg ?_;refine Xs ?_)));exact h.g):p:=h ⟨hq⟩
theorem Zb1 {p q:Prop} (hq:q) (h:Bx q->p:=by intro h;(iterate 1 (first | refine Xs ?_ | (refine Xg ?_;refine Xs ?_)));refine Xg ?_;exact h.g):p:=h ⟨hq⟩
theorem Za2 {p q:Prop} (hq:q) (h:Bx q->p:=by intro h;(iterate 2 (first | refine Xs ?_ | (refine Xg ?_;refine Xs ?_)));exact h.g):p:=h ⟨hq⟩
theorem Zb2 {p q:Prop} (hq:q) (h:Bx q->p:=by intro h;(iterate 2 (first | refine Xs ?_ | (refine Xg ?_;refine Xs ?_)));refine Xg ?_;exact h.g):p:=h ⟨hq⟩
theorem Za3 {p q:Prop} (hq:q) (h:Bx q->p:=by intro h;(iterate 3 (first | refine Xs ?_ | (refine Xg ?_;refine Xs ?_)));exact h.g):p:=h ⟨hq⟩
theorem Zb3 {p q:Prop} (hq:q) (h:Bx q->p:=by intro h;(iterate 3 (first | refine Xs ?_ | (refine Xg ?_;refine Xs ?_)));refine Xg ?_;exact h.g):p:=h ⟨hq⟩
theorem Za4 {p q:Prop} (hq:q) (h:Bx q->p:=by intro h;(iterate 4 (first | refine Xs ?_ | (refine Xg ?_;refine Xs ?_)));exact h.g):p:=h ⟨hq⟩
theorem Zb4 {p q:Prop} (hq:q) (h:Bx q->p:=by intro h;(iterate 4 (first | refine Xs ?_ | (refine Xg ?_;refine Xs ?_)));refine Xg ?_;exact h.g):p:=h ⟨hq⟩
theorem Za5 {p q:Prop} (hq:q) (h:Bx q->p:=by intro h;(iterate 5 (first | refine Xs ?_ | (refine Xg ?_;refine Xs ?_)));exact h.g):p:=h ⟨hq⟩
theorem Zb5 {p q:Prop} (hq:q) (h:Bx q->p:=by intro h;(iterate 5 (first | refine Xs ?_ | (refine Xg ?_;refine Xs ?_)));refine Xg ?_;exact h.g):p:=h ⟨hq⟩
theorem Za6 {p q:Prop} (hq:q) (h:Bx q->p:=by intro h;(iterate 6 (first | refine Xs ?_ | (refine Xg ?_;refine Xs ?_)));exact h.g):p:=h ⟨hq⟩
theorem Zb6 {p q:Prop} (hq:q) (h:Bx q->p:=by intro h;(iterate 6 (first | refine Xs ?_ | (refine Xg ?_;refine Xs ?_)));refine Xg ?_;exact h.g):p:=h ⟨hq⟩
theorem Za7 {p q:Prop} (hq:q) (h:Bx q->p:=by intro h;(iterate 7 (first | refine Xs ?_ | (refine Xg ?_;refine Xs ?_)));exact h.g):p:=h ⟨hq⟩
theorem Zb7 {p q:Prop} (hq:q) (h:Bx q->p:=by intro h;(iterate 7 (first | refine Xs ?_ | (refine Xg ?_;refine Xs ?_)));refine Xg ?_;exact h.g):p:=h ⟨hq⟩
theorem Za8 {p q:Prop} (hq:q) (h:Bx q->p:=by intro h;(iterate 8 (first | refine Xs ?_ | (refine Xg ?_;refine Xs ?_)));exact h.g):p:=h ⟨hq⟩
theorem Zb8 {p q:Prop} (hq:q) (h:Bx q->p:=by intro h;(iterate 8 (first | refine Xs ?_ | (refine Xg ?_;refine Xs ?_)));refine Xg ?_;exact h.g):p:=h ⟨hq⟩
theorem Za9 {p q:Prop} (hq:q) (h:Bx q->p:=by intro h;(iterate 9 (first | refine Xs ?_ | (refine Xg ?_;refine Xs ?_)));exact h.g):p:=h ⟨hq⟩
theorem Zb9 {p q:Prop} (hq:q) (h:Bx q->p:=by intro h;(iterate 9 (first | refine Xs ?_ | (refine Xg ?_;refine Xs ?_)));refine Xg ?_;exact h.g):p:=h ⟨hq⟩
theorem aqD {p q:Prop} (hq:q) (h:Bx q->p:=by intro h;(iterate 10 (first | refine Xs ?_ | (refine Xg ?_;refine Xs ?_)));exact h.g):p:=h ⟨hq⟩
theorem aeH {p q:Prop} (hq:q) (h:Bx q->p:=by intro h;(iterate 10 (first | refine Xs ?_ | (refine Xg ?_;refine Xs ?_)));refine Xg ?_;exact h.g):p:=h ⟨hq⟩
theorem aqE {p q:Prop} (hq:q) (h:Bx q->p:=by intro h;(iterate 11 (first | refine Xs ?_ | (refine Xg ?_;refine Xs ?_)));exact h.g):p:=h ⟨hq⟩
theorem aoh {p q:Prop} (hq:q) (h:Bx q->p:=by intro h;(iterate 12 (first | refine Xs ?_ | (refine Xg ?_;refine Xs ?_)));exact h.g):p:=h ⟨hq⟩
theorem aqF {p q:Prop} (hq:q) (h:Bx q->p:=by intro h;(iterate 12 (first | refine Xs ?_ | (refine Xg ?_;refine Xs ?_)));refine Xg ?_;exact h.g):p:=h ⟨hq⟩
theorem mV {p q:Prop} (hq:q) (h:Bx q->p:=by intro h;(iterate 13 (first | refine Xs ?_ | (refine Xg ?_;refine Xs ?_)));refine Xg ?_;exact h.g):p:=h ⟨hq⟩
theorem Zb0 {p q:Prop} (hq:q) (h:Bx q->p:=by intro h;refine Xg ?_;exact h.g):p:=h ⟨hq⟩
end Go.Mw
