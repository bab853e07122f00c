/-
 More rules of the walk. Nothing of a given program stands here.
-/
import Derived.Test.YtkfpleidaoaonaaGreatDoorNw1
import Derived.Test.YtkfpleidaoaonaaGreatDoorNw2
import Derived.Laws.BytesArg
import Derived.Laws.RangeString
import Derived.Laws.Strings
import Derived.Laws.IdiomStrings
import Derived.Laws.StructEq
set_option linter.unusedVariables false
set_option linter.unusedSimpArgs false
namespace Go.Mw
open Go.RowKit
section
variable {P:Program} {r:Option Nat} {n:Nat} {ops:AO} {Q:Post} {rest:LO} {σ:St} {w w0:Wd} {S:NP} {rs:List HP} {put:HP->List HP} {op:Op} {ty:Td} {pos:String} {after:Array Edge}
theorem aF {t:Nat} {p:Prop} [Decidable p] {l:LO} (hb:σ.get t=.bool (decide p)) (h1:p->FL P r n ops Q l (upd σ t (.bool true)) w) (h0: ¬p->FL P r n ops Q l (upd σ t (.bool false)) w):FL P r n ops Q l σ w:=
 gu hb (λh=>h1 (zba h)) (λh=>h0 (of_decide_eq_false h))
theorem ahf {dst:Option Nat} {j:Nat} {b:Bool} {t:Nat} (hj:(ops[j]?).bind (λo:Oper=>o.dst)=some t) (hb:σ.get t=undef) (hd:Nh n dst=true)
    (h:FL P r n ops Q rest (qC σ dst undef) w):
    FL P r n ops Q (⟨dst,op,ty,pos,after,some (j,b)⟩::rest) σ w:=λa ha=>by
  have h1:=h _ (ha.MB hd undef)
  have hy:Go.yielded ops a.tmps j=none:=by
    unfold Go.yielded;have hg:=ha.get t;rw[hb]at hg;simp only[hj,zdk];cases hq:a.tmps[t]? with
    | none=>rfl
    | some v=>
      have hv:v=undef:=by simpa[zbl,hq]using hg
      subst hv;rfl
  have hw:Region.wanted ⟨dst,op,ty,pos,after,some (j,b)⟩ (Go.yielded ops a.tmps)=false:=by
    simp[Region.wanted,hy]
  unfold wpListIn;rw[zab (by simp[hw])];exact⟨λ_ _=>trivial,h1⟩
theorem Gives.aeV {ρ:Od->Value} {x:Od} {s f k:Nat} [h:Aq P s f k] {a:Addr} {j:Nat} (hx:ρ x=.pointer (some (a.add j))):Gives P ρ (.fieldAddr s x f) ty w (.pointer (some (a.add (j+k)))) w:=λ_ _ _ _=>by
 simp only[execOp,hx,zbh,h.run,zai,zbm,add_add]
theorem run_equalIn_map_nil (d:Nat) {T k e:Td} (he:P.underlying T=some (.map k e)) (a:Option Nat):(Op.equalIn (d+1) T (.map a) (.map none)).run P w=.ok a.isNone w:=by
 cases a<;>simp[Op.equalIn,run_underlying he]
theorem Gives.ahg {ρ:Od->Value} {x y:Od} {T U k e:Td} [hm:IsMap P T k e] {a:Option Nat} (hx:ρ x=.map a) (hy:ρ y=.map none):Gives P ρ (.binOp .eql T x y U) ty w (.bool a.isNone) w:=
 .bin hx hy (λ_ _=>by rw[eqGuard_at_map];rfl) (by
  have :(Op.equal T (.map a) (.map none)).run P w=.ok a.isNone w:=run_equalIn_map_nil 9999 hm.und a;simp[binOp,this])
theorem run_equalIn_slice_nil (d:Nat) {T e:Td} (he:P.underlying T=some (.slice e)) (a:OA) (m c:Nat):(Op.equalIn (d+1) T (.slice a m c) (.slice none 0 0)).run P w=.ok a.isNone w:=by
 cases a<;>simp[Op.equalIn,run_underlying he]
theorem Gives.aeW {ρ:Od->Value} {x y:Od} {T U e:Td} [hm:dh P T e] {a:OA} {m c:Nat} (hx:ρ x=.slice a m c) (hy:ρ y=.slice none 0 0):Gives P ρ (.binOp .eql T x y U) ty w (.bool a.isNone) w:=
 .bin hx hy (λ_ _=>by rw[eqGuard_at_slice];rfl) (by
  have :(Op.equal T (.slice a m c) (.slice none 0 0)).run P w=.ok a.isNone w:=run_equalIn_slice_nil 9999 hm.und a m c;simp[binOp,this])
theorem Gives.extract {ρ:Od->Value} {x:Od} {i:Nat} {vs:Array Value} {v:Value} (hx:ρ x=.tuple vs) (hv:vs[i]? =some v):Gives P ρ (.extract x i) ty w v w:=λ_ _ _ _=>by
 simp[execOp,hx,Instr.extract,hv]
theorem Gives.aeX {ρ:Od->Value} {x:Od} {s t e:Td} [hs:dh P s e] [he:lZ P e .u8] [hd:j3 P t] {A:OA} {m c:Nat} {l:L8} (hx:ρ x=.slice A m c) (hr:gV w A m 1 (l.map λu=>Value.int .u8 u.toNat)):Gives P ρ (.convert s t x) ty w (.string ⟨l.toArray⟩) w:=λ_ _ _ _=>by
  have hlen:l.length=m:=by have:=hr.len;simpa using this
  have iw:(convert s t (.slice A m c)).run P w=.ok (.string ⟨l.toArray⟩) w:=by
    rcases A with _ | a
    . have h0:m=0:=by
        rcases zeb m with h0 | h0
        . exact h0
        obtain⟨ad,h,_⟩:=hr.at_ h0;cases h
      have hl:l=[]:=zbe (by rw[hlen,h0]);subst hl;rw[run_convert_bytes_string w s t e none m c hs.und he.und hd.und];rfl
    rw[<-hlen];refine run_convert_bytes_back w s t e a c l hs.und he.und hd.und λj hj=>?_;obtain⟨ad,h,hc⟩:=hr.at_ oM;injection h with h
    subst h;exact hc j _ (by simp[hj])
  simp only[execOp,hx,zbh,iw,zai,zbm]
class amu (P:Program) (f:FuncId):Prop where
 run: ∀args w,(callFunc f args).run P w=((Extern.MapsClone.clone args).run P w).andThen λv w'=>.ok (.value v) w'
def lay (zs:LV) (o:Nat) (us:LV):LV:=zs.take o++us++zs.drop (o+us.length)
theorem OW (o:Nat): ∀(us:LV) (k:Nat) (zs:LV),o+k+us.length<=zs.length->
    (us.zipIdx k).foldl (fun(cs:Array Value) (x:Value×Nat)=>cs.setIfInBounds (o+x.2) x.1) zs.toArray=(lay zs (o+k) us).toArray
  | [],k,zs,_=>by simp[lay]
  | u::us,k,zs,h=>by
    simp only[List.zipIdx_cons,List.foldl_cons];have e:zs.toArray.setIfInBounds (o+k) u=(zs.set (o+k) u).toArray:=sM;rw[e,OW o us (k+1) _ (by simp at h ⊢;omega)]
    congr 1
    have:=list_seg_step zs (o+k) u us (by simp at h;omega);unfold lay;simp only[zal];rw[<-Nat.add_assoc];exact this
def Fills (place:Nat->Option (Nat×Nat)) (ρ:Od->Value):List (Nat×Od)->LV->LV->Prop
 | [],zs,out=>zs=out
 | (i,x)::l,zs,out=>∃o us,place i=some (o,us.length)/\(ρ x).cells=us.toArray/\o+us.length<=zs.length/\Fills place ρ l (lay zs o us) out
theorem JQ {place:Nat->Option (Nat×Nat)} {ρ:Od->Value}: ∀{l:List (Nat×Od)} {zs out:LV},Fills place ρ l zs out->Instr.fill place zs.toArray (l.map fun(i,x)=>(i,ρ x))=some out.toArray
 | [],zs,out,h=>by have h:zs=out:=h;subst h;rfl
 | (i,x)::l,zs,out,⟨o,us,h1,h2,h3,h4⟩=>by
  simp only[zay,Instr.fill,h1,h2]
  have e:(us.toArray.zipIdx.foldl (fun(cs:Array Value) (x:Value×Nat)=>cs.setIfInBounds (o+x.2) x.1) zs.toArray)=(lay zs o us).toArray:=by
   have e0:us.toArray.zipIdx=(us.zipIdx 0).toArray:=sM;rw[e0,List.foldl_toArray];exact OW o us 0 zs (by simpa using h3)
  have e2:(us.toArray.size≠us.length||o+us.toArray.size>zs.toArray.size)=false:=by simp;omega
  simp only[e2];exact(zbb (λz=>Instr.fill place z (l.map fun(i,x)=>(i,ρ x))) e).trans (JQ h4)
theorem Fills.nil {place:Nat->Option (Nat×Nat)} {ρ:Od->Value} {zs:LV}:Fills place ρ [] zs zs:=rfl
theorem ahh {zs:LV} {o:Nat} {v:Value} (h:o<zs.length):lay zs o [v]=zs.set o v:=by
 unfold lay;rw[List.set_eq_take_append_cons_drop,zac h];simp
theorem Fills.one {place:Nat->Option (Nat×Nat)} {ρ:Od->Value} {i o:Nat} {x:Od} {l:List (Nat×Od)} {v:Value} {zs zs' out:LV} (hp:place i=some (o,1)) (hx:ρ x=v) (hv:v.oneCell'=true) (ho:o<zs.length) (hs:zs.set o v=zs') (h:Fills place ρ l zs' out):Fills place ρ ((i,x)::l) zs out:=by
 subst hs;refine⟨o,[v],hp,?_,ho,by rw[ahh ho];exact h⟩;rw[hx];cases v<;>first | rfl | cases hv
theorem Fills.many {place:Nat->Option (Nat×Nat)} {ρ:Od->Value} {i o:Nat} {x:Od} {l:List (Nat×Od)} {us zs zs' out:LV} (hp:place i=some (o,us.length)) (hx:ρ x=.agg us.toArray) (ho:o+us.length<=zs.length) (hs:lay zs o us=zs') (h:Fills place ρ l zs' out):Fills place ρ ((i,x)::l) zs out:=by
 subst hs;exact⟨o,us,hp,by rw[hx];rfl,ho,h⟩
class aeY (P:Program) (T:Td) (zs:outParam (LV)) (pl:outParam (List (Nat×Nat))):Prop where
 zero: ∀w,(zeroValue T).run P w=.ok (.agg zs.toArray) w
 und: ∃fields:Array Field,P.underlying T=some (.struct fields)/\∀w,(fields.mapM λf=>(do pure (f.offset,<-sizeOf f.type):Sem (Nat×Nat))).run P w=.ok pl.toArray w
theorem Gives.build {ρ:Od->Value} {T:Td} {zs:LV} {pl:List (Nat×Nat)} [hb:aeY P T zs pl] {parts:List (Nat×Od)} {out:LV} (h:Fills (λi:Nat=>pl[i]?) ρ parts zs out):Gives P ρ (.build T parts.toArray) ty w (.agg out.toArray) w:=λ_ _ _ _=>by
 obtain⟨fields,hu,Yu⟩:=hb.und;have hf:=JQ h;have hpl':=Yu w;simp only[execOp,Instr.build,zbh,hb.zero,zai,run_underlying hu,hpl',Value.cells,zcg,zbm];have e:(λx:Nat=>pl.toArray[x]?)=λi:Nat=>pl[i]? :=by funext i;simp
 simp only[e,hf,zbm,zai]

theorem ahi {a us b c:LV} {o:Nat} (ho:a.length=o) (hb:b.length=us.length):lay (a++(b++c)) o us=(a++us)++c:=by
 unfold lay;rw[zee oM,zax oM,<-zbp a b c,zfc (by simp;omega),zbu (by simp;omega),zcb]
def dK (ρ:Od->Value) (size:Nat):List Od->LV->Prop
 | [],out=>out=[]
 | x::l,out=>∃us rest,(ρ x).cells=us.toArray/\us.length=size/\out=us++rest/\dK ρ size l rest
theorem G6 {ρ:Od->Value} {size:Nat}: ∀(l:List Od) (k:Nat) (a z out:LV),a.length=k*size->z.length=l.length*size->dK ρ size l out->
    Fills (λi=>some (i*size,size)) ρ ((l.zipIdx k).map λp=>(p.2,p.1)) (a++z) (a++out)
  | [],k,a,z,out,_,hz,h=>by
    have h:out=[]:=h;subst h;have :z=[]:=zbe (by simpa using hz);subst this;exact rfl
  | x::l,k,a,z,out,ha,hz,⟨us,rest,h1,h2,h3,h4⟩=>by
    subst h3;have hz':z.length=size+l.length*size:=by rw[hz,zal,Nat.add_mul];omega
    refine⟨k*size,us,by rw[h2],h1,by rw[zad,ha,hz',h2];omega,?_⟩;have e:z=z.take size++z.drop size:=(zbs size z).symm;rw[e,ahi ha (by rw[zaj,h2];omega),<-zbp];exact G6 l (k+1) (a++us) (z.drop size) rest (by rw[zad,ha,h2,Nat.add_mul];omega) (by rw[zbq];omega) h4
theorem dK.nil {ρ:Od->Value} {size:Nat}:dK ρ size [] []:=rfl
theorem dK.one {ρ:Od->Value} {x:Od} {l:List Od} {v:Value} {rest:LV} (hx:ρ x=v) (hv:v.oneCell'=true) (h:dK ρ 1 l rest):dK ρ 1 (x::l) (v::rest):=
 ⟨[v],rest,(by rw[hx];cases v<;>first | rfl | cases hv),rfl,rfl,h⟩
theorem dK.many {ρ:Od->Value} {size:Nat} {x:Od} {l:List Od} {us rest:LV} (hx:ρ x=.agg us.toArray) (hl:us.length=size) (h:dK ρ size l rest):dK ρ size (x::l) (us++rest):=
 ⟨us,rest,by rw[hx];rfl,hl,rfl,h⟩
theorem Gives.buildSlice {ρ:Od->Value} {t e:Td} {xs:List Od} {parts:List (Nat×Od)} {out:LV} {size bytes:Nat} [hs:dh P t e] [hc:Cells P e size bytes] {z:Value} [hz:Zero P e z] (hE:dK ρ size xs out) (hp:parts=(xs.zipIdx 0).map λp=>(p.2,p.1)) (hlen:Nat.ble (xs.length*size) 16777216=true):
    Gives P ρ (.buildSlice t xs.length parts.toArray) ty w (.slice (some ⟨w.heap.size,0,none⟩) xs.length xs.length) (w.alloc (.cells out.toArray e)):=λ_ _ _ _=>by
  obtain⟨i,hi,p9⟩:=zav.1 hc.size;simp only[Prod.mk.injEq]at p9;have q9:=zaw hlen
  have aiM: ∀Z:LV,Z.length=xs.length*size->Instr.fill (λi=>some (i*size,size)) Z.toArray (parts.map fun(i,x)=>(i,ρ x))=some out.toArray:=λZ hZ=>by
    subst hp;exact JQ (G6 xs 0 [] Z out sM hZ hE)
  have oq: ¬(2^24<xs.length*size):=oM
  by_cases h0:xs.length*size=0
  . have:=aiM [] (by simp[h0])
    simp at this;simp only[execOp,Instr.buildSlice,zbh,run_underlying hs.und,zai,sizeOf,typeInfo,run_program,hi,zbm,p9.1];simp only[h0,Array.range_zero'];simp;rw[this];simp[newRow]
  obtain⟨Z,hZ⟩: ∃Z:LV,(Array.range (xs.length*size)).map (λx=>z.cells[x%z.cells.size]!)=Z.toArray:=⟨_,(Array.toArray_toList).symm⟩
  have hZl:Z.length=xs.length*size:=by
    have:=zbb Array.size hZ;simpa using this.symm
  simp only[execOp,Instr.buildSlice,zbh,run_underlying hs.und,zai,sizeOf,typeInfo,run_program,hi,zbm,p9.1];simp only[gt_iff_lt,oq,if_false,h0,hz.run,zai,zbh,zbm,zcg,hZ,aiM Z hZl];simp[newRow]
theorem mE {d:Nat} {t e:Td} {xs:List Od} {parts:List (Nat×Od)} {out:LV} {size bytes:Nat} [hs:dh P t e] [hc:Cells P e size bytes] {z:Value} [hz:Zero P e z] (H:Sep w0 S rs w) (hE:dK (evF σ) size xs out) (hp:parts=(xs.zipIdx 0).map λp=>(p.2,p.1)) (hlen:Nat.ble (xs.length*size) 16777216=true) (hd:Nat.blt d n=true)
    (h: ∀b w',Sep w0 S (blk b out e::rs) w'->Kept noB w w'->FL P r n ops Q rest (upd σ d (.slice (some ⟨b,0,none⟩) xs.length xs.length)) w'):
    FL P r n ops Q (⟨some d,.buildSlice t xs.length parts.toArray,ty,pos,after,none⟩::rest) σ w:=
  dG (Gives.buildSlice hE hp hlen) hd (h _ _ (H.alloc _) (Kept.alloc _ _))
theorem Sep.nA {b E m s:Nat} {cs:LV} (H:Sep w0 S rs w) (hat:At rs (blk b cs E) put) (hl:cs.length=m*s):gV w (some ⟨b,0,none⟩) m s cs:=
 ⟨hl,λ_=>⟨_,rfl,λj u hu=>by rw[Addr.add_lit,zdm,jD (H.obj hat)];exact hu⟩⟩
end
def str (l:L8):Value:=.string ⟨l.toArray⟩
theorem Da (s:ByteArray):Value.string s=str s.data.toList:=by cases s;simp[str]
theorem size_mk (l:L8):(⟨l.toArray⟩:ByteArray).size=l.length:=by simp[ByteArray.size]
theorem extract_mk (l:L8) (a b:Nat):(⟨l.toArray⟩:ByteArray).extract a b=⟨((l.take b).drop a).toArray⟩:=by
 apply ByteArray.ext;rw[ByteArray.data_extract];apply Array.ext';rw[Array.toList_extract];simp[zfq,List.drop_take]
theorem abI (a b:L8):(⟨a.toArray⟩:ByteArray)++⟨b.toArray⟩=⟨(a++b).toArray⟩:=by
 apply ByteArray.ext;rw[ByteArray.data_append];simp
section gives
variable {P:Program} {ρ:Od->Value} {ty:Td} {w w':Wd} {x y z:Od} {a b l:L8}
theorem Gives.ana {t:Td} [h:j3 P t] (hx:ρ x=str l):Gives P ρ (.call {callee:=.builtin .len,args:= #[x],argTypes:= #[t]}) ty w (.int .i64 l.length) w:=by
 have:=Gives.lenStr (P:=P) (ty:=ty) (w:=w) (t:=t) hx;rw[size_mk]at this;exact this
theorem Gives.anb {T U:Td} (hx:ρ x=str a) (hy:ρ y=str b):Gives P ρ (.binOp .eql T x y U) ty w (.bool (decide (a=b))) w:=by
 have:=Gives.amW (P:=P) (ty:=ty) (w:=w) (T:=T) (U:=U) hx hy;rw[ByteArray.toList_mk,ByteArray.toList_mk,show(a==b)=decide (a=b)from by rw[zdx];simp]at this;exact this
theorem Gives.anc {T U:Td} (hx:ρ x=str a) (hy:ρ y=str b):Gives P ρ (.binOp .neq T x y U) ty w (.bool (decide (a≠b))) w:=by
 have:=Gives.amX (P:=P) (ty:=ty) (w:=w) (T:=T) (U:=U) hx hy;rw[ByteArray.toList_mk,ByteArray.toList_mk,show(!(a==b))=decide (a≠b)from by rw[zdx];simp]at this;exact this
theorem Gives.ane {T U:Td} (hx:ρ x=str a) (hy:ρ y=str b):Gives P ρ (.binOp .lss T x y U) ty w (.bool (Op.bytesLess a b)) w:=.bin hx hy (λ_ _=>rfl) (by
 show(Op.stringOp .lss _ _).run P w=_
 simp only[Op.stringOp,ByteArray.toList_mk];rfl)
theorem Gives.UZ {T U:Td} (hx:ρ x=str a) (hy:ρ y=str b) (h:a.length+b.length<=9223372036854775807):Gives P ρ (.binOp .add T x y U) ty w (str (a++b)) w:=.bin hx hy (λ_ _=>rfl) (by
 show(Op.stringOp .add _ _).run P w=_
 simp only[Op.stringOp,size_mk];rw[zab (by show ¬(((a.length+b.length:Nat):Int)>9223372036854775807);omega),abI];rfl)
theorem Gives.anf {t:Td} [h:j3 P t] {k:IntKind} {i:Nat} {c:UInt8} (hx:ρ x=str l) (hy:ρ y=.int k i) (hc:l[i]? =some c):Gives P ρ (.index t x y) ty w (.int .u8 c.toNat) w:=λ_ _ _ _=>by
 have bH:=(zaz.1 hc).1
 have e:(⟨l.toArray⟩:ByteArray)[i]? =some c:=by
  rw[getElem?_pos (h:=by rw[size_mk];exact bH)];show some (l.toArray[i])=_
  rw[List.getElem_toArray,<-zaa bH,hc]
 simp only[execOp,Instr.index,hx,hy,str,zbh];simp[asIntOf,run_underlying h.und,e]
theorem Gives.pR {t:Td} [h:j3 P t] {k:IntKind} {i:Nat} (hx:ρ x=str l) (hy:ρ y=.int k i) (hi:i<=l.length):Gives P ρ (.slice t x none (some y) none) ty w (str (l.take i)) w:=λ_ _ _ _=>by
 have e1:(0:Int)<=(i:Int)/\(i:Int)<=((⟨l.toArray⟩:ByteArray).size:Int):=by rw[size_mk];omega
 simp[execOp,hx,hy,str,Instr.sliceAt,Instr.slice,run_underlying h.und,Instr.sliceBounds,Instr.sliceBound,asIntOf,e1,extract_mk,size_mk]
 try omega
theorem Gives.oJ {t:Td} [h:j3 P t] {k:IntKind} {i:Nat} (hx:ρ x=str l) (hy:ρ y=.int k i) (hi:i<=l.length):Gives P ρ (.slice t x (some y) none none) ty w (str (l.drop i)) w:=λ_ _ _ _=>by
 have e1:(0:Int)<=(i:Int)/\(i:Int)<=((⟨l.toArray⟩:ByteArray).size:Int):=by rw[size_mk];omega
 simp[execOp,hx,hy,str,Instr.sliceAt,Instr.slice,run_underlying h.und,Instr.sliceBounds,Instr.sliceBound,asIntOf,e1,extract_mk,size_mk]
 try omega
theorem Gives.Db {t:Td} [h:j3 P t] {k j:IntKind} {i m:Nat} (hx:ρ x=str l) (hy:ρ y=.int k i) (hz:ρ z=.int j m) (hi:i<=m) (hm:m<=l.length):Gives P ρ (.slice t x (some y) (some z) none) ty w (str ((l.take m).drop i)) w:=λ_ _ _ _=>by
 have e1:(0:Int)<=(i:Int)/\(i:Int)<=(m:Int):=oM;have e2:(0:Int)<=(m:Int)/\(m:Int)<=((⟨l.toArray⟩:ByteArray).size:Int):=by rw[size_mk];omega
 simp[execOp,hx,hy,hz,str,Instr.sliceAt,Instr.slice,run_underlying h.und,Instr.sliceBounds,Instr.sliceBound,asIntOf,e1,e2,extract_mk,size_mk,hi,hm]
def Ju (r:Int):L8:=(Utf8.encode r).data.toList
theorem Lp (r:Int):Value.string (Utf8.encode r)=str (Ju r):=by
 unfold Ju str
 congr 1
theorem Gives.aeZ {s t:Td} {k:IntKind} [hs:lZ P s k] [ht:j3 P t] {n:Int} (hx:ρ x=.int k n):Gives P ρ (.convert s t x) ty w (str (Ju n)) w:=λ_ _ _ _=>by
 rw[<-Lp];simp[execOp,hx,convert,run_underlying hs.und,run_underlying ht.und,Conv.intToString]
theorem Gives.ajp {s t e:Td} [hs:dh P s e] [he:lZ P e .u8] [hd:j3 P t] {A:OA} {m c:Nat} (hx:ρ x=.slice A m c) (hr:gV w A m 1 (l.map λu=>Value.int .u8 u.toNat)):Gives P ρ (.convert s t x) ty w (str l) w:=Gives.aeX hx hr
end gives
section rules
variable {P:Program} {r:Option Nat} {n:Nat} {ops:AO} {Q:Post} {rest:LO} {σ:St} {w w' w0:Wd} {S:NP} {rs:List HP} {put:HP->List HP} {ty:Td} {pos:String} {after:Array Edge} {l:L8}
end rules
class Bg (P:Program) (s f:Nat) (o:outParam Nat) (t:outParam Td):Prop where
 und: ∃fields,P.underlying s=some (.struct fields)/\(fields[f]?).map (λf:Field=>(f.offset,f.type))=some (o,t)
class EqData (P:Program) (T:Td) (α:Type) [DecidableEq α] (enc:α->LV):Prop where
 run: ∀(a b:α) (w:Wd),(Op.equalIn 10000 T (.agg (enc a).toArray) (.agg (enc b).toArray)).run P w=.ok (decide (a=b)) w
 guard:P.eqGuardType P.depth T=false
section gives
variable {P:Program} {ρ:Od->Value} {ty:Td} {w w':Wd} {x y z:Od} {l:L8}
theorem Bh {t:Td} [h1:OneCell P t] {cs:LV} {o:Nat} {v:Value} (hv:cs[o]? =some v):(part t cs.toArray o).run P w=.ok v w:=by
 simp[part,h1.agg,hv]
theorem FM {t k:Td} [h1:Agg P t k] {cs us:LV} {o:Nat} (hu:(cs.drop o).take k=us):(part t cs.toArray o).run P w=.ok (.agg us.toArray) w:=by
 have e:cs.toArray.extract o (o+k)=us.toArray:=by
  subst hu;apply Array.ext';rw[Array.toList_extract];simp[zfq]
 simp only[part,zbh,h1.agg,zai,if_true,h1.size,zbm];rw[e]
theorem Gives.U0 {s f o t:Nat} [h:Bg P s f o t] [h1:OneCell P t] {cs:LV} {v:Value} (hx:ρ x=.agg cs.toArray) (hv:cs[o]? =some v):Gives P ρ (.field s x f) ty w v w:=λ_ _ _ _=>by
 obtain⟨fields,hf,hm⟩:=h.und;obtain⟨fl,JA,he⟩:=zav.1 hm;simp only[Prod.mk.injEq]at he;obtain⟨Pp,he2⟩:=he;subst he2;subst Pp;simp[execOp,hx,Instr.field,run_underlying hf,JA,asAgg,Bh (P:=P) (w:=w) (t:=fl.type) hv]
theorem Gives.ae0 {s f o t k:Nat} [h:Bg P s f o t] [h1:Agg P t k] {cs us:LV} (hx:ρ x=.agg cs.toArray) (hu:(cs.drop o).take k=us):Gives P ρ (.field s x f) ty w (.agg us.toArray) w:=λ_ _ _ _=>by
 obtain⟨fields,hf,hm⟩:=h.und;obtain⟨fl,JA,he⟩:=zav.1 hm;simp only[Prod.mk.injEq]at he;obtain⟨Pp,he2⟩:=he;subst he2;subst Pp;simp[execOp,hx,Instr.field,run_underlying hf,JA,asAgg,FM (P:=P) (w:=w) (t:=fl.type) (k:=k) hu]
theorem Gives.ahj {t m e:Nat} [h:Ar P t m e] [h1:OneCell P e] {k:IntKind} {i:Nat} {cs:LV} {v:Value} (hx:ρ x=.agg cs.toArray) (hy:ρ y=.int k i) (hi:i<m) (hv:cs[i]? =some v):Gives P ρ (.index t x y) ty w v w:=λ_ _ _ _=>by
 have e1:(0:Int)<=(i:Int)/\(i:Int)<(m:Int):=oM;simp[execOp,hx,hy,Instr.index,asIntOf,run_underlying h.und,e1,hi,h1.size,Bh (P:=P) (w:=w) (t:=e) hv]
theorem Gives.yV {t:Td} [h:j3 P t] {k:IntKind} {i:Nat} (hx:ρ x=str l) (hy:ρ y=.int k i) (hi:i<l.length):Gives P ρ (.index t x y) ty w (.int .u8 (l.getD i 0).toNat) w:=
 Gives.anf hx hy (by rw[zak,zaa hi];rfl)
theorem Gives.ahk {T U:Td} {α:Type} [DecidableEq α] {enc:α->LV} [h:EqData P T α enc] (a b:α) (hx:ρ x=.agg (enc a).toArray) (hy:ρ y=.agg (enc b).toArray):Gives P ρ (.binOp .eql T x y U) ty w (.bool (decide (a=b))) w:=
 .bin hx hy (λx y=>run_eqGuard_agg w .eql T x y _ _ h.guard) (by rw[run_eql_struct,h.run];rfl)
theorem Gives.ahl {T U:Td} {α:Type} [DecidableEq α] {enc:α->LV} [h:EqData P T α enc] (a b:α) (hx:ρ x=.agg (enc a).toArray) (hy:ρ y=.agg (enc b).toArray):Gives P ρ (.binOp .neq T x y U) ty w (.bool (decide (a≠b))) w:=
 .bin hx hy (λx y=>run_eqGuard_agg w .neq T x y _ _ h.guard) (by rw[run_neq_struct,h.run];simp[Result.andThen])
end gives
def Turn (F:NP) (q:HP) (w w':Wd):Prop:=Kept F w w'/\∃F',q.ok F' w'/\∀b,F' b->F b\/w.heap.size<=b
section
variable {P:Program} {r:Option Nat} {n:Nat} {ops:AO} {Q:Post} {rest:LO} {σ:St} {w w' w0:Wd} {S F:NP} {rs:List HP} {p q:HP} {put:HP->List HP} {op:Op} {ty:Td} {pos:String} {after:Array Edge}
theorem Bj {F:NP}:(iT [p]).ok F w↔p.ok F w:=by
 constructor
 .rintro⟨F1,F2,hF,hd,hp,⟨_,h2⟩⟩
  have :F=F1:=funext λb=>propext ((hF b).trans ⟨λh=>h.elim id λh=>(h2 b h).elim,.inl⟩);rw[this];exact hp
 intro h;exact⟨F,λ_=>False,λb=>sM,λ_ _ h=>h,h,trivial,λ_ h=>h⟩
theorem Sep.bW (h:p.ok F w):Sep w F [p] w:=Sep.start [p] (Bj.2 h)
theorem Sep.turn (h:Sep w0 F [p] w):Turn F p w0 w:=by
 obtain⟨h1,F',hF,hs⟩:=h;exact⟨h1,F',Bj.1 hF,hs⟩
theorem Turn.refl (h:p.ok F w):Turn F p w w:=⟨Kept.refl _ _,F,h,λ_ hb=>.inl hb⟩
theorem Sep.zQ {a b c d e f g p:HP} {l:List HP} (h:Sep w0 S (a::b::c::d::e::f::g::p::l) w):Sep w0 S (p::a::b::c::d::e::f::g::l) w:=Sep.front (l1:=[a,b,c,d,e,f,g]) h
theorem Sep.ajq {a b c d e f g i p:HP} {l:List HP} (h:Sep w0 S (a::b::c::d::e::f::g::i::p::l) w):Sep w0 S (p::a::b::c::d::e::f::g::i::l) w:=Sep.front (l1:=[a,b,c,d,e,f,g,i]) h
theorem Sep.ajr {a b c d e f g i j p:HP} {l:List HP} (h:Sep w0 S (a::b::c::d::e::f::g::i::j::p::l) w):Sep w0 S (p::a::b::c::d::e::f::g::i::j::l) w:=Sep.front (l1:=[a,b,c,d,e,f,g,i,j]) h
theorem Sep.ain {a p:HP} {l:List HP} (h:Sep w0 S (p::a::l) w):Sep w0 S (a::p::l) w:=h.aL
theorem Sep.El {a b p:HP} {l:List HP} (h:Sep w0 S (p::a::b::l) w):Sep w0 S (a::b::p::l) w:=h.aU.aU
theorem Sep.first (h:Sep w0 S (p::rs) w):Sep w0 S [p] w:=by
 induction rs with
 | nil=>exact h
 | cons a rs ih=>exact ih (h.aL.dA)
theorem Sep.firsts {l rs:List HP} (h:Sep w0 S (l++rs) w):Sep w0 S l w:=by
 have:=(Sep.bundle h).first.parts
 rwa [zci]at this
theorem eY {d:Nat} {f:FuncId} {xs:List Od} {ats:Array Td} {vals:LV} {v:Value} [he:qb P f]
    (hc:aY P f vals w λv' w'=>v'=v/\w=w') (hv:xs.map (evF σ)=vals:=by exact rfl) (hd:Nat.blt d n=true:=by exact rfl)
    (h:FL P r n ops Q rest (upd σ d v) w):
    FL P r n ops Q (⟨some d,.call {callee:=.value (.func f),args:=xs.toArray,argTypes:=ats},ty,pos,after,none⟩::rest) σ w:=
  aK hc hv hd λv' w' ⟨hx,hw⟩=>by subst hx;subst hw;exact h
theorem fq {d b o:Nat} {x:Od} {T:Td} [OneCell P T] {cs:LV} {E:Td} {v:Value} (hb:w.heap[b]? =some (.cells cs.toArray E (0,0))) (hx:evF σ x=.pointer (some ⟨b,o,none⟩):=by exact rfl)
    (hv:cs[o]? =some v:=by exact rfl) (hd:Nat.blt d n=true:=by exact rfl) (h:FL P r n ops Q rest (upd σ d v) w):
    FL P r n ops Q (⟨some d,.load T x,ty,pos,after,none⟩::rest) σ w:=dG (Gives.sJ hx hb hv) hd h
theorem Ls {d:Nat} {f:FuncId} {xs:List Od} {ats:Array Td} {vals:LV} {v:Value} [he:qb P f] (H:Sep w0 S rs w) (hat:At rs p put)
    (hc: ∀F,p.ok F w->(∀b,F b->S b\/w0.heap.size<=b)->aY P f vals w λv' w'=>v'=v/\Turn F q w w') (hv:xs.map (evF σ)=vals:=by exact rfl) (hd:Nat.blt d n=true:=by exact rfl)
    (h: ∀w',Sep w0 S (put q) w'->FL P r n ops Q rest (upd σ d v) w'):
    FL P r n ops Q (⟨some d,.call {callee:=.value (.func f),args:=xs.toArray,argTypes:=ats},ty,pos,after,none⟩::rest) σ w:=by
  obtain⟨F,hp,hS,jO⟩:=H.focus hat;refine aK (hc F hp hS) hv hd λv' w' ⟨hx,hk,F',hq,hs⟩=>?_;subst hx;exact h w' (jO w' F' _ hk hq hs)
theorem Sep.ae1 (h:Sep w0 S (q::rs) w) (hat:At rs p put): ∃F Fq,p.ok F w/\q.ok Fq w/\(∀b,Fq b->¬F b)/\(∀b,F b->S b\/w0.heap.size<=b)/\
    ∀w' F' p',Kept F w w'->p'.ok F' w'->(∀b,F' b->F b\/w.heap.size<=b)->Sep w0 S (q::put p') w':=by
  obtain⟨h1,G,⟨Fq,Fr,hG,hd,hq,hr⟩,hS⟩:=h;have h2:Sep w0 S rs w:=⟨h1,Fr,hr,λb hb=>hS b ((hG b).2 (.inr hb))⟩;obtain⟨l1,l2,rfl,jO⟩:=hat;obtain⟨F,F2,Dm,F7,hp,Rp⟩:=y9 hr;refine⟨F,Fq,hp,hq,λb hb hb2=>hd b hb ((Dm b).2 (.inl hb2)),λb hb=>hS b ((hG b).2 (.inr ((Dm b).2 (.inl hb)))),λw' F' p' hk hp' gT=>?_⟩;have Jy:=(iT (l1++l2)).low Rp;have aiN:=q.low hq;rw[jO];refine⟨h1.trans hk λb hb=>hS b ((hG b).2 (.inr ((Dm b).2 (.inl hb)))),λb=>Fq b\/(F' b\/F2 b),⟨Fq,λb=>F' b\/F2 b,λb=>Iff.rfl,λb hb hb2=>?_,q.loc hk.size (λb hb=>hk.block b (aiN b hb) λhf=>hd b hb ((Dm b).2 (.inl hf))) hq,?_⟩,?_⟩
  . rcases hb2 with hb2 | hb2
    . rcases gT b hb2 with h | h
      . exact hd b hb ((Dm b).2 (.inl h))
      have:=aiN b hb;omega
    exact hd b hb ((Dm b).2 (.inr hb2))
  . refine CF (F1:=F') (F2:=F2) (λb=>Iff.rfl) (λb hb hb2=>?_) hp' ((iT (l1++l2)).loc hk.size (λb hb=>hk.block b (Jy b hb) (λh1=>F7 b h1 hb)) Rp)
    rcases gT b hb with h | h
    . exact F7 b h hb2
    have:=Jy b hb2;omega
  rintro b (hb | hb | hb)
  . exact hS b ((hG b).2 (.inl hb))
  . rcases gT b hb with h | h
    . exact hS b ((hG b).2 (.inr ((Dm b).2 (.inl h))))
    exact .inr (zcl h1.size h)
  exact hS b ((hG b).2 (.inr ((Dm b).2 (.inr hb))))
theorem HP.stay {F:NP} (h:p.ok F w) (hk:Kept noB w w'):p.ok F w':=p.loc hk.size (λb hb=>hk.block b (p.low h b hb) id) h
theorem dn {d:Nat} {f:FuncId} {xs:List Od} {ats:Array Td} {vals:LV} {α:Type} {val:α->Value} {φ:α->Prop} {q:α->HP} [he:qb P f] (H:Sep w0 S rs w)
    (hc:aY P f vals w λv w'=>∃x,v=val x/\φ x/\Turn noB (q x) w w') (hv:xs.map (evF σ)=vals:=by exact rfl) (hd:Nat.blt d n=true:=by exact rfl)
    (h: ∀x w',φ x->Sep w0 S (q x::rs) w'->Kept noB w w'->FL P r n ops Q rest (upd σ d (val x)) w'):
    FL P r n ops Q (⟨some d,.call {callee:=.value (.func f),args:=xs.toArray,argTypes:=ats},ty,pos,after,none⟩::rest) σ w:=by
  refine aK hc hv hd λv w' ⟨x,hx,hφ,hk,F',hq,hs⟩=>?_;subst hx;exact h x w' hφ (H.new hk hq λb hb=>(hs b hb).resolve_left id) hk
end
section
variable {P:Program} {r:Option Nat} {n:Nat} {ops:AO} {Q:Post} {lv:List Bool} {pd pd':LNB} {σ:St} {w w' w0:Wd} {S F:NP} {rs:List HP} {p q:HP} {put:HP->List HP} {op:Op} {ty:Td} {pos:String} {after:Array Edge} {guard:Option (Nat×Bool)}
theorem ae2 {id:Nat} {l:LO} (hm:P.follows .mixedOrders=true) (H:Sep w0 S rs w) (eH:dJ n l.toArray=true:=by kernel_rfl) (h:dJ n l.toArray=true->∀w',Sep w0 S rs w'->FG P r n l.toArray Q (List.replicate l.length false) [] σ w'):FW P r n (.region id l.toArray true) Q σ w:=
 agV hm eH λw' hk=>h eH w' (H.keep hk)
theorem iM {t:Nat} {φ:Prop} [Decidable φ] (hb:σ.get t=.bool (decide φ)) (h1:φ->FG P r n ops Q lv pd (upd σ t (.bool true)) w) (h0: ¬φ->FG P r n ops Q lv pd (upd σ t (.bool false)) w):FG P r n ops Q lv pd σ w:=by
 by_cases hp:φ
 .have:=h1 hp
  rw[show Value.bool true=σ t from by rw[hb,zbj hp],sH]at this;exact this
 have:=h0 hp;rw[show Value.bool false=σ t from by rw[hb,zas hp],sH]at this;exact this
theorem Lu {t:Nat} {b:Bool} (hb:σ.get t=.bool b) (h1:b=true->FG P r n ops Q lv pd (upd σ t (.bool true)) w) (h0:b=false->FG P r n ops Q lv pd (upd σ t (.bool false)) w):FG P r n ops Q lv pd σ w:=by
 cases b
 .have:=h0 rfl
  rw[show Value.bool false=σ t from hb.symm,sH]at this;exact this
 have:=h1 rfl;rw[show Value.bool true=σ t from hb.symm,sH]at this;exact this
theorem ajs (eH:dJ n ops=true) (i:Nat) {d:Nat} {x:Od} {v:Value} (ho:ops[i]? =some ⟨some d,.move x,ty,pos,after,guard⟩:=by exact rfl)
    (hw:Region.wanted ⟨some d,.move x,ty,pos,after,guard⟩ (bX ops σ)=true:=by kernel_rfl) (hv:evF σ x=v:=by exact eV) (d9:jW ops lv (pd.map (·.1)) i=true:=by kernel_rfl)
    (h:FG P r n ops Q (lv.set i true) ((i,true)::pd) (upd σ d v) w):FG P r n ops Q lv pd σ w:=FGp eH i ho hw (λ_=>Gives.move hv) d9 h
theorem ajt (eH:dJ n ops=true) (i:Nat) {d b o:Nat} {x:Od} {T:Td} [OneCell P T] {cs:LV} {E:Td} {v:Value} (H:Sep w0 S rs w) (ho:ops[i]? =some ⟨some d,.load T x,ty,pos,after,guard⟩:=by exact rfl)
    (hw:Region.wanted ⟨some d,.load T x,ty,pos,after,guard⟩ (bX ops σ)=true:=by kernel_rfl) (hx:evF σ x=.pointer (some ⟨b,o,none⟩):=by exact rfl)
    (hat:At rs (blk b cs E) put:=by exact aT) (hv:cs[o]? =some v:=by exact rfl) (d9:jW ops lv (pd.map (·.1)) i=true:=by kernel_rfl)
    (h:FG P r n ops Q (lv.set i true) ((i,false)::pd) (upd σ d v) w):FG P r n ops Q lv pd σ w:=FGl eH i ho hw (Gives.sJ hx (H.obj hat) hv) d9 h
theorem ahm (eH:dJ n ops=true) (i:Nat) {d b o k:Nat} {x:Od} {T:Td} [Agg P T k] {cs us:LV} {E:Td} (H:Sep w0 S rs w) (ho:ops[i]? =some ⟨some d,.load T x,ty,pos,after,guard⟩:=by exact rfl)
    (hw:Region.wanted ⟨some d,.load T x,ty,pos,after,guard⟩ (bX ops σ)=true:=by kernel_rfl) (hx:evF σ x=.pointer (some ⟨b,o,none⟩):=by exact rfl)
    (hat:At rs (blk b cs E) put:=by exact aT) (hu:(cs.drop o).take k=us) (hk:us.length=k) (d9:jW ops lv (pd.map (·.1)) i=true:=by kernel_rfl)
    (h:FG P r n ops Q (lv.set i true) ((i,false)::pd) (upd σ d (.agg us.toArray)) w):FG P r n ops Q lv pd σ w:=FGl eH i ho hw (Gives.JZ hx (H.obj hat) hu hk) d9 h
theorem iX {i d b o:Nat} {x:Od} {T:Td} [OneCell P T] {cs:LV} {E:Td} {v:Value} {l:LNB} (H:Sep w0 S rs w) (ho:ops[i]? =some ⟨some d,.load T x,ty,pos,after,guard⟩:=by exact rfl)
    (hw:Region.wanted ⟨some d,.load T x,ty,pos,after,guard⟩ (bX ops σ)=true:=by kernel_rfl) (hx:evF σ x=.pointer (some ⟨b,o,none⟩):=by exact rfl)
    (hat:At rs (blk b cs E) put:=by exact aT) (hv:cs[o]? =some v:=by exact rfl) (hd:σ d=v:=by exact rfl) (h:jk P ops σ w l):jk P ops σ w ((i,false)::l):=
  dw ho hw (Gives.sJ hx (H.obj hat) hv) hd h
theorem mM (eH:dJ n ops=true) (e:Nat) (pd':LNB) {b o:Nat} {x y:Od} {T:Td} [OneCell P T] {cs cs':LV} {E:Td} {v:Value} (H:Sep w0 S rs w) (ho:ops[e]? =some ⟨none,.store T x y,ty,pos,after,guard⟩:=by exact rfl)
    (hw:Region.wanted ⟨none,.store T x y,ty,pos,after,guard⟩ (bX ops σ)=true:=by kernel_rfl) (hx:evF σ x=.pointer (some ⟨b,o,none⟩):=by exact rfl)
    (hy:evF σ y=v:=by exact eV) (hv:v.oneCell'=true:=by exact rfl)
    (hat:At rs (blk b cs E) put:=by exact aT) (bH:Nat.blt o cs.length=true:=by exact rfl)
    (hs:cs.set o v=cs':=by first | (simp only[zea,zgb];rfl) | exact rfl) (d9:eX ops lv (pd.map (·.1)) e=true:=by kernel_rfl) (oo:pd.filter (λp=> !((above ops e).contains p.1))=pd':=by exact pD)
    (h: ∀w',Sep w0 S (put (blk b cs' E)) w'->jk P ops σ w' pd'/\FG P r n ops Q (lv.set e true) pd' σ w'):FG P r n ops Q lv pd σ w:=
  Ul eH e pd' ho hw (Xk cs' H hx hy hv hat bH hs) d9 oo h
theorem Q6 (eH:dJ n ops=true) (i:Nat) (pd':LNB) {d:Nat} {t e:Td} {xs:List Od} {parts:List (Nat×Od)} {out:LV} {size bytes:Nat} [hs:dh P t e] [hc:Cells P e size bytes] {z:Value} [hz:Zero P e z] (H:Sep w0 S rs w) (hE:dK (evF σ) size xs out)
    (ho:ops[i]? =some ⟨some d,.buildSlice t xs.length parts.toArray,ty,pos,after,guard⟩:=by exact rfl)
    (hw:Region.wanted ⟨some d,.buildSlice t xs.length parts.toArray,ty,pos,after,guard⟩ (bX ops σ)=true:=by kernel_rfl)
    (hp:parts=(xs.zipIdx 0).map λp=>(p.2,p.1):=by exact rfl) (hlen:Nat.ble (xs.length*size) 16777216=true:=by exact rfl)
    (d9:eX ops lv (pd.map (·.1)) i=true:=by kernel_rfl) (oo:pd.filter (λp=> !((above ops i).contains p.1))=pd':=by exact pD)
    (h: ∀b w',Sep w0 S (blk b out e::rs) w'->jk P ops (upd σ d (.slice (some ⟨b,0,none⟩) xs.length xs.length)) w' pd'/\FG P r n ops Q (lv.set i true) pd' (upd σ d (.slice (some ⟨b,0,none⟩) xs.length xs.length)) w'):FG P r n ops Q lv pd σ w:=
  vW eH i pd' (C:=λv w'=>∃b,v=.slice (some ⟨b,0,none⟩) xs.length xs.length/\Sep w0 S (blk b out e::rs) w') ho hw ⟨_,_,Gives.buildSlice hE hp hlen,_,rfl,H.alloc _⟩ d9 oo λv w' ⟨b,hv,acE⟩=>by subst hv;exact h b w' acE
theorem JR (eH:dJ n ops=true) (e:Nat) (pd':LNB) {d:Nat} {f:FuncId} {xs:List Od} {ats:Array Td} {vals:LV} {v:Value} [he:qb P f] (H:Sep w0 S rs w) (hc:aY P f vals w λv' w'=>v'=v/\w=w')
    (ho:ops[e]? =some ⟨some d,.call {callee:=.value (.func f),args:=xs.toArray,argTypes:=ats},ty,pos,after,guard⟩:=by exact rfl)
    (hw:Region.wanted ⟨some d,.call {callee:=.value (.func f),args:=xs.toArray,argTypes:=ats},ty,pos,after,guard⟩ (bX ops σ)=true:=by kernel_rfl) (hv:xs.map (evF σ)=vals:=by exact rfl) (d9:eX ops lv (pd.map (·.1)) e=true:=by kernel_rfl)
    (oo:pd.filter (λp=> !((above ops e).contains p.1))=pd':=by exact pD) (h: ∀w',Sep w0 S rs w'->jk P ops (upd σ d v) w' pd'/\FG P r n ops Q (lv.set e true) pd' (upd σ d v) w'):FG P r n ops Q lv pd σ w:=
  rD eH e pd' ho hw hc hv d9 oo λv' w' ⟨h1,h2⟩=>by subst h1;subst h2;exact h w H
theorem fV (eH:dJ n ops=true) (e:Nat) (pd':LNB) {d:Nat} {f:FuncId} {xs:List Od} {ats:Array Td} {vals:LV} {α:Type} {val:α->Value} {φ:α->Prop} {q:α->HP} [he:qb P f] (H:Sep w0 S rs w)
    (hc:aY P f vals w λv w'=>∃x,v=val x/\φ x/\Turn noB (q x) w w')
    (ho:ops[e]? =some ⟨some d,.call {callee:=.value (.func f),args:=xs.toArray,argTypes:=ats},ty,pos,after,guard⟩:=by exact rfl)
    (hw:Region.wanted ⟨some d,.call {callee:=.value (.func f),args:=xs.toArray,argTypes:=ats},ty,pos,after,guard⟩ (bX ops σ)=true:=by kernel_rfl) (hv:xs.map (evF σ)=vals:=by exact rfl) (d9:eX ops lv (pd.map (·.1)) e=true:=by kernel_rfl)
    (oo:pd.filter (λp=> !((above ops e).contains p.1))=pd':=by exact pD) (h: ∀x w',φ x->Sep w0 S (q x::rs) w'->Kept noB w w'->jk P ops (upd σ d (val x)) w' pd'/\FG P r n ops Q (lv.set e true) pd' (upd σ d (val x)) w'):FG P r n ops Q lv pd σ w:=by
  refine rD eH e pd' ho hw hc hv d9 oo λv' w' ⟨x,h1,hφ,hk,F',hq,hs⟩=>?_;subst h1;exact h x w' hφ (H.new hk hq λb hb=>(hs b hb).resolve_left id) hk
end
section
variable {P:Program} {r:Option Nat} {n:Nat} {ops:AO} {Q:Post} {rest:LO} {σ:St} {w w0:Wd} {S:NP} {rs:List HP} {put:HP->List HP} {ty:Td} {pos:String} {after:Array Edge} {op:Op}
theorem Qn {y:Code} (h:FW P r n y Q σ w):FL P r n ops (fZ P r n y Q) [] σ w:=uT (bC h)
theorem Sr {id:Nat} {l:LO} {y:Code} (h:FL P r n l.toArray (fZ P r n y Q) l σ w):FW P r n (.seq (.region id l.toArray false) y) Q σ w:=dW (EF h)
theorem Nx {id:Nat} {l:LO} {y:Code} (h:FL P r n l.toArray (fZ P r n y Q) l σ w):FL P r n ops (fZ P r n (.seq (.region id l.toArray false) y) Q) [] σ w:=uT (bC (dW (EF h)))
theorem Sk {y:Code} (h:FW P r n y Q σ w):FW P r n .skip (fZ P r n y Q) σ w:=YK (bC h)
theorem Mv {d:Nat} {x:Od} {v:Value} (h:FL P r n ops Q rest (upd σ d v) w) (hv:evF σ x=v:=by exact eV) (hd:Nat.blt d n=true:=by exact rfl):
    FL P r n ops Q (⟨some d,.move x,ty,pos,after,none⟩::rest) σ w:=agT hv hd h
theorem Am {d:Nat} {x:Od} {v:Value} (h:FL P r n ops Q rest (upd σ d v) w) (hv:evF σ x=v:=by exact eV) (hd:Nat.blt d n=true:=by exact rfl):
    FL P r n ops Q (⟨some d,.assign x,ty,pos,after,none⟩::rest) σ w:=aaU hv hd h
theorem Pf {d:Nat} {x y z:Od} {v:Value} (h:FL P r n ops Q rest (upd σ d v) w) (hc:evF σ z=.bool false:=by exact rfl) (hv:evF σ y=v:=by exact eV) (hd:Nat.blt d n=true:=by exact rfl):
    FL P r n ops Q (⟨some d,.pick z x y,ty,pos,after,none⟩::rest) σ w:=ad6 hc hv hd h
theorem On {dst:Option Nat} {j:Nat} {b:Bool} {t:Nat} (h:FL P r n ops Q (⟨dst,op,ty,pos,after,none⟩::rest) σ w) (hj:(ops[j]?).bind (λo:Oper=>o.dst)=some t:=by exact rfl) (hb:σ t=.bool b:=by exact rfl):
    FL P r n ops Q (⟨dst,op,ty,pos,after,some (j,b)⟩::rest) σ w:=ah4 hj hb h
theorem Ld {d b o:Nat} {x:Od} {T:Td} [OneCell P T] {cs:LV} {E:Td} {v:Value} (H:Sep w0 S rs w) (h:FL P r n ops Q rest (upd σ d v) w) (hx:evF σ x=.pointer (some ⟨b,o,none⟩):=by exact rfl) (hat:At rs (blk b cs E) put:=by exact aT) (hv:cs[o]? =some v:=by exact rfl) (hd:Nat.blt d n=true:=by exact rfl):
    FL P r n ops Q (⟨some d,.load T x,ty,pos,after,none⟩::rest) σ w:=agU H hx hat hv hd h
section
variable {d:Nat} {x y:Od} {T U:Td} {k:IntKind} {a b:Int}
theorem Ve (h:FL P r n ops Q rest (upd σ d (.bool (decide (a=b)))) w) (hx:evF σ x=.int k a:=by exact rfl) (hy:evF σ y=.int k b:=by exact rfl) (hd:Nat.blt d n=true:=by exact rfl):
    FL P r n ops Q (⟨some d,.binOp .eql T x y U,ty,pos,after,none⟩::rest) σ w:=dG (Gives.eql hx hy) hd h
theorem Vl (h:FL P r n ops Q rest (upd σ d (.bool (decide (a<b)))) w) (hx:evF σ x=.int k a:=by exact rfl) (hy:evF σ y=.int k b:=by exact rfl) (hd:Nat.blt d n=true:=by exact rfl):
    FL P r n ops Q (⟨some d,.binOp .lss T x y U,ty,pos,after,none⟩::rest) σ w:=dG (Gives.lss hx hy) hd h
theorem Vx {i:Nat} {vs:Array Value} {v:Value} (h:FL P r n ops Q rest (upd σ d v) w) (hx:evF σ x=.tuple vs:=by exact rfl) (hv:vs[i]? =some v:=by exact rfl) (hd:Nat.blt d n=true:=by exact rfl):
    FL P r n ops Q (⟨some d,.extract x i,ty,pos,after,none⟩::rest) σ w:=dG (Gives.extract hx hv) hd h
theorem Vf {s f k b:Nat} [Aq P s f k] (h:FL P r n ops Q rest (upd σ d (.pointer (some ⟨b,k,none⟩))) w) (hx:evF σ x=.pointer (some ⟨b,0,none⟩):=by exact rfl) (hd:Nat.blt d n=true:=by exact rfl):
    FL P r n ops Q (⟨some d,.fieldAddr s x f,ty,pos,after,none⟩::rest) σ w:=dG (Gives.uU hx) hd h
end
end
section
variable {P:Program} {n:Nat} {Q:Post} {σ:St} {w:Wd} {l:List ResultVar} {R:Value->Wd->Prop}
theorem Rb {r:Option Nat} {id:Nat} {y:Code} (h:Q .ret σ w):FW P r n .ret (gG id (fZ P r n y Q)) σ w:=dX (bM (dM h))
theorem Rs {r:Option Nat} {y:Code} (h:Q .ret σ w):FW P r n .ret (fZ P r n y Q) σ w:=dX (dM h)
end
section
variable {P:Program} {r:Option Nat} {n:Nat} {ops:AO} {Q:Post} {rest:LO} {σ:St} {w:Wd} {ty:Td} {pos:String} {after:Array Edge} {guard:Option (Nat×Bool)} {lv:List Bool} {pd:LNB} {op:Op} {d:Nat} {v:Value}
theorem Gp (eH:dJ n ops=true) (i:Nat) (ho:ops[i]? =some ⟨some d,op,ty,pos,after,guard⟩) (hw:Region.wanted ⟨some d,op,ty,pos,after,guard⟩ (bX ops σ)=true) (hg: ∀w,Gives P (evF σ) op ty w v w)
    (h:FG P r n ops Q (lv.set i true) ((i,true)::pd) (upd σ d v) w) (d9:jW ops lv (pd.map (·.1)) i=true:=by kernel_rfl):FG P r n ops Q lv pd σ w:=FGp eH i ho hw hg d9 h
theorem Gl (eH:dJ n ops=true) (i:Nat) (ho:ops[i]? =some ⟨some d,op,ty,pos,after,guard⟩) (hw:Region.wanted ⟨some d,op,ty,pos,after,guard⟩ (bX ops σ)=true) (hg:Gives P (evF σ) op ty w v w)
    (h:FG P r n ops Q (lv.set i true) ((i,false)::pd) (upd σ d v) w) (d9:jW ops lv (pd.map (·.1)) i=true:=by kernel_rfl):FG P r n ops Q lv pd σ w:=FGl eH i ho hw hg d9 h
theorem Gm (eH:dJ n ops=true) (i:Nat) {x:Od} (h:FG P r n ops Q (lv.set i true) ((i,true)::pd) (upd σ d v) w) (ho:ops[i]? =some ⟨some d,.move x,ty,pos,after,guard⟩:=by exact rfl)
    (hw:Region.wanted ⟨some d,.move x,ty,pos,after,guard⟩ (bX ops σ)=true:=by kernel_rfl) (hv:evF σ x=v:=by exact eV) (d9:jW ops lv (pd.map (·.1)) i=true:=by kernel_rfl):FG P r n ops Q lv pd σ w:=ajs eH i ho hw hv d9 h
theorem Vv (hg:Gives P (evF σ) op ty w v w) (h:FL P r n ops Q rest (upd σ d v) w) (hd:Nat.blt d n=true:=by exact rfl):FL P r n ops Q (⟨some d,op,ty,pos,after,none⟩::rest) σ w:=dG hg hd h
theorem Cp {c:Od} {x y:Code} {p:Prop} [Decidable p] (hc:evF σ c=.bool (decide p)) (ht:p->FW P r n x Q σ w) (hf: ¬p->FW P r n y Q σ w):FW P r n (.cond c x y) Q σ w:=acP hc ht hf
theorem Cd {c:Od} {x y:Code} {t:Bool} (hc:evF σ c=.bool t) (ht:t=true->FW P r n x Q σ w) (hf:t=false->FW P r n y Q σ w):FW P r n (.cond c x y) Q σ w:=JD hc ht hf
end
open Go
/-! Goals told by their kind. -/
section
variable {P:Program} {ρ:Od->Value} {ty:Td} {w w':Wd} {v:Value} {x y u:Od}
theorem ang {o:BinOp} {T U:Td} (h:Gives P ρ (.binOp o T x y U) ty w v w'):Gives P ρ (.binOp o T x y U) ty w v w':=h
theorem anh {T U:Td} (h:Gives P ρ (.binOp .eql T x y U) ty w v w'):Gives P ρ (.binOp .eql T x y U) ty w v w':=h
theorem ani {T U:Td} (h:Gives P ρ (.binOp .neq T x y U) ty w v w'):Gives P ρ (.binOp .neq T x y U) ty w v w':=h
theorem aju {s f:Nat} (h:Gives P ρ (.fieldAddr s x f) ty w v w'):Gives P ρ (.fieldAddr s x f) ty w v w':=h
theorem alg {b:Builtin} {xs:Array Od} {ts:Array Td} (h:Gives P ρ (.call {callee:=.builtin b,args:=xs,argTypes:=ts}) ty w v w'):Gives P ρ (.call {callee:=.builtin b,args:=xs,argTypes:=ts}) ty w v w':=h
theorem alh {s t:Td} (h:Gives P ρ (.convert s t x) ty w v w'):Gives P ρ (.convert s t x) ty w v w':=h
theorem ajv {t:Td} {a b c:Option Od} (h:Gives P ρ (.slice t x a b c) ty w v w'):Gives P ρ (.slice t x a b c) ty w v w':=h
theorem ali {t:Td} (h:Gives P ρ (.indexAddr t x y) ty w v w'):Gives P ρ (.indexAddr t x y) ty w v w':=h
theorem iUn {o:UnOp} {T:Td} (h:Gives P ρ (.unOp o T x) ty w v w'):Gives P ρ (.unOp o T x) ty w v w':=h
theorem alj (h:Gives P ρ (.pick u x y) ty w v w'):Gives P ρ (.pick u x y) ty w v w':=h
end
theorem gq {p:Prop} (h:p:=by first
 | exact Gives.nilCheck rfl
 | (apply aju;first | exact Gives.uU rfl | exact Gives.yH rfl (by assumption) oM | exact Gives.field rfl | exact Gives.aeV rfl)
 | exact Gives.extract rfl rfl
 | (apply ang;first
  | (apply anh;first | exact Gives.eql rfl rfl | exact Gives.anb rfl rfl | exact Gives.amU rfl rfl | exact Gives.aiT rfl rfl | exact Gives.ahg rfl rfl | exact Gives.aeW rfl rfl)
  | (apply ani;first | exact Gives.neq rfl rfl | exact Gives.anc rfl rfl | exact Gives.amV rfl rfl | exact Gives.aiU rfl rfl)
  | exact Gives.lss rfl rfl
  | exact Gives.leq rfl rfl
  | exact Gives.gtr rfl rfl
  | exact Gives.geq rfl rfl
  | exact Gives.PO rfl rfl rfl oM
  | exact Gives.aiR rfl rfl rfl oM
  | exact Gives.aiS rfl rfl rfl oM
  | exact Gives.ane rfl rfl
  | exact Gives.UZ rfl rfl (by first | omega | (simp;done) | (simp;omega))
  | exact Gives.add rfl rfl
  | exact Gives.sub rfl rfl
  | exact Gives.mul rfl rfl
  | exact Gives.and rfl rfl
  | exact Gives.or rfl rfl
  | exact Gives.xor rfl rfl
  | exact Gives.shl rfl rfl oM
  | exact Gives.shr rfl rfl oM
  | exact Gives.rem rfl rfl oM
  | exact Gives.quo rfl rfl oM)
 | (apply alg;first | exact Gives.ana rfl | exact Gives.ad8 rfl | exact Gives.min rfl rfl | exact Gives.max rfl rfl)
 | (apply ali;first | exact Gives.jJ rfl rfl (by assumption) oM | exact Gives.agy rfl rfl oM | exact Gives.Fh rfl rfl oM | exact Gives.am2 rfl rfl (by assumption) (by first | exact At0 | exact At1) (by exact sz) oM)
 | (apply alj;first | exact Gives.akM rfl rfl | exact Gives.ah5 rfl rfl | exact Gives.pick rfl rfl rfl)
 | (apply iUn;first | exact Gives.notP rfl | exact Gives.not rfl | exact Gives.neg rfl)
 | (apply alh;first | exact Gives.alv rfl | exact Gives.ahw rfl oM | exact Gives.Zn rfl oM | exact Gives.afe rfl oM | exact Gives.aeZ rfl | exact Gives.conv rfl)
 | exact Gives.yV rfl rfl oM
 | (apply ajv;first | exact Gives.sliceTo rfl rfl oM | exact Gives.sliceFrom rfl rfl oM | exact Gives.pR rfl rfl oM | exact Gives.oJ rfl rfl oM | exact Gives.aaW rfl rfl rfl oM oM | exact Gives.Db rfl rfl rfl oM oM | exact Gives.ad9 rfl)
 | exact Gives.U0 rfl rfl
 | exact Gives.ae0 rfl rfl
 | exact Gives.ahj rfl rfl oM rfl
 | exact Gives.makeFunc rfl rfl
 | fail):p:=h
section
variable {P:Program} {r:Option Nat} {n:Nat} {ops:AO} {Q:Post} {rest:LO} {σ:St} {w:Wd} {ty:Td} {pos:String} {after:Array Edge} {guard:Option (Nat×Bool)} {lv:List Bool} {pd:LNB} {op:Op} {d:Nat} {v:Value}
theorem Vq (h:FL P r n ops Q rest (upd σ d v) w) (hg:Gives P (evF σ) op ty w v w:=by exact gq) (hd:Nat.blt d n=true:=by exact rfl):FL P r n ops Q (⟨some d,op,ty,pos,after,none⟩::rest) σ w:=dG hg hd h
/-! Regions that draw,the operations one behind the other. -/
theorem sT {l:LNB} (h:l.all (λp=>p.2)=true:=by kernel_rfl):jk P ops σ w l:=by
 induction l with
 | nil=>trivial
 | cons p l ih=>
  obtain⟨i,b⟩:=p;simp only[List.all_cons,zbr]at h;obtain⟨rfl,h⟩:=h;exact ih h
theorem Ds {w0:Wd} {S:NP} {rs:List HP} {id:Nat} {l:LO} (h:dJ n l.toArray=true->∀w',Sep w0 S rs w'->FG P r n l.toArray Q (List.replicate l.length false) [] σ w') (hm:P.follows .mixedOrders=true:=by exact rfl) (H:Sep w0 S rs w:=by assumption) (eH:dJ n l.toArray=true:=by kernel_rfl):FW P r n (.region id l.toArray true) Q σ w:=ae2 hm H eH h
def FGn (P:Program) (r:Option Nat) (n:Nat) (ops:AO) (Q:Post) (i:Nat) (lv:List Bool) (pd:LNB) (σ:St) (w:Wd):Prop:=jW ops lv (pd.map (·.1)) i=true->FG P r n ops Q lv pd σ w
theorem G0 {k:Nat} (h:FGn P r n ops Q 0 (List.replicate k false) pd σ w) (d9:jW ops (List.replicate k false) (pd.map (·.1)) 0=true:=by decide+kernel):FG P r n ops Q (List.replicate k false) pd σ w:=h d9
theorem GS {j:Nat} (h:FGn P r n ops Q (j+1) (lv.set j true) pd σ w) (d9:jW ops (lv.set j true) (pd.map (·.1)) (j+1)=true:=by decide+kernel):FG P r n ops Q (lv.set j true) pd σ w:=h d9
section
variable {i:Nat}
theorem Gn {d:Nat} {v:Value} (ho:ops[i]? =some ⟨some d,op,ty,pos,after,guard⟩) (hg: ∀w,Gives P (evF σ) op ty w v w) (h:FG P r n ops Q (lv.set i true) ((i,true)::pd) (upd σ d v) w) (eH:dJ n ops=true:=by assumption)
    (hw:Region.wanted ⟨some d,op,ty,pos,after,guard⟩ (bX ops σ)=true:=by exact rfl):FGn P r n ops Q i lv pd σ w:=λd9=>FGp eH i ho hw hg d9 h
theorem Gt {d:Nat} {v:Value} (ho:ops[i]? =some ⟨some d,op,ty,pos,after,guard⟩) (hg:Gives P (evF σ) op ty w v w) (h:FG P r n ops Q (lv.set i true) ((i,false)::pd) (upd σ d v) w) (eH:dJ n ops=true:=by assumption)
    (hw:Region.wanted ⟨some d,op,ty,pos,after,guard⟩ (bX ops σ)=true:=by exact rfl):FGn P r n ops Q i lv pd σ w:=λd9=>FGl eH i ho hw hg d9 h
theorem Gu {w0:Wd} {S:NP} {rs:List HP} {put:HP->List HP} {d b o:Nat} {x:Od} {T:Td} [OneCell P T] {cs:LV} {E:Td} {v:Value} (ho:ops[i]? =some ⟨some d,.load T x,ty,pos,after,guard⟩) (H:Sep w0 S rs w) (h:FG P r n ops Q (lv.set i true) ((i,false)::pd) (upd σ d v) w) (eH:dJ n ops=true:=by assumption)
    (hw:Region.wanted ⟨some d,.load T x,ty,pos,after,guard⟩ (bX ops σ)=true:=by exact rfl) (hx:evF σ x=.pointer (some ⟨b,o,none⟩):=by exact rfl)
    (hat:At rs (blk b cs E) put:=by exact aT) (hv:cs[o]? =some v:=by exact rfl):FGn P r n ops Q i lv pd σ w:=λd9=>FGl eH i ho hw (Gives.sJ hx (H.obj hat) hv) d9 h
theorem Gw {w0:Wd} {S:NP} {rs:List HP} {put:HP->List HP} {d b k:Nat} {x:Od} {T:Td} [Agg P T k] {cs:LV} {E:Td} (ho:ops[i]? =some ⟨some d,.load T x,ty,pos,after,guard⟩) (H:Sep w0 S rs w) (h:FG P r n ops Q (lv.set i true) ((i,false)::pd) (upd σ d (.agg cs.toArray)) w) (eH:dJ n ops=true:=by assumption)
    (hw:Region.wanted ⟨some d,.load T x,ty,pos,after,guard⟩ (bX ops σ)=true:=by exact rfl) (hx:evF σ x=.pointer (some ⟨b,0,none⟩):=by exact rfl)
    (hat:At rs (blk b cs E) put:=by exact aT) (hk:cs.length=k:=by exact rfl):FGn P r n ops Q i lv pd σ w:=λd9=>FGl eH i ho hw (Gives.JZ (us:=cs) hx (H.obj hat) (by rw[zdb,<-hk,zbo]) hk) d9 h
theorem Gv {d:Nat} {v:Value} (ho:ops[i]? =some ⟨some d,op,ty,pos,after,guard⟩) (eH:dJ n ops=true) (h:FG P r n ops Q (lv.set i true) ((i,true)::pd) (upd σ d v) w)
    (hg: ∀w,Gives P (evF σ) op ty w v w:=by intro w_;first | exact Gives.move (by exact eV) | exact Gives.assign rfl | exact gq | fail)
    (hw:Region.wanted ⟨some d,op,ty,pos,after,guard⟩ (bX ops σ)=true:=by exact rfl):FGn P r n ops Q i lv pd σ w:=λd9=>FGp eH i ho hw hg d9 h
theorem Go' {d:Nat} (ho:ops[i]? =some ⟨some d,op,ty,pos,after,guard⟩) (eH:dJ n ops=true) (h:FG P r n ops Q (lv.set i true) ((i,true)::pd) (upd σ d undef) w)
    (hw:Region.wanted ⟨some d,op,ty,pos,after,guard⟩ (bX ops σ)=false:=by exact rfl):FGn P r n ops Q i lv pd σ w:=λd9=>Oj eH i ho hw d9 h
end
theorem Vc (c:Int) (h:FL P r n ops Q rest (upd σ d (.int .i64 c)) w) (hg:Gives P (evF σ) op ty w (.int .i64 c) w:=by first | exact Gives.PO rfl rfl oM oM | exact Gives.aiR rfl rfl oM oM | exact Gives.aiS rfl rfl oM oM) (hd:Nat.blt d n=true:=by exact rfl):FL P r n ops Q (⟨some d,op,ty,pos,after,none⟩::rest) σ w:=dG hg hd h
theorem Gc (eH:dJ n ops=true) (i:Nat) (c:Int) (h:FG P r n ops Q (lv.set i true) ((i,true)::pd) (upd σ d (.int .i64 c)) w) (ho:ops[i]? =some ⟨some d,op,ty,pos,after,guard⟩:=by exact rfl) (hw:Region.wanted ⟨some d,op,ty,pos,after,guard⟩ (bX ops σ)=true:=by exact rfl)
    (hg: ∀w,Gives P (evF σ) op ty w (.int .i64 c) w:=by intro w_;first | exact Gives.PO rfl rfl oM oM | exact Gives.aiR rfl rfl oM oM | exact Gives.aiS rfl rfl oM oM) (d9:jW ops lv (pd.map (·.1)) i=true:=by kernel_rfl):FG P r n ops Q lv pd σ w:=FGp eH i ho hw hg d9 h
theorem Vb (us:LV) (h:FL P r n ops Q rest (upd σ d (.agg us.toArray)) w) (hg:Gives P (evF σ) op ty w (.agg us.toArray) w:=by refine Gives.build ?_;repeat (first | exact Fills.nil | refine Fills.one rfl rfl rfl sM rfl ?_ | refine Fills.many rfl rfl sM rfl ?_)) (hd:Nat.blt d n=true:=by exact rfl):FL P r n ops Q (⟨some d,op,ty,pos,after,none⟩::rest) σ w:=dG hg hd h
theorem Gb (eH:dJ n ops=true) (i:Nat) (us:LV) (h:FG P r n ops Q (lv.set i true) ((i,true)::pd) (upd σ d (.agg us.toArray)) w) (ho:ops[i]? =some ⟨some d,op,ty,pos,after,guard⟩:=by exact rfl) (hw:Region.wanted ⟨some d,op,ty,pos,after,guard⟩ (bX ops σ)=true:=by exact rfl)
    (hg: ∀w,Gives P (evF σ) op ty w (.agg us.toArray) w:=by intro w_;refine Gives.build ?_;repeat (first | exact Fills.nil | refine Fills.one rfl rfl rfl sM rfl ?_ | refine Fills.many rfl rfl sM rfl ?_)) (d9:jW ops lv (pd.map (·.1)) i=true:=by kernel_rfl):FG P r n ops Q lv pd σ w:=FGp eH i ho hw hg d9 h
theorem Bs {w0:Wd} {S:NP} {rs:List HP} {t e k:Nat} {parts:List (Nat×Od)} {size bytes:Nat} [hs:dh P t e] [hc:Cells P e size bytes] {z:Value} [hz:Zero P e z] (H:Sep w0 S rs w) (out:LV)
    (h: ∀b w',Sep w0 S (blk b out e::rs) w'->Kept noB w w'->FL P r n ops Q rest (upd σ d (.slice (some ⟨b,0,none⟩) k k)) w') (hk:(parts.map (·.2)).length=k:=by exact rfl)
    (hE:dK (evF σ) size (parts.map (·.2)) out:=by repeat (first | exact dK.nil | refine dK.one rfl rfl ?_ | refine dK.many rfl rfl ?_)) (hp:parts=((parts.map (·.2)).zipIdx 0).map λp=>(p.2,p.1):=by exact rfl) (hl:Nat.ble (k*size) 16777216=true:=by exact rfl) (hd:Nat.blt d n=true:=by exact rfl):
    FL P r n ops Q (⟨some d,.buildSlice t k parts.toArray,ty,pos,after,none⟩::rest) σ w:=by
  subst hk;exact mE H hE hp hl hd h
theorem Gz {w0:Wd} {S:NP} {rs:List HP} {t e k:Nat} {parts:List (Nat×Od)} {size bytes:Nat} [hs:dh P t e] [hc:Cells P e size bytes] {z:Value} [hz:Zero P e z] (eH:dJ n ops=true) (i:Nat) (pd':LNB) (H:Sep w0 S rs w) (out:LV)
    (ho:ops[i]? =some ⟨some d,.buildSlice t k parts.toArray,ty,pos,after,guard⟩:=by exact rfl) (hk:(parts.map (·.2)).length=k:=by exact rfl)
    (hw:Region.wanted ⟨some d,.buildSlice t k parts.toArray,ty,pos,after,guard⟩ (bX ops σ)=true:=by kernel_rfl) (hE:dK (evF σ) size (parts.map (·.2)) out:=by repeat (first | exact dK.nil | refine dK.one rfl rfl ?_ | refine dK.many rfl rfl ?_)) (hp:parts=((parts.map (·.2)).zipIdx 0).map λp=>(p.2,p.1):=by exact rfl) (hl:Nat.ble (k*size) 16777216=true:=by exact rfl)
    (d9:eX ops lv (pd.map (·.1)) i=true:=by kernel_rfl) (oo:pd.filter (λp=> !((above ops i).contains p.1))=pd':=by exact pD)
    (h: ∀b w',Sep w0 S (blk b out e::rs) w'->jk P ops (upd σ d (.slice (some ⟨b,0,none⟩) k k)) w' pd'/\FG P r n ops Q (lv.set i true) pd' (upd σ d (.slice (some ⟨b,0,none⟩) k k)) w'):FG P r n ops Q lv pd σ w:=by
  subst hk;exact Q6 eH i pd' H hE ho hw hp hl d9 oo h
theorem sL {p:Prop} (h:p:=by repeat (first | exact eZ | refine aC ?_ | refine iX (by assumption) (h:=?_))):p:=h
end
/-! Goals of a walk told by their heads. -/
section
variable {P:Program} {r:Option Nat} {n:Nat} {ops:AO} {Q:Post} {l rest:LO} {σ:St} {w:Wd} {dst:Option Nat} {op:Op} {ty:Td} {pos:String} {after:Array Edge} {g:Nat×Bool} {d i:Nat} {c:Code} {x y z:Od} {T:Td} {lv:List Bool} {pd:LNB}
theorem iFW (h:FW P r n c Q σ w):FW P r n c Q σ w:=h
theorem iFL (h:FL P r n ops Q l σ w):FL P r n ops Q l σ w:=h
theorem iFG (h:FG P r n ops Q lv pd σ w):FG P r n ops Q lv pd σ w:=h
theorem iMv (h:FL P r n ops Q (⟨some d,.move x,ty,pos,after,none⟩::rest) σ w):FL P r n ops Q (⟨some d,.move x,ty,pos,after,none⟩::rest) σ w:=h
theorem iAm (h:FL P r n ops Q (⟨some d,.assign x,ty,pos,after,none⟩::rest) σ w):FL P r n ops Q (⟨some d,.assign x,ty,pos,after,none⟩::rest) σ w:=h
theorem iLd (h:FL P r n ops Q (⟨some d,.load T x,ty,pos,after,none⟩::rest) σ w):FL P r n ops Q (⟨some d,.load T x,ty,pos,after,none⟩::rest) σ w:=h
theorem anj (h:FL P r n ops Q (⟨some d,op,ty,pos,after,none⟩::rest) σ w):FL P r n ops Q (⟨some d,op,ty,pos,after,none⟩::rest) σ w:=h
theorem iGd (h:FL P r n ops Q (⟨dst,op,ty,pos,after,some g⟩::rest) σ w):FL P r n ops Q (⟨dst,op,ty,pos,after,some g⟩::rest) σ w:=h
theorem iCo {c':Code} (h:FW P r n (.cond x c c') Q σ w):FW P r n (.cond x c c') Q σ w:=h
theorem tb {p:Prop} (h:p:=by first | with_reducible rfl | (simp only[Bool.not_true,Bool.not_false];done) | fail):p:=h
theorem On' {j:Nat} {b b':Bool} {t:Nat} (hj:(ops[j]?).bind (λo:Oper=>o.dst)=some t) (hb:σ t=.bool b') (h:FL P r n ops Q (⟨dst,op,ty,pos,after,none⟩::rest) σ w) (hbb:b'=b:=by exact tb):FL P r n ops Q (⟨dst,op,ty,pos,after,some (j,b)⟩::rest) σ w:=ah4 hj (by rw[hb,hbb]) h
theorem Of' {j:Nat} {b b':Bool} {t:Nat} (hj:(ops[j]?).bind (λo:Oper=>o.dst)=some t) (hb:σ t=.bool b') (h:FL P r n ops Q rest (qC σ dst undef) w) (hbb:(!b')=b:=by exact tb) (hd:Nh n dst=true:=by exact rfl):FL P r n ops Q (⟨dst,op,ty,pos,after,some (j,b)⟩::rest) σ w:=aiQ hj (by rw[hb,<-hbb,Bool.not_not]) hd h
theorem Ct {c':Code} {t:Bool} (hv:evF σ x=.bool t) (h:FW P r n c Q σ w) (ht:t=true:=by exact tb):FW P r n (.cond x c c') Q σ w:=rT (by rw[hv,ht]) h
theorem Cf {c':Code} {t:Bool} (hv:evF σ x=.bool t) (h:FW P r n c' Q σ w) (ht:t=false:=by exact tb):FW P r n (.cond x c c') Q σ w:=BO (by rw[hv,ht]) h
end
theorem aB {p q:Prop} (hc:p) (h:p->q:=by intro c;first | exact zap rfl c | exact(c trivial).elim | exact zap c dC | exact zap c sM | omega | fail):q:=h hc
structure Bx (q:Prop):Prop where
 g:q
theorem Xs {p q:Prop} (hq:q) (h:Bx q->p:=by
 intro h
 first
 | (apply iFL;first
  | (apply iMv;refine Mv ?_)
  | (apply iAm;refine Am ?_)
  | (apply iLd;first
   | refine Ld (by assumption) ?_
   | refine iB (by assumption) (h:=?_)
   | refine dG (Gives.jc rfl (by assumption) (by assumption) (by assumption) rfl) rfl ?_
   | refine dG (Gives.Ye rfl (by assumption) (by assumption) (by assumption) rfl) rfl ?_
   | refine dG (Gives.iL rfl (by assumption) (by assumption) (by assumption)) rfl ?_)
  | (apply anj;refine Vq ?_))
 | (apply iFG;(first | refine GS ?_ | refine G0 ?_);(first | refine Gv rfl (by assumption) ?_ | refine Gu rfl (by assumption) ?_ | refine Gw rfl (by assumption) ?_ | refine Gt rfl (Gives.jc rfl (by assumption) (by assumption) (by assumption) rfl) ?_ | refine Gt rfl (Gives.Ye rfl (by assumption) (by assumption) (by assumption) rfl) ?_ | refine Gt rfl (Gives.iL rfl (by assumption) (by assumption) (by assumption)) ?_ | refine Gt rfl (Gives.ak7 rfl (by assumption) (by first | exact At0 | exact At1) (by exact sz) oM) ?_))
 exact h.g):p:=h ⟨hq⟩
theorem Xg {p q:Prop} (hq:q) (h:Bx q->p:=by
 intro h
 repeat (first
 | (apply iFL;first
  | refine uT ?_
  | (apply iGd;first | refine On' rfl rfl ?_ | refine Of' rfl rfl ?_ | refine ahf rfl rfl rfl ?_))
 | (apply iFW;first
  | refine dW ?_
  | refine EF ?_
  | refine vE ?_
  | refine YK ?_
  | (apply iCo;first | refine Ct rfl ?_ | refine Cf rfl ?_)
  | refine dX ?_
  | refine JC ?_
  | refine FW_scope ?_)
 | (apply iFG;first
  | refine fF (by assumption) (by decide+kernel) ?_
  | ((first | refine GS ?_ | refine G0 ?_);refine Go' rfl (by assumption) ?_))
 | refine bC ?_
 | refine uo ?_
 | refine dM ?_
 | refine vD ?_
 | refine bM ?_
 | refine Al ?_
 | refine rR rfl ?_
 | refine lQ ?_
 | refine yZ ?_
 | refine lT (hR:=?_)
 | refine V4 (hR:=?_)
 | refine Qscope_normal ?_
 | refine Qscope_ret ?_)
 exact h.g):p:=h ⟨hq⟩
theorem Za1 {p q:Prop} (hq:q) (h:Bx q->p:=by intro h;(iterate 1 (first | refine Xs ?_ | (refine Xg ?_;refine Xs ?_)));exact h.g):p:=h ⟨hq⟩
theorem Zb1 {p q:Prop} (hq:q) (h:Bx q->p:=by intro h;(iterate 1 (first | refine Xs ?_ | (refine Xg ?_;refine Xs ?_)));refine Xg ?_;exact h.g):p:=h ⟨hq⟩
theorem Za2 {p q:Prop} (hq:q) (h:Bx q->p:=by intro h;(iterate 2 (first | refine Xs ?_ | (refine Xg ?_;refine Xs ?_)));exact h.g):p:=h ⟨hq⟩
theorem Zb2 {p q:Prop} (hq:q) (h:Bx q->p:=by intro h;(iterate 2 (first | refine Xs ?_ | (refine Xg ?_;refine Xs ?_)));refine Xg ?_;exact h.g):p:=h ⟨hq⟩
theorem Za3 {p q:Prop} (hq:q) (h:Bx q->p:=by intro h;(iterate 3 (first | refine Xs ?_ | (refine Xg ?_;refine Xs ?_)));exact h.g):p:=h ⟨hq⟩
theorem Zb3 {p q:Prop} (hq:q) (h:Bx q->p:=by intro h;(iterate 3 (first | refine Xs ?_ | (refine Xg ?_;refine Xs ?_)));refine Xg ?_;exact h.g):p:=h ⟨hq⟩
theorem Za4 {p q:Prop} (hq:q) (h:Bx q->p:=by intro h;(iterate 4 (first | refine Xs ?_ | (refine Xg ?_;refine Xs ?_)));exact h.g):p:=h ⟨hq⟩
theorem Zb4 {p q:Prop} (hq:q) (h:Bx q->p:=by intro h;(iterate 4 (first | refine Xs ?_ | (refine Xg ?_;refine Xs ?_)));refine Xg ?_;exact h.g):p:=h ⟨hq⟩
theorem Za5 {p q:Prop} (hq:q) (h:Bx q->p:=by intro h;(iterate 5 (first | refine Xs ?_ | (refine Xg ?_;refine Xs ?_)));exact h.g):p:=h ⟨hq⟩
theorem Zb5 {p q:Prop} (hq:q) (h:Bx q->p:=by intro h;(iterate 5 (first | refine Xs ?_ | (refine Xg ?_;refine Xs ?_)));refine Xg ?_;exact h.g):p:=h ⟨hq⟩
theorem Za6 {p q:Prop} (hq:q) (h:Bx q->p:=by intro h;(iterate 6 (first | refine Xs ?_ | (refine Xg ?_;refine Xs ?_)));exact h.g):p:=h ⟨hq⟩
theorem Zb6 {p q:Prop} (hq:q) (h:Bx q->p:=by intro h;(iterate 6 (first | refine Xs ?_ | (refine Xg ?_;refine Xs ?_)));refine Xg ?_;exact h.g):p:=h ⟨hq⟩
theorem Za7 {p q:Prop} (hq:q) (h:Bx q->p:=by intro h;(iterate 7 (first | refine Xs ?_ | (refine Xg ?_;refine Xs ?_)));exact h.g):p:=h ⟨hq⟩
theorem Zb7 {p q:Prop} (hq:q) (h:Bx q->p:=by intro h;(iterate 7 (first | refine Xs ?_ | (refine Xg ?_;refine Xs ?_)));refine Xg ?_;exact h.g):p:=h ⟨hq⟩
theorem Za8 {p q:Prop} (hq:q) (h:Bx q->p:=by intro h;(iterate 8 (first | refine Xs ?_ | (refine Xg ?_;refine Xs ?_)));exact h.g):p:=h ⟨hq⟩
theorem Zb8 {p q:Prop} (hq:q) (h:Bx q->p:=by intro h;(iterate 8 (first | refine Xs ?_ | (refine Xg ?_;refine Xs ?_)));refine Xg ?_;exact h.g):p:=h ⟨hq⟩
theorem Za9 {p q:Prop} (hq:q) (h:Bx q->p:=by intro h;(iterate 9 (first | refine Xs ?_ | (refine Xg ?_;refine Xs ?_)));exact h.g):p:=h ⟨hq⟩
theorem Zb9 {p q:Prop} (hq:q) (h:Bx q->p:=by intro h;(iterate 9 (first | refine Xs ?_ | (refine Xg ?_;refine Xs ?_)));refine Xg ?_;exact h.g):p:=h ⟨hq⟩
theorem ank {p q:Prop} (hq:q) (h:Bx q->p:=by intro h;(iterate 10 (first | refine Xs ?_ | (refine Xg ?_;refine Xs ?_)));exact h.g):p:=h ⟨hq⟩
theorem abJ {p q:Prop} (hq:q) (h:Bx q->p:=by intro h;(iterate 10 (first | refine Xs ?_ | (refine Xg ?_;refine Xs ?_)));refine Xg ?_;exact h.g):p:=h ⟨hq⟩
theorem anl {p q:Prop} (hq:q) (h:Bx q->p:=by intro h;(iterate 11 (first | refine Xs ?_ | (refine Xg ?_;refine Xs ?_)));exact h.g):p:=h ⟨hq⟩
theorem alk {p q:Prop} (hq:q) (h:Bx q->p:=by intro h;(iterate 12 (first | refine Xs ?_ | (refine Xg ?_;refine Xs ?_)));exact h.g):p:=h ⟨hq⟩
theorem anm {p q:Prop} (hq:q) (h:Bx q->p:=by intro h;(iterate 12 (first | refine Xs ?_ | (refine Xg ?_;refine Xs ?_)));refine Xg ?_;exact h.g):p:=h ⟨hq⟩
theorem Q7 {p q:Prop} (hq:q) (h:Bx q->p:=by intro h;(iterate 13 (first | refine Xs ?_ | (refine Xg ?_;refine Xs ?_)));refine Xg ?_;exact h.g):p:=h ⟨hq⟩
theorem ano {p q:Prop} (hq:q) (h:Bx q->p:=by intro h;(iterate 14 (first | refine Xs ?_ | (refine Xg ?_;refine Xs ?_)));refine Xg ?_;exact h.g):p:=h ⟨hq⟩
theorem Zb0 {p q:Prop} (hq:q) (h:Bx q->p:=by intro h;refine Xg ?_;exact h.g):p:=h ⟨hq⟩
end Go.Mw
