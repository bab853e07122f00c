/-
 Structs are written into rows that are owned;the law ExprUnused,walked.
-/
import Derived.Test.YtkfpleidaoaonaaGreatDoorNw1
import Derived.Test.YtkfpleidaoaonaaGreatDoorNw13
import Derived.Test.YtkfpleidaoaonaaGreatDoorNw6
import Derived.Test.YtkfpleidaoaonaaGreatDoorNw3
import Derived.Test.YtkfpleidaoaonaaGreatDoorShelf
import Derived.Laws.Bits64b
import Derived.Test.YtkfpleidaoaonaaGreatDoorNw7
import Derived.Sort.Defs
set_option linter.unusedVariables false
set_option linter.unusedSimpArgs false
namespace Go.Mw
open Go.RowKit
section
variable {P:Program} {r:Option Nat} {n:Nat} {ops:AO} {Q:Post} {rest:LO} {σ:St} {w w0:Wd} {S:NP} {rs:List HP} {put:HP->List HP} {ty:Td} {pos:String} {after:Array Edge} {lv:List Bool} {pd:LNB} {guard:Option (Nat×Bool)}
variable {α:Type} {enc:α->LV} {k e c:Nat} {l:List α} {A:OA}
theorem NA (hk: ∀x,(enc x).length=k) (a':α): ∀{l:List α} {i:Nat},i<l.length->(l.flatMap enc).take (i*k)++enc a'++(l.flatMap enc).drop (i*k+k)=(l.set i a').flatMap enc
 | [],_,h=>zap h sM
 | x::l,0,_=>by
  rw[Nat.zero_mul,zdi,zcb,zdm,zea,zbc,zbc,List.drop_left' (hk x)]
 | x::l,i+1,h=>by
  have ih:=NA hk a' (l:=l) (i:=i) (by simpa using h);have hx:=hk x;rw[zgb,zbc,zbc,List.take_append,zax (by rw[hx,zds];omega),List.drop_append,zbu (by rw[hx,zds];omega),hx,show(i+1)*k-k=i*k by rw[zds];omega,show(i+1)*k+k-k=i*k+k by rw[zds];omega,zcb,zbp,zbp,<-zbp ((l.flatMap enc).take (i*k)),ih]
theorem Qi {ρ:Od->Value} {x y:Od} {T:Td} [h1:Agg P T k] [hk:jf enc k] {i:Nat} (a':α) {m:Nat} (hm:m=l.length) (H:Sep w0 S rs w) (hat:At rs (bJ e k enc (.slice A m c) l) put) (hi:i<l.length) (hx:ρ x=adr A (i*k)) (hy:ρ y=.agg (enc a').toArray) (hv:(enc a').all Value.oneCell'=true):
    ∃w',MC P ρ (.store T x y) ty w w'/\Sep w0 S (put (bJ e k enc (.slice A m c) (l.set i a'))) w':=by
  subst hm;obtain⟨F,hp,hS,jO⟩:=H.focus hat;have I:=Sep.bW hp;obtain⟨g,c',rest,hvv,hlen,hxl,q9,VI,a⟩:=I.Zi At0 oM;injection hvv with hA _ hc
  subst hA;subst hc;have hb:=a.obj At0;have JA:=jr hk.len l;have hu:(enc a').length=k:=hk.len a';have VP:(i+1)*k<=l.length*k:=Nat.mul_le_mul_right k hi;rw[zds]at VP;have fU:=run_storeCells_at P g (i*k) e (enc a') 0 (l.flatMap enc++rest).toArray w hb (by simp only[zfk,zad,JA,hu];omega) (λu hu=>zbf.1 hv u hu)
  have hs:(l.flatMap enc++rest).take (i*k)++enc a'++(l.flatMap enc++rest).drop (i*k+(enc a').length)=(l.set i a').flatMap enc++rest:=by
    rw[hu,zee (by rw[JA];omega),zfc (by rw[JA];omega),<-NA hk.len a' hi];simp only[zbp]
  have bZ:Kept (λz=>z=g) w (w.setRow g ((l.set i a').flatMap enc++rest).toArray):=⟨rfl,rfl,rfl,sM,λj hj hS=>by simp only[World.setRow,zcs];rw[zab (λe=>hS e.symm)]⟩
  have Ji:(w.setRow g ((l.set i a').flatMap enc++rest).toArray).heap[g]? =some (.cells ((l.set i a').flatMap enc++rest).toArray e (0,0)):=by
    simp only[World.setRow,zcs,if_true,hb,zda]
  have I:Sep w F [blk g ((l.set i a').flatMap enc++rest) e] _:=a.setObj (At0 (p:=blk g (l.flatMap enc++rest) e) (l:=[])) bZ Ji;have Yv:=jr hk.len (l.set i a');rw[zgd]at Yv;have a:=I.Zj (n:=l.length) (c:=c) At0 (by rw[zad,Yv];rw[zad,JA]at hlen;exact hlen) Yv q9 VI;refine⟨w.setRow g ((l.set i a').flatMap enc++rest).toArray,λ_ _ _ _=>?_,?_⟩
  . have EC:ρ x=.pointer (some ⟨g,i*k,none⟩):=by rw[hx];show Value.pointer (some (Addr.add ⟨g,0,none⟩ (i*k)))=_;rw[Addr.add_lit,zdm]
    have acw:=fU;simp only[zff]at acw;rw[hs]at acw;simp[execOp,EC,hy,Instr.storeAt,Instr.sureAddr,storeVar,h1.size,Value.cells,hu];rw[acw];simp
  obtain⟨h5,F5,h6,h7⟩:=a;refine jO _ F5 _ h5 ?_ λb hb=>h7 b hb;have h8:=Bj.1 h6;show(yU e k (.slice (some ⟨g,0,none⟩) l.length c) (l.set i a').length ((l.set i a').flatMap enc)).ok F5 _
  rw[zgd];exact h8
theorem EU (eH:dJ n ops=true) (o:Nat) (pd':LNB) {x y:Od} {T:Td} [h1:Agg P T k] [hk:jf enc k] {i:Nat} (a':α) {m:Nat} (hm:m=l.length) (H:Sep w0 S rs w) (hat:At rs (bJ e k enc (.slice A m c) l) put) (hi:i<l.length) (hv:(enc a').all Value.oneCell'=true)
    (ho:ops[o]? =some ⟨none,.store T x y,ty,pos,after,guard⟩:=by exact rfl)
    (hw:Region.wanted ⟨none,.store T x y,ty,pos,after,guard⟩ (bX ops σ)=true:=by kernel_rfl) (hx:evF σ x=adr A (i*k):=by exact rfl) (hy:evF σ y=.agg (enc a').toArray:=by exact rfl)
    (d9:eX ops lv (pd.map (·.1)) o=true:=by kernel_rfl) (oo:pd.filter (λp=> !((above ops o).contains p.1))=pd':=by exact pD)
    (h: ∀w',Sep w0 S (put (bJ e k enc (.slice A m c) (l.set i a'))) w'->jk P ops σ w' pd'/\FG P r n ops Q (lv.set o true) pd' σ w'):FG P r n ops Q lv pd σ w:=
  Ul eH o pd' ho hw (Qi a' hm H hat hi hx hy hv) d9 oo h
end
end Go.Mw
namespace Go.Proofs.YtkfpleidaoaonaaGreatDoor
open Go Go.Mw Go.Lib
set_option maxRecDepth 4000
theorem Gq.set {m i:Nat} {r:List ay} {c:ay} (h:Gq m r) (hc:fits c.n/\∀b,okC (YR b i).type c):Gq m (r.set i c):=by
 refine⟨by rw[zgd];exact h.len,λy hy=>?_,λb j d hd=>?_⟩
 .rcases List.mem_or_eq_of_mem_set hy with h1 | h1
  .exact h.fit y h1
  rw[h1];exact hc.1
 by_cases hj:i=j
 .subst hj
  rw[List.getElem?_set_self']at hd;cases hg:r[i]? with
  | none=>rw[hg]at hd;cases hd
  | some z=>rw[hg]at hd;simp at hd;rw[<-hd];exact hc.2 b
 rw[List.getElem?_set_ne hj]at hd;exact h.ok b j d hd
section
variable {w:Wd}
end
end Go.Proofs.YtkfpleidaoaonaaGreatDoor
namespace Go.Proofs.YtkfpleidaoaonaaGreatDoor
open Go Go.Mw Go.Lib
set_option maxRecDepth 4000
section
variable {w:Wd}
end
def hi0 (k a b:Int):Int:=if k=8 then a/4294967296-b/4294967296 else a/4294967296+b/4294967296
section
variable {w:Wd}
end
section
variable {w:Wd}
end
section
variable {w:Wd}
end
end Go.Proofs.YtkfpleidaoaonaaGreatDoor
namespace Go.Mw
open Go.RowKit
section
variable {P:Program} {r:Option Nat} {n:Nat} {ops:AO} {Q:Post} {rest:LO} {σ:St} {w w0:Wd} {S:NP} {rs:List HP} {put:HP->List HP} {ty:Td} {pos:String} {after:Array Edge} {lv:List Bool} {pd:LNB} {guard:Option (Nat×Bool)}
theorem ng (eH:dJ n ops=true) (e:Nat) (pd':LNB) {d:Nat} {f:FuncId} {xs:List Od} {ats:Array Td} {vals:LV} {α:Type} {val:α->Value} {φ:α->Prop} {q:α->HP} [he:qb P f] (H:Sep w0 S rs w)
    (hc:aY P f vals w λv w'=>∃x,v=val x/\φ x/\Turn noB (q x) w w')
    (ho:ops[e]? =some ⟨some d,.call {callee:=.value (.func f),args:=xs.toArray,argTypes:=ats},ty,pos,after,guard⟩:=by exact rfl)
    (hw:Region.wanted ⟨some d,.call {callee:=.value (.func f),args:=xs.toArray,argTypes:=ats},ty,pos,after,guard⟩ (bX ops σ)=true:=by kernel_rfl) (hv:xs.map (evF σ)=vals:=by exact rfl) (d9:om ops lv (pd.map (·.1)) e=true:=by kernel_rfl)
    (oo:pd.filter (λp=> !((above ops e).contains p.1))=pd':=by exact pD) (h: ∀x w',φ x->Sep w0 S (q x::rs) w'->Kept noB w w'->jk P ops (upd σ d (val x)) w' pd'/\FG P r n ops Q (lv.set e true) pd' (upd σ d (val x)) w'):pX P r n ops Q lv pd σ w e:=by
  refine abX eH e pd' ho hw hc hv d9 oo λv' w' ⟨x,h1,hφ,hk,F',hq,hs⟩=>?_;subst h1;exact h x w' hφ (H.new hk hq λb hb=>(hs b hb).resolve_left id) hk
end
end Go.Mw
namespace Go.Mw
open Go.RowKit
section
variable {P:Program} {r:Option Nat} {n:Nat} {ops:AO} {Q:Post} {rest:LO} {σ:St} {w w0:Wd} {S:NP} {rs:List HP} {put:HP->List HP} {ty:Td} {pos:String} {after:Array Edge} {lv:List Bool} {pd:LNB} {guard:Option (Nat×Bool)}
theorem Gives.aia {ρ:Od->Value} {x y:Od} {t e:Td} [hs:dh P t e] {size bytes:Nat} [hc:Cells P e size bytes] {z:Value} [hz:Zero P e z] {k:Nat} {cs:LV} (hx:ρ x=.int .i64 k) (hy:ρ y=.int .i64 k) (hcs:madeCells z.cells (k*size)=cs.toArray) (hb:bytes*k<=281474976710656) (hk:k<=maxLen):
    Gives P ρ (.makeSlice t x y) ty w (.slice (some ⟨w.heap.size,0,none⟩) k k) (w.alloc (.cells cs.toArray e)):=λ_ _ _ _=>by
  obtain⟨i,hi,p9⟩:=zav.1 hc.size;simp only[Prod.mk.injEq]at p9
  have uf:i.zero=some z:=by
    have:=hz.run w;simp[zeroValue,typeInfo,hi]at this;cases hq:i.zero with
    | none=>simp[hq]at this
    | some u=>simp[hq]at this;rw[this]
  have iw:=run_make (P:=P) w t e i z hs.und hi uf .i64 .i64 (k:Int) (k:Int) oM oM (by rw[p9.2,<-Int.natCast_mul];generalize bytes*k=q at hb ⊢;omega) (by unfold maxLen at hk;omega);rw[zdo,p9.1,hcs]at iw;simp only[execOp,hx,hy,zbh,iw,zai,zbm]
end
end Go.Mw
namespace Go.Proofs.YtkfpleidaoaonaaGreatDoor
open Go Go.Mw Go.Lib Go.RowKit
set_option maxRecDepth 4000
section
variable {w w0:Wd} {S:NP} {rs:List HP} {put:HP->List HP}
theorem AA {α:Type} (w:Wd) (enc:α->LV) (k:Nat):aQ w (.slice none 0 0) enc k []:=⟨none,0,rfl,⟨zbk _,dC⟩,gV.nil _ _ _⟩
theorem Kv {α:Type} {enc:α->LV} {k b e m:Nat} [hk:jf enc k] {l:List α} (H:Mw.Sep w0 S rs w) (hat:At rs (blk b (l.flatMap enc) e) put) (hm:m=l.length) (hl:l.length<=100000):aQ w (.slice (some ⟨b,0,none⟩) m m) enc k l:=by
 subst hm;exact⟨_,_,rfl,⟨zbk _,oM⟩,Sep.nA H hat (jr hk.len l)⟩
end
/-! The words of the known expressions. -/
end Go.Proofs.YtkfpleidaoaonaaGreatDoor
namespace Go.Proofs.YtkfpleidaoaonaaGreatDoor
open Go Go.Mw Go.Lib Go.Proofs.Tryz
set_option maxRecDepth 4000
attribute [local irreducible] FW FL FG FGn fZ gG cO gW Qfn Gives
def U (n:Int):Value:=.int .u64 n
def bT (v:Int):LV:=[U (wA v),U (wB v),U (wC v)]
instance:jf bT 3:=⟨λ_=>rfl⟩
def DK (x:Int×Int×Int):LV:=[U x.1,U x.2.1,U x.2.2]
theorem WC {P:Program} {w:Wd} {d:Nat} {t:Td} (a b:Int) (h:P.underlying t=some (.int .u64)):(Op.equalIn (d+1) t (U a) (U b)).run P w=.ok (decide (a=b)) w:=by
 rw[show U a=.int .u64 a from rfl,show U b=.int .u64 b from rfl,run_equalIn_int w d t .u64 .u64 a b h];rfl
theorem ak3 {d:Nat} (a b:Int×Int×Int) (w:Wd):(Op.equalIn (d+2) 123 (.agg (DK a).toArray) (.agg (DK b).toArray)).run prog w=.ok (decide (a=b)) w:=by
 rw[run_equalIn_agg w (d+1) _ _ _ kR kR];simp only[Program.fieldsOf,underlying123];rw[FR rfl XZ rfl rfl (WC a.1 b.1 kR),FR rfl XZ rfl rfl (WC a.2.1 b.2.1 kR),FR rfl XZ rfl rfl (WC a.2.2 b.2.2 kR),aff];have e:(a=b)=(a.1=b.1/\a.2.1=b.2.1/\a.2.2=b.2.2):=propext ⟨λh=>by subst h;exact⟨rfl,rfl,rfl⟩,λh=>Prod.ext h.1 (Prod.ext h.2.1 h.2.2)⟩;simp only[e]
 by_cases h1:a.1=b.1<;>by_cases h2:a.2.1=b.2.1<;>by_cases h3:a.2.2=b.2.2<;>simp[h1,h2,h3]
instance:EqData prog 123 (Int×Int×Int) DK:=⟨λa b w=>ak3 (d:=9998) a b w,kR⟩
def BH:List Int->Int
 | []=>0
 | x::l=>x+BH l
theorem Tk (a b:List Int):BH (a++b)=BH a+BH b:=by
 induction a with
 | nil=>simp[BH]
 | cons x a ih=>rw[zbx,BH,BH,ih];omega
section
variable {w:Wd}
theorem DL (n:Int) (hn:fits n):aY prog 107 [I n] w λv w'=>v=U (if n<0 then 18446744073709551615 else 0)/\w=w':=by
 refine dI func107 rfl rfl rfl rfl ?_;refine Zb2 ?_;refine Vv (Gives.shr rfl rfl dC) (Vv (Gives.conv rfl) ?_);refine Zb1 ?_;exact⟨zbb U (by
 show IntKind.u64.wrap (n.fdiv (2^63))=_
 rw[IntKind.wrap_u64];have h1:=hn.1;have h2:=hn.2;rw[show(2:Int)^63=9223372036854775808 from dC,zfn _ dC]
 split<;>omega),rfl⟩
theorem Qj (n:Int) (hn:fits n):Rk prog 68 [I n] w (agg (bT n)):=by
 have H:=Sep.aJ w;obtain⟨h1,h2⟩:=agz hn.1 (Int.lt_add_one_of_le hn.2);refine tQ func68 rfl rfl rfl rfl ?_;refine Sr (aO H (h:=λb1 _ k _=>?_));refine Zb1 ?_;refine Vv (Gives.conv rfl) ?_;rw[IntKind.wrap_u64];refine Mv ?_;refine eY (DL n hn) (h:=?_);refine Mv ?_;refine eY (DL n hn) (h:=?_);refine Vb [U (wA n),U (if n<0 then 18446744073709551615 else 0),U (if n<0 then 18446744073709551615 else 0)] ?_;refine ak k (h:=λ_ k=>?_);refine Qn (dX (aN (h:=?_)));exact⟨_,jh k,by unfold bT;rw[h1,h2];rfl,k.kept⟩
theorem EW (a b c:Int) (ha:0<=a) (hb:0<=b) (h0:0<=c) (hc:c<=1):(callFunc 157 [U a,U b,U c].toArray).run prog w=.ok (.value (.tuple #[U ((a+b+c)%18446744073709551616),U ((a+b+c)/18446744073709551616)])) w:=by
 rw[run_callFunc_extern (e:=add64Entry) func157 kR kR kR kR];show((add64Entry #[.int .u64 a,.int .u64 b,.int .u64 c]).run prog w).andThen _=_
 rw[run_add64 a b c ha hb h0 hc w];rfl
theorem agA {L:List Int} {vl:Value} (hl:aQ w vl bT 3 L):Rk prog 106 [vl] w (agg (bT (BH L))):=by
 obtain⟨A,m,rfl,⟨hm,qX⟩,hA⟩:=hl;have H:=Sep.aJ w;refine tQ func106 rfl rfl rfl rfl ?_;refine Sr (aO H (h:=λb2 _ k _=>?_));refine Zb3 ?_;refine aR (λi:Nat=>[(2,av b2),(6,.slice A L.length m),(7,I L.length),(8,I i)]) (λi w'=>i<=L.length/\Sep w noB [blk b2 (bT (BH (L.take i))) 123] w') (λi _=>L.length-i) 0 tR ⟨zaq _,k⟩ (λi τ _ hI=>?_);obtain⟨hi,k⟩:=hI
 try simp only[cK,like,aS,bK]
 refine Za1 ?_;refine Qn (dW (Cp rfl (λS=>?_) (λS=>?_)))
 .have bH:i<L.length:=oM
  obtain⟨x,hx⟩:=get_some bH;have ZB:=hx;have yY:BH (L.take (i+1))=BH (L.take i)+x:=by rw[zbd,hx,Tk];show _+(x+0)=_;omega
  obtain⟨s,hs⟩: ∃s,s=BH (L.take i):=⟨_,rfl⟩;rw[<-hs]at yY k;obtain⟨⟨ZE,ha2⟩,⟨Na,hb2⟩,S,a⟩:=oW s;obtain⟨⟨hd1,F7⟩,⟨Pp,he2⟩,hf1,hf2⟩:=oW x;obtain⟨hsa,p9,hsc⟩:=adn s x;refine Zb2 ?_;refine aO k (h:=λb4 _ a _=>?_);refine ak a (h:=λ_ a=>?_);refine Zb5 ?_;refine Vv (Gives.ext (vals:=[U (wA s),U (wA x),U 0]) (EW _ _ _ ZE hd1 dC dC)) (Zb4 ?_);refine bB a (h:=λ_ a=>?_);refine Zb6 ?_;refine Vv (Gives.ext (vals:=[U (wB s),U (wB x),U ((wA s+wA x+0)/18446744073709551616)]) (EW _ _ _ Na Pp oM oM)) (Zb4 ?_);refine bB a (h:=λ_ a=>?_);refine Zb6 ?_;refine Vv (Gives.ext (vals:=[U (wC s),U (wC x),U ((wB s+wB x+(wA s+wA x+0)/18446744073709551616)/18446744073709551616)]) (EW _ _ _ S hf1 oM oM)) (Zb4 ?_);refine bB a (h:=λ_ a=>?_);refine Zb0 ?_;refine Vc ((i+1:Nat):Int) ?_;refine Zb1 ?_
  have e:[U ((wA s+wA x+0)%18446744073709551616),U ((wB s+wB x+(wA s+wA x+0)/18446744073709551616)%18446744073709551616),U ((wC s+wC x+(wB s+wB x+(wA s+wA x+0)/18446744073709551616)/18446744073709551616)%18446744073709551616)]=bT (BH (L.take (i+1))):=by
   rw[yY];unfold bT;rw[hsa,p9,hsc,Int.add_zero]
  exact aj (i+1) tR ⟨oM,by rw[<-e];exact(a.aL).first⟩ oM
 have q8:BH (L.take i)=BH L:=by rw[zax oM]
 rw[q8]at k;refine Zb1 ?_;refine ak k (h:=λ_ a=>?_);refine Qn (dX (aN (h:=?_)));exact⟨_,jh a,rfl,a.kept⟩
theorem Qk (x y:Int):Rk prog 67 [agg (bT x),agg (bT y)] w (agg (bT (x+y))):=by
 have H:=Sep.aJ w;refine zR func67 rfl rfl rfl rfl ?_;refine Sr (cB H (cs:=bT x) rfl (h:=λb2 _ k _=>?_));refine cB k (cs:=bT y) rfl (h:=λb3 _ k _=>?_);refine aO k (h:=λb5 _ k _=>?_);refine Zb2 ?_;refine Bs k ([x,y].flatMap bT) (λbs _ k _=>?_);have Ak:=Kv (enc:=bT) (l:=[x,y]) k At0 rfl (by show 2<=100000;decide);refine aD k (agA Ak) (h:=λ_ k _=>?_);rw[show BH [x,y]=x+y from by show x+(y+0)=_;omega];refine ak k (h:=λ_ k=>?_);refine Qn (dX (aN (h:=?_)));exact⟨_,jh k,rfl,k.kept⟩
theorem agB {v:Int} (h:eO v=true):vO v=v:=by
 have:=zba h;unfold vO wA
 split<;>omega
theorem adq (v:Int):IntKind.i64.wrap (wA v)=vO v:=by
 rw[IntKind.wrap_i64];unfold vO wA
 split<;>omega
theorem ads (v:Int):fits (vO v):=by
 unfold fits vO wA
 split<;>omega
theorem Ql (v:Int) (h1: -3138550867693340381917894711603833208051177722232017256448<=v) (h2:v<3138550867693340381917894711603833208051177722232017256448):
    Rk prog 69 [agg (bT v)] w (.tuple #[I (if eO v=true then v else 0),I (if eO v=true then 0 else 50)]):=by
  have H:=Sep.aJ w;have hw:=ado h1 h2;refine dI func69 rfl rfl rfl rfl ?_;refine Sr (cB H (cs:=bT v) rfl (h:=λb1 _ _ _=>?_));refine Zb4 ?_;refine Vv (Gives.zx (c:=vO v) rfl (adq v)) (Zb1 ?_);refine Ds (λk _ S=>?_);refine Zb1 ?_;refine pq k 2 S (h:=?_);refine gI k 1 [(2,false)] S (Qj (vO v) (ads v)) (h:=λ_ S _=>⟨sU,?_⟩);refine Gp k 3 rfl rfl (λ_=>Gives.ahl (enc:=DK) (wA (vO v),wB (vO v),wC (vO v)) (wA v,wB v,wC v) rfl rfl) (fF k kR ?_);refine bC (Cp rfl (λk=>?_) (λk=>?_))
  . have hf: ¬eO v=true:=λh=>by
      obtain⟨e1,e2,e3⟩:=hw.2 h;exact k (by rw[e1,e2,e3])
    refine Zb2 ?_;exact⟨by rw[zab hf,zab hf];rfl,S.kept⟩
  have hf:eO v=true:=by
    have h:=Decidable.of_not_not k;injection h with h1 h2
    injection h2 with h2 h3
    exact hw.1 ⟨h1,h2,h3⟩
  refine Zb3 ?_;exact⟨by rw[zac hf,zac hf];exact zbb (λz=>Value.tuple #[I z,I 0]) (agB hf),S.kept⟩
theorem adt (a b:Int) (ha:0<=a) (ha2:a<18446744073709551616) (hb:0<=b) (hb2:b<18446744073709551616):aY prog 413 [U a,U b] w λv w'=>v=.tuple #[U (a*b/18446744073709551616),U (a*b%18446744073709551616)]/\w=w':=by
 obtain⟨x,rfl⟩:=zey ha;obtain⟨y,rfl⟩:=zey hb;have:=Tryz.bits_Mul64 x y oM oM w;refine jQ (Calls.mono this λe w' he=>?_);obtain⟨rfl,rfl⟩:=he;exact⟨by congr 2<;>simp[U],rfl⟩
theorem and_ones (a:Int) (h0:0<=a) (h1:a<18446744073709551616) (p:Prop) [Decidable p]:bits .and .u64 a (if p then 18446744073709551615 else 0)=if p then a else 0:=by
 obtain⟨x,rfl⟩:=zey h0
 split
 .have h:=bits_and_u64_nat x 18446744073709551615 oM oM
  have e:x&&& 18446744073709551615=x%18446744073709551616:=Nat.and_two_pow_sub_one_eq_mod x 64;rw[e,Nat.mod_eq_of_lt oM]at h;exact h
 have h:=bits_and_u64_nat x 0 oM oM;rw[Nat.and_zero]at h;exact h
theorem agC (a b:Int) (ha:fits a) (hb:fits b):Rk prog 409 [I a,I b] w (agg (bT (a*b))):=by
 have H:=Sep.aJ w;obtain⟨m1,m2,m3⟩:=adp ha hb;obtain⟨⟨ZE,ha2⟩,_,_⟩:=oW a;obtain⟨⟨Na,hb2⟩,_,_⟩:=oW b
 have hp:0<=wA a*wA b/18446744073709551616/\wA a*wA b/18446744073709551616<18446744073709551616:=by
  have h1:=Int.mul_nonneg ZE Na;have h2:wA a*wA b<=18446744073709551615*18446744073709551615:=Int.mul_le_mul oM oM Na dC;omega
 obtain⟨⟨k,k⟩,⟨hd1,F7⟩,_⟩:=oW (a*b);refine zR func409 rfl rfl rfl rfl ?_;refine Sr (aO H (h:=λb1 _ k _=>?_));refine Zb1 ?_;refine Vv (Gives.zx (c:=wA a) rfl (by rw[IntKind.wrap_u64];rfl)) ?_;refine Mv ?_;refine Vv (Gives.zx (c:=wA b) rfl (by rw[IntKind.wrap_u64];rfl)) ?_;refine eY (adt (wA a) (wA b) ZE ha2 Na hb2) (h:=?_);refine Zb7 ?_;refine Vv (Gives.zx (c:=wA a) rfl (by rw[IntKind.wrap_u64];rfl)) ?_;refine Mv ?_;refine eY (DL b hb) (h:=?_);refine Vv (Gives.ai8 rfl rfl (and_ones (wA a) ZE ha2 (b<0))) (Mv ?_);refine Vv (Gives.zx (c:=wA b) rfl (by rw[IntKind.wrap_u64];rfl)) ?_;refine Mv ?_;refine eY (DL a ha) (h:=?_);refine Vv (Gives.ai8 rfl rfl (and_ones (wA b) Na hb2 (a<0))) (Vv (Gives.ak1 rfl rfl (IntKind.wrap_u64 _)) ?_);refine Vv (Gives.ak2 (c:=wB (a*b)) rfl rfl (by rw[IntKind.wrap_u64,m2])) ?_;refine Zb4 ?_;refine Vv (Gives.zx rfl rfl) (eY (DL (IntKind.i64.wrap (wB (a*b))) (by unfold fits;rw[IntKind.wrap_i64];omega)) (h:=?_));refine Vb [U (wA a*wA b%18446744073709551616),U (wB (a*b)),U _] ?_;refine ak k (h:=λ_ k=>?_);refine Qn (dX (aN (h:=?_)));exact⟨_,jh k,by
 show agg [U (wA a*wA b%18446744073709551616),U (wB (a*b)),U (if IntKind.i64.wrap (wB (a*b))<0 then 18446744073709551615 else 0)]=agg (bT (a*b))
 unfold bT;rw[m1,m3,IntKind.wrap_i64]
 congr 5
 split<;>split<;>first | rfl | omega,k.kept⟩
end
end Go.Proofs.YtkfpleidaoaonaaGreatDoor
namespace Go.Proofs.YtkfpleidaoaonaaGreatDoor
open Go Go.Mw Go.Lib Go.Sort
set_option maxRecDepth 4000
def CU {α:Type} (f:α->Int) (x:α):LV:=[I (f x)]
instance {α:Type} (f:α->Int):jf (CU f) 1:=⟨λ_=>rfl⟩
def fJ {α:Type} (f:α->Int) (A:OA) (n c:Nat) (d:Array α):HP:=bJ 3 1 (CU f) (.slice A n c) d.toList
def ltC {α:Type} (cf:α->α->Int) (x y:α):Bool:=decide (cf x y<0)
section
variable {α:Type} {f:α->Int} {cf:α->α->Int} {w w' w0:Wd} {S F:NP} {rs:List HP} {put:HP->List HP} {A:OA} {n c i:Nat} {d:Array α} {fv:Value}
theorem ak4 [Inhabited α] (h:i<d.size):d.toList[i]? =some d[i]! :=by
 rw[Array.getElem?_toList,getElem!_pos d i h,zdj h]
theorem swp_size [Inhabited α] (d:Array α) (i j:Nat):(swp d i j).size=d.size:=by unfold swp;rw[zec,zec]
theorem rdI (hn:n=d.size) (H:Mw.Sep w0 S rs w) (hat:At rs (fJ f A n c d) put):Rd w A (CU f) 1 d.toList:=by
 subst hn;exact jG H hat
def nX {α:Type} (P:Program) (fv:Value) (f:α->Int) (cf:α->α->Int) (F:NP) (w:Wd):Prop:=
 ∃(g:FuncId) (fs cs:LV),fv=.func (.func g) fs.toArray cs.toArray/\qb P g/\∀w1,Kept F w w1->∀x y:α,Rk P g (fs++[I (f x),I (f y)]++cs) w1 (I (cf x y))
theorem nX.keep {P:Program} (h:nX P fv f cf F w) (hk:Kept F w w'):nX P fv f cf F w':=by
 obtain⟨g,fs,cs,e,he,hc⟩:=h;exact⟨g,fs,cs,e,he,λH h1 x y=>hc H (hk.trans h1 λ_=>.inl) x y⟩
theorem nX.into {P:Program} (h:nX P fv f cf F w) (hk:Kept F w w') (hS: ∀b,S b->F b\/w.heap.size<=b):nX P fv f cf S w':=by
 obtain⟨g,fs,cs,e,he,hc⟩:=h;exact⟨g,fs,cs,e,he,λH h1 x y=>hc H (hk.trans h1 hS) x y⟩
end
end Go.Proofs.YtkfpleidaoaonaaGreatDoor
namespace Go.Mw
open Go.RowKit Go.Proofs.YtkfpleidaoaonaaGreatDoor
section
variable {P:Program} {r:Option Nat} {n:Nat} {ops:AO} {Q:Post} {rest:LO} {σ:St} {w w0:Wd} {S F:NP} {rs:List HP} {put:HP->List HP} {ty:Td} {pos:String} {after:Array Edge} {guard:Option (Nat×Bool)} {lv:List Bool} {pd:LNB}
 {ρ:Od->Value} {x y:Od} {α:Type} {f:α->Int} {cf:α->α->Int} {A:OA} {m c i:Nat} {a:α} {d:Array α} {T t:Td} {fv:Value}
theorem Gives.BI {e bytes:Nat} [ht:dh P t e] [hc:Cells P e 1 bytes] {w1:Wd} (hm:m=d.size) (hx:ρ x=.slice A m c) (hy:ρ y=.int .i64 i) (hr:Rd w1 A (CU f) 1 d.toList) (bH:i<d.size):Gives P ρ (.indexAddr t x y) ty w (adr A (i*1)) w:=
 Gives.aae (l:=d.toList) (by rw[hm];rfl) hx hy hr bH
theorem Gives.ak5 [Inhabited α] [OneCell P T] (hx:ρ x=adr A (i*1)) (hr:Rd w A (CU f) 1 d.toList) (bH:i<d.size):Gives P ρ (.load T x) ty w (I (f d[i]!)) w:=
 Gives.Pd (enc:=CU f) (l:=d.toList) (f:=0) hx hr (ak4 bH) rfl
theorem Tm [Inhabited α] [h1:OneCell P T] (hm:m=d.size) (H:Sep w0 S rs w) (hat:At rs (fJ f A m c d) put) (bH:i<d.size) (hx:evF σ x=adr A (i*1)) (hy:evF σ y=I (f a)):
    ∃w',MC P (evF σ) (.store T x y) ty w w'/\Sep w0 S (put (fJ f A m c (d.setIfInBounds i a))) w':=by
  obtain⟨w',h,hs⟩:=Gj (P:=P) (ty:=ty) (T:=T) (enc:=CU f) (f:=0) a (m:=m) (by rw[hm];rfl) H hat (ak4 bH) dC rfl hx hy rfl;refine⟨w',h,?_⟩;unfold fJ;rw[Array.toList_setIfInBounds];exact hs
theorem Tn [Inhabited α] (eH:dJ n ops=true) (e:Nat) (pd':LNB) (hm:m=d.size) [h1:OneCell P T] (H:Sep w0 S rs w) (hat:At rs (fJ f A m c d) put) (bH:i<d.size)
    (ho:ops[e]? =some ⟨none,.store T x y,ty,pos,after,guard⟩:=by exact rfl)
    (hw:Region.wanted ⟨none,.store T x y,ty,pos,after,guard⟩ (bX ops σ)=true:=by kernel_rfl)
    (hx:evF σ x=adr A (i*1):=by exact rfl) (hy:evF σ y=I (f a):=by exact rfl)
    (d9:eX ops lv (pd.map (·.1)) e=true:=by kernel_rfl) (oo:pd.filter (λp=> !((above ops e).contains p.1))=pd':=by exact pD)
    (h: ∀w',Sep w0 S (put (fJ f A m c (d.setIfInBounds i a))) w'->jk P ops σ w' pd'/\FG P r n ops Q (lv.set e true) pd' σ w'):FG P r n ops Q lv pd σ w:=
  Ul eH e pd' ho hw (Tm hm H hat bH hx hy) d9 oo h
theorem ak6 (eH:dJ n ops=true) (e:Nat) (pd':LNB) {w1:Wd} (hC:nX P fv f cf F w1) (H:Sep w1 F rs w) (a b:α) {dd:Nat} {y:Od} {xs:List Od} {ats:Array Td}
    (ho:ops[e]? =some ⟨some dd,.call {callee:=.value y,args:=xs.toArray,argTypes:=ats},ty,pos,after,guard⟩:=by exact rfl)
    (hw:Region.wanted ⟨some dd,.call {callee:=.value y,args:=xs.toArray,argTypes:=ats},ty,pos,after,guard⟩ (bX ops σ)=true:=by kernel_rfl)
    (hy:evF σ y=fv:=by exact rfl) (hv:xs.map (evF σ)=[I (f a),I (f b)]:=by exact rfl)
    (d9:eX ops lv (pd.map (·.1)) e=true:=by kernel_rfl) (oo:pd.filter (λp=> !((above ops e).contains p.1))=pd':=by exact pD)
    (h: ∀w',Sep w1 F rs w'->jk P ops (upd σ dd (I (cf a b))) w' pd'/\FG P r n ops Q (lv.set e true) pd' (upd σ dd (I (cf a b))) w'):FG P r n ops Q lv pd σ w:=by
  obtain⟨g,fs,cs,rfl,he,hc⟩:=hC;refine jH (he:=he) eH e pd' hy (hc w H.kept a b) ho hw hv d9 oo λv w' hr=>?_;obtain⟨rfl,hk⟩:=hr;exact h w' (H.keep hk)
/-! The same,with all that can be found by itself left to be found. -/
theorem Gives.am2 {e bytes:Nat} [ht:dh P t e] [hc:Cells P e 1 bytes] {w1:Wd} (hx:ρ x=.slice A m c) (hy:ρ y=.int .i64 i) (H:Sep w0 S rs w1) (hat:At rs (fJ f A m c d) put) (hm:m=d.size) (bH:i<m):Gives P ρ (.indexAddr t x y) ty w (adr A (i*1)) w:=
 Gives.BI hm hx hy (rdI hm H hat) (hm▸bH)
theorem Gives.ak7 [Inhabited α] [OneCell P T] (hx:ρ x=adr A (i*1)) (H:Sep w0 S rs w) (hat:At rs (fJ f A m c d) put) (hm:m=d.size) (bH:i<m):Gives P ρ (.load T x) ty w (I (f d[i]!)) w:=
 Gives.ak5 hx (rdI hm H hat) (hm▸bH)
theorem sz {p:Prop} (h:p:=by first | assumption | (simp only[zec];assumption) | (simp only[swp_size];assumption)):p:=h
theorem FsI [Inhabited α] {j:Nat} [h1:OneCell P T] (h: ∀w',Sep w0 S (put (fJ f A m c (d.setIfInBounds i a))) w'->FG P r n ops Q ((lv.set j true).set (j+1) true) (pd.filter (λp=> !((above ops (j+1)).contains p.1))) σ w') (H:Sep w0 S rs w:=by assumption) (hat:At rs (fJ f A m c d) put:=by first | exact At0 | exact At1)
    (eH:dJ n ops=true:=by assumption) (ho:ops[j+1]? =some ⟨none,.store T x y,ty,pos,after,guard⟩:=by exact rfl)
    (hw:Region.wanted ⟨none,.store T x y,ty,pos,after,guard⟩ (bX ops σ)=true:=by kernel_rfl)
    (hx:evF σ x=adr A (i*1):=by exact rfl) (hy:evF σ y=I (f a):=by exact rfl) (hm:m=d.size:=by exact sz) (bH:i<m:=by omega)
    (d9:eX ops (lv.set j true) (pd.map (·.1)) (j+1)=true:=by kernel_rfl) (fU:(pd.filter (λp=> !((above ops (j+1)).contains p.1))).all (λp=>p.2)=true:=by kernel_rfl):FG P r n ops Q (lv.set j true) pd σ w:=
  Tn eH (j+1) _ hm H hat (hm▸bH) ho hw hx hy d9 rfl λw' hs=>⟨sT fU,h w' hs⟩
theorem FcI {j:Nat} {w1:Wd} {a b:α} {dd:Nat} {y:Od} {xs:List Od} {ats:Array Td} (h: ∀w',Sep w1 F rs w'->FG P r n ops Q ((lv.set j true).set (j+1) true) (pd.filter (λp=> !((above ops (j+1)).contains p.1))) (upd σ dd (I (cf a b))) w')
    (hC:nX P fv f cf F w1:=by assumption) (H:Sep w1 F rs w:=by assumption) (eH:dJ n ops=true:=by assumption)
    (ho:ops[j+1]? =some ⟨some dd,.call {callee:=.value y,args:=xs.toArray,argTypes:=ats},ty,pos,after,guard⟩:=by exact rfl)
    (hw:Region.wanted ⟨some dd,.call {callee:=.value y,args:=xs.toArray,argTypes:=ats},ty,pos,after,guard⟩ (bX ops σ)=true:=by kernel_rfl)
    (hy:evF σ y=fv:=by exact rfl) (hv:xs.map (evF σ)=[I (f a),I (f b)]:=by exact rfl)
    (d9:eX ops (lv.set j true) (pd.map (·.1)) (j+1)=true:=by kernel_rfl) (fU:(pd.filter (λp=> !((above ops (j+1)).contains p.1))).all (λp=>p.2)=true:=by kernel_rfl):FG P r n ops Q (lv.set j true) pd σ w:=
  ak6 eH (j+1) _ hC H a b ho hw hy hv d9 rfl λw' hs=>⟨sT fU,h w' hs⟩
end
end Go.Mw
namespace Go.Proofs.YtkfpleidaoaonaaGreatDoor
open Go Go.Mw Go.Lib Go.Sort
set_option maxRecDepth 4000
attribute [local irreducible] FW FL FG FGn fZ gG cO gW Qfn Gives
section
variable {α:Type} [Inhabited α] {f:α->Int} {cf:α->α->Int} {w:Wd} {F:NP} {A:OA} {n c:Nat} {d₀:Array α} {fv:Value}
theorem WE {a b:Nat} (hp:(fJ f A n c d₀).ok F w) (yX:n=d₀.size) (Yw:a<=b) (hb:b<=n) (oq:n<=1000000) (nH:nX Tryz.prog fv f cf F w):
    aY Tryz.prog 212 [.slice A n c,I a,I b,fv] w λr w'=>r=.tuple #[]/\Turn F (fJ f A n c (insertionSort (ltC cf) d₀ a b)) w w':=by
  have H:=Sep.bW hp;obtain⟨res,au⟩: ∃res,res=insertionSort (ltC cf) d₀ a b:=⟨_,rfl⟩;rw[<-au];unfold insertionSort at au;refine y8 Tryz.func212 rfl rfl rfl rfl ?_;refine Zb1 ?_;refine Vc ((a+1:Nat):Int) ?_;refine Zb1 ?_;refine aR (λx:Nat×Array α=>[(0,.slice A n c),(1,I a),(2,I b),(3,fv),(8,I x.1)]) (λx w'=>((n=x.2.size/\x.1<=b+1)/\insOuter (ltC cf) a b x.1 x.2=res)/\Sep w F [fJ f A n c x.2] w') (λx _=>b+1-x.1) (a+1,d₀) tR ⟨⟨⟨yX,oM⟩,au.symm⟩,H⟩ (λx τ _ hI=>?_);obtain⟨i,d⟩:=x;obtain⟨⟨⟨hn,hib⟩,hi⟩,S⟩:=hI;dsimp only at hn hib hi S
  try simp only[cK,like,aS,bK]
  refine Za3 ?_;refine Qn (Cp rfl (λe=>?_) (λe=>?_))
  . have bH:i<b:=oM
    rw[insOuter,zac bH]at hi;refine Zb2 ?_;refine aR (λx:Nat×Array α=>[(0,.slice A n c),(1,I a),(2,I b),(3,fv),(8,I i),(9,I x.1)]) (λx w'=>((n=x.2.size/\x.1<=i)/\insOuter (ltC cf) a b (i+1) (insInner (ltC cf) a x.1 x.2)=res)/\Sep w F [fJ f A n c x.2] w') (λx _=>x.1) (i,d) tR ⟨⟨⟨hn,zbk _⟩,hi⟩,S⟩ (λx τ _ hI=>?_);clear hi hn;obtain⟨j,d⟩:=x;obtain⟨⟨⟨hn,hji⟩,hi⟩,e⟩:=hI;dsimp only at hn hji hi e;have hR:=rdI hn e At0
    try simp only[cK,like,aS]
    refine Zb0 ?_;refine Ds (λe _ g=>?_);refine Zb4 ?_;refine iM (t:=21) rfl (λl=>?_) (λl=>?_)
    . obtain⟨k,rfl⟩: ∃k,j=k+1:=⟨j-1,oM⟩
      have Yt:k+1>a:=oM;refine Zb7 ?_;refine Gc e 11 ((k:Nat):Int) ?_;refine Zb2 ?_;refine FcI (λ_ l=>?_);refine Za2 ?_;refine fF e kR ?_;refine bC (Cp rfl (λe=>?_) (λe=>?_))
      . rw[insInner,zac (by simp[ltC];exact⟨oM,e⟩)]at hi
        refine Zb0 ?_;refine Ds (λm _ _=>?_);refine Zb4 ?_;refine Gc m 4 ((k:Nat):Int) ?_;refine Zb2 ?_;refine Gc m 7 ((k:Nat):Int) ?_;refine Zb7 ?_;refine FsI (λ_ _=>?_);refine Zb1 ?_;refine FsI (λ_ m=>?_);refine Zb1 ?_;refine Vc (k:Int) ?_;refine Zb1 ?_;exact aj (k,swp d (k+1) k) tR ⟨⟨⟨by rw[swp_size];exact hn,dO⟩,hi⟩,m⟩ dO
      rw[insInner,zab (by simp[ltC];intro _;have:=e;omega)]at hi;refine Zb1 ?_;refine Vc ((i+1:Nat):Int) ?_;refine Zb1 ?_;exact aj (i+1,d) tR ⟨⟨⟨hn,dO⟩,hi⟩,l⟩ dO
    have fU:insInner (ltC cf) a j d=d:=by
      cases j with
      | zero=>rfl
      | succ k=>rw[insInner,zab (by simp;intro h;omega)]
    rw[fU]at hi;refine Zb2 ?_;refine Vc ((i+1:Nat):Int) ?_;refine Zb1 ?_;exact aj (i+1,d) tR ⟨⟨⟨hn,dO⟩,hi⟩,g⟩ dO
  rw[insOuter,zab oM]at hi;refine Zb0 ?_;exact⟨rfl,by rw[<-hi];exact S.turn⟩
end
open Go.Proofs.Tryz
section
variable {α:Type} [Inhabited α] {f:α->Int} {cf:α->α->Int} {w:Wd} {F:NP} {A:OA} {n c:Nat} {d₀:Array α} {fv:Value}
theorem YU {root top first:Nat} (hp:(fJ f A n c d₀).ok F w) (yX:n=d₀.size) (hb:first+top<=n) (oq:n<=1000000) (hr:root<=n) (nH:nX prog fv f cf F w):
    aY prog 295 [.slice A n c,I root,I top,I first,fv] w λr w'=>r=.tuple #[]/\n=(siftDown (ltC cf) top first root d₀).size/\Turn F (fJ f A n c (siftDown (ltC cf) top first root d₀)) w w':=by
  have H:=Sep.bW hp;obtain⟨res,au⟩: ∃res,res=siftDown (ltC cf) top first root d₀:=⟨_,rfl⟩;rw[<-au];refine Ni func295 rfl rfl rfl rfl ?_;refine Zb2 ?_;refine aR (λx:Nat×Array α=>[(0,.slice A n c),(2,I top),(3,I first),(4,fv),(10,I x.1)]) (λx w'=>((n=x.2.size/\x.1<=n)/\siftDown (ltC cf) top first x.1 x.2=res)/\Sep w F [fJ f A n c x.2] w') (λx _=>n+1-x.1) (root,d₀) tR ⟨⟨⟨yX,hr⟩,au.symm⟩,H⟩ (λx τ _ hI=>?_);obtain⟨r,d⟩:=x;obtain⟨⟨⟨hn,hrn⟩,hi⟩,k⟩:=hI;dsimp only at hn hrn hi k;have hR:=rdI hn k At0
  try simp only[cK,like,aS,bK]
  refine Zb1 ?_;refine Vc ((2*r:Nat):Int) ?_;refine Vc ((2*r+1:Nat):Int) ?_;refine Za4 ?_;refine Qn (Cp rfl (λS=>?_) (λS=>?_))
  . have hge:2*r+1≥top:=oM
    rw[siftDown,dif_pos hge]at hi;refine Zb0 ?_;exact⟨rfl,by rw[<-hi];exact hn,by rw[<-hi];exact k.turn⟩
  have hge: ¬2*r+1≥top:=oM;rw[siftDown,dif_neg hge]at hi;refine Zb0 ?_;refine Ds (λS _ _=>?_);refine Zb1 ?_;refine Gc S 1 ((2*r+1+1:Nat):Int) ?_;refine Zb3 ?_;refine iM (t:=23) rfl (λk=>?_) (λk=>?_)
  . have h2:2*r+1+1<top:=oM
    refine Zb4 ?_;refine Gc S 9 ((first+(2*r+1):Nat):Int) ?_;refine Zb5 ?_;refine Gc S 15 ((first+(2*r+1):Nat):Int) ?_;refine Gc S 16 ((first+(2*r+1)+1:Nat):Int) ?_;refine Zb2 ?_;refine FcI (λ_ _=>?_);refine Za2 ?_;refine fF S kR ?_;refine bC (Cp rfl (λS=>?_) (λS=>?_))
    . have bH:=S
      rw[zac (by simp only[zbr,decide_eq_true_eq,ltC];exact⟨h2,bH⟩),dif_pos (show 2*r+2<top from oM)]at hi;refine Zb1 ?_;refine Vc ((2*r+2:Nat):Int) ?_;obtain⟨ch,hch⟩: ∃ch,ch=2*r+2:=⟨_,rfl⟩;rw[<-hch]at hi ⊢;have hct:ch<top:=oM;refine Zb1 ?_;refine Ds (λk _ _=>?_);refine Zb4 ?_;refine Gc k 4 ((first+r:Nat):Int) ?_;refine Zb5 ?_;refine Gc k 10 ((first+ch:Nat):Int) ?_;refine Zb2 ?_;refine FcI (λ_ a=>?_);refine Za2 ?_;refine fF k kR ?_;refine bC (Cp rfl (λk=>?_) (λk=>?_))
      . have bH:=k
        rw[zac (by simp only[zdh,decide_eq_false_iff_not,ltC];exact bH)]at hi;refine Zb0 ?_;exact⟨rfl,by rw[<-hi];exact hn,by rw[<-hi];exact a.turn⟩
      have bH:=k;rw[zab (by simp only[zdh,decide_eq_false_iff_not,ltC];exact bH)]at hi;refine Zb0 ?_;refine Ds (λk _ _=>?_);refine Zb3 ?_;refine Gc k 3 ((first+r:Nat):Int) ?_;refine Zb3 ?_;refine Gc k 7 ((first+ch:Nat):Int) ?_;refine Zb3 ?_;refine Gc k 11 ((first+ch:Nat):Int) ?_;refine Zb5 ?_;refine Gc k 17 ((first+r:Nat):Int) ?_;refine Zb3 ?_;refine FsI (λ_ _=>?_);refine Zb1 ?_;refine FsI (λ_ k=>?_);refine Zb2 ?_;exact aj (ch,swp d (first+r) (first+ch)) tR ⟨⟨⟨by rw[swp_size];exact hn,dO⟩,hi⟩,k⟩ dO
    have bH:=S;rw[zab (by simp only[zbr,decide_eq_true_eq,ltC];exact λh=>bH h.2)]at hi;obtain⟨ch,hch⟩: ∃ch,ch=2*r+1:=⟨_,rfl⟩;rw[<-hch]at hi ⊢;have hct:ch<top:=oM;refine Zb0 ?_;refine Ds (λk _ _=>?_);refine Zb4 ?_;refine Gc k 4 ((first+r:Nat):Int) ?_;refine Zb5 ?_;refine Gc k 10 ((first+ch:Nat):Int) ?_;refine Zb2 ?_;refine FcI (λ_ S=>?_);refine Za2 ?_;refine fF k kR ?_;refine bC (Cp rfl (λk=>?_) (λk=>?_))
    . have bH:=k
      rw[zac (by simp only[zdh,decide_eq_false_iff_not,ltC];exact bH)]at hi;refine Zb0 ?_;exact⟨rfl,by rw[<-hi];exact hn,by rw[<-hi];exact S.turn⟩
    have bH:=k;rw[zab (by simp only[zdh,decide_eq_false_iff_not,ltC];exact bH)]at hi;refine Zb0 ?_;refine Ds (λk _ _=>?_);refine Zb3 ?_;refine Gc k 3 ((first+r:Nat):Int) ?_;refine Zb3 ?_;refine Gc k 7 ((first+ch:Nat):Int) ?_;refine Zb3 ?_;refine Gc k 11 ((first+ch:Nat):Int) ?_;refine Zb5 ?_;refine Gc k 17 ((first+r:Nat):Int) ?_;refine Zb3 ?_;refine FsI (λ_ _=>?_);refine Zb1 ?_;refine FsI (λ_ k=>?_);refine Zb2 ?_;exact aj (ch,swp d (first+r) (first+ch)) tR ⟨⟨⟨by rw[swp_size];exact hn,dO⟩,hi⟩,k⟩ dO
  have h2: ¬2*r+1+1<top:=oM;rw[zab (by simp[h2])]at hi;obtain⟨ch,hch⟩: ∃ch,ch=2*r+1:=⟨_,rfl⟩;rw[<-hch]at hi ⊢;have hct:ch<top:=oM;refine Zb1 ?_;refine Ds (λk _ _=>?_);refine Zb4 ?_;refine Gc k 4 ((first+r:Nat):Int) ?_;refine Zb5 ?_;refine Gc k 10 ((first+ch:Nat):Int) ?_;refine Zb2 ?_;refine FcI (λ_ S=>?_);refine Za2 ?_;refine fF k kR ?_;refine bC (Cp rfl (λk=>?_) (λk=>?_))
  . have bH:=k
    rw[zac (by simp only[zdh,decide_eq_false_iff_not,ltC];exact bH)]at hi;refine Zb0 ?_;exact⟨rfl,by rw[<-hi];exact hn,by rw[<-hi];exact S.turn⟩
  have bH:=k;rw[zab (by simp only[zdh,decide_eq_false_iff_not,ltC];exact bH)]at hi;refine Zb0 ?_;refine Ds (λk _ _=>?_);refine Zb3 ?_;refine Gc k 3 ((first+r:Nat):Int) ?_;refine Zb3 ?_;refine Gc k 7 ((first+ch:Nat):Int) ?_;refine Zb3 ?_;refine Gc k 11 ((first+ch:Nat):Int) ?_;refine Zb5 ?_;refine Gc k 17 ((first+r:Nat):Int) ?_;refine Zb3 ?_;refine FsI (λ_ _=>?_);refine Zb1 ?_;refine FsI (λ_ k=>?_);refine Zb2 ?_;exact aj (ch,swp d (first+r) (first+ch)) tR ⟨⟨⟨by rw[swp_size];exact hn,dO⟩,hi⟩,k⟩ dO
theorem Tp {a b:Nat} (hp:(fJ f A n c d₀).ok F w) (yX:n=d₀.size) (Yw:a<b) (hb:b<=n) (oq:n<=1000000) (nH:nX prog fv f cf F w):
    aY prog 213 [.slice A n c,I a,I b,fv] w λr w'=>r=.tuple #[]/\n=(heapSort (ltC cf) d₀ a b).size/\Turn F (fJ f A n c (heapSort (ltC cf) d₀ a b)) w w':=by
  have H:=Sep.bW hp;obtain⟨res,au⟩: ∃res,res=heapSort (ltC cf) d₀ a b:=⟨_,rfl⟩;rw[<-au];unfold heapSort at au;refine y8 func213 rfl rfl rfl rfl ?_;refine Zb5 ?_;refine Vc ((b-a:Nat):Int) ?_;refine Zb2 ?_;refine Vc ((b-a-1:Nat):Int) ?_;refine Vv (Gives.U5 (a:=b-a-1) (b:=2) rfl rfl dC oM) (Zb1 ?_);refine aR (λx:Nat×Array α=>[(0,.slice A n c),(3,fv),(8,I a),(9,I 0),(10,I (b-a:Nat)),(11,I ((x.1:Int)-1))]) (λx w'=>((n=x.2.size/\x.1<=(b-a-1)/2+1)/\res=heapPop (ltC cf) a (b-a) (heapBuild (ltC cf) (b-a) a x.1 x.2))/\Sep w F [fJ f A n c x.2] w') (λx _=>x.1) ((b-a-1)/2+1,d₀) ⟨rfl,rfl,rfl,rfl,rfl,zbb I dO,trivial⟩ ⟨⟨⟨yX,zbk _⟩,au⟩,H⟩ (λx τ _ hI=>?_);obtain⟨k,d⟩:=x;obtain⟨⟨⟨hn,hkb⟩,hi⟩,S⟩:=hI;dsimp only at hn hkb hi S;clear au
  try simp only[cK,like,aS,bK]
  refine Za2 ?_;refine Qn (Cp rfl (λe=>?_) (λe=>?_))
  . obtain⟨m,rfl⟩: ∃m,k=m+1:=⟨k-1,oM⟩
    rw[show((m+1:Nat):Int)-1=(m:Int)from oM];rw[heapBuild]at hi;refine Zb5 ?_;obtain⟨F0,dS,gH,aI⟩:=S.focus At0;refine aK (YU (root:=m) (top:=b-a) (first:=a) dS hn oM oq oM (nH.into S.kept gH)) rfl rfl (λv' _ hv=>?_);obtain⟨rfl,hsz,anV,F1,hq,hs⟩:=hv;have e:=aI _ F1 _ anV hq hs;refine Zb1 ?_;refine Vc ((m:Int)-1) ?_;refine Zb1 ?_;exact aj (m,siftDown (ltC cf) (b-a) a m d) tR ⟨⟨⟨hsz,dO⟩,hi⟩,e⟩ dO
  have yK:k=0:=oM;subst yK;rw[heapBuild]at hi;refine Zb1 ?_;refine Vc (((b-a:Nat):Int)-1) ?_;refine Zb1 ?_;refine aR (λx:Nat×Array α=>[(0,.slice A n c),(3,fv),(8,I a),(9,I 0),(12,I ((x.1:Int)-1))]) (λx w'=>((n=x.2.size/\x.1<=b-a)/\res=heapPop (ltC cf) a x.1 x.2)/\Sep w F [fJ f A n c x.2] w') (λx _=>x.1) (b-a,d) tR ⟨⟨⟨hn,zbk _⟩,hi⟩,S⟩ (λx τ _ hI=>?_);clear hi hn hkb;obtain⟨k,d⟩:=x;obtain⟨⟨⟨hn,hkb⟩,hi⟩,e⟩:=hI;dsimp only at hn hkb hi e;have hR:=rdI hn e At0
  try simp only[cK,like,aS]
  refine Za2 ?_;refine Qn (Cp rfl (λS=>?_) (λS=>?_))
  . obtain⟨m,rfl⟩: ∃m,k=m+1:=⟨k-1,oM⟩
    rw[show((m+1:Nat):Int)-1=(m:Int)from oM];rw[heapPop]at hi;refine Zb0 ?_;refine Ds (λS _ _=>?_);refine Zb5 ?_;refine Gc S 5 ((a+m:Nat):Int) ?_;refine Zb3 ?_;refine Gc S 9 ((a+m:Nat):Int) ?_;refine Zb7 ?_;refine FsI (λ_ _=>?_);refine Zb1 ?_;refine FsI (λ_ S=>?_);refine Zb5 ?_;have hn2:n=(swp d a (a+m)).size:=by rw[swp_size];exact hn
    obtain⟨F0,dS,gH,aI⟩:=S.focus At0;refine aK (YU (root:=0) (top:=m) (first:=a) (d₀:=swp d a (a+m)) dS hn2 oM oq oM (nH.into S.kept gH)) rfl rfl (λv' _ hv=>?_);obtain⟨rfl,hsz,anW,F1,hq,hs⟩:=hv;have S:=aI _ F1 _ anW hq hs;refine Zb1 ?_;refine Vc ((m:Int)-1) ?_;refine Zb1 ?_;exact aj (m,siftDown (ltC cf) m a 0 (swp d a (a+m))) tR ⟨⟨⟨hsz,dO⟩,hi⟩,S⟩ dO
  have yK:k=0:=oM;subst yK;rw[heapPop]at hi;refine Zb0 ?_;exact⟨rfl,by rw[hi];exact hn,by rw[hi];exact e.turn⟩
end
section
variable {α:Type} [Inhabited α] {f:α->Int} {cf:α->α->Int} {w:Wd} {F:NP} {A:OA} {n c:Nat} {d₀:Array α} {fv:Value}
theorem EX {a b s bs:Nat} {E:Td} (hp:(star (blk bs [I s] E) (fJ f A n c d₀)).ok F w) (hn:n=d₀.size) (ha:a<n) (hb:b<n) (oq:n<=1000000) (hs:s<=1000) (nH:nX prog fv f cf F w):
    aY prog 344 [.slice A n c,I a,I b,av bs,fv] w λr w'=>r=.tuple #[I (order2 (ltC cf) d₀ a b s).1,I (order2 (ltC cf) d₀ a b s).2.1]/\Turn F (star (blk bs [I (order2 (ltC cf) d₀ a b s).2.2] E) (fJ f A n c d₀)) w w':=by
  have H:=(Sep.bW hp).bR;have hR:=rdI hn H At1;unfold order2;refine Ni func344 rfl rfl rfl rfl ?_;refine Zb2 ?_;refine Ds (λk _ _=>?_);refine Zb9 ?_;refine FcI (λ_ S=>?_);refine Za1 ?_;refine fF k kR ?_;refine bC (Cp rfl (λk=>?_) (λk=>?_))
  . rw[zac (show ltC cf d₀[b]! d₀[a]! =true from zbj k)]
    refine Zb3 ?_;refine Vc ((s+1:Nat):Int) ?_;refine Zb1 ?_;refine bB S (h:=λ_ d=>?_);refine Zb4 ?_;exact⟨rfl,d.bD.turn⟩
  rw[zab (show ¬ltC cf d₀[b]! d₀[a]! =true from λh=>k (zba h))];refine Zb4 ?_;exact⟨rfl,S.bD.turn⟩
theorem order2_mem {d:Array α} {a b s:Nat} {p:NP} (ha:p a) (hb:p b):p (order2 (ltC cf) d a b s).1/\p (order2 (ltC cf) d a b s).2.1/\(order2 (ltC cf) d a b s).2.2<=s+1:=by
 unfold order2
 split
 .exact⟨hb,ha,zbk _⟩
 exact⟨ha,hb,Nat.le_succ _⟩
theorem median_mem {d:Array α} {a b m s:Nat} {p:NP} (ha:p a) (hb:p b) (hm:p m):p (median (ltC cf) d a b m s).1/\(median (ltC cf) d a b m s).2<=s+3:=by
 unfold median;dsimp only;obtain⟨h1,h2,h3⟩:=order2_mem (cf:=cf) (d:=d) (s:=s) ha hb;obtain⟨h4,h5,h6⟩:=order2_mem (cf:=cf) (d:=d) (s:=(order2 (ltC cf) d a b s).2.2) h2 hm;obtain⟨h7,h8,h9⟩:=order2_mem (cf:=cf) (d:=d) (s:=(order2 (ltC cf) d (order2 (ltC cf) d a b s).2.1 m (order2 (ltC cf) d a b s).2.2).2.2) h1 h4;exact⟨h8,oM⟩
theorem NC {a b m s bs:Nat} {E:Td} (hp:(star (blk bs [I s] E) (fJ f A n c d₀)).ok F w) (hn:n=d₀.size) (ha:a<n) (hb:b<n) (hm:m<n) (oq:n<=1000000) (hs:s<=900) (nH:nX prog fv f cf F w):
    aY prog 297 [.slice A n c,I a,I b,I m,av bs,fv] w λr w'=>r=I (median (ltC cf) d₀ a b m s).1/\Turn F (star (blk bs [I (median (ltC cf) d₀ a b m s).2] E) (fJ f A n c d₀)) w w':=by
  have H:=Sep.bW hp;unfold median;dsimp only;obtain⟨h1,h2,h3⟩:=order2_mem (cf:=cf) (d:=d₀) (s:=s) (p:=λx=>x<n) ha hb;obtain⟨r1,VG⟩: ∃r1,r1=order2 (ltC cf) d₀ a b s:=⟨_,rfl⟩;rw[<-VG]at h1 h2 h3 ⊢;obtain⟨h4,h5,h6⟩:=order2_mem (cf:=cf) (d:=d₀) (s:=r1.2.2) (p:=λx=>x<n) h2 hm;obtain⟨r2,Rp⟩: ∃r2,r2=order2 (ltC cf) d₀ r1.2.1 m r1.2.2:=⟨_,rfl⟩;rw[<-Rp]at h4 h5 h6 ⊢;refine akK func297 rfl rfl rfl rfl ?_;refine Zb6 ?_;obtain⟨F0,dS,gH,aI⟩:=H.focus At0;refine aK (EX (a:=a) (b:=b) (s:=s) dS hn ha hb oq oM (nH.into H.kept gH)) rfl rfl (λv' _ hv=>?_);obtain⟨rfl,hk7,F1,hq,hs⟩:=hv;have k:=aI _ F1 _ hk7 hq hs;rw[<-VG]at k ⊢;refine abJ ?_;obtain⟨F0,dS,gH,aI⟩:=k.focus At0;refine aK (EX (a:=r1.2.1) (b:=m) (s:=r1.2.2) dS hn h2 hm oq oM (nH.into k.kept gH)) rfl rfl (λv' _ hv=>?_);obtain⟨rfl,anX,F1,hq,hs⟩:=hv;have k:=aI _ F1 _ anX hq hs;rw[<-Rp]at k ⊢;refine abJ ?_;obtain⟨F0,dS,gH,aI⟩:=k.focus At0;refine aK (EX (a:=r1.1) (b:=r2.1) (s:=r2.2.2) dS hn h1 h4 oq oM (nH.into k.kept gH)) rfl rfl (λv' _ hv=>?_);obtain⟨rfl,anY,F1,hq,hs⟩:=hv;have k:=aI _ F1 _ anY hq hs;refine Zb7 ?_;exact⟨rfl,k.turn⟩
theorem zy {a s bs:Nat} {E:Td} (hp:(star (blk bs [I s] E) (fJ f A n c d₀)).ok F w) (hn:n=d₀.size) (ha:1<=a) (ha2:a+1<n) (oq:n<=1000000) (hs:s<=900) (nH:nX prog fv f cf F w):
    aY prog 296 [.slice A n c,I a,av bs,fv] w λr w'=>r=I (medianAdjacent (ltC cf) d₀ a s).1/\Turn F (star (blk bs [I (medianAdjacent (ltC cf) d₀ a s).2] E) (fJ f A n c d₀)) w w':=by
  have H:=Sep.bW hp;unfold medianAdjacent;refine y8 func296 rfl rfl rfl rfl ?_;refine Zb3 ?_;refine Vc ((a-1:Nat):Int) ?_;refine Zb2 ?_;refine Vc ((a+1:Nat):Int) ?_;refine Zb2 ?_;obtain⟨F0,dS,gH,aI⟩:=H.focus At0;refine aK (NC (a:=a-1) (b:=a) (m:=a+1) (s:=s) dS hn oM oM oM oq hs (nH.into H.kept gH)) rfl rfl (λv' _ hv=>?_);obtain⟨rfl,aj0,F1,hq,hs⟩:=hv;have k:=aI _ F1 _ aj0 hq hs;refine Zb1 ?_;exact⟨rfl,k.turn⟩
def aib:Sort.Hint->Int
 | .unknown=>0
 | .increasing=>1
 | .decreasing=>2
theorem adu {a b:Nat} (hp:(fJ f A n c d₀).ok F w) (hn:n=d₀.size) (Yw:a+12<b) (hb:b<=n) (oq:n<=1000000) (nH:nX prog fv f cf F w):
    aY prog 215 [.slice A n c,I a,I b,fv] w λr w'=>r=.tuple #[I (choosePivot (ltC cf) d₀ a b).1,I (aib (choosePivot (ltC cf) d₀ a b).2)]/\Turn F (fJ f A n c d₀) w w':=by
  have H:=Sep.bW hp;obtain⟨l,hl⟩: ∃l,l=b-a:=⟨_,rfl⟩;obtain⟨i,hi⟩: ∃i,i=a+l/4*1:=⟨_,rfl⟩;obtain⟨j,hj⟩: ∃j,j=a+l/4*2:=⟨_,rfl⟩;obtain⟨k,hk⟩: ∃k,k=a+l/4*3:=⟨_,rfl⟩;obtain⟨res,au⟩: ∃res,res=choosePivot (ltC cf) d₀ a b:=⟨_,rfl⟩;rw[<-au];unfold choosePivot at au;dsimp only at au;rw[<-hl,<-hi,<-hj,<-hk,zac (show l≥8 from oM)]at au;refine y8 func215 rfl rfl rfl rfl ?_;refine Zb4 ?_;refine Vc (l:Int) ?_;refine Zb1 ?_;refine aO H (h:=λbs _ S _=>?_);have S:=S.bD;refine Zb2 ?_;refine Vv (Gives.U5 (a:=l) (b:=4) rfl rfl dC oM) (Vc ((l/4*1:Nat):Int) ?_);refine Vc (i:Int) ?_;refine Zb3 ?_;refine Vv (Gives.U5 (a:=l) (b:=4) rfl rfl dC oM) (Vc ((l/4*2:Nat):Int) ?_);refine Vc (j:Int) ?_;refine Zb3 ?_;refine Vv (Gives.U5 (a:=l) (b:=4) rfl rfl dC oM) (Vc ((l/4*3:Nat):Int) ?_);refine Vc (k:Int) ?_;refine Am ?_;refine Qn (fB (λz:Nat×Nat=>[(11,av bs),(13,I z.1)]) (λz w'=>(res=(z.1,if z.2=0 then Sort.Hint.increasing else if z.2=12 then .decreasing else .unknown))/\Sep w F [star (blk bs [I z.2] 3) (fJ f A n c d₀)] w') ?_ ?_)
  . refine Za2 ?_
    refine Qn (Cp rfl (λe=>?_) (λe=>?_))
    . have h8:=e
      refine fB (λz:Nat×Nat×Nat×Nat=>[(0,.slice A n c),(3,fv),(11,av bs),(12,I z.1),(13,I z.2.1),(14,I z.2.2.1)]) (λz w'=>((z.1<n/\z.2.1<n/\z.2.2.1<n/\z.2.2.2<=9)/\res=((median (ltC cf) d₀ z.1 z.2.1 z.2.2.1 z.2.2.2).1,if(median (ltC cf) d₀ z.1 z.2.1 z.2.2.1 z.2.2.2).2=0 then Sort.Hint.increasing else if(median (ltC cf) d₀ z.1 z.2.1 z.2.2.1 z.2.2.2).2=12 then .decreasing else .unknown))/\Sep w F [star (blk bs [I z.2.2.2] 3) (fJ f A n c d₀)] w') ?_ ?_
      . refine Za2 ?_
        refine Qn (Cp rfl (λg=>?_) (λg=>?_))
        . rw[zac (show l≥50 from oM)]at au
          refine Zb3 ?_;obtain⟨F0,dS,gH,aI⟩:=S.focus At0;refine aK (zy (a:=i) (s:=0) dS hn oM oM oq dC (nH.into S.kept gH)) rfl rfl (λv' _ hv=>?_);obtain⟨rfl,anZ,F1,hq,hs⟩:=hv;have g:=aI _ F1 _ anZ hq hs;obtain⟨hm1,Ey⟩:=median_mem (cf:=cf) (d:=d₀) (s:=0) (p:=λx=>x<n) (a:=i-1) (b:=i) (m:=i+1) oM oM oM;obtain⟨ri,hri⟩: ∃ri,ri=medianAdjacent (ltC cf) d₀ i 0:=⟨_,rfl⟩;rw[show median (ltC cf) d₀ (i-1) i (i+1) 0=ri from hri.symm]at hm1 Ey;rw[<-hri]at au g ⊢;refine Zb4 ?_;obtain⟨F0,dS,gH,aI⟩:=g.focus At0;refine aK (zy (a:=j) (s:=ri.2) dS hn oM oM oq oM (nH.into g.kept gH)) rfl rfl (λv' _ hv=>?_);obtain⟨rfl,an0,F1,hq,hs⟩:=hv;have g:=aI _ F1 _ an0 hq hs;obtain⟨hm3,hm4⟩:=median_mem (cf:=cf) (d:=d₀) (s:=ri.2) (p:=λx=>x<n) (a:=j-1) (b:=j) (m:=j+1) oM oM oM;obtain⟨rj,hrj⟩: ∃rj,rj=medianAdjacent (ltC cf) d₀ j ri.2:=⟨_,rfl⟩;rw[show median (ltC cf) d₀ (j-1) j (j+1) ri.2=rj from hrj.symm]at hm3 hm4;rw[<-hrj]at au g ⊢;refine Zb4 ?_;obtain⟨F0,dS,gH,aI⟩:=g.focus At0;refine aK (zy (a:=k) (s:=rj.2) dS hn oM oM oq oM (nH.into g.kept gH)) rfl rfl (λv' _ hv=>?_);obtain⟨rfl,an2,F1,hq,hs⟩:=hv;have g:=aI _ F1 _ an2 hq hs;obtain⟨hm5,hm6⟩:=median_mem (cf:=cf) (d:=d₀) (s:=rj.2) (p:=λx=>x<n) (a:=k-1) (b:=k) (m:=k+1) oM oM oM;obtain⟨rk,hrk⟩: ∃rk,rk=medianAdjacent (ltC cf) d₀ k rj.2:=⟨_,rfl⟩;rw[show median (ltC cf) d₀ (k-1) k (k+1) rj.2=rk from hrk.symm]at hm5 hm6
          rw[<-hrk]at au g ⊢;refine Zb1 ?_;exact aA (ri.1,rj.1,rk.1,rk.2) tR ⟨⟨⟨hm1,hm3,hm5,dO⟩,au⟩,g⟩
        rw[zab (show ¬l≥50 from oM)]at au;refine Zb0 ?_;exact aA (i,j,k,0) tR ⟨⟨⟨dO,dO,dO,zaq _⟩,au⟩,S⟩
      rintro⟨i',j',k',s⟩ τ g ⟨⟨⟨Zx,hj',hk',g⟩,hr⟩,S⟩;dsimp only at Zx hj' hk' g hr S;simp only[cK,like,aS,bK];refine Zb5 ?_;obtain⟨F0,dS,gH,aI⟩:=S.focus At0;refine aK (NC (a:=i') (b:=j') (m:=k') (s:=s) dS hn Zx hj' hk' oq oM (nH.into S.kept gH)) rfl rfl (λv' _ hv=>?_);obtain⟨rfl,an3,F1,hq,hs⟩:=hv;have S:=aI _ F1 _ an3 hq hs;refine Zb1 ?_;exact aA (median (ltC cf) d₀ i' j' k' s) tR ⟨hr,S⟩
    exact zap e oM
  rintro⟨p,s⟩ τ S ⟨hr,S⟩;dsimp only at hr S;have S:=S.bR;simp only[cK,like,aS,bK];refine Za3 ?_;refine Qn (Cp rfl (λe=>?_) (λe=>?_))
  . have g:s=0:=by have:=e;omega
    rw[zac g]at hr;refine Zb3 ?_;exact⟨by rw[hr];rfl,(S.dA).turn⟩
  have g:s≠0:=by have:=e;omega
  rw[zab g]at hr;refine Za2 ?_;refine Qn (Cp rfl (λg=>?_) (λg=>?_))
  . have e:s=12:=by have:=g;omega
    rw[zac e]at hr;refine Zb3 ?_;exact⟨by rw[hr];rfl,(S.dA).turn⟩
  have e:s≠12:=by have:=g;omega
  rw[zab e]at hr;refine Zb3 ?_;exact⟨by rw[hr];rfl,(S.dA).turn⟩
end
end Go.Proofs.YtkfpleidaoaonaaGreatDoor
