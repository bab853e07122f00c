/-
 The document's literals,walked:Quote,Unquote.
-/
import Derived.Test.YtkfpleidaoaonaaGreatDoorNu1
import Derived.Test.YtkfpleidaoaonaaGreatDoorNu5
import Derived.Test.YtkfpleidaoaonaaGreatDoorNu3
import Derived.ArgAppend
set_option linter.unusedVariables false
set_option linter.unusedSimpArgs false
namespace Go.Proofs.YtkfpleidaoaonaaGreatDoor
open Go Go.Mw Go.Lib
set_option maxRecDepth 4000
theorem Pk (c:UInt8):mo c=if c.toNat=34 then [92,34]else if c.toNat=92 then [92,92]else if c.toNat=8 then [92,98]else if c.toNat=12 then [92,102]else if c.toNat=10 then [92,110]else if c.toNat=13 then [92,114]else if c.toNat=9 then [92,116]
    else if c.toNat<32 then [92,117,48,48,pK (c.toNat/16),pK (c.toNat%16)]else [c]:=by
  have e: ∀k:UInt8,(c=k)=(c.toNat=k.toNat):=λk=>propext UInt8.toNat_inj.symm;have e2:(c<32)=(c.toNat<32):=propext UInt8.lt_iff_toNat_lt;unfold mo;simp only[e,e2];rfl
theorem abj (c:UInt8):(mo c).length<=6:=by
 unfold mo
 repeat' split
 all_goals simp
def JW (l:L8) (i:Nat):L8:=34::(l.take i).flatMap mo
theorem YB (l:L8) (i:Nat):(JW l i).length<=6*i+1:=by
 have h:=DV abj (l.take i);have h2:(l.take i).length<=i:=by rw[zag];omega
 unfold JW;simp only[zal];omega
section
variable {w:Wd} {l:L8}
def Lc (l:L8):L8×Int:=if validD l=true then(yM l,0)else([],40)
end
theorem aeT {c:UInt8} {d:Nat} (e:pY c=some d):d<16:=by
 have:=c.toNat_lt;unfold pY at e
 repeat' split at e
 all_goals first | (injection e with e;omega) | cases e
section
variable {w:Wd} {l:L8}
end
section
variable {w:Wd} {l:L8}
end
def sU (l:L8) (i:Nat) (out:L8):L8×Nat×Int:=vF (l.length+1-i) (l.drop i) i out
theorem TI {l:L8} {i:Nat} {out:L8} (h:l.length<=i):sU l i out=([],0,3):=by
 unfold sU;rw[zca h];cases l.length+1-i<;>rfl
theorem abk {l:L8} {i f:Nat} {out:L8} (hf:l.length-i<f):vF f (l.drop i) i out=sU l i out:=by
 rcases zdz i (l.length+1)with h | h
 .exact aeM (by rw[zbu];omega) (by rw[zbu];omega)
 rw[TI oM,zca oM];cases f<;>rfl
theorem drop_cons {l:L8} {i:Nat} (h:i<l.length):l.drop i=l.getD i 0::l.drop (i+1):=by
 rw[zbq h,zau,zaa h];rfl
theorem GR {l:L8} {i:Nat} {out:L8} {c:UInt8} (h:i<l.length) (hc:c=l.getD i 0):sU l i out=
    if c=34 then(out,i+1,0)else if c<32 then([],0,41)else if c=92 then(if(zS (l.drop i)).2.2≠0 then([],0,(zS (l.drop i)).2.2)else sU l (i+(zS (l.drop i)).2.1) (out++(zS (l.drop i)).1))
    else if(l6 (l.drop i)).isSome=true then sU l (i+(yQ (l.drop i)).2) (out++(l.drop i).take (yQ (l.drop i)).2)else([],0,if acM (l.drop i)then 3 else 40):=by
  have hd:=drop_cons h;rw[<-hc]at hd
  have afD: ∀n o,1<=n->vF (l.length-i) ((l.drop i).drop n) (i+n) o=sU l (i+n) o:=λn o hn=>by
    rw[zfw];exact abk oM
  rw[show sU l i out=vF (l.length-i+1) (l.drop i) i out by unfold sU;congr 1;omega];rw[hd]at afD ⊢;rw[vF]
  by_cases h1:c=34
  . rw[zac h1,zac h1]
  rw[zab h1,zab h1]
  by_cases h2:c<32
  . rw[zac h2,zac h2]
  rw[zab h2,zab h2]
  by_cases h3:c=92
  . rw[zac h3,zac h3]
    dsimp only
    by_cases h4:(zS (c::l.drop (i+1))).2.2≠0
    . rw[zac h4,zac h4]
    rw[zab h4,zab h4];refine afD _ _ ?_
    rcases Pb (c::l.drop (i+1))with⟨e,h0,hx⟩ | ⟨b,n,hn,hx⟩
    . rw[hx]at h4;exact zat h0 h4
    rw[hx];exact hn
  rw[zab h3,zab h3];unfold yQ;cases hn:l6 (c::l.drop (i+1))with
  | none=>rfl
  | some x=>
    obtain⟨r,n⟩:=x;obtain⟨k1,_,_,_,_⟩:=EN hn;exact afD n _ k1
theorem Nz (r:Int):(encodeRune r).length<=4:=by
 unfold encodeRune encodeRuneZ
 repeat' split
 all_goals simp
section
variable {w:Wd} {l:L8}
end
end Go.Proofs.YtkfpleidaoaonaaGreatDoor
namespace Go.Proofs.YtkfpleidaoaonaaGreatDoor
open Go Go.Mw Go.Lib
set_option maxRecDepth 4000

def bD (t:dJ):LV:=[I t.kind,.bool t.null]
def aj (c:aI):LV:=[.bool c.null,I c.n,str c.s]
def aD (x:bJ):LV:=[I x.kind,I x.n,str x.s]
def aR (c:bL):LV:=[I c.id,str c.name,I c.type.kind,.bool c.type.null,.bool c.dflt.null,I c.dflt.n,str c.dflt.s]
def agg (cs:LV):Value:=.agg cs.toArray
theorem abl {a b:L8}:(((⟨a.toArray⟩:ByteArray).toList==(⟨b.toArray⟩:ByteArray).toList)=true)↔a=b:=by
 rw[ByteArray.toList_mk,ByteArray.toList_mk];simp
section
variable {P:Program} {w:Wd} {d:Nat} {f:Field} {fs:List Field} {xs ys:LV} {u v:Value} {e:Bool}
theorem Le (hn:(f.name != "_")=true) (h1:OneCell P f.type) (hu:xs[f.offset]? =some u) (hv:ys[f.offset]? =some v) (he:(Op.equalIn d f.type u v).run P w=.ok e w):
    (Op.eqFields d xs.toArray ys.toArray (f::fs)).run P w=if e=true then(Op.eqFields d xs.toArray ys.toArray fs).run P w else .ok false w:=by
  have Zp:f.name≠ "_" :=by simpa using hn
  simp only[Op.eqFields,zac Zp,zbk,EK hu,EK hv,zas,he];cases e<;>simp
theorem aos {k:Nat} {us vs:LV} (hn:(f.name != "_")=true) (h1:Agg P f.type k) (hu:(xs.drop f.offset).take k=us) (hv:(ys.drop f.offset).take k=vs) (he:(Op.equalIn d f.type (.agg us.toArray) (.agg vs.toArray)).run P w=.ok e w):
    (Op.eqFields d xs.toArray ys.toArray (f::fs)).run P w=if e=true then(Op.eqFields d xs.toArray ys.toArray fs).run P w else .ok false w:=by
  have Zp:f.name≠ "_" :=by simpa using hn
  simp only[Op.eqFields,zac Zp,zbk,K9 hu,K9 hv,zas,he];cases e<;>simp
theorem ahN:(Op.eqFields d xs.toArray ys.toArray []).run P w=.ok true w:=rfl
theorem Pm {t:Td} (a b:Int) (h:P.underlying t=some (.int .i64)):(Op.equalIn (d+1) t (I a) (I b)).run P w=.ok (decide (a=b)) w:=by
 rw[show I a=.int .i64 a from rfl,show I b=.int .i64 b from rfl,run_equalIn_int w d t .i64 .i64 a b h];rfl
theorem ahO {t:Td} (a b:Bool) (h:P.underlying t=some .bool):(Op.equalIn (d+1) t (.bool a) (.bool b)).run P w=.ok (decide (a=b)) w:=by
 rw[run_equalIn_bool' w d t a b h];cases a<;>cases b<;>rfl
theorem abm {t:Td} (a b:L8) (h:P.underlying t=some .string):(Op.equalIn (d+1) t (str a) (str b)).run P w=.ok (decide (a=b)) w:=by
 rw[show str a=.string ⟨a.toArray⟩from rfl,show str b=.string ⟨b.toArray⟩from rfl,run_equalIn_string w d t _ _ h]
 congr 1
 rw[zdj,abl,decide_eq_true_eq]
end
theorem ahP {d:Nat} (a b:aI) (w:Wd):(Op.equalIn (d+2) 52 (.agg (aj a).toArray) (.agg (aj b).toArray)).run Tryz.prog w=.ok (decide (a=b)) w:=by
 rw[run_equalIn_agg w (d+1) _ _ _ kR kR];simp only[Program.fieldsOf,Tryz.underlying52];rw[Le rfl aoj rfl rfl (ahO a.null b.null kR),Le rfl aoi rfl rfl (Pm a.n b.n kR),Le rfl amm rfl rfl (abm a.s b.s kR),ahN];have e:(a=b)=(a.null=b.null/\a.n=b.n/\a.s=b.s):=propext ⟨λh=>by subst h;exact⟨rfl,rfl,rfl⟩,λh=>aI.ext' h.1 h.2.1 h.2.2⟩;simp only[e]
 by_cases h1:a.null=b.null<;>by_cases h2:a.n=b.n<;>by_cases h3:a.s=b.s<;>simp[h1,h2,h3]
theorem eqType {d:Nat} (a b:dJ) (w:Wd):(Op.equalIn (d+2) 50 (.agg (bD a).toArray) (.agg (bD b).toArray)).run Tryz.prog w=.ok (decide (a=b)) w:=by
 rw[run_equalIn_agg w (d+1) _ _ _ kR kR];simp only[Program.fieldsOf,Tryz.underlying50];rw[Le rfl aml rfl rfl (Pm a.kind b.kind kR),Le rfl aoj rfl rfl (ahO a.null b.null kR),ahN];have e:(a=b)=(a.kind=b.kind/\a.null=b.null):=propext ⟨λh=>by subst h;exact⟨rfl,rfl⟩,λh=>dJ.ext' h.1 h.2⟩;simp only[e]
 by_cases h1:a.kind=b.kind<;>by_cases h2:a.null=b.null<;>simp[h1,h2]
theorem amq {d:Nat} (a b:bJ) (w:Wd):(Op.equalIn (d+2) 92 (.agg (aD a).toArray) (.agg (aD b).toArray)).run Tryz.prog w=.ok (decide (a=b)) w:=by
 rw[run_equalIn_agg w (d+1) _ _ _ kR kR];simp only[Program.fieldsOf,Tryz.underlying92];rw[Le rfl aml rfl rfl (Pm a.kind b.kind kR),Le rfl aoi rfl rfl (Pm a.n b.n kR),Le rfl amm rfl rfl (abm a.s b.s kR),ahN];have e:(a=b)=(a.kind=b.kind/\a.n=b.n/\a.s=b.s):=propext ⟨λh=>by subst h;exact⟨rfl,rfl,rfl⟩,λh=>bJ.ext' h.1 h.2.1 h.2.2⟩;simp only[e]
 by_cases h1:a.kind=b.kind<;>by_cases h2:a.n=b.n<;>by_cases h3:a.s=b.s<;>simp[h1,h2,h3]
theorem aot {d:Nat} (a b:bL) (w:Wd):(Op.equalIn (d+3) 54 (.agg (aR a).toArray) (.agg (aR b).toArray)).run Tryz.prog w=.ok (decide (a=b)) w:=by
 rw[run_equalIn_agg w (d+2) _ _ _ kR kR];simp only[Program.fieldsOf,Tryz.underlying54];rw[Le rfl aml rfl rfl (Pm a.id b.id kR),Le rfl amm rfl rfl (abm a.name b.name kR),aos (k:=2) rfl aok rfl rfl (eqType a.type b.type w),aos (k:=3) rfl aol rfl rfl (ahP a.dflt b.dflt w),ahN];have e:(a=b)=(a.id=b.id/\a.name=b.name/\a.type=b.type/\a.dflt=b.dflt):=propext ⟨λh=>by subst h;exact⟨rfl,rfl,rfl,rfl⟩,λh=>bL.ext' h.1 h.2.1 h.2.2.1 h.2.2.2⟩;simp only[e]
 by_cases h1:a.id=b.id<;>by_cases h2:a.name=b.name<;>by_cases h3:a.type=b.type<;>by_cases h4:a.dflt=b.dflt<;>simp[h1,h2,h3,h4]
instance:EqData Tryz.prog 52 aI aj:=⟨λa b w=>ahP (d:=9998) a b w,kR⟩
instance:EqData Tryz.prog 50 dJ bD:=⟨λa b w=>eqType (d:=9998) a b w,kR⟩
instance:EqData Tryz.prog 92 bJ aD:=⟨λa b w=>amq (d:=9998) a b w,kR⟩
instance:EqData Tryz.prog 54 bL aR:=⟨λa b w=>aot (d:=9997) a b w,kR⟩
end Go.Proofs.YtkfpleidaoaonaaGreatDoor
namespace Go.Mw
open Go.RowKit
section rules
variable {P:Program} {r:Option Nat} {n:Nat} {ops:AO} {Q:Post} {rest:LO} {σ:St} {w w' w0:Wd} {S:NP} {rs:List HP} {put:HP->List HP} {ty:Td} {pos:String} {after:Array Edge} {guard:Option (Nat×Bool)} {lv:List Bool} {pd pd':LNB}
theorem iA {d b k:Nat} {x:Od} {T:Td} [Agg P T k] {cs:LV} {E:Td} (H:Sep w0 S rs w) (hx:evF σ x=.pointer (some ⟨b,0,none⟩):=by exact rfl)
    (hat:At rs (blk b cs E) put:=by exact aT) (hk:cs.length=k:=by exact rfl) (hd:Nat.blt d n=true:=by exact rfl) (h:FL P r n ops Q rest (upd σ d (.agg cs.toArray)) w):
    FL P r n ops Q (⟨some d,.load T x,ty,pos,after,none⟩::rest) σ w:=
  yx H hx hat (us:=cs) (by rw[zdg,<-hk,zbl]) hk hd h
theorem nC (gT:fT n ops=true) (i:Nat) {d b k:Nat} {x:Od} {T:Td} [Agg P T k] {cs:LV} {E:Td} (H:Sep w0 S rs w) (ho:ops[i]? =some ⟨some d,.load T x,ty,pos,after,guard⟩:=by exact rfl)
    (hw:Region.wanted ⟨some d,.load T x,ty,pos,after,guard⟩ (eD ops σ)=true:=by kernel_rfl) (hx:evF σ x=.pointer (some ⟨b,0,none⟩):=by exact rfl)
    (hat:At rs (blk b cs E) put:=by exact aT) (hk:cs.length=k:=by exact rfl) (fq:nO ops lv (pd.map (·.1)) i=true:=by kernel_rfl)
    (h:FG P r n ops Q (lv.set i true) ((i,false)::pd) (upd σ d (.agg cs.toArray)) w):FG P r n ops Q lv pd σ w:=
  akb gT i H ho hw hx hat (us:=cs) (by rw[zdg,<-hk,zbl]) hk fq h
theorem au {b k:Nat} {x y:Od} {T:Td} [Agg P T k] {cs us:LV} {E:Td} (H:Sep w0 S rs w) (hx:evF σ x=.pointer (some ⟨b,0,none⟩):=by exact rfl) (hy:evF σ y=.agg us.toArray:=by exact rfl)
    (hat:At rs (blk b cs E) put:=by exact aT) (hk:us.length=k:=by exact rfl) (hl:cs.length=k:=by exact rfl) (hv:us.all Value.oneCell'=true:=by exact rfl)
    (h: ∀w',Sep w0 S (put (blk b us E)) w'->FL P r n ops Q rest σ w'):
    FL P r n ops Q (⟨none,.store T x y,ty,pos,after,none⟩::rest) σ w:=
  RX H hx hy hk (λu hu=>zaz.1 hv u hu) hat oM (by rw[zdo,zbr,zca oM,zci]) h
theorem QX {ρ:Od->Value} {b k:Nat} {x y:Od} {T:Td} [h1:Agg P T k] {cs us:LV} {E:Td} (H:Sep w0 S rs w) (hx:ρ x=.pointer (some ⟨b,0,none⟩)) (hy:ρ y=.agg us.toArray)
    (hat:At rs (blk b cs E) put) (hk:us.length=k) (hl:cs.length=k) (hv:us.all Value.oneCell'=true): ∃w',Qy P ρ (.store T x y) ty w w'/\Sep w0 S (put (blk b us E)) w':=by
  have hb:=H.obj hat;have gQ:=run_storeCells_at P b 0 E us 0 cs.toArray w hb (by simp;omega) (λu hu=>zaz.1 hv u hu);have hs:cs.take 0++us++cs.drop (0+us.length)=us:=by rw[zdo,zbr,zca oM,zci]
  refine⟨w.setRow b (cs.take 0++us++cs.drop (0+us.length)).toArray,λ_ _ _ _=>?_,?_⟩
  . simp only[zfj]at gQ
    simp[execOp,hx,hy,Instr.storeAt,Instr.sureAddr,storeVar,h1.size,Value.cells,hk];simp[hk]at gQ;rw[gQ];simp
  rw[hs];refine H.setObj hat ⟨rfl,rfl,rfl,sM,λj hj hS=>?_⟩ ?_
  . simp only[World.setRow,zdb];rw[zab (λe=>hS e.symm)]
  simp only[World.setRow,zdb,if_true,hb,zdf]
theorem eH (gT:fT n ops=true) (e:Nat) (pd':LNB) {b k:Nat} {x y:Od} {T:Td} [Agg P T k] {cs us:LV} {E:Td} (H:Sep w0 S rs w) (ho:ops[e]? =some ⟨none,.store T x y,ty,pos,after,guard⟩:=by exact rfl)
    (hw:Region.wanted ⟨none,.store T x y,ty,pos,after,guard⟩ (eD ops σ)=true:=by kernel_rfl) (hx:evF σ x=.pointer (some ⟨b,0,none⟩):=by exact rfl) (hy:evF σ y=.agg us.toArray:=by exact rfl)
    (hat:At rs (blk b cs E) put:=by exact aT) (hk:us.length=k:=by exact rfl) (hl:cs.length=k:=by exact rfl) (hv:us.all Value.oneCell'=true:=by exact rfl)
    (fq:gY ops lv (pd.map (·.1)) e=true:=by kernel_rfl) (rC:pd.filter (λp=> !((above ops e).contains p.1))=pd':=by exact pD)
    (h: ∀w',Sep w0 S (put (blk b us E)) w'->mI P ops σ w' pd'/\FG P r n ops Q (lv.set e true) pd' σ w'):FG P r n ops Q lv pd σ w:=
  XW gT e pd' ho hw (QX H hx hy hat hk hl hv) fq rC h
end rules
end Go.Mw
namespace Go.Proofs.YtkfpleidaoaonaaGreatDoor
open Go Go.Mw Go.Lib
set_option maxRecDepth 4000
attribute [local irreducible] FW FL FG FGn gu gy dh gH Qfn Gives
section
variable {w:Wd}
end
theorem YC: ∀{a b:L8},compareBytes a b=0->a=b
 | [],[],_=>rfl
 | [],_::_,h=>by cases h
 | _::_,[],h=>by cases h
 | a::x1,b::y1,h=>by
  rw[compareBytes]at h
  by_cases h1:a<b
  .rw[zac h1]at h;cases h
  by_cases h2:b<a
  .rw[zab h1,zac h2]at h;cases h
  rw[zab h1,zab h2]at h;rw[YC h,UInt8.le_antisymm (UInt8.not_lt.1 h2) (UInt8.not_lt.1 h1)]
theorem TJ: ∀a b:L8,compareBytes a b= -1\/compareBytes a b=0\/compareBytes a b=1
 | [],[]=>.inr (.inl rfl)
 | [],_::_=>.inl rfl
 | _::_,[]=>.inr (.inr rfl)
 | a::x1,b::y1=>by
  rw[compareBytes]
  by_cases h1:a<b
  .rw[zac h1];exact .inl rfl
  by_cases h2:b<a
  .rw[zab h1,zac h2];exact .inr (.inr rfl)
  rw[zab h1,zab h2];exact TJ x1 y1
theorem YD: ∀a:L8,compareBytes a a=0
 | []=>rfl
 | a::x1=>by rw[compareBytes,zab (UInt8.lt_irrefl a),zab (UInt8.lt_irrefl a),YD x1]
attribute [local irreducible] qK
section
variable {w:Wd}
end
end Go.Proofs.YtkfpleidaoaonaaGreatDoor
namespace Go.Proofs.YtkfpleidaoaonaaGreatDoor
open Go Go.Mw Go.Lib
set_option maxRecDepth 4000
end Go.Proofs.YtkfpleidaoaonaaGreatDoor
namespace Go.Mw
section gives
variable {P:Program} {ρ:Od->Value} {ty:Td} {w:Wd} {x y:Od} {T U:Td} {k:IntKind} {a b c:Int}
theorem Gives.ahQ (hx:ρ x=.int k a) (hy:ρ y=.int k b) (he:k.wrap (a+b)=c):Gives P ρ (.binOp .add T x y U) ty w (.int k c) w:=by subst he;exact Gives.add hx hy
theorem Gives.amr (hx:ρ x=.int k a) (hy:ρ y=.int k b) (he:k.wrap (a-b)=c):Gives P ρ (.binOp .sub T x y U) ty w (.int k c) w:=by subst he;exact Gives.sub hx hy
theorem Gives.aqH (hx:ρ x=.int k a) (hy:ρ y=.int k b) (he:k.wrap (a*b)=c):Gives P ρ (.binOp .mul T x y U) ty w (.int k c) w:=by subst he;exact Gives.mul hx hy
theorem Gives.aqI (hx:ρ x=.int k a) (hy:ρ y=.int k b) (h0:b≠0) (he:k.wrap (a.tdiv b)=c):Gives P ρ (.binOp .quo T x y U) ty w (.int k c) w:=by subst he;exact Gives.quo hx hy h0
theorem Gives.aou (hx:ρ x=.int k a) (he:k.wrap (0-a)=c):Gives P ρ (.unOp .neg T x) ty w (.int k c) w:=by subst he;exact Gives.neg hx
theorem Gives.sV {s t:Td} {j:IntKind} [hs:lF P s j] [ht:lF P t k] (hx:ρ x=.int j a) (he:k.wrap a=c):Gives P ρ (.convert s t x) ty w (.int k c) w:=by subst he;exact Gives.conv hx
end gives
end Go.Mw
namespace Go.Proofs.YtkfpleidaoaonaaGreatDoor
open Go Go.Mw Go.Lib
def vV:L8:=[48,49,50,51,52,53,54,55,56,57,97,98,99,100,101,102]
theorem TK {d:Nat} (h:d<16):(vV.take (d+1)).drop d=[pK d]:=by
 have key: ∀i:Fin 16,(vV.take (i.val+1)).drop i.val=[pK i.val]:=dC;exact key ⟨d,h⟩
theorem aeU {l:L8} {i:Nat} (h:i<l.length):AX (l.take (i+1))=AX (l.take i)++[pK ((l.getD i 0).toNat/16),pK ((l.getD i 0).toNat%16)]:=by
 unfold AX;rw[zav,zaa h,zcd];simp[zau,zaa h]
theorem ME (l:L8):(AX l).length=2*l.length:=by
 induction l with
 | nil=>rfl
 | cons c l ih=>unfold AX at *;rw[zbg,zad,ih];simp;omega
section
variable {w:Wd}
end
end Go.Proofs.YtkfpleidaoaonaaGreatDoor
namespace Go.Proofs.YtkfpleidaoaonaaGreatDoor
open Go Go.Mw Go.Lib
set_option maxRecDepth 4000
section
variable {w:Wd}
end
section
variable {w:Wd}
end
section
variable {w:Wd}
end
end Go.Proofs.YtkfpleidaoaonaaGreatDoor
namespace Go.Mw
open Go.RowKit
def adr (A:OA) (o:Nat):Value:=.pointer (A.map (·.add o))
class lY {α:Type} (enc:α->LV) (k:outParam Nat):Prop where
 len: ∀x,(enc x).length=k
def Rd {α:Type} (w:Wd) (A:OA) (enc:α->LV) (k:Nat) (l:List α):Prop:=jB w A l.length k (l.flatMap enc)
section
variable {α:Type} {enc:α->LV} {k:Nat} {l:List α} {A:OA} {w w' w0:Wd}
theorem flat_get (hk: ∀x,(enc x).length=k): ∀{l:List α} {i j:Nat} {c:α},l[i]? =some c->j<k->(l.flatMap enc)[i*k+j]? =(enc c)[j]?
 | [],_,_,_,h,_=>by simp at h
 | a::l,0,j,c,h,hj=>by
  simp only[zbp,Option.some.injEq]at h;subst h;rw[zbg,Nat.zero_mul,zds,zce (by rw[hk];exact hj)]
 | a::l,i+1,j,c,h,hj=>by
  simp only[zby]at h;rw[zbg,zcb (by rw[hk,zea];omega),hk,zea];rw[show i*k+k+j-k=i*k+j from oM];exact flat_get hk h hj
theorem mJ (hk: ∀x,(enc x).length=k): ∀l:List α,(l.flatMap enc).length=l.length*k
 | []=>sM
 | a::l=>by rw[zbg,zad,hk,mJ hk l,zal,zea];omega
theorem Rd.keep (h:Rd w A enc k l) (hk:Kept noB w w'):Rd w' A enc k l:=jB.keep h hk
theorem Rd.addr (h:Rd w A enc k l) (hn:0<l.length): ∃ad,A=some ad:=by
 obtain⟨ad,h1,_⟩:=h.at_ hn;exact⟨ad,h1⟩
theorem jk {i:Nat} {c:α} (h:l[i]? =some c):i<l.length:=(zbd.1 h).1
theorem Rd.cell [hk:lY enc k] {i f:Nat} {c:α} {v:Value} (h:Rd w A enc k l) (hg:l[i]? =some c) (hv:(enc c)[f]? =some v): ∃ad,A=some ad/\w.cell? (ad.add (i*k+f))=some v:=by
 have hl:=jk hg;obtain⟨ad,h1,h2⟩:=h.at_ oM;refine⟨ad,h1,h2 _ _ ?_⟩;rw[flat_get hk.len hg (by rw[<-hk.len c];exact jk hv)];exact hv
end
section
variable {P:Program} {ρ:Od->Value} {ty:Td} {w w0:Wd} {x y:Od} {α:Type} {enc:α->LV} {k:Nat} {l:List α} {A:OA} {rs:List HP}
theorem Gives.mK {t e:Td} [ht:dD P t e] {bytes:Nat} [hc:Cells P e k bytes] {c i:Nat} {j:IntKind} (hx:ρ x=.slice A l.length c) (hy:ρ y=.int j i) (hr:Rd w0 A enc k l) (bX:i<l.length):Gives P ρ (.indexAddr t x y) ty w (adr A (i*k)) w:=by
 obtain⟨ad,rfl⟩:=hr.addr oM;exact Gives.idx hx hy bX
theorem Gives.p8 {s f g o:Nat} [h:cK P s f g] (hx:ρ x=adr A o) (hr:Rd w0 A enc k l) (bX:0<l.length):Gives P ρ (.fieldAddr s x f) ty w (adr A (o+g)) w:=by
 obtain⟨ad,rfl⟩:=hr.addr bX;exact Gives.DN hx
theorem Gives.iJ [hk:lY enc k] {i f:Nat} {c:α} {v:Value} {T:Td} [OneCell P T] (hx:ρ x=adr A (i*k+f)) (H:Sep w0 noB rs w) (hr:Rd w0 A enc k l) (hg:l[i]? =some c) (hv:(enc c)[f]? =some v):Gives P ρ (.load T x) ty w v w:=by
 obtain⟨ad,rfl,h2⟩:=(hr.keep H.kept).cell hg hv;exact Gives.ale hx h2
theorem Gives.Lg [hk:lY enc k] {i:Nat} {c:α} {v:Value} {T:Td} [OneCell P T] (hx:ρ x=adr A (i*k)) (H:Sep w0 noB rs w) (hr:Rd w0 A enc k l) (hg:l[i]? =some c) (hv:(enc c)[0]? =some v):Gives P ρ (.load T x) ty w v w:=
 Gives.iJ (f:=0) hx H hr hg hv
theorem Gives.VP [hk:lY enc k] {i f n:Nat} {c:α} {us:LV} {T:Td} [Agg P T n] (hx:ρ x=adr A (i*k+f)) (H:Sep w0 noB rs w) (hr:Rd w0 A enc k l) (hg:l[i]? =some c) (hu:((enc c).drop f).take n=us) (hn:us.length=n):Gives P ρ (.load T x) ty w (.agg us.toArray) w:=by
 obtain⟨ad,h1⟩:=hr.addr (by have:=jk hg;omega);subst h1;refine Gives.amn (a:=ad.add (i*k+f)) hx (λj u hj=>?_) hn
 have hv:(enc c)[f+j]? =some u:=by
  rw[<-hu,zcn]at hj
  split at hj
  .rw[zct]at hj;exact hj
  cases hj
 obtain⟨ad',h1,h2⟩:=(hr.keep H.kept).cell hg hv;injection h1 with h1
 subst h1;rw[add_add,Nat.add_assoc];exact h2
theorem Gives.jQ [hk:lY enc k] {i:Nat} {c:α} {T:Td} [Agg P T k] (hx:ρ x=adr A (i*k)) (H:Sep w0 noB rs w) (hr:Rd w0 A enc k l) (hg:l[i]? =some c):Gives P ρ (.load T x) ty w (.agg (enc c).toArray) w:=
 Gives.VP (f:=0) hx H hr hg (by rw[zdg,<-hk.len c,zbl]) (hk.len c)
end
section
variable {P:Program} {w w0:Wd} {S:NP} {rs:List HP} {put:HP->List HP} {σ:St} {R:Value->Wd->Prop} {us:LV} {a b k E:Nat} {T:Td}
theorem jg [Agg P T k] (H:Sep w0 S rs w) (hx:σ a=.pointer (some ⟨b,0,none⟩):=by exact rfl) (hat:At rs (blk b us E) put:=by exact aT) (hk:us.length=k:=by exact rfl):
    uR P σ w [.cell a T] [.agg us.toArray]:=
  ⟨_,_,_,rfl,hx,tV (k:=k) (H.obj hat) (us:=us) (by rw[zdg,<-hk,zbl]) hk,rfl⟩
theorem jh [Agg P T k] {t:Nat} {v:Value} (H:Sep w0 S rs w) (hx:σ a=.pointer (some ⟨b,0,none⟩):=by exact rfl) (hat:At rs (blk b us E) put:=by exact aT) (hk:us.length=k:=by exact rfl) (hv:σ t=v:=by exact rfl):
    uR P σ w [.cell a T,.tmp t] [.agg us.toArray,v]:=
  ⟨_,_,_,rfl,hx,tV (k:=k) (H.obj hat) (us:=us) (by rw[zdg,<-hk,zbl]) hk,_,by subst hv;rfl,rfl⟩
end
end Go.Mw
namespace Go.Proofs.YtkfpleidaoaonaaGreatDoor
open Go Go.Mw
instance:lY bD 2:=⟨λ_=>rfl⟩
instance:lY aj 3:=⟨λ_=>rfl⟩
instance:lY aD 3:=⟨λ_=>rfl⟩
instance:lY aR 7:=⟨λ_=>rfl⟩
def aM {α:Type} (w:Wd) (v:Value) (enc:α->LV) (k:Nat) (l:List α):Prop:=∃A c,v=.slice A l.length c/\(l.length<=c/\c<=9223372036854775807)/\Rd w A enc k l
theorem aM.keep {α:Type} {w w':Wd} {v:Value} {enc:α->LV} {k:Nat} {l:List α} (h:aM w v enc k l) (hk:Kept noB w w'):aM w' v enc k l:=by
 obtain⟨A,c,h1,h2,h3⟩:=h;exact⟨A,c,h1,h2,h3.keep hk⟩
end Go.Proofs.YtkfpleidaoaonaaGreatDoor
namespace Go.Proofs.YtkfpleidaoaonaaGreatDoor
open Go Go.Mw Go.Lib
set_option maxRecDepth 4000
attribute [local irreducible] FW FL FG FGn gu gy dh gH Qfn Gives
def vW (cols:List bL) (r:List aI) (i:Nat):Int:=((((cols.zip r).drop i).map λp=>gN p.1.type p.2).find? (λe=>decide (e≠0))).getD 0
theorem MF {cols:List bL} {r:List aI} (h:cols.length=r.length):gD cols r=vW cols r 0:=by
 unfold gD vW;rw[zab oM,zdg]
theorem Pn {cols:List bL} {r:List aI} {i:Nat} (h:r.length<=i):vW cols r i=0:=by
 unfold vW;rw[zca (by rw[List.length_zip];omega)];rfl
theorem DY {cols:List bL} {r:List aI} {i:Nat} {a:bL} {c:aI} (ha:cols[i]? =some a) (hc:r[i]? =some c):vW cols r i=if gN a.type c≠0 then gN a.type c else vW cols r (i+1):=by
 have hz:(cols.zip r)[i]? =some (a,c):=by rw[List.getElem?_zip_eq_some];exact⟨ha,hc⟩
 have hl:=jk hz;unfold vW;rw[zbq hl];have he:(cols.zip r)[i]=(a,c):=by rw[zaa hl]at hz;injection hz
 rw[he,zax,zcj]
 by_cases h:gN a.type c=0<;>simp[h]
theorem get_some {α:Type} {l:List α} {i:Nat} (h:i<l.length): ∃c,l[i]? =some c:=⟨l[i],zaa h⟩
attribute [local irreducible] gN
section
variable {w:Wd}
end
end Go.Proofs.YtkfpleidaoaonaaGreatDoor
namespace Go.Proofs.YtkfpleidaoaonaaGreatDoor
open Go Go.Mw Go.Lib
set_option maxRecDepth 4000
attribute [local irreducible] FW FL FG FGn gu gy dh gH Qfn Gives
def rG (kind:Int):Nat:=if 1<=kind/\kind<=6 then 0 else if kind=10\/kind=15\/kind=16\/kind=18 then 1 else 2
theorem ES {x:bJ} (h:jM x=true):rG x.kind=eY x.kind:=by
 have hk:1<=x.kind:=by
  unfold jM at h
  repeat' split at h
  all_goals first | omega | (have:=zba h;omega)
 unfold rG eY
 by_cases h7:x.kind<7
 .rw[zac oM,zac h7]
 rw[zab oM,zab h7]
section
variable {w:Wd}
end
theorem VQ {cols:List bL} {n:Int} {i:Nat} (h:oC cols n=some i):i<cols.length:=by
 unfold oC at h;rw[zdc]at h;exact h.1
section
variable {w:Wd}
end
attribute [local irreducible] qK
section
variable {w:Wd}
end
end Go.Proofs.YtkfpleidaoaonaaGreatDoor
namespace Go.Proofs.YtkfpleidaoaonaaGreatDoor
open Go Go.Mw Go.Lib
set_option maxRecDepth 4000
attribute [local irreducible] FW FL FG FGn gu gy dh gH Qfn Gives
section
variable {w:Wd}
end
end Go.Proofs.YtkfpleidaoaonaaGreatDoor
namespace Go.Mw
open Go.RowKit
section
variable {P:Program} {r:Option Nat} {n:Nat} {ops:AO} {Q:Post} {lv:List Bool} {pd:LNB} {σ:St} {w:Wd}
def rR (ops:AO) (lv:List Bool) (ids:List Nat) (e:Nat):Bool:=
 (yB ops lv).contains e&&
 ids.all λk=>(pI ops e).contains k||((match lU ops e with | some d=>lU ops k !=some d&& !(looks ops k).contains d | none=>true)&&
  (match lU ops k with | some d=> !(looks ops e).contains d | none=>true))
def tZ (P:Program) (r:Option Nat) (n:Nat) (ops:AO) (Q:Post) (lv:List Bool) (pd:LNB) (σ:St) (w:Wd) (e:Nat):Prop:=
 ∀sub lr a,Real P n ops lv pd σ w sub lr a->(∀k∈pI ops e,lr.getD k false=true)->wpOpIn (fen r) 0 P ops (lift n Q) e (wpAnyIn (fen r) 0 P .any ops (lift n Q) (left ops (lr.setIfInBounds e true)) (lr.setIfInBounds e true)) a w
theorem jK (gT:fT n ops=true) {e1 e2:Nat} (hre:(yB ops lv==[e1,e2])=true) (h1:tZ P r n ops Q lv pd σ w e1) (h2:tZ P r n ops Q lv pd σ w e2):FG P r n ops Q lv pd σ w:=by
 have am7:yB ops lv=[e1,e2]:=by simpa using hre
 refine Vd gT (λh0=>by rw[h0]at am7;cases am7) λe he sub lr a hr mF=>?_;rw[am7]at he
 rcases zap.1 he with rfl | he
 .exact h1 sub lr a hr mF
 rw[zay]at he;subst he;exact h2 sub lr a hr mF
theorem Po (gT:fT n ops=true) {e':Nat} {o:Oper} (ho:ops[e']? =some o) (fq:rR ops lv (pd.map (·.1)) e'=true) (hw:Region.wanted o (eD ops σ)=true) (pd':LNB) (rC:pd.filter (λp=> !((above ops e').contains p.1))=pd')
    (h:OD P σ w o λσ' w'=>mI P ops σ' w' pd'/\FG P r n ops Q (lv.set e' true) pd' σ' w'):tZ P r n ops Q lv pd σ w e':=by
  unfold rR at fq;simp only[zbv,zaz]at fq;obtain⟨asO,aiT⟩:=fq;have hmr:e'∈yB ops lv:=zcm.1 asO;intro sub lr a hr mF;have bX:=(zcz.1 ho).1;have Qo:=Au ho;obtain⟨hod,abW⟩:=u7 gT ho;have hrd:=BJ.1 hmr;have h0':=Dq hrd.1;obtain⟨σr,Jc,ZL,hσ⟩:=hr.rep;have hnp: ∀p∈sub,p.1∉pI ops e':=λp hp hm=>by have:=mF _ hm;rw[hr.Ez hp]at this;cases this
  have Bj: ∀p∈sub,(∀d,o.dst=some d->lU ops p.1≠some d/\d∉looks ops p.1)/\∀d,lU ops p.1=some d->d∉looks ops e':=λp hp=>by
    have:=aiT p.1 (zaq.2 ⟨p,hr.mem p hp,rfl⟩);rw[Bool.or_eq_true]at this
    rcases this with h1 | h1
    . exact zat (zcm.1 h1) (hnp p hp)
    rw[zbv,Qo]at h1;refine⟨λd hd=>?_,λd hd=>?_⟩
    . have h2:=h1.1
      rw[hd]at h2;simpa using h2
    have h2:=h1.2;rw[hd]at h2;simpa using h2
  have Gf: ∀x∈looks ops e',σr x=σ x:=λx hx=>hσ x λp hp hd=>(Bj p hp).2 x hd hx
  have Qr: ∀(v:Value) (w':Wd) (a':Act),Rep n (uV σr o.dst v) a'->mI P ops (uV σ o.dst v) w' pd'->Real P n ops (lv.set e' true) pd' (uV σ o.dst v) w' sub (lr.setIfInBounds e' true) a':=by
    intro v w' a' ha' gQ
    have vO: ∀p∈sub,p∈pd':=λp hp=>by
      rw[<-rC,zbw];refine⟨hr.mem p hp,?_⟩;cases hc:(above ops e').contains p.1
      . rfl
      have:=JG hr mF p.1 (zcm.1 hc);rw[hr.Ez hp]at this;cases this
    refine⟨vO,hr.nd,hr.pw,λp hp k hk=>⟨uO (hr.pr p hp k hk).1,(hr.pr p hp k hk).2⟩,λp hp=>uO (hr.lvl p hp),λk hk=>?_,by simpa using hr.sz,by simpa using hr.lsz,λk hk j hj=>?_,⟨_,ha',by simpa[Ji]using ZL,λx hx=>?_⟩,
      λp hp=>?_,hr.own,hr.apart⟩
    . by_cases nu:e'=k
      . subst nu
        have h1:(lr.setIfInBounds e' true).getD e' true=true:=by
          simp[zbm,zbz]
          split<;>rfl
        rw[h1,yC _ (by rw[hr.lsz];exact bX)];cases hc:(sub.map (·.1)).contains e'
        . rfl
        obtain⟨p,hp,e1⟩:=zaq.1 (zcm.1 hc);have:=hr.lvl p hp;rw[e1,h0']at this;cases this
      rw[getD_set_ne true nu,BL nu,hr.lrv k hk]
    . by_cases nu:e'=k
      . subst nu;exact getD_set_true (mF j hj)
      rw[getD_set_ne false nu]at hk;exact getD_set_true (hr.cl k hk j hj)
    . by_cases hd:o.dst=some x
      . rw[hd];show upd σr x v x=upd σ x v x;rw[upd_same,upd_same]
      rw[jU hd,jU hd];exact hσ x hx
    cases hf:p.2 with
    | false=>
      obtain⟨o',v',MO,Kh,hy'⟩:=gQ.get p (vO p hp) hf;refine⟨o',v',MO,Kh,λw'' hw''=>?_⟩
      rcases hw'' with hw'' | hw''
      . cases hw''
      rw[hw''];exact hy'
    | true=>
      obtain⟨o',v',MO,Kh,hy'⟩:=hr.yl p hp;refine⟨o',v',MO,λd hd=>?_,λw'' _=>(hy' w'' (.inl hf)).congr MO (u7 gT MO).2 λx hx=>(jU λe1=>((Bj p hp).1 x e1).2 hx).symm⟩;rw[jU (λe1=>((Bj p hp).1 d e1).1 (by rw[Au MO,hd]))];exact Kh d hd
  unfold wpOpIn;simp only[ho]
  have hww:Region.wanted o (yielded ops a.tmps)=true:=by
    rw[Jc.yielded ops (KR gT),xC ho Gf];exact hw
  rw[zac hww];refine⟨λ_ _=>trivial,?_⟩;unfold OD at h
  have amW:(o.semAt (fen r).round a.eval)=execOp (evF σ) o:=by
    rw[Oper.semAt_eq _ _ _ λc hc=>?_,Jc.eval,BK ho abW Gf]
    have iF: ∀x w',(execOp (evF σ) o).run P w=.ok x w'->∃d,x=.defer d:=λx w' hx=>by
      unfold execOp at hx;rw[hc]at hx;simp only[zbk]at hx;cases hr:(resolve (evF σ) c o.type).run P w<;>rw[hr]at hx<;>simp[Result.andThen]at hx
      exact⟨_,hx.1.symm⟩
    cases hx:(execOp (evF σ) o).run P w with
    | halt x w'=>rw[hx]at h;exact h
    | ok x w'=>
      obtain⟨d,rfl⟩:=iF x w' hx;rw[hx]at h;exact h
  rw[amW]
  generalize (execOp (evF σ) o).run P w=res at h |-
  cases res with
  | halt x w'=>exact h.elim
  | ok nx w'=>
    cases nx with
    | value v=>exact h.2 _ _ _ (Qr v w' _ (Jc.Qx hod v) h.1)
    | skip=>exact h.2 _ _ _ (Qr undef w' _ (Jc.Qx hod undef) h.1)
    | enter f args=>
      refine⟨(λh=>by cases h),uJ r (Calls.mono h λen w'' G7=>?_)⟩;cases en with
      | returned v=>exact G7.2 _ _ _ (Qr v w'' _ (Jc.Qx hod v) G7.1)
      | _=>exact G7.elim
    | _=>exact h.elim

theorem aeV (gT:fT n ops=true) (e:Nat) (pd':LNB) {dst:Option Nat} {f:FuncId} {xs:List Od} {ats:Array Td} {vals:LV} {R:Value->Wd->Prop} {ty:Td} {pos:String} {after:Array Edge} {guard:Option (Nat×Bool)} [he:bC P f]
    (ho:ops[e]? =some ⟨dst,.call {callee:=.value (.func f),args:=xs.toArray,argTypes:=ats},ty,pos,after,guard⟩)
    (hw:Region.wanted ⟨dst,.call {callee:=.value (.func f),args:=xs.toArray,argTypes:=ats},ty,pos,after,guard⟩ (eD ops σ)=true) (hc:aN P f vals w R) (hv:xs.map (evF σ)=vals) (fq:rR ops lv (pd.map (·.1)) e=true)
    (rC:pd.filter (λp=> !((above ops e).contains p.1))=pd') (h: ∀v w',R v w'->mI P ops (uV σ dst v) w' pd'/\FG P r n ops Q (lv.set e true) pd' (uV σ dst v) w'):tZ P r n ops Q lv pd σ w e:=by
  refine Po gT ho fq hw pd' rC ?_;unfold OD;have e1:execOp (evF σ) ⟨dst,.call {callee:=.value (.func f),args:=xs.toArray,argTypes:=ats},ty,pos,after,guard⟩=callFunc f (#[]++xs.toArray.map (evF σ)++ #[]):=rfl;have e2:(#[]++xs.toArray.map (evF σ)++ #[]:Array Value)=vals.toArray:=by simp[hv]
  rw[e1,he.run,e2];refine Calls.mono hc λen w'' hr=>?_;cases en with
  | returned v=>exact h v w'' hr
  | _=>exact hr.elim
theorem JX (gT:fT n ops=true) (e:Nat) (pd':LNB) {d:Nat} {op:Op} {ty:Td} {pos:String} {after:Array Edge} {guard:Option (Nat×Bool)} {C:Value->Wd->Prop} (ho:ops[e]? =some ⟨some d,op,ty,pos,after,guard⟩)
    (hw:Region.wanted ⟨some d,op,ty,pos,after,guard⟩ (eD ops σ)=true) (hg: ∃v w',Gives P (evF σ) op ty w v w'/\C v w') (fq:rR ops lv (pd.map (·.1)) e=true)
    (rC:pd.filter (λp=> !((above ops e).contains p.1))=pd') (h: ∀v w',C v w'->mI P ops (upd σ d v) w' pd'/\FG P r n ops Q (lv.set e true) pd' (upd σ d v) w'):tZ P r n ops Q lv pd σ w e:=by
  obtain⟨v,w',hg,hC⟩:=hg;refine Po gT ho fq hw pd' rC ?_;unfold OD;rw[hg];exact h v w' hC
theorem ni {w0:Wd} {S:NP} {rs:List HP} (gT:fT n ops=true) (i:Nat) (pd':LNB) {d:Nat} {T:Td} {ty:Td} {pos:String} {after:Array Edge} {guard:Option (Nat×Bool)} {z:Value} [hz:Zero P T z] {cs:LV} (H:Sep w0 S rs w) (ho:ops[i]? =some ⟨some d,.alloc T,ty,pos,after,guard⟩:=by exact rfl)
    (hw:Region.wanted ⟨some d,.alloc T,ty,pos,after,guard⟩ (eD ops σ)=true:=by kernel_rfl) (hcs:z.cells=cs.toArray:=by exact rfl)
    (fq:rR ops lv (pd.map (·.1)) i=true:=by kernel_rfl) (rC:pd.filter (λp=> !((above ops i).contains p.1))=pd':=by exact pD)
    (h: ∀b w',Sep w0 S (blk b cs T::rs) w'->mI P ops (upd σ d (.pointer (some ⟨b,0,none⟩))) w' pd'/\FG P r n ops Q (lv.set i true) pd' (upd σ d (.pointer (some ⟨b,0,none⟩))) w'):tZ P r n ops Q lv pd σ w i:=
  JX (C:=λv w'=>∃b,v=.pointer (some ⟨b,0,none⟩)/\Sep w0 S (blk b cs T::rs) w') gT i pd' ho hw
    ⟨.pointer (some ⟨w.heap.size,0,none⟩),w.alloc (.cells cs.toArray T),λ_ _ _ _=>by simp[execOp,Instr.alloc,hz.run,newVar,newRow,hcs],_,rfl,H.alloc _⟩ fq rC
    (λv w' hv=>by obtain⟨b,rfl,hs⟩:=hv;exact h b w' hs)
end
end Go.Mw
namespace Go.Mw
open Go.RowKit
def bW {α:Type} (e k:Nat) (enc:α->LV) (v:Value) (l:List α):HP:=CJ e k v l.length (l.flatMap enc)
section
variable {α:Type} {enc:α->LV} {k e:Nat} {l news:List α} {A:OA} {w w' w0:Wd} {S:NP} {rs:List HP} {put:HP->List HP} {v:Value}
theorem Sep.lZ (H:Sep w0 S rs w) (e k:Nat) (enc:α->LV):Sep w0 S (bW e k enc (.slice none 0 0) []::rs) w:=H.ny e k
theorem Sep.eO (H:Sep w0 S rs w) (hat:At rs (bW e k enc v l) put): ∃A c,v=.slice A l.length c/\l.length<=c/\Rd w A enc k l:=by
 obtain⟨A,c,hv,qQ,_,_⟩:=Sep.zq H hat;subst hv;exact⟨A,c,rfl,qQ,Sep.rowAt H hat⟩
theorem TL (hk: ∀x,(enc x).length=k): ∀(l:List α) (m:Nat),(l.take m).flatMap enc=(l.flatMap enc).take (m*k)
 | _,0=>sM
 | [],m+1=>sM
 | a::l,m+1=>by
  rw[zde,zbg,zbg,TL hk l m,List.take_append,hk,zea,Nat.add_sub_cancel,zaf (l:=enc a) (by rw[hk];omega)]
theorem FY {P:Program} {ρ:Od->Value} {ty:Td} {x y:Od} {t b c bytes:Nat} [hs:dD P t e] [hc:Cells P e k bytes] {z:Value} [hz:Zero P e z] [hk:lY enc k]
    (H:Sep w0 S (blk b (news.flatMap enc) e::rs) w) (hx:ρ x=v) (hy:ρ y=.slice (some ⟨b,0,none⟩) c c) (hc':c=news.length) (hat:At rs (bW e k enc v l) put) (rA: ∀u∈news.flatMap enc,u.oneCell'=true)
    (Ck:0<k) (NA:z.cells.size=k) (h63:l.length+news.length<=maxLen) (hbytes:(l.length+news.length)*bytes<=140737488355328):
    ∃v' w',Gives P ρ (.call {callee:=.builtin .append,args:= #[x,y],argTypes:= #[t,t]}) ty w v' w'/\Sep w0 S (put (bW e k enc v' (l++news))) w':=by
  subst hc';have hr:jB w (some ⟨b,0,none⟩) news.length k (news.flatMap enc):=Sep.qJ H At0 (mJ hk.len news);have H2:=H.eF;obtain⟨F,hp,_,_⟩:=H2.focus hat;obtain⟨v',w',jG,qw,hg,hb⟩:=BG (P:=P) (ty:=ty) t e (z:=z) Ck NA v l.length (l.flatMap enc) hp.1 (some ⟨b,0,none⟩) news.length news.length (news.flatMap enc) hr rA h63 hbytes;refine⟨v',w',λ_ _ _ _=>?_,?_⟩
  . simp only[execOp,resolve,invoke,builtin,zbk,zbn,zas,zcl,zax,zcr,hx,hy,jG]
  refine H2.JF hat hg ?_ (by rcases hb with e | e<;>simp[e]);rw[<-zcd]at qw;rw[zad];exact qw
end
section
variable {P:Program} {r:Option Nat} {n:Nat} {ops:AO} {Q:Post} {rest:LO} {σ:St} {w w' w0:Wd} {S:NP} {rs:List HP} {put:HP->List HP} {ty:Td} {pos:String} {after:Array Edge} {guard:Option (Nat×Bool)} {lv:List Bool} {pd:LNB} {α:Type} {enc:α->LV} {k e:Nat} {l news:List α} {v:Value}
theorem gP {d:Nat} {x y:Od} {t b c bytes:Nat} [hs:dD P t e] [hc:Cells P e k bytes] {z:Value} [hz:Zero P e z] [hk:lY enc k]
    (H:Sep w0 S (blk b (news.flatMap enc) e::rs) w) (hat:At rs (bW e k enc v l) put) (h63:l.length+news.length<=maxLen) (hbytes:(l.length+news.length)*bytes<=140737488355328) (rA: ∀u∈news.flatMap enc,u.oneCell'=true)
    (hx:evF σ x=v:=by exact rfl) (hy:evF σ y=.slice (some ⟨b,0,none⟩) c c:=by exact rfl) (hc':c=news.length:=by exact rfl) (Ck:0<k:=by decide) (NA:z.cells.size=k:=by exact rfl) (hd:Nat.blt d n=true:=by exact rfl)
    (h: ∀v' w',Sep w0 S (put (bW e k enc v' (l++news))) w'->FL P r n ops Q rest (upd σ d v') w'):
    FL P r n ops Q (⟨some d,.call {callee:=.builtin .append,args:= #[x,y],argTypes:= #[t,t]},ty,pos,after,none⟩::rest) σ w:=by
  obtain⟨v',w',hg,hs'⟩:=FY (P:=P) (t:=t) (ty:=ty) H hx hy hc' hat rA Ck NA h63 hbytes;exact dU hg hd (h v' w' hs')
theorem jN (gT:fT n ops=true) (i:Nat) (pd':LNB) {d:Nat} {x y:Od} {t b c bytes:Nat} [hs:dD P t e] [hc:Cells P e k bytes] {z:Value} [hz:Zero P e z] [hk:lY enc k]
    (H:Sep w0 S (blk b (news.flatMap enc) e::rs) w) (hat:At rs (bW e k enc v l) put) (h63:l.length+news.length<=maxLen) (hbytes:(l.length+news.length)*bytes<=140737488355328) (rA: ∀u∈news.flatMap enc,u.oneCell'=true)
    (ho:ops[i]? =some ⟨some d,.call {callee:=.builtin .append,args:= #[x,y],argTypes:= #[t,t]},ty,pos,after,guard⟩:=by exact rfl)
    (hw:Region.wanted ⟨some d,.call {callee:=.builtin .append,args:= #[x,y],argTypes:= #[t,t]},ty,pos,after,guard⟩ (eD ops σ)=true:=by kernel_rfl)
    (hx:evF σ x=v:=by exact rfl) (hy:evF σ y=.slice (some ⟨b,0,none⟩) c c:=by exact rfl) (hc':c=news.length:=by exact rfl) (Ck:0<k:=by decide) (NA:z.cells.size=k:=by exact rfl)
    (fq:gY ops lv (pd.map (·.1)) i=true:=by kernel_rfl) (rC:pd.filter (λp=> !((above ops i).contains p.1))=pd':=by exact pD)
    (h: ∀v' w',Sep w0 S (put (bW e k enc v' (l++news))) w'->mI P ops (upd σ d v') w' pd'/\FG P r n ops Q (lv.set i true) pd' (upd σ d v') w'):FG P r n ops Q lv pd σ w:=
  Av gT i pd' ho hw (FY (P:=P) (t:=t) (ty:=ty) H hx hy hc' hat rA Ck NA h63 hbytes) fq rC h
theorem xE (gT:fT n ops=true) (i:Nat) (pd':LNB) {d:Nat} {T:Td} {z:Value} [hz:Zero P T z] {cs:LV} (H:Sep w0 S rs w) (ho:ops[i]? =some ⟨some d,.alloc T,ty,pos,after,guard⟩:=by exact rfl)
    (hw:Region.wanted ⟨some d,.alloc T,ty,pos,after,guard⟩ (eD ops σ)=true:=by kernel_rfl) (hcs:z.cells=cs.toArray:=by exact rfl)
    (fq:gY ops lv (pd.map (·.1)) i=true:=by kernel_rfl) (rC:pd.filter (λp=> !((above ops i).contains p.1))=pd':=by exact pD)
    (h: ∀b w',Sep w0 S (blk b cs T::rs) w'->mI P ops (upd σ d (.pointer (some ⟨b,0,none⟩))) w' pd'/\FG P r n ops Q (lv.set i true) pd' (upd σ d (.pointer (some ⟨b,0,none⟩))) w'):FG P r n ops Q lv pd σ w:=
  Av (C:=λv w'=>∃b,v=.pointer (some ⟨b,0,none⟩)/\Sep w0 S (blk b cs T::rs) w') gT i pd' ho hw
    ⟨.pointer (some ⟨w.heap.size,0,none⟩),w.alloc (.cells cs.toArray T),λ_ _ _ _=>by simp[execOp,Instr.alloc,hz.run,newVar,newRow,hcs],_,rfl,H.alloc _⟩ fq rC
    (λv w' hv=>by obtain⟨b,rfl,hs⟩:=hv;exact h b w' hs)
end
section
variable {P:Program} {ρ:Od->Value} {ty:Td} {w:Wd} {x y:Od} {α:Type} {enc:α->LV} {k:Nat} {l:List α} {A:OA}
theorem Gives.TM [hk:lY enc k] {i f:Nat} {c:α} {v:Value} {T:Td} [OneCell P T] (hx:ρ x=adr A (i*k+f)) (hr:Rd w A enc k l) (hg:l[i]? =some c) (hv:(enc c)[f]? =some v):Gives P ρ (.load T x) ty w v w:=by
 obtain⟨ad,rfl,h2⟩:=hr.cell hg hv;exact Gives.ale hx h2
theorem Gives.Lh [hk:lY enc k] {i:Nat} {c:α} {T:Td} [Agg P T k] (hx:ρ x=adr A (i*k)) (hr:Rd w A enc k l) (hg:l[i]? =some c):Gives P ρ (.load T x) ty w (.agg (enc c).toArray) w:=
 Gives.jQ (rs:=[]) hx (Sep.aL w) hr hg
end
end Go.Mw
namespace Go.Proofs.YtkfpleidaoaonaaGreatDoor
open Go Go.Mw
theorem cells_one {α:Type} {enc:α->LV} (h: ∀x,(enc x).all Value.oneCell'=true) (l:List α): ∀u∈l.flatMap enc,u.oneCell'=true:=λu hu=>by
 obtain⟨x,_,hx⟩:=zda.1 hu;exact zaz.1 (h x) u hx
end Go.Proofs.YtkfpleidaoaonaaGreatDoor
namespace Go.Mw
open Go
def vH {α β:Type} (e k:Nat) (enc:α->LV) (val:β->Value) (row:β->List α) (l:List β):HP:=lC (l.map λx=>bW e k enc (val x) (row x))
section
variable {α β:Type} {enc:α->LV} {val:β->Value} {row:β->List α} {k e:Nat} {l:List β} {x:β} {w w0:Wd} {S:NP} {rs:List HP} {put:HP->List HP}
theorem Sep.ET (h:Sep w0 S rs w) (e k:Nat) (enc:α->LV) (val:β->Value) (row:β->List α):Sep w0 S (vH e k enc val row []::rs) w:=Sep.jT trivial h
theorem Sep.AY (h:Sep w0 S (bW e k enc (val x) (row x)::vH e k enc val row l::rs) w):Sep w0 S (vH e k enc val row (l++[x])::rs) w:=by
 refine Sep.imp h.bI At0 λF hF=>?_;obtain⟨F1,F2,hF,hd,h1,h2⟩:=hF;unfold vH;rw[zam];exact Gg (l2:=[]) hF hd h1 (by rw[zci];exact h2)
end
end Go.Mw
namespace Go.Mw
open Go.RowKit
section
variable {α:Type} {enc:α->LV} {k e:Nat} {l news:List α} {A B:OA} {w w' w0:Wd} {S:NP} {rs:List HP}
theorem ahR {w:Wd} {b e s n:Nat} {v:Value} {xs:LV} (h:w.ownsRow b e s v n xs):w.ownsRow 0 e s v n xs:=by
 refine⟨h.1,?_⟩
 rcases h.2 with h2 | ⟨g,cap,cur,hv,_,r⟩
 .exact .inl h2
 exact .inr ⟨g,cap,cur,hv,zak _,r⟩
theorem Pp {w w':Wd} (h:w.grownBy w' none):Kept noB w w':=⟨h.os,h.tape,h.output,h.size,λk hk _=>h.block k hk λe=>by cases e⟩
theorem QY {P:Program} {ρ:Od->Value} {ty:Td} {x y:Od} {t c bytes:Nat} [hs:dD P t e] [hc:Cells P e k bytes] {z:Value} [hz:Zero P e z] [hk:lY enc k]
    (H:Sep w0 S rs w) (hx:ρ x=.slice A l.length l.length) (hr:Rd w A enc k l) (hy:ρ y=.slice B news.length c) (hrb:Rd w B enc k news) (rA: ∀u∈news.flatMap enc,u.oneCell'=true)
    (Ck:0<k) (NA:z.cells.size=k) (iF:0<news.length) (h63:l.length+news.length<=maxLen) (hbytes:(l.length+news.length)*bytes<=140737488355328):
    ∃v' w',Gives P ρ (.call {callee:=.builtin .append,args:= #[x,y],argTypes:= #[t,t]}) ty w v' w'/\Sep w0 S (bW e k enc v' (l++news)::rs) w'/\Kept noB w w':=by
  have fin: ∀v' w',(Builtin.append_ #[t,t] ty #[.slice A l.length l.length,.slice B news.length c]).run P w=.ok v' w'->w'.ownsRow 0 e k v' (l.length+news.length) (l.flatMap enc++news.flatMap enc)->Kept noB w w'->(∀b,v'.ownBlock=some b->w.heap.size<=b)->
      ∃v' w',Gives P ρ (.call {callee:=.builtin .append,args:= #[x,y],argTypes:= #[t,t]}) ty w v' w'/\Sep w0 S (bW e k enc v' (l++news)::rs) w'/\Kept noB w w':=by
    intro v' w' jG qw eB hb;refine⟨v',w',λ_ _ _ _=>?_,H.new (F':=λb=>v'.ownBlock=some b) eB ⟨?_,λb=>Iff.rfl⟩ hb,eB⟩
    . simp only[execOp,resolve,invoke,builtin,zbk,zbn,zas,zcl,zax,zcr,hx,hy,jG]
    show w'.ownsRow 0 e k v' (l++news).length ((l++news).flatMap enc)
    rw[zad,zcd];exact qw
  cases A with
  | none=>
    have hl:l=[]:=by
      rcases zeh l.length with h | h
      . exact zbi h
      obtain⟨ad,h1⟩:=hr.addr h;cases h1
    subst hl;obtain⟨v',w',jG,qw,hg,hb⟩:=BG (P:=P) (ty:=ty) t e Ck NA (.slice none 0 0) 0 [] (World.ownsRow_nil w 0 e k) B news.length c (news.flatMap enc) hrb rA h63 hbytes;refine fin v' w' jG qw (Pp hg) λb ZB=>?_
    rcases hb with h | h
    . rw[h]at ZB;cases ZB
    rw[h]at ZB;injection ZB with ZB;omega
  | some ad=>
    obtain⟨i,hi,uD⟩:=zbb.1 hc.size;simp only[Prod.mk.injEq]at uD
    have yT:i.zero=some z:=by
      have:=hz.run w;simp[zeroValue,typeInfo,hi]at this;cases hq:i.zero with
      | none=>simp[hq]at this
      | some u=>simp[hq]at this;rw[this]
    obtain⟨bd,hB,Ul⟩:=hrb.at_ iF;subst hB
    have hca: ∀j u,(l.flatMap enc)[j]? =some u->w.cell? (ad.add j)=some u:=by
      intro j u hu
      rcases zeh l.length with h | h
      . have hn:=zbi h
        subst hn;simp at hu
      obtain⟨ad',h1,h2⟩:=hr.at_ h;injection h1 with h1
      subst h1;exact h2 j u hu
    obtain⟨v',w',jG,qw,hg⟩:=run_append_arg_grows (P:=P) w t ty e i z k bytes hs.und hi yT uD.1 uD.2 NA Ck ad l.length l.length (l.flatMap enc) hr.len hca bd news.length c (news.flatMap enc) hrb.len Ul oM h63 hbytes;exact fin v' w' jG (ahR qw) (Pp hg) λb hb=>(qw.lt b hb).1
end
section
variable {P:Program} {r:Option Nat} {n:Nat} {ops:AO} {Q:Post} {rest:LO} {σ:St} {w w' w0:Wd} {S:NP} {rs:List HP} {put:HP->List HP} {ty:Td} {pos:String} {after:Array Edge} {guard:Option (Nat×Bool)} {lv:List Bool} {pd:LNB} {α:Type} {enc:α->LV} {k e:Nat} {l news:List α} {A B:OA}
theorem Pq {d:Nat} {x y:Od} {t c bytes:Nat} [hs:dD P t e] [hc:Cells P e k bytes] {z:Value} [hz:Zero P e z] [hk:lY enc k]
    (H:Sep w0 S rs w) (hr:Rd w A enc k l) (hrb:Rd w B enc k news) (iF:0<news.length) (h63:l.length+news.length<=maxLen) (hbytes:(l.length+news.length)*bytes<=140737488355328) (rA: ∀u∈news.flatMap enc,u.oneCell'=true)
    (hx:evF σ x=.slice A l.length l.length:=by exact rfl) (hy:evF σ y=.slice B news.length c:=by exact rfl) (Ck:0<k:=by decide) (NA:z.cells.size=k:=by exact rfl) (hd:Nat.blt d n=true:=by exact rfl)
    (h: ∀v' w',Sep w0 S (bW e k enc v' (l++news)::rs) w'->Kept noB w w'->FL P r n ops Q rest (upd σ d v') w'):
    FL P r n ops Q (⟨some d,.call {callee:=.builtin .append,args:= #[x,y],argTypes:= #[t,t]},ty,pos,after,none⟩::rest) σ w:=by
  obtain⟨v',w',hg,hs',eB⟩:=QY (P:=P) (t:=t) (ty:=ty) H hx hr hy hrb rA Ck NA iF h63 hbytes;exact dU hg hd (h v' w' hs' eB)
theorem QZ {P:Program} {ρ:Od->Value} {ty:Td} {x y:Od} {t c bytes:Nat} {v:Value} [hs:dD P t e] [hc:Cells P e k bytes] {z:Value} [hz:Zero P e z] [hk:lY enc k]
    (H:Sep w0 S rs w) (hx:ρ x=v) (hy:ρ y=.slice B news.length c) (hrb:Rd w B enc k news) (hat:At rs (bW e k enc v l) put) (rA: ∀u∈news.flatMap enc,u.oneCell'=true)
    (Ck:0<k) (NA:z.cells.size=k) (h63:l.length+news.length<=maxLen) (hbytes:(l.length+news.length)*bytes<=140737488355328):
    ∃v' w',Gives P ρ (.call {callee:=.builtin .append,args:= #[x,y],argTypes:= #[t,t]}) ty w v' w'/\Sep w0 S (put (bW e k enc v' (l++news))) w':=by
  obtain⟨v',w',hg,h2⟩:=JH (P:=P) (t:=t) (ty:=ty) H hx hy hat hrb rA Ck NA h63 hbytes;refine⟨v',w',hg,?_⟩;have e:bW e k enc v' (l++news)=CJ e k v' (l.length+news.length) (l.flatMap enc++news.flatMap enc):=by unfold bW;rw[zad,zcd]
  rw[e];exact h2
theorem jW {d:Nat} {x y:Od} {t c bytes:Nat} {v:Value} [hs:dD P t e] [hc:Cells P e k bytes] {z:Value} [hz:Zero P e z] [hk:lY enc k]
    (H:Sep w0 S rs w) (hat:At rs (bW e k enc v l) put) (hrb:Rd w B enc k news) (h63:l.length+news.length<=maxLen) (hbytes:(l.length+news.length)*bytes<=140737488355328) (rA: ∀u∈news.flatMap enc,u.oneCell'=true)
    (hx:evF σ x=v:=by exact rfl) (hy:evF σ y=.slice B news.length c:=by exact rfl) (Ck:0<k:=by decide) (NA:z.cells.size=k:=by exact rfl) (hd:Nat.blt d n=true:=by exact rfl)
    (h: ∀v' w',Sep w0 S (put (bW e k enc v' (l++news))) w'->FL P r n ops Q rest (upd σ d v') w'):
    FL P r n ops Q (⟨some d,.call {callee:=.builtin .append,args:= #[x,y],argTypes:= #[t,t]},ty,pos,after,none⟩::rest) σ w:=by
  obtain⟨v',w',hg,hs'⟩:=QZ (P:=P) (t:=t) (ty:=ty) H hx hy hrb hat rA Ck NA h63 hbytes;exact dU hg hd (h v' w' hs')
end
section
/-! The same,whatever else is ready. -/
variable {P:Program} {r:Option Nat} {n:Nat} {ops:AO} {Q:Post} {rest:LO} {σ:St} {w w' w0:Wd} {S:NP} {rs:List HP} {put:HP->List HP} {ty:Td} {pos:String} {after:Array Edge} {guard:Option (Nat×Bool)} {lv:List Bool} {pd:LNB} {α:Type} {enc:α->LV} {k e:Nat} {l news:List α} {A B:OA} {v:Value}
theorem dI (gT:fT n ops=true) (i:Nat) (pd':LNB) {d:Nat} {t e:Td} {xs:List Od} {parts:List (Nat×Od)} {out:LV} {size bytes:Nat} [hs:dD P t e] [hc:Cells P e size bytes] {z:Value} [hz:Zero P e z] (H:Sep w0 S rs w) (hE:bE (evF σ) size xs out)
    (ho:ops[i]? =some ⟨some d,.buildSlice t xs.length parts.toArray,ty,pos,after,guard⟩:=by exact rfl)
    (hw:Region.wanted ⟨some d,.buildSlice t xs.length parts.toArray,ty,pos,after,guard⟩ (eD ops σ)=true:=by kernel_rfl)
    (hp:parts=(xs.zipIdx 0).map λp=>(p.2,p.1):=by exact rfl) (hlen:Nat.ble (xs.length*size) 16777216=true:=by exact rfl)
    (fq:rR ops lv (pd.map (·.1)) i=true:=by kernel_rfl) (rC:pd.filter (λp=> !((above ops i).contains p.1))=pd':=by exact pD)
    (h: ∀b w',Sep w0 S (blk b out e::rs) w'->mI P ops (upd σ d (.slice (some ⟨b,0,none⟩) xs.length xs.length)) w' pd'/\FG P r n ops Q (lv.set i true) pd' (upd σ d (.slice (some ⟨b,0,none⟩) xs.length xs.length)) w'):tZ P r n ops Q lv pd σ w i:=
  JX gT i pd' (C:=λv w'=>∃b,v=.slice (some ⟨b,0,none⟩) xs.length xs.length/\Sep w0 S (blk b out e::rs) w') ho hw ⟨_,_,Gives.buildSlice hE hp hlen,_,rfl,H.alloc _⟩ fq rC λv w' ⟨b,hv,afC⟩=>by subst hv;exact h b w' afC
end
theorem Rd.cut {α:Type} {enc:α->LV} {k:Nat} [hk:lY enc k] {w:Wd} {A:OA} {l:List α} (h:Rd w A enc k l) (m:Nat):Rd w A enc k (l.take m):=by
 refine⟨mJ hk.len _,λhn=>?_⟩;have hl:0<l.length:=by rw[zag]at hn;omega
 obtain⟨ad,h1,h2⟩:=h.at_ hl;refine⟨ad,h1,λj u hu=>h2 j u ?_⟩;rw[TL hk.len,zcn]at hu
 split at hu
 .exact hu
 cases hu
theorem Rd.from {α:Type} {enc:α->LV} {k:Nat} [hk:lY enc k] {w:Wd} {A:OA} {l:List α} (h:Rd w A enc k l) (m:Nat):Rd w (A.map λa=>a.add (m*k)) enc k (l.drop m):=by
 refine⟨mJ hk.len _,λhn=>?_⟩;rw[zbu]at hn;obtain⟨ad,h1,h2⟩:=h.at_ oM;subst h1;refine⟨ad.add (m*k),rfl,λj u hu=>?_⟩;rw[add_add];refine h2 _ _ ?_;rw[<-hu];have e:l.flatMap enc=(l.take m).flatMap enc++(l.drop m).flatMap enc:=by rw[<-zcd,zbx]
 have el:((l.take m).flatMap enc).length=m*k:=by rw[mJ hk.len,zag,zck oM]
 rw[e,zcb oM,el,Nat.add_sub_cancel_left]
theorem Rd.nil {α:Type} {enc:α->LV} {k:Nat} {w:Wd} {A:OA}:Rd w A enc k []:=⟨sM,λh=>zat h sM⟩
theorem Rd.aov {α:Type} {enc:α->LV} {k c:Nat} [hk:lY enc k] {w:Wd} {A:OA} {l:List α} (h:Rd w A enc k l) (m:Nat) (hc:l.length<=c):Rd w (if c=m then A else A.map λa=>a.add (m*k)) enc k (l.drop m):=by
 split
 .rw[zca oM];exact Rd.nil
 exact h.from m
end Go.Mw
namespace Go.Proofs.YtkfpleidaoaonaaGreatDoor
open Go Go.Mw
def intCells (n:Int):LV:=[I n]
def iW (s:L8):LV:=[str s]
instance:lY intCells 1:=⟨λ_=>rfl⟩
instance:lY iW 1:=⟨λ_=>rfl⟩
end Go.Proofs.YtkfpleidaoaonaaGreatDoor
namespace Go.Proofs.YtkfpleidaoaonaaGreatDoor
open Go Go.Mw Go.Lib
set_option maxRecDepth 4000
attribute [local irreducible] FW FL FG FGn gu gy dh gH Qfn Gives
def resT (cols:List bL) (st:List dJ) (x:bJ):Option dJ:=
 if rG x.kind=0 then lW cols x else FT x.kind (st.getD (st.length-rG x.kind) ng) (st.getD (st.length-1) ng)
theorem YE {cols:List bL} {st:List dJ} {x:bJ} (h:jM x=false\/st.length<rG x.kind):stepT cols st x=none:=by
 unfold stepT
 by_cases h1:jM x=false
 .dsimp only;rw[zac (.inl h1)]
 have hm:jM x=true:=by simpa using h1
 rw[ES hm]at h;dsimp only;rw[zac (h.imp id id)]
theorem aeW {cols:List bL} {st:List dJ} {x:bJ} (h1:jM x=true) (h2:rG x.kind<=st.length):stepT cols st x=(resT cols st x).map λt=>st.take (st.length-rG x.kind)++[t]:=by
 unfold stepT resT;rw[ES h1]at h2 ⊢;dsimp only;rw[zab (by rw[h1];simp;omega)]
theorem qg {α:Type} {l:List α} {i:Nat} {c d:α} (h:l[i]? =some c):l.getD i d=c:=by rw[zau,h];rfl
theorem mP {α:Type} {w0 w:Wd} {S:NP} {rs:List HP} {put:HP->List HP} {e k c:Nat} {enc:α->LV} {l:List α} {A:OA} (H:Sep w0 S rs w) (hat:At rs (bW e k enc (.slice A l.length c) l) put):Rd w A enc k l:=Sep.rowAt H hat
attribute [local irreducible] jM qK
section
variable {w:Wd}
end
end Go.Proofs.YtkfpleidaoaonaaGreatDoor
namespace Go.Proofs.YtkfpleidaoaonaaGreatDoor
open Go Go.Mw Go.Lib
set_option maxRecDepth 4000
attribute [local irreducible] FW FL FG FGn gu gy dh gH Qfn Gives
theorem ahS {n b:Int} (hn: -9223372036854775808<=n/\n<=9223372036854775807) (h0:b≠0) (h1:b≠ -1): -9223372036854775808<=n.tdiv b/\n.tdiv b<=9223372036854775807:=by
 by_cases hb:b=1
 .subst hb;rw[Int.tdiv_one];exact hn
 have e:(n.tdiv b).natAbs=n.natAbs/b.natAbs:=Int.natAbs_tdiv n b;have hb2:2<=b.natAbs:=oM;have h2:n.natAbs/b.natAbs<=n.natAbs/2:=Nat.div_le_div_left hb2 dC;obtain⟨q,hq⟩: ∃q,q=n.natAbs/b.natAbs:=⟨_,rfl⟩;obtain⟨m,hm⟩: ∃m,m=n.tdiv b:=⟨_,rfl⟩;rw[<-hq]at e h2;rw[<-hm]at e ⊢;omega
theorem aeX {a b:Int} (h0:b≠0) (hb: -9223372036854775808<=b/\b<=9223372036854775807):(IntKind.i64.wrap (a*b)).tdiv b=a↔gU (a*b)=true:=by
 obtain⟨p,hp⟩: ∃p,p=a*b:=⟨_,rfl⟩;rw[<-hp];constructor
 .intro h
  refine zbe ?_;obtain⟨n,hn⟩: ∃n,n=IntKind.i64.wrap p:=⟨_,rfl⟩;rw[<-hn]at h;have hm:=(Int.mul_tdiv_add_tmod n b).symm;have Ke:(n.tmod b).natAbs=n.natAbs%b.natAbs:=Int.natAbs_tmod n b;have hm3:n.natAbs%b.natAbs<b.natAbs:=Nat.mod_lt _ oM;rw[h,Int.mul_comm,<-hp]at hm;rw[IntKind.wrap_i64]at hn;omega
 intro h;have h':=zba h;rw[wrap64 h',hp,Int.mul_tdiv_cancel _ h0]
def abn (k:Int) (a b:aI):aI:=
 if k=13/\((a.null=false/\a.n=0)\/(b.null=false/\b.n=0))then jV false
 else if k=14/\(a.n=1\/b.n=1)then jV true
 else if a.null=true\/b.null=true then dW
 else if k=15 then jV (decide (a.n=0))
 else jV (decide (k=13))
section
variable {w:Wd}
end
def Fw (n:Int):Option aI:=if gU n=true then some ⟨false,n,[]⟩else none
def sW (k:Int) (a b:aI):Option aI:=
 if k=13\/k=14\/k=15 then some (abn k a b)
 else if k=16 then some (jV a.null)
 else if k=17 then some (if a.null=true then b else a)
 else if a.null=true\/b.null=true then some dW
 else if k=7 then Fw (a.n+b.n)
 else if k=8 then Fw (a.n-b.n)
 else if k=9 then Fw (a.n*b.n)
 else if k=10 then Fw (-a.n)
 else if k=11 then some (jV (decide (a=b)))
 else if k=12 then some (jV (decide (vT a b<0)))
 else some ⟨false,a.s.length,[]⟩
theorem aeY {res:Option aI} {c:aI} {ok:Bool} (h1:ok=res.isSome) (h2: ∀y,res=some y->c=y): ∃t',Value.tuple #[agg (aj c),.bool ok]=.tuple #[agg (aj t'),.bool res.isSome]/\∀x,res=some x->t'=x:=
 ⟨c,by rw[h1],h2⟩
theorem lM {res:Option aI} {c:aI} (h:res=some c): ∃t',Value.tuple #[agg (aj c),.bool true]=.tuple #[agg (aj t'),.bool res.isSome]/\∀x,res=some x->t'=x:=
 aeY (by rw[h];rfl) (λy hy=>by rw[h]at hy;injection hy)
theorem aeZ {res:Option aI} {n c:Int} {ok:Bool} (h:res=Fw n) (h1:ok=gU n) (h2:gU n=true->c=n): ∃t',Value.tuple #[agg (aj ⟨false,c,[]⟩),.bool ok]=.tuple #[agg (aj t'),.bool res.isSome]/\∀x,res=some x->t'=x:=by
 subst h h1;unfold Fw;cases hf:gU n with
 | false=>exact⟨_,rfl,λy hy=>by cases hy⟩
 | true=>exact⟨_,rfl,λy hy=>by rw[h2 hf];injection hy⟩
attribute [local irreducible] vT
section
variable {w:Wd}
end
end Go.Proofs.YtkfpleidaoaonaaGreatDoor
