/-
 The document's literals,walked:Quote,Unquote.
-/
import Derived.Test.YtkfpleidaoaonaaGreatDoorNw1
import Derived.Test.YtkfpleidaoaonaaGreatDoorNw5
import Derived.Test.YtkfpleidaoaonaaGreatDoorNw3
import Derived.ArgAppend
set_option linter.unusedVariables false
set_option linter.unusedSimpArgs false
namespace Go.Proofs.YtkfpleidaoaonaaGreatDoor
open Go Go.Mw Go.Lib
set_option maxRecDepth 4000
theorem LK (c:UInt8):jl c=if c.toNat=34 then [92,34]else if c.toNat=92 then [92,92]else if c.toNat=8 then [92,98]else if c.toNat=12 then [92,102]else if c.toNat=10 then [92,110]else if c.toNat=13 then [92,114]else if c.toNat=9 then [92,116]
    else if c.toNat<32 then [92,117,48,48,l8 (c.toNat/16),l8 (c.toNat%16)]else [c]:=by
  have e: ∀k:UInt8,(c=k)=(c.toNat=k.toNat):=λk=>propext UInt8.toNat_inj.symm;have e2:(c<32)=(c.toNat<32):=propext UInt8.lt_iff_toNat_lt;unfold jl;simp only[e,e2];rfl
theorem Ya (c:UInt8):(jl c).length<=6:=by
 unfold jl
 repeat' split
 all_goals simp
def Eo (l:L8) (i:Nat):L8:=34::(l.take i).flatMap jl
theorem U8 (l:L8) (i:Nat):(Eo l i).length<=6*i+1:=by
 have h:=zU Ya (l.take i);have h2:(l.take i).length<=i:=by rw[zaj];omega
 unfold Eo;simp only[zal];omega
section
variable {w:Wd} {l:L8}
def FQ (l:L8):L8×Int:=if validD l=true then(tT l,0)else([],40)
end
theorem abV {c:UInt8} {d:Nat} (e:mH c=some d):d<16:=by
 have:=c.toNat_lt;unfold mH at e
 repeat' split at e
 all_goals first | (injection e with e;omega) | cases e
section
variable {w:Wd} {l:L8}
end
section
variable {w:Wd} {l:L8}
end
def o8 (l:L8) (i:Nat) (out:L8):L8×Nat×Int:=qQ (l.length+1-i) (l.drop i) i out
theorem O7 {l:L8} {i:Nat} {out:L8} (h:l.length<=i):o8 l i out=([],0,3):=by
 unfold o8;rw[zbu h];cases l.length+1-i<;>rfl
theorem Yb {l:L8} {i f:Nat} {out:L8} (hf:l.length-i<f):qQ f (l.drop i) i out=o8 l i out:=by
 rcases zdr i (l.length+1)with h | h
 .exact abO (by rw[zbq];omega) (by rw[zbq];omega)
 rw[O7 oM,zbu oM];cases f<;>rfl
theorem drop_cons {l:L8} {i:Nat} (h:i<l.length):l.drop i=l.getD i 0::l.drop (i+1):=by
 rw[zbn h,zak,zaa h];rfl
theorem Dj {l:L8} {i:Nat} {out:L8} {c:UInt8} (h:i<l.length) (hc:c=l.getD i 0):o8 l i out=
    if c=34 then(out,i+1,0)else if c<32 then([],0,41)else if c=92 then(if(vg (l.drop i)).2.2≠0 then([],0,(vg (l.drop i)).2.2)else o8 l (i+(vg (l.drop i)).2.1) (out++(vg (l.drop i)).1))
    else if(jg (l.drop i)).isSome=true then o8 l (i+(tY (l.drop i)).2) (out++(l.drop i).take (tY (l.drop i)).2)else([],0,if Zl (l.drop i)then 3 else 40):=by
  have hd:=drop_cons h;rw[<-hc]at hd
  have acF: ∀n o,1<=n->qQ (l.length-i) ((l.drop i).drop n) (i+n) o=o8 l (i+n) o:=λn o hn=>by
    rw[zfs];exact Yb oM
  rw[show o8 l i out=qQ (l.length-i+1) (l.drop i) i out by unfold o8;congr 1;omega];rw[hd]at acF ⊢;rw[qQ]
  by_cases h1:c=34
  . rw[zac h1,zac h1]
  rw[zab h1,zab h1]
  by_cases h2:c<32
  . rw[zac h2,zac h2]
  rw[zab h2,zab h2]
  by_cases h3:c=92
  . rw[zac h3,zac h3]
    dsimp only
    by_cases h4:(vg (c::l.drop (i+1))).2.2≠0
    . rw[zac h4,zac h4]
    rw[zab h4,zab h4];refine acF _ _ ?_
    rcases LB (c::l.drop (i+1))with⟨e,h0,hx⟩ | ⟨b,n,hn,hx⟩
    . rw[hx]at h4;exact zap h0 h4
    rw[hx];exact hn
  rw[zab h3,zab h3];unfold tY;cases hn:jg (c::l.drop (i+1))with
  | none=>rfl
  | some x=>
    obtain⟨r,n⟩:=x;obtain⟨H,_,_,_,_⟩:=Bn hn;exact acF n _ H
theorem JU (r:Int):(encodeRune r).length<=4:=by
 unfold encodeRune encodeRuneZ
 repeat' split
 all_goals simp
section
variable {w:Wd} {l:L8}
end
end Go.Proofs.YtkfpleidaoaonaaGreatDoor
namespace Go.Proofs.YtkfpleidaoaonaaGreatDoor
open Go Go.Mw Go.Lib
set_option maxRecDepth 4000

def aM (t:bN):LV:=[I t.kind,.bool t.null]
def ah (c:ay):LV:=[.bool c.null,I c.n,str c.s]
def aP (x:aZ):LV:=[I x.kind,I x.n,str x.s]
def aX (c:bF):LV:=[I c.id,str c.name,I c.type.kind,.bool c.type.null,.bool c.dflt.null,I c.dflt.n,str c.dflt.s]
def agg (cs:LV):Value:=.agg cs.toArray
theorem Yc {a b:L8}:(((⟨a.toArray⟩:ByteArray).toList==(⟨b.toArray⟩:ByteArray).toList)=true)↔a=b:=by
 rw[ByteArray.toList_mk,ByteArray.toList_mk];simp
section
variable {P:Program} {w:Wd} {d:Nat} {f:Field} {fs:List Field} {xs ys:LV} {u v:Value} {e:Bool}
theorem FR (hn:(f.name != "_")=true) (h1:OneCell P f.type) (hu:xs[f.offset]? =some u) (hv:ys[f.offset]? =some v) (he:(Op.equalIn d f.type u v).run P w=.ok e w):
    (Op.eqFields d xs.toArray ys.toArray (f::fs)).run P w=if e=true then(Op.eqFields d xs.toArray ys.toArray fs).run P w else .ok false w:=by
  have hn':f.name≠ "_" :=by simpa using hn
  simp only[Op.eqFields,zac hn',zbh,Bh hu,Bh hv,zai,he];cases e<;>simp
theorem aly {k:Nat} {us vs:LV} (hn:(f.name != "_")=true) (h1:Agg P f.type k) (hu:(xs.drop f.offset).take k=us) (hv:(ys.drop f.offset).take k=vs) (he:(Op.equalIn d f.type (.agg us.toArray) (.agg vs.toArray)).run P w=.ok e w):
    (Op.eqFields d xs.toArray ys.toArray (f::fs)).run P w=if e=true then(Op.eqFields d xs.toArray ys.toArray fs).run P w else .ok false w:=by
  have hn':f.name≠ "_" :=by simpa using hn
  simp only[Op.eqFields,zac hn',zbh,FM hu,FM hv,zai,he];cases e<;>simp
theorem aff:(Op.eqFields d xs.toArray ys.toArray []).run P w=.ok true w:=rfl
theorem LP {t:Td} (a b:Int) (h:P.underlying t=some (.int .i64)):(Op.equalIn (d+1) t (I a) (I b)).run P w=.ok (decide (a=b)) w:=by
 rw[show I a=.int .i64 a from rfl,show I b=.int .i64 b from rfl,run_equalIn_int w d t .i64 .i64 a b h];rfl
theorem afg {t:Td} (a b:Bool) (h:P.underlying t=some .bool):(Op.equalIn (d+1) t (.bool a) (.bool b)).run P w=.ok (decide (a=b)) w:=by
 rw[run_equalIn_bool' w d t a b h];cases a<;>cases b<;>rfl
theorem Yd {t:Td} (a b:L8) (h:P.underlying t=some .string):(Op.equalIn (d+1) t (str a) (str b)).run P w=.ok (decide (a=b)) w:=by
 rw[show str a=.string ⟨a.toArray⟩from rfl,show str b=.string ⟨b.toArray⟩from rfl,run_equalIn_string w d t _ _ h]
 congr 1
 rw[zdx,Yc,decide_eq_true_eq]
end
theorem afh {d:Nat} (a b:ay) (w:Wd):(Op.equalIn (d+2) 52 (.agg (ah a).toArray) (.agg (ah b).toArray)).run Tryz.prog w=.ok (decide (a=b)) w:=by
 rw[run_equalIn_agg w (d+1) _ _ _ kR kR];simp only[Program.fieldsOf,Tryz.underlying52];rw[FR rfl aln rfl rfl (afg a.null b.null kR),FR rfl alm rfl rfl (LP a.n b.n kR),FR rfl ajx rfl rfl (Yd a.s b.s kR),aff];have e:(a=b)=(a.null=b.null/\a.n=b.n/\a.s=b.s):=propext ⟨λh=>by subst h;exact⟨rfl,rfl,rfl⟩,λh=>ay.ext' h.1 h.2.1 h.2.2⟩;simp only[e]
 by_cases h1:a.null=b.null<;>by_cases h2:a.n=b.n<;>by_cases h3:a.s=b.s<;>simp[h1,h2,h3]
theorem eqType {d:Nat} (a b:bN) (w:Wd):(Op.equalIn (d+2) 50 (.agg (aM a).toArray) (.agg (aM b).toArray)).run Tryz.prog w=.ok (decide (a=b)) w:=by
 rw[run_equalIn_agg w (d+1) _ _ _ kR kR];simp only[Program.fieldsOf,Tryz.underlying50];rw[FR rfl ajw rfl rfl (LP a.kind b.kind kR),FR rfl aln rfl rfl (afg a.null b.null kR),aff];have e:(a=b)=(a.kind=b.kind/\a.null=b.null):=propext ⟨λh=>by subst h;exact⟨rfl,rfl⟩,λh=>bN.ext' h.1 h.2⟩;simp only[e]
 by_cases h1:a.kind=b.kind<;>by_cases h2:a.null=b.null<;>simp[h1,h2]
theorem ajA {d:Nat} (a b:aZ) (w:Wd):(Op.equalIn (d+2) 92 (.agg (aP a).toArray) (.agg (aP b).toArray)).run Tryz.prog w=.ok (decide (a=b)) w:=by
 rw[run_equalIn_agg w (d+1) _ _ _ kR kR];simp only[Program.fieldsOf,Tryz.underlying92];rw[FR rfl ajw rfl rfl (LP a.kind b.kind kR),FR rfl alm rfl rfl (LP a.n b.n kR),FR rfl ajx rfl rfl (Yd a.s b.s kR),aff];have e:(a=b)=(a.kind=b.kind/\a.n=b.n/\a.s=b.s):=propext ⟨λh=>by subst h;exact⟨rfl,rfl,rfl⟩,λh=>aZ.ext' h.1 h.2.1 h.2.2⟩;simp only[e]
 by_cases h1:a.kind=b.kind<;>by_cases h2:a.n=b.n<;>by_cases h3:a.s=b.s<;>simp[h1,h2,h3]
theorem alz {d:Nat} (a b:bF) (w:Wd):(Op.equalIn (d+3) 54 (.agg (aX a).toArray) (.agg (aX b).toArray)).run Tryz.prog w=.ok (decide (a=b)) w:=by
 rw[run_equalIn_agg w (d+2) _ _ _ kR kR];simp only[Program.fieldsOf,Tryz.underlying54];rw[FR rfl ajw rfl rfl (LP a.id b.id kR),FR rfl ajx rfl rfl (Yd a.name b.name kR),aly (k:=2) rfl alo rfl rfl (eqType a.type b.type w),aly (k:=3) rfl alp rfl rfl (afh a.dflt b.dflt w),aff];have e:(a=b)=(a.id=b.id/\a.name=b.name/\a.type=b.type/\a.dflt=b.dflt):=propext ⟨λh=>by subst h;exact⟨rfl,rfl,rfl,rfl⟩,λh=>bF.ext' h.1 h.2.1 h.2.2.1 h.2.2.2⟩;simp only[e]
 by_cases h1:a.id=b.id<;>by_cases h2:a.name=b.name<;>by_cases h3:a.type=b.type<;>by_cases h4:a.dflt=b.dflt<;>simp[h1,h2,h3,h4]
instance:EqData Tryz.prog 52 ay ah:=⟨λa b w=>afh (d:=9998) a b w,kR⟩
instance:EqData Tryz.prog 50 bN aM:=⟨λa b w=>eqType (d:=9998) a b w,kR⟩
instance:EqData Tryz.prog 92 aZ aP:=⟨λa b w=>ajA (d:=9998) a b w,kR⟩
instance:EqData Tryz.prog 54 bF aX:=⟨λa b w=>alz (d:=9997) a b w,kR⟩
end Go.Proofs.YtkfpleidaoaonaaGreatDoor
namespace Go.Mw
open Go.RowKit
section rules
variable {P:Program} {r:Option Nat} {n:Nat} {ops:AO} {Q:Post} {rest:LO} {σ:St} {w w' w0:Wd} {S:NP} {rs:List HP} {put:HP->List HP} {ty:Td} {pos:String} {after:Array Edge} {guard:Option (Nat×Bool)} {lv:List Bool} {pd pd':LNB}
theorem iB {d b k:Nat} {x:Od} {T:Td} [Agg P T k] {cs:LV} {E:Td} (H:Sep w0 S rs w) (hx:evF σ x=.pointer (some ⟨b,0,none⟩):=by exact rfl)
    (hat:At rs (blk b cs E) put:=by exact aT) (hk:cs.length=k:=by exact rfl) (hd:Nat.blt d n=true:=by exact rfl) (h:FL P r n ops Q rest (upd σ d (.agg cs.toArray)) w):
    FL P r n ops Q (⟨some d,.load T x,ty,pos,after,none⟩::rest) σ w:=
  D8 H hx hat (us:=cs) (by rw[zdb,<-hk,zbo]) hk hd h
theorem pq (eH:dJ n ops=true) (i:Nat) {d b k:Nat} {x:Od} {T:Td} [Agg P T k] {cs:LV} {E:Td} (H:Sep w0 S rs w) (ho:ops[i]? =some ⟨some d,.load T x,ty,pos,after,guard⟩:=by exact rfl)
    (hw:Region.wanted ⟨some d,.load T x,ty,pos,after,guard⟩ (bX ops σ)=true:=by kernel_rfl) (hx:evF σ x=.pointer (some ⟨b,0,none⟩):=by exact rfl)
    (hat:At rs (blk b cs E) put:=by exact aT) (hk:cs.length=k:=by exact rfl) (d9:jW ops lv (pd.map (·.1)) i=true:=by kernel_rfl)
    (h:FG P r n ops Q (lv.set i true) ((i,false)::pd) (upd σ d (.agg cs.toArray)) w):FG P r n ops Q lv pd σ w:=
  ahm eH i H ho hw hx hat (us:=cs) (by rw[zdb,<-hk,zbo]) hk d9 h
theorem ak {b k:Nat} {x y:Od} {T:Td} [Agg P T k] {cs us:LV} {E:Td} (H:Sep w0 S rs w) (hx:evF σ x=.pointer (some ⟨b,0,none⟩):=by exact rfl) (hy:evF σ y=.agg us.toArray:=by exact rfl)
    (hat:At rs (blk b cs E) put:=by exact aT) (hk:us.length=k:=by exact rfl) (hl:cs.length=k:=by exact rfl) (hv:us.all Value.oneCell'=true:=by exact rfl)
    (h: ∀w',Sep w0 S (put (blk b us E)) w'->FL P r n ops Q rest σ w'):
    FL P r n ops Q (⟨none,.store T x y,ty,pos,after,none⟩::rest) σ w:=
  Oh H hx hy hk (λu hu=>zbf.1 hv u hu) hat oM (by rw[zdi,zcb,zbu oM,zci]) h
theorem M6 {ρ:Od->Value} {b k:Nat} {x y:Od} {T:Td} [h1:Agg P T k] {cs us:LV} {E:Td} (H:Sep w0 S rs w) (hx:ρ x=.pointer (some ⟨b,0,none⟩)) (hy:ρ y=.agg us.toArray)
    (hat:At rs (blk b cs E) put) (hk:us.length=k) (hl:cs.length=k) (hv:us.all Value.oneCell'=true): ∃w',MC P ρ (.store T x y) ty w w'/\Sep w0 S (put (blk b us E)) w':=by
  have hb:=H.obj hat;have fU:=run_storeCells_at P b 0 E us 0 cs.toArray w hb (by simp;omega) (λu hu=>zbf.1 hv u hu);have hs:cs.take 0++us++cs.drop (0+us.length)=us:=by rw[zdi,zcb,zbu oM,zci]
  refine⟨w.setRow b (cs.take 0++us++cs.drop (0+us.length)).toArray,λ_ _ _ _=>?_,?_⟩
  . simp only[zff]at fU
    simp[execOp,hx,hy,Instr.storeAt,Instr.sureAddr,storeVar,h1.size,Value.cells,hk];simp[hk]at fU;rw[fU];simp
  rw[hs];refine H.setObj hat ⟨rfl,rfl,rfl,sM,λj hj hS=>?_⟩ ?_
  . simp only[World.setRow,zcs];rw[zab (λe=>hS e.symm)]
  simp only[World.setRow,zcs,if_true,hb,zda]
theorem dZ (eH:dJ n ops=true) (e:Nat) (pd':LNB) {b k:Nat} {x y:Od} {T:Td} [Agg P T k] {cs us:LV} {E:Td} (H:Sep w0 S rs w) (ho:ops[e]? =some ⟨none,.store T x y,ty,pos,after,guard⟩:=by exact rfl)
    (hw:Region.wanted ⟨none,.store T x y,ty,pos,after,guard⟩ (bX ops σ)=true:=by kernel_rfl) (hx:evF σ x=.pointer (some ⟨b,0,none⟩):=by exact rfl) (hy:evF σ y=.agg us.toArray:=by exact rfl)
    (hat:At rs (blk b cs E) put:=by exact aT) (hk:us.length=k:=by exact rfl) (hl:cs.length=k:=by exact rfl) (hv:us.all Value.oneCell'=true:=by exact rfl)
    (d9:eX ops lv (pd.map (·.1)) e=true:=by kernel_rfl) (oo:pd.filter (λp=> !((above ops e).contains p.1))=pd':=by exact pD)
    (h: ∀w',Sep w0 S (put (blk b us E)) w'->jk P ops σ w' pd'/\FG P r n ops Q (lv.set e true) pd' σ w'):FG P r n ops Q lv pd σ w:=
  Ul eH e pd' ho hw (M6 H hx hy hat hk hl hv) d9 oo h
end rules
end Go.Mw
namespace Go.Proofs.YtkfpleidaoaonaaGreatDoor
open Go Go.Mw Go.Lib
set_option maxRecDepth 4000
attribute [local irreducible] FW FL FG FGn fZ gG cO gW Qfn Gives
section
variable {w:Wd}
end
theorem U9: ∀{a b:L8},compareBytes a b=0->a=b
 | [],[],_=>rfl
 | [],_::_,h=>by cases h
 | _::_,[],h=>by cases h
 | a::x1,b::y1,h=>by
  rw[compareBytes]at h
  by_cases h1:a<b
  .rw[zac h1]at h;cases h
  by_cases h2:b<a
  .rw[zab h1,zac h2]at h;cases h
  rw[zab h1,zab h2]at h;rw[U9 h,UInt8.le_antisymm (UInt8.not_lt.1 h2) (UInt8.not_lt.1 h1)]
theorem O8: ∀a b:L8,compareBytes a b= -1\/compareBytes a b=0\/compareBytes a b=1
 | [],[]=>.inr (.inl rfl)
 | [],_::_=>.inl rfl
 | _::_,[]=>.inr (.inr rfl)
 | a::x1,b::y1=>by
  rw[compareBytes]
  by_cases h1:a<b
  .rw[zac h1];exact .inl rfl
  by_cases h2:b<a
  .rw[zab h1,zac h2];exact .inr (.inr rfl)
  rw[zab h1,zab h2];exact O8 x1 y1
theorem Va: ∀a:L8,compareBytes a a=0
 | []=>rfl
 | a::x1=>by rw[compareBytes,zab (UInt8.lt_irrefl a),zab (UInt8.lt_irrefl a),Va x1]
attribute [local irreducible] nC
section
variable {w:Wd}
end
end Go.Proofs.YtkfpleidaoaonaaGreatDoor
namespace Go.Proofs.YtkfpleidaoaonaaGreatDoor
open Go Go.Mw Go.Lib
set_option maxRecDepth 4000
end Go.Proofs.YtkfpleidaoaonaaGreatDoor
namespace Go.Mw
section gives
variable {P:Program} {ρ:Od->Value} {ty:Td} {w:Wd} {x y:Od} {T U:Td} {k:IntKind} {a b c:Int}
theorem Gives.afi (hx:ρ x=.int k a) (hy:ρ y=.int k b) (he:k.wrap (a+b)=c):Gives P ρ (.binOp .add T x y U) ty w (.int k c) w:=by subst he;exact Gives.add hx hy
theorem Gives.ajB (hx:ρ x=.int k a) (hy:ρ y=.int k b) (he:k.wrap (a-b)=c):Gives P ρ (.binOp .sub T x y U) ty w (.int k c) w:=by subst he;exact Gives.sub hx hy
theorem Gives.anr (hx:ρ x=.int k a) (hy:ρ y=.int k b) (he:k.wrap (a*b)=c):Gives P ρ (.binOp .mul T x y U) ty w (.int k c) w:=by subst he;exact Gives.mul hx hy
theorem Gives.ant (hx:ρ x=.int k a) (hy:ρ y=.int k b) (h0:b≠0) (he:k.wrap (a.tdiv b)=c):Gives P ρ (.binOp .quo T x y U) ty w (.int k c) w:=by subst he;exact Gives.quo hx hy h0
theorem Gives.anu (hx:ρ x=.int k a) (he:k.wrap (0-a)=c):Gives P ρ (.unOp .neg T x) ty w (.int k c) w:=by subst he;exact Gives.neg hx
theorem Gives.pz {s t:Td} {j:IntKind} [hs:lZ P s j] [ht:lZ P t k] (hx:ρ x=.int j a) (he:k.wrap a=c):Gives P ρ (.convert s t x) ty w (.int k c) w:=by subst he;exact Gives.conv hx
end gives
end Go.Mw
namespace Go.Proofs.YtkfpleidaoaonaaGreatDoor
open Go Go.Mw Go.Lib
def rG:L8:=[48,49,50,51,52,53,54,55,56,57,97,98,99,100,101,102]
theorem O9 {d:Nat} (h:d<16):(rG.take (d+1)).drop d=[l8 d]:=by
 have key: ∀i:Fin 16,(rG.take (i.val+1)).drop i.val=[l8 i.val]:=dC;exact key ⟨d,h⟩
theorem abW {l:L8} {i:Nat} (h:i<l.length):xq (l.take (i+1))=xq (l.take i)++[l8 ((l.getD i 0).toNat/16),l8 ((l.getD i 0).toNat%16)]:=by
 unfold xq;rw[zbd,zaa h,zby];simp[zak,zaa h]
theorem Jb (l:L8):(xq l).length=2*l.length:=by
 induction l with
 | nil=>rfl
 | cons c l ih=>unfold xq at *;rw[zbc,zad,ih];simp;omega
section
variable {w:Wd}
end
end Go.Proofs.YtkfpleidaoaonaaGreatDoor
namespace Go.Proofs.YtkfpleidaoaonaaGreatDoor
open Go Go.Mw Go.Lib
set_option maxRecDepth 4000
section
variable {w:Wd}
end
section
variable {w:Wd}
end
section
variable {w:Wd}
end
end Go.Proofs.YtkfpleidaoaonaaGreatDoor
namespace Go.Mw
open Go.RowKit
def adr (A:OA) (o:Nat):Value:=.pointer (A.map (·.add o))
class jf {α:Type} (enc:α->LV) (k:outParam Nat):Prop where
 len: ∀x,(enc x).length=k
def Rd {α:Type} (w:Wd) (A:OA) (enc:α->LV) (k:Nat) (l:List α):Prop:=gV w A l.length k (l.flatMap enc)
section
variable {α:Type} {enc:α->LV} {k:Nat} {l:List α} {A:OA} {w w' w0:Wd}
theorem flat_get (hk: ∀x,(enc x).length=k): ∀{l:List α} {i j:Nat} {c:α},l[i]? =some c->j<k->(l.flatMap enc)[i*k+j]? =(enc c)[j]?
 | [],_,_,_,h,_=>by simp at h
 | a::l,0,j,c,h,hj=>by
  simp only[zcc,Option.some.injEq]at h;subst h;rw[zbc,Nat.zero_mul,zdm,zbz (by rw[hk];exact hj)]
 | a::l,i+1,j,c,h,hj=>by
  simp only[zch]at h;rw[zbc,zbv (by rw[hk,zds];omega),hk,zds];rw[show i*k+k+j-k=i*k+j from oM];exact flat_get hk h hj
theorem jr (hk: ∀x,(enc x).length=k): ∀l:List α,(l.flatMap enc).length=l.length*k
 | []=>sM
 | a::l=>by rw[zbc,zad,hk,jr hk l,zal,zds];omega
theorem Rd.keep (h:Rd w A enc k l) (hk:Kept noB w w'):Rd w' A enc k l:=gV.keep h hk
theorem Rd.addr (h:Rd w A enc k l) (hn:0<l.length): ∃ad,A=some ad:=by
 obtain⟨ad,h1,_⟩:=h.at_ hn;exact⟨ad,h1⟩
theorem gN {i:Nat} {c:α} (h:l[i]? =some c):i<l.length:=(zaz.1 h).1
theorem Rd.cell [hk:jf enc k] {i f:Nat} {c:α} {v:Value} (h:Rd w A enc k l) (hg:l[i]? =some c) (hv:(enc c)[f]? =some v): ∃ad,A=some ad/\w.cell? (ad.add (i*k+f))=some v:=by
 have hl:=gN hg;obtain⟨ad,h1,h2⟩:=h.at_ oM;refine⟨ad,h1,h2 _ _ ?_⟩;rw[flat_get hk.len hg (by rw[<-hk.len c];exact gN hv)];exact hv
end
section
variable {P:Program} {ρ:Od->Value} {ty:Td} {w w0:Wd} {x y:Od} {α:Type} {enc:α->LV} {k:Nat} {l:List α} {A:OA} {rs:List HP}
theorem Gives.jJ {t e:Td} [ht:dh P t e] {bytes:Nat} [hc:Cells P e k bytes] {c i:Nat} {j:IntKind} (hx:ρ x=.slice A l.length c) (hy:ρ y=.int j i) (hr:Rd w0 A enc k l) (bH:i<l.length):Gives P ρ (.indexAddr t x y) ty w (adr A (i*k)) w:=by
 obtain⟨ad,rfl⟩:=hr.addr oM;exact Gives.idx hx hy bH
theorem Gives.yH {s f g o:Nat} [h:Aq P s f g] (hx:ρ x=adr A o) (hr:Rd w0 A enc k l) (bH:0<l.length):Gives P ρ (.fieldAddr s x f) ty w (adr A (o+g)) w:=by
 obtain⟨ad,rfl⟩:=hr.addr bH;exact Gives.aeV hx
theorem Gives.jc [hk:jf enc k] {i f:Nat} {c:α} {v:Value} {T:Td} [OneCell P T] (hx:ρ x=adr A (i*k+f)) (H:Sep w0 noB rs w) (hr:Rd w0 A enc k l) (hg:l[i]? =some c) (hv:(enc c)[f]? =some v):Gives P ρ (.load T x) ty w v w:=by
 obtain⟨ad,rfl,h2⟩:=(hr.keep H.kept).cell hg hv;exact Gives.aio hx h2
theorem Gives.Ye [hk:jf enc k] {i:Nat} {c:α} {v:Value} {T:Td} [OneCell P T] (hx:ρ x=adr A (i*k)) (H:Sep w0 noB rs w) (hr:Rd w0 A enc k l) (hg:l[i]? =some c) (hv:(enc c)[0]? =some v):Gives P ρ (.load T x) ty w v w:=
 Gives.jc (f:=0) hx H hr hg hv
theorem Gives.Rf [hk:jf enc k] {i f n:Nat} {c:α} {us:LV} {T:Td} [Agg P T n] (hx:ρ x=adr A (i*k+f)) (H:Sep w0 noB rs w) (hr:Rd w0 A enc k l) (hg:l[i]? =some c) (hu:((enc c).drop f).take n=us) (hn:us.length=n):Gives P ρ (.load T x) ty w (.agg us.toArray) w:=by
 obtain⟨ad,h1⟩:=hr.addr (by have:=gN hg;omega);subst h1;refine Gives.ajy (a:=ad.add (i*k+f)) hx (λj u hj=>?_) hn
 have hv:(enc c)[f+j]? =some u:=by
  rw[<-hu,zck]at hj
  split at hj
  .rw[zco]at hj;exact hj
  cases hj
 obtain⟨ad',h1,h2⟩:=(hr.keep H.kept).cell hg hv;injection h1 with h1
 subst h1;rw[add_add,Nat.add_assoc];exact h2
theorem Gives.iL [hk:jf enc k] {i:Nat} {c:α} {T:Td} [Agg P T k] (hx:ρ x=adr A (i*k)) (H:Sep w0 noB rs w) (hr:Rd w0 A enc k l) (hg:l[i]? =some c):Gives P ρ (.load T x) ty w (.agg (enc c).toArray) w:=
 Gives.Rf (f:=0) hx H hr hg (by rw[zdb,<-hk.len c,zbo]) (hk.len c)
end
section
variable {P:Program} {w w0:Wd} {S:NP} {rs:List HP} {put:HP->List HP} {σ:St} {R:Value->Wd->Prop} {us:LV} {a b k E:Nat} {T:Td}
theorem jh [Agg P T k] (H:Sep w0 S rs w) (hx:σ a=.pointer (some ⟨b,0,none⟩):=by exact rfl) (hat:At rs (blk b us E) put:=by exact aT) (hk:us.length=k:=by exact rfl):
    qz P σ w [.cell a T] [.agg us.toArray]:=
  ⟨_,_,_,rfl,hx,pU (k:=k) (H.obj hat) (us:=us) (by rw[zdb,<-hk,zbo]) hk,rfl⟩
theorem gK [Agg P T k] {t:Nat} {v:Value} (H:Sep w0 S rs w) (hx:σ a=.pointer (some ⟨b,0,none⟩):=by exact rfl) (hat:At rs (blk b us E) put:=by exact aT) (hk:us.length=k:=by exact rfl) (hv:σ t=v:=by exact rfl):
    qz P σ w [.cell a T,.tmp t] [.agg us.toArray,v]:=
  ⟨_,_,_,rfl,hx,pU (k:=k) (H.obj hat) (us:=us) (by rw[zdb,<-hk,zbo]) hk,_,by subst hv;rfl,rfl⟩
end
end Go.Mw
namespace Go.Proofs.YtkfpleidaoaonaaGreatDoor
open Go Go.Mw
instance:jf aM 2:=⟨λ_=>rfl⟩
instance:jf ah 3:=⟨λ_=>rfl⟩
instance:jf aP 3:=⟨λ_=>rfl⟩
instance:jf aX 7:=⟨λ_=>rfl⟩
def aQ {α:Type} (w:Wd) (v:Value) (enc:α->LV) (k:Nat) (l:List α):Prop:=∃A c,v=.slice A l.length c/\(l.length<=c/\c<=9223372036854775807)/\Rd w A enc k l
theorem aQ.keep {α:Type} {w w':Wd} {v:Value} {enc:α->LV} {k:Nat} {l:List α} (h:aQ w v enc k l) (hk:Kept noB w w'):aQ w' v enc k l:=by
 obtain⟨A,c,h1,h2,h3⟩:=h;exact⟨A,c,h1,h2,h3.keep hk⟩
end Go.Proofs.YtkfpleidaoaonaaGreatDoor
namespace Go.Proofs.YtkfpleidaoaonaaGreatDoor
open Go Go.Mw Go.Lib
set_option maxRecDepth 4000
attribute [local irreducible] FW FL FG FGn fZ gG cO gW Qfn Gives
def rH (cols:List bF) (r:List ay) (i:Nat):Int:=((((cols.zip r).drop i).map λp=>eF p.1.type p.2).find? (λe=>decide (e≠0))).getD 0
theorem Jc {cols:List bF} {r:List ay} (h:cols.length=r.length):dY cols r=rH cols r 0:=by
 unfold dY rH;rw[zab oM,zdb]
theorem LQ {cols:List bF} {r:List ay} {i:Nat} (h:r.length<=i):rH cols r i=0:=by
 unfold rH;rw[zbu (by rw[List.length_zip];omega)];rfl
theorem zX {cols:List bF} {r:List ay} {i:Nat} {a:bF} {c:ay} (ha:cols[i]? =some a) (hc:r[i]? =some c):rH cols r i=if eF a.type c≠0 then eF a.type c else rH cols r (i+1):=by
 have hz:(cols.zip r)[i]? =some (a,c):=by rw[List.getElem?_zip_eq_some];exact⟨ha,hc⟩
 have hl:=gN hz;unfold rH;rw[zbn hl];have he:(cols.zip r)[i]=(a,c):=by rw[zaa hl]at hz;injection hz
 rw[he,zay,zcf]
 by_cases h:eF a.type c=0<;>simp[h]
theorem get_some {α:Type} {l:List α} {i:Nat} (h:i<l.length): ∃c,l[i]? =some c:=⟨l[i],zaa h⟩
attribute [local irreducible] eF
section
variable {w:Wd}
end
end Go.Proofs.YtkfpleidaoaonaaGreatDoor
namespace Go.Proofs.YtkfpleidaoaonaaGreatDoor
open Go Go.Mw Go.Lib
set_option maxRecDepth 4000
attribute [local irreducible] FW FL FG FGn fZ gG cO gW Qfn Gives
def nT (kind:Int):Nat:=if 1<=kind/\kind<=6 then 0 else if kind=10\/kind=15\/kind=16\/kind=18 then 1 else 2
theorem Br {x:aZ} (h:iE x=true):nT x.kind=dz x.kind:=by
 have hk:1<=x.kind:=by
  unfold iE at h
  repeat' split at h
  all_goals first | omega | (have:=zba h;omega)
 unfold nT dz
 by_cases h7:x.kind<7
 .rw[zac oM,zac h7]
 rw[zab oM,zab h7]
section
variable {w:Wd}
end
theorem Rh {cols:List bF} {n:Int} {i:Nat} (h:lC cols n=some i):i<cols.length:=by
 unfold lC at h;rw[zct]at h;exact h.1
section
variable {w:Wd}
end
attribute [local irreducible] nC
section
variable {w:Wd}
end
end Go.Proofs.YtkfpleidaoaonaaGreatDoor
namespace Go.Proofs.YtkfpleidaoaonaaGreatDoor
open Go Go.Mw Go.Lib
set_option maxRecDepth 4000
attribute [local irreducible] FW FL FG FGn fZ gG cO gW Qfn Gives
section
variable {w:Wd}
end
end Go.Proofs.YtkfpleidaoaonaaGreatDoor
namespace Go.Mw
open Go.RowKit
section
variable {P:Program} {r:Option Nat} {n:Nat} {ops:AO} {Q:Post} {lv:List Bool} {pd:LNB} {σ:St} {w:Wd}
def om (ops:AO) (lv:List Bool) (ids:List Nat) (e:Nat):Bool:=
 (tC ops lv).contains e&&
 ids.all λk=>(l6 ops e).contains k||((match jd ops e with | some d=>jd ops k !=some d&& !(looks ops k).contains d | none=>true)&&
  (match jd ops k with | some d=> !(looks ops e).contains d | none=>true))
def pX (P:Program) (r:Option Nat) (n:Nat) (ops:AO) (Q:Post) (lv:List Bool) (pd:LNB) (σ:St) (w:Wd) (e:Nat):Prop:=
 ∀sub lr a,Real P n ops lv pd σ w sub lr a->(∀k∈l6 ops e,lr.getD k false=true)->wpOpIn (fen r) 0 P ops (lift n Q) e (wpAnyIn (fen r) 0 P .any ops (lift n Q) (left ops (lr.setIfInBounds e true)) (lr.setIfInBounds e true)) a w
theorem mI (eH:dJ n ops=true) {e1 e2:Nat} (hre:(tC ops lv==[e1,e2])=true) (h1:pX P r n ops Q lv pd σ w e1) (h2:pX P r n ops Q lv pd σ w e2):FG P r n ops Q lv pd σ w:=by
 have aki:tC ops lv=[e1,e2]:=by simpa using hre
 refine QK eH (λh0=>by rw[h0]at aki;cases aki) λe he sub lr a hr jm=>?_;rw[aki]at he
 rcases zan.1 he with rfl | he
 .exact h1 sub lr a hr jm
 rw[zar]at he;subst he;exact h2 sub lr a hr jm
theorem Zo {X:Type} (lvc:List Bool) (pdc:LNB) (l:X->List (Nat×Value)) (I:X->Wd->Prop) (h1: ∀x τ w',I x w'->FG P r n ops Q lvc pdc (cK (like σ τ) (l x)) w')
    (h2:(∀x σ' w',holds σ' (l x)->I x w'->σ'.ds=σ.ds->FG P r n ops Q lvc pdc σ' w')->FG P r n ops Q lv pd σ w):FG P r n ops Q lv pd σ w:=h2 λx σ' w' hh hI hd=>by
  have:=h1 x σ' w' hI;rw[EG hd,qB hh]at this;exact this
theorem LU (eH:dJ n ops=true) {e':Nat} {o:Oper} (ho:ops[e']? =some o) (d9:om ops lv (pd.map (·.1)) e'=true) (hw:Region.wanted o (bX ops σ)=true) (pd':LNB) (oo:pd.filter (λp=> !((above ops e').contains p.1))=pd')
    (h:KV P σ w o λσ' w'=>jk P ops σ' w' pd'/\FG P r n ops Q (lv.set e' true) pd' σ' w'):pX P r n ops Q lv pd σ w e':=by
  unfold om at d9;simp only[zbr,zbf]at d9;obtain⟨apu,af2⟩:=d9;have hmr:e'∈tC ops lv:=zcj.1 apu;intro sub lr a hr jm;have bH:=(zcq.1 ho).1;have Mr:=vV ho;obtain⟨hod,YF⟩:=qH eH ho;have hrd:=yt.1 hmr;have h0':=zC hrd.1;obtain⟨σr,Dq,VU,hσ⟩:=hr.rep;have hnp: ∀p∈sub,p.1∉l6 ops e':=λp hp hm=>by have:=jm _ hm;rw[hr.AY hp]at this;cases this
  have xI: ∀p∈sub,(∀d,o.dst=some d->jd ops p.1≠some d/\d∉looks ops p.1)/\∀d,jd ops p.1=some d->d∉looks ops e':=λp hp=>by
    have:=af2 p.1 (zat.2 ⟨p,hr.mem p hp,rfl⟩);rw[Bool.or_eq_true]at this
    rcases this with h1 | h1
    . exact zap (zcj.1 h1) (hnp p hp)
    rw[zbr,Mr]at h1;refine⟨λd hd=>?_,λd hd=>?_⟩
    . have h2:=h1.1
      rw[hd]at h2;simpa using h2
    have h2:=h1.2;rw[hd]at h2;simpa using h2
  have CB: ∀x∈looks ops e',σr x=σ x:=λx hx=>hσ x λp hp hd=>(xI p hp).2 x hd hx
  have Mt: ∀(v:Value) (w':Wd) (a':Act),Rep n (qC σr o.dst v) a'->jk P ops (qC σ o.dst v) w' pd'->Real P n ops (lv.set e' true) pd' (qC σ o.dst v) w' sub (lr.setIfInBounds e' true) a':=by
    intro v w' a' ha' fU
    have qZ: ∀p∈sub,p∈pd':=λp hp=>by
      rw[<-oo,zbw];refine⟨hr.mem p hp,?_⟩;cases hc:(above ops e').contains p.1
      . rfl
      have:=D9 hr jm p.1 (zcj.1 hc);rw[hr.AY hp]at this;cases this
    refine⟨qZ,hr.nd,hr.pw,λp hp k hk=>⟨qx (hr.pr p hp k hk).1,(hr.pr p hp k hk).2⟩,λp hp=>qx (hr.lvl p hp),λk hk=>?_,by simpa using hr.sz,by simpa using hr.lsz,λk hk j hj=>?_,⟨_,ha',by simpa[Dt]using VU,λx hx=>?_⟩,
      λp hp=>?_,hr.own,hr.apart⟩
    . by_cases mQ:e'=k
      . subst mQ
        have h1:(lr.setIfInBounds e' true).getD e' true=true:=by
          simp[zbl,zbt]
          split<;>rfl
        rw[h1,tF _ (by rw[hr.lsz];exact bH)];cases hc:(sub.map (·.1)).contains e'
        . rfl
        obtain⟨p,hp,e1⟩:=zat.1 (zcj.1 hc);have:=hr.lvl p hp;rw[e1,h0']at this;cases this
      rw[getD_set_ne true mQ,yw mQ,hr.lrv k hk]
    . by_cases mQ:e'=k
      . subst mQ;exact getD_set_true (jm j hj)
      rw[getD_set_ne false mQ]at hk;exact getD_set_true (hr.cl k hk j hj)
    . by_cases hd:o.dst=some x
      . rw[hd];show upd σr x v x=upd σ x v x;rw[upd_same,upd_same]
      rw[iJ hd,iJ hd];exact hσ x hx
    cases hf:p.2 with
    | false=>
      obtain⟨o',v',Ji,Ms,YD⟩:=fU.get p (qZ p hp) hf;refine⟨o',v',Ji,Ms,λw'' hw''=>?_⟩
      rcases hw'' with hw'' | hw''
      . cases hw''
      rw[hw''];exact YD
    | true=>
      obtain⟨o',v',Ji,Ms,YD⟩:=hr.yl p hp;refine⟨o',v',Ji,λd hd=>?_,λw'' _=>(YD w'' (.inl hf)).congr Ji (qH eH Ji).2 λx hx=>(iJ λe1=>((xI p hp).1 x e1).2 hx).symm⟩;rw[iJ (λe1=>((xI p hp).1 d e1).1 (by rw[vV Ji,hd]))];exact Ms d hd
  unfold wpOpIn;simp only[ho]
  have hww:Region.wanted o (yielded ops a.tmps)=true:=by
    rw[Dq.yielded ops (Fp eH),rX ho CB];exact hw
  rw[zac hww];refine⟨λ_ _=>trivial,?_⟩;unfold KV at h
  have aj9:(o.semAt (fen r).round a.eval)=execOp (evF σ) o:=by
    rw[Oper.semAt_eq _ _ _ λc hc=>?_,Dq.eval,yu ho YF CB]
    have iC: ∀x w',(execOp (evF σ) o).run P w=.ok x w'->∃d,x=.defer d:=λx w' hx=>by
      unfold execOp at hx;rw[hc]at hx;simp only[zbh]at hx;cases hr:(resolve (evF σ) c o.type).run P w<;>rw[hr]at hx<;>simp[Result.andThen]at hx
      exact⟨_,hx.1.symm⟩
    cases hx:(execOp (evF σ) o).run P w with
    | halt x w'=>rw[hx]at h;exact h
    | ok x w'=>
      obtain⟨d,rfl⟩:=iC x w' hx;rw[hx]at h;exact h
  rw[aj9]
  generalize (execOp (evF σ) o).run P w=res at h |-
  cases res with
  | halt x w'=>exact h.elim
  | ok nx w'=>
    cases nx with
    | value v=>exact h.2 _ _ _ (Mt v w' _ (Dq.MB hod v) h.1)
    | skip=>exact h.2 _ _ _ (Mt undef w' _ (Dq.MB hod undef) h.1)
    | enter f args=>
      refine⟨(λh=>by cases h),ql r (Calls.mono h λen w'' Dn=>?_)⟩;cases en with
      | returned v=>exact Dn.2 _ _ _ (Mt v w'' _ (Dq.MB hod v) Dn.1)
      | _=>exact Dn.elim
    | _=>exact h.elim

theorem abX (eH:dJ n ops=true) (e:Nat) (pd':LNB) {dst:Option Nat} {f:FuncId} {xs:List Od} {ats:Array Td} {vals:LV} {R:Value->Wd->Prop} {ty:Td} {pos:String} {after:Array Edge} {guard:Option (Nat×Bool)} [he:qb P f]
    (ho:ops[e]? =some ⟨dst,.call {callee:=.value (.func f),args:=xs.toArray,argTypes:=ats},ty,pos,after,guard⟩)
    (hw:Region.wanted ⟨dst,.call {callee:=.value (.func f),args:=xs.toArray,argTypes:=ats},ty,pos,after,guard⟩ (bX ops σ)=true) (hc:aY P f vals w R) (hv:xs.map (evF σ)=vals) (d9:om ops lv (pd.map (·.1)) e=true)
    (oo:pd.filter (λp=> !((above ops e).contains p.1))=pd') (h: ∀v w',R v w'->jk P ops (qC σ dst v) w' pd'/\FG P r n ops Q (lv.set e true) pd' (qC σ dst v) w'):pX P r n ops Q lv pd σ w e:=by
  refine LU eH ho d9 hw pd' oo ?_;unfold KV;have e1:execOp (evF σ) ⟨dst,.call {callee:=.value (.func f),args:=xs.toArray,argTypes:=ats},ty,pos,after,guard⟩=callFunc f (#[]++xs.toArray.map (evF σ)++ #[]):=rfl;have e2:(#[]++xs.toArray.map (evF σ)++ #[]:Array Value)=vals.toArray:=by simp[hv]
  rw[e1,he.run,e2];refine Calls.mono hc λen w'' hr=>?_;cases en with
  | returned v=>exact h v w'' hr
  | _=>exact hr.elim
theorem Ep (eH:dJ n ops=true) (e:Nat) (pd':LNB) {d:Nat} {op:Op} {ty:Td} {pos:String} {after:Array Edge} {guard:Option (Nat×Bool)} {C:Value->Wd->Prop} (ho:ops[e]? =some ⟨some d,op,ty,pos,after,guard⟩)
    (hw:Region.wanted ⟨some d,op,ty,pos,after,guard⟩ (bX ops σ)=true) (hg: ∃v w',Gives P (evF σ) op ty w v w'/\C v w') (d9:om ops lv (pd.map (·.1)) e=true)
    (oo:pd.filter (λp=> !((above ops e).contains p.1))=pd') (h: ∀v w',C v w'->jk P ops (upd σ d v) w' pd'/\FG P r n ops Q (lv.set e true) pd' (upd σ d v) w'):pX P r n ops Q lv pd σ w e:=by
  obtain⟨v,w',hg,hC⟩:=hg;refine LU eH ho d9 hw pd' oo ?_;unfold KV;rw[hg];exact h v w' hC
theorem oN {w0:Wd} {S:NP} {rs:List HP} (eH:dJ n ops=true) (i:Nat) (pd':LNB) {d:Nat} {T:Td} {ty:Td} {pos:String} {after:Array Edge} {guard:Option (Nat×Bool)} {z:Value} [hz:Zero P T z] {cs:LV} (H:Sep w0 S rs w) (ho:ops[i]? =some ⟨some d,.alloc T,ty,pos,after,guard⟩:=by exact rfl)
    (hw:Region.wanted ⟨some d,.alloc T,ty,pos,after,guard⟩ (bX ops σ)=true:=by kernel_rfl) (hcs:z.cells=cs.toArray:=by exact rfl)
    (d9:om ops lv (pd.map (·.1)) i=true:=by kernel_rfl) (oo:pd.filter (λp=> !((above ops i).contains p.1))=pd':=by exact pD)
    (h: ∀b w',Sep w0 S (blk b cs T::rs) w'->jk P ops (upd σ d (.pointer (some ⟨b,0,none⟩))) w' pd'/\FG P r n ops Q (lv.set i true) pd' (upd σ d (.pointer (some ⟨b,0,none⟩))) w'):pX P r n ops Q lv pd σ w i:=
  Ep (C:=λv w'=>∃b,v=.pointer (some ⟨b,0,none⟩)/\Sep w0 S (blk b cs T::rs) w') eH i pd' ho hw
    ⟨.pointer (some ⟨w.heap.size,0,none⟩),w.alloc (.cells cs.toArray T),λ_ _ _ _=>by simp[execOp,Instr.alloc,hz.run,newVar,newRow,hcs],_,rfl,H.alloc _⟩ d9 oo
    (λv w' hv=>by obtain⟨b,rfl,hs⟩:=hv;exact h b w' hs)
end
end Go.Mw
namespace Go.Mw
open Go.RowKit
def bJ {α:Type} (e k:Nat) (enc:α->LV) (v:Value) (l:List α):HP:=yU e k v l.length (l.flatMap enc)
section
variable {α:Type} {enc:α->LV} {k e:Nat} {l news:List α} {A:OA} {w w' w0:Wd} {S:NP} {rs:List HP} {put:HP->List HP} {v:Value}
theorem Sep.nE (H:Sep w0 S rs w) (e k:Nat) (enc:α->LV):Sep w0 S (bJ e k enc (.slice none 0 0) []::rs) w:=H.jM e k
theorem Sep.dQ (H:Sep w0 S rs w) (hat:At rs (bJ e k enc v l) put): ∃A c,v=.slice A l.length c/\l.length<=c/\Rd w A enc k l:=by
 obtain⟨A,c,hv,q9,_,_⟩:=Sep.uI H hat;subst hv;exact⟨A,c,rfl,q9,Sep.rowAt H hat⟩
theorem Pb (hk: ∀x,(enc x).length=k): ∀(l:List α) (m:Nat),(l.take m).flatMap enc=(l.flatMap enc).take (m*k)
 | _,0=>sM
 | [],m+1=>sM
 | a::l,m+1=>by
  rw[zcx,zbc,zbc,Pb hk l m,List.take_append,hk,zds,Nat.add_sub_cancel,zax (l:=enc a) (by rw[hk];omega)]
theorem Cu {P:Program} {ρ:Od->Value} {ty:Td} {x y:Od} {t b c bytes:Nat} [hs:dh P t e] [hc:Cells P e k bytes] {z:Value} [hz:Zero P e z] [hk:jf enc k]
    (H:Sep w0 S (blk b (news.flatMap enc) e::rs) w) (hx:ρ x=v) (hy:ρ y=.slice (some ⟨b,0,none⟩) c c) (hc':c=news.length) (hat:At rs (bJ e k enc v l) put) (qY: ∀u∈news.flatMap enc,u.oneCell'=true)
    (yK:0<k) (JW:z.cells.size=k) (h63:l.length+news.length<=maxLen) (hbytes:(l.length+news.length)*bytes<=140737488355328):
    ∃v' w',Gives P ρ (.call {callee:=.builtin .append,args:= #[x,y],argTypes:= #[t,t]}) ty w v' w'/\Sep w0 S (put (bJ e k enc v' (l++news))) w':=by
  subst hc';have hr:gV w (some ⟨b,0,none⟩) news.length k (news.flatMap enc):=Sep.nA H At0 (jr hk.len news);have I:=H.dA;obtain⟨F,hp,_,_⟩:=I.focus hat;obtain⟨v',w',iw,mR,hg,hb⟩:=yh (P:=P) (ty:=ty) t e (z:=z) yK JW v l.length (l.flatMap enc) hp.1 (some ⟨b,0,none⟩) news.length news.length (news.flatMap enc) hr qY h63 hbytes;refine⟨v',w',λ_ _ _ _=>?_,?_⟩
  . simp only[execOp,resolve,invoke,builtin,zbh,zbm,zai,zcg,zay,zcm,hx,hy,iw]
  refine I.D7 hat hg ?_ (by rcases hb with e | e<;>simp[e]);rw[<-zby]at mR;rw[zad];exact mR
end
section
variable {P:Program} {r:Option Nat} {n:Nat} {ops:AO} {Q:Post} {rest:LO} {σ:St} {w w' w0:Wd} {S:NP} {rs:List HP} {put:HP->List HP} {ty:Td} {pos:String} {after:Array Edge} {guard:Option (Nat×Bool)} {lv:List Bool} {pd:LNB} {α:Type} {enc:α->LV} {k e:Nat} {l news:List α} {v:Value}
theorem gP {d:Nat} {x y:Od} {t b c bytes:Nat} [hs:dh P t e] [hc:Cells P e k bytes] {z:Value} [hz:Zero P e z] [hk:jf enc k]
    (H:Sep w0 S (blk b (news.flatMap enc) e::rs) w) (hat:At rs (bJ e k enc v l) put) (h63:l.length+news.length<=maxLen) (hbytes:(l.length+news.length)*bytes<=140737488355328) (qY: ∀u∈news.flatMap enc,u.oneCell'=true)
    (hx:evF σ x=v:=by exact rfl) (hy:evF σ y=.slice (some ⟨b,0,none⟩) c c:=by exact rfl) (hc':c=news.length:=by exact rfl) (yK:0<k:=by decide) (JW:z.cells.size=k:=by exact rfl) (hd:Nat.blt d n=true:=by exact rfl)
    (h: ∀v' w',Sep w0 S (put (bJ e k enc v' (l++news))) w'->FL P r n ops Q rest (upd σ d v') w'):
    FL P r n ops Q (⟨some d,.call {callee:=.builtin .append,args:= #[x,y],argTypes:= #[t,t]},ty,pos,after,none⟩::rest) σ w:=by
  obtain⟨v',w',hg,hs'⟩:=Cu (P:=P) (t:=t) (ty:=ty) H hx hy hc' hat qY yK JW h63 hbytes;exact dG hg hd (h v' w' hs')
theorem jP (eH:dJ n ops=true) (i:Nat) (pd':LNB) {d:Nat} {x y:Od} {t b c bytes:Nat} [hs:dh P t e] [hc:Cells P e k bytes] {z:Value} [hz:Zero P e z] [hk:jf enc k]
    (H:Sep w0 S (blk b (news.flatMap enc) e::rs) w) (hat:At rs (bJ e k enc v l) put) (h63:l.length+news.length<=maxLen) (hbytes:(l.length+news.length)*bytes<=140737488355328) (qY: ∀u∈news.flatMap enc,u.oneCell'=true)
    (ho:ops[i]? =some ⟨some d,.call {callee:=.builtin .append,args:= #[x,y],argTypes:= #[t,t]},ty,pos,after,guard⟩:=by exact rfl)
    (hw:Region.wanted ⟨some d,.call {callee:=.builtin .append,args:= #[x,y],argTypes:= #[t,t]},ty,pos,after,guard⟩ (bX ops σ)=true:=by kernel_rfl)
    (hx:evF σ x=v:=by exact rfl) (hy:evF σ y=.slice (some ⟨b,0,none⟩) c c:=by exact rfl) (hc':c=news.length:=by exact rfl) (yK:0<k:=by decide) (JW:z.cells.size=k:=by exact rfl)
    (d9:eX ops lv (pd.map (·.1)) i=true:=by kernel_rfl) (oo:pd.filter (λp=> !((above ops i).contains p.1))=pd':=by exact pD)
    (h: ∀v' w',Sep w0 S (put (bJ e k enc v' (l++news))) w'->jk P ops (upd σ d v') w' pd'/\FG P r n ops Q (lv.set i true) pd' (upd σ d v') w'):FG P r n ops Q lv pd σ w:=
  vW eH i pd' ho hw (Cu (P:=P) (t:=t) (ty:=ty) H hx hy hc' hat qY yK JW h63 hbytes) d9 oo h
theorem Er (eH:dJ n ops=true) (i:Nat) (pd':LNB) {d:Nat} {T:Td} {z:Value} [hz:Zero P T z] {cs:LV} (H:Sep w0 S rs w) (ho:ops[i]? =some ⟨some d,.alloc T,ty,pos,after,guard⟩:=by exact rfl)
    (hw:Region.wanted ⟨some d,.alloc T,ty,pos,after,guard⟩ (bX ops σ)=true:=by kernel_rfl) (hcs:z.cells=cs.toArray:=by exact rfl)
    (d9:eX ops lv (pd.map (·.1)) i=true:=by kernel_rfl) (oo:pd.filter (λp=> !((above ops i).contains p.1))=pd':=by exact pD)
    (h: ∀b w',Sep w0 S (blk b cs T::rs) w'->jk P ops (upd σ d (.pointer (some ⟨b,0,none⟩))) w' pd'/\FG P r n ops Q (lv.set i true) pd' (upd σ d (.pointer (some ⟨b,0,none⟩))) w'):FG P r n ops Q lv pd σ w:=
  vW (C:=λv w'=>∃b,v=.pointer (some ⟨b,0,none⟩)/\Sep w0 S (blk b cs T::rs) w') eH i pd' ho hw
    ⟨.pointer (some ⟨w.heap.size,0,none⟩),w.alloc (.cells cs.toArray T),λ_ _ _ _=>by simp[execOp,Instr.alloc,hz.run,newVar,newRow,hcs],_,rfl,H.alloc _⟩ d9 oo
    (λv w' hv=>by obtain⟨b,rfl,hs⟩:=hv;exact h b w' hs)
end
section
variable {P:Program} {ρ:Od->Value} {ty:Td} {w:Wd} {x y:Od} {α:Type} {enc:α->LV} {k:Nat} {l:List α} {A:OA}
theorem Gives.Pd [hk:jf enc k] {i f:Nat} {c:α} {v:Value} {T:Td} [OneCell P T] (hx:ρ x=adr A (i*k+f)) (hr:Rd w A enc k l) (hg:l[i]? =some c) (hv:(enc c)[f]? =some v):Gives P ρ (.load T x) ty w v w:=by
 obtain⟨ad,rfl,h2⟩:=hr.cell hg hv;exact Gives.aio hx h2
theorem Gives.FT [hk:jf enc k] {i:Nat} {c:α} {T:Td} [Agg P T k] (hx:ρ x=adr A (i*k)) (hr:Rd w A enc k l) (hg:l[i]? =some c):Gives P ρ (.load T x) ty w (.agg (enc c).toArray) w:=
 Gives.iL (rs:=[]) hx (Sep.aJ w) hr hg
end
end Go.Mw
namespace Go.Proofs.YtkfpleidaoaonaaGreatDoor
open Go Go.Mw
theorem cells_one {α:Type} {enc:α->LV} (h: ∀x,(enc x).all Value.oneCell'=true) (l:List α): ∀u∈l.flatMap enc,u.oneCell'=true:=λu hu=>by
 obtain⟨x,_,hx⟩:=zcz.1 hu;exact zbf.1 (h x) u hx
end Go.Proofs.YtkfpleidaoaonaaGreatDoor
namespace Go.Mw
open Go
def xu {α β:Type} (e k:Nat) (enc:α->LV) (val:β->Value) (row:β->List α) (l:List β):HP:=iT (l.map λx=>bJ e k enc (val x) (row x))
section
variable {α β:Type} {enc:α->LV} {val:β->Value} {row:β->List α} {k e:Nat} {l:List β} {x:β} {w w0:Wd} {S:NP} {rs:List HP} {put:HP->List HP}
theorem Sep.Zp (h:Sep w0 S rs w) (e k:Nat) (enc:α->LV) (val:β->Value) (row:β->List α):Sep w0 S (xu e k enc val row []::rs) w:=Sep.jS trivial h
theorem Sep.Vd (h:Sep w0 S (bJ e k enc (val x) (row x)::xu e k enc val row l::rs) w):Sep w0 S (xu e k enc val row (l++[x])::rs) w:=by
 refine Sep.imp h.bD At0 λF hF=>?_;obtain⟨F1,F2,hF,hd,h1,h2⟩:=hF;unfold xu;rw[zau];exact CF (l2:=[]) hF hd h1 (by rw[zci];exact h2)
end
end Go.Mw
namespace Go.Mw
open Go.RowKit
section
variable {α:Type} {enc:α->LV} {k e:Nat} {l news:List α} {A B:OA} {w w' w0:Wd} {S:NP} {rs:List HP}
theorem afj {w:Wd} {b e s n:Nat} {v:Value} {xs:LV} (h:w.ownsRow b e s v n xs):w.ownsRow 0 e s v n xs:=by
 refine⟨h.1,?_⟩
 rcases h.2 with h2 | ⟨g,cap,cur,hv,_,r⟩
 .exact .inl h2
 exact .inr ⟨g,cap,cur,hv,zaq _,r⟩
theorem LW {w w':Wd} (h:w.grownBy w' none):Kept noB w w':=⟨h.os,h.tape,h.output,h.size,λk hk _=>h.block k hk λe=>by cases e⟩
theorem M7 {P:Program} {ρ:Od->Value} {ty:Td} {x y:Od} {t c bytes:Nat} [hs:dh P t e] [hc:Cells P e k bytes] {z:Value} [hz:Zero P e z] [hk:jf enc k]
    (H:Sep w0 S rs w) (hx:ρ x=.slice A l.length l.length) (hr:Rd w A enc k l) (hy:ρ y=.slice B news.length c) (hrb:Rd w B enc k news) (qY: ∀u∈news.flatMap enc,u.oneCell'=true)
    (yK:0<k) (JW:z.cells.size=k) (iC:0<news.length) (h63:l.length+news.length<=maxLen) (hbytes:(l.length+news.length)*bytes<=140737488355328):
    ∃v' w',Gives P ρ (.call {callee:=.builtin .append,args:= #[x,y],argTypes:= #[t,t]}) ty w v' w'/\Sep w0 S (bJ e k enc v' (l++news)::rs) w'/\Kept noB w w':=by
  have fin: ∀v' w',(Builtin.append_ #[t,t] ty #[.slice A l.length l.length,.slice B news.length c]).run P w=.ok v' w'->w'.ownsRow 0 e k v' (l.length+news.length) (l.flatMap enc++news.flatMap enc)->Kept noB w w'->(∀b,v'.ownBlock=some b->w.heap.size<=b)->
      ∃v' w',Gives P ρ (.call {callee:=.builtin .append,args:= #[x,y],argTypes:= #[t,t]}) ty w v' w'/\Sep w0 S (bJ e k enc v' (l++news)::rs) w'/\Kept noB w w':=by
    intro v' w' iw mR bZ hb;refine⟨v',w',λ_ _ _ _=>?_,H.new (F':=λb=>v'.ownBlock=some b) bZ ⟨?_,λb=>Iff.rfl⟩ hb,bZ⟩
    . simp only[execOp,resolve,invoke,builtin,zbh,zbm,zai,zcg,zay,zcm,hx,hy,iw]
    show w'.ownsRow 0 e k v' (l++news).length ((l++news).flatMap enc)
    rw[zad,zby];exact mR
  cases A with
  | none=>
    have hl:l=[]:=by
      rcases zeb l.length with h | h
      . exact zbe h
      obtain⟨ad,h1⟩:=hr.addr h;cases h1
    subst hl;obtain⟨v',w',iw,mR,hg,hb⟩:=yh (P:=P) (ty:=ty) t e yK JW (.slice none 0 0) 0 [] (World.ownsRow_nil w 0 e k) B news.length c (news.flatMap enc) hrb qY h63 hbytes;refine fin v' w' iw mR (LW hg) λb VQ=>?_
    rcases hb with h | h
    . rw[h]at VQ;cases VQ
    rw[h]at VQ;injection VQ with VQ;omega
  | some ad=>
    obtain⟨i,hi,p9⟩:=zav.1 hc.size;simp only[Prod.mk.injEq]at p9
    have uf:i.zero=some z:=by
      have:=hz.run w;simp[zeroValue,typeInfo,hi]at this;cases hq:i.zero with
      | none=>simp[hq]at this
      | some u=>simp[hq]at this;rw[this]
    obtain⟨bd,hB,Po⟩:=hrb.at_ iC;subst hB
    have hca: ∀j u,(l.flatMap enc)[j]? =some u->w.cell? (ad.add j)=some u:=by
      intro j u hu
      rcases zeb l.length with h | h
      . have hn:=zbe h
        subst hn;simp at hu
      obtain⟨ad',h1,h2⟩:=hr.at_ h;injection h1 with h1
      subst h1;exact h2 j u hu
    obtain⟨v',w',iw,mR,hg⟩:=run_append_arg_grows (P:=P) w t ty e i z k bytes hs.und hi uf p9.1 p9.2 JW yK ad l.length l.length (l.flatMap enc) hr.len hca bd news.length c (news.flatMap enc) hrb.len Po oM h63 hbytes;exact fin v' w' iw (afj mR) (LW hg) λb hb=>(mR.lt b hb).1
end
section
variable {P:Program} {r:Option Nat} {n:Nat} {ops:AO} {Q:Post} {rest:LO} {σ:St} {w w' w0:Wd} {S:NP} {rs:List HP} {put:HP->List HP} {ty:Td} {pos:String} {after:Array Edge} {guard:Option (Nat×Bool)} {lv:List Bool} {pd:LNB} {α:Type} {enc:α->LV} {k e:Nat} {l news:List α} {A B:OA}
theorem LX {d:Nat} {x y:Od} {t c bytes:Nat} [hs:dh P t e] [hc:Cells P e k bytes] {z:Value} [hz:Zero P e z] [hk:jf enc k]
    (H:Sep w0 S rs w) (hr:Rd w A enc k l) (hrb:Rd w B enc k news) (iC:0<news.length) (h63:l.length+news.length<=maxLen) (hbytes:(l.length+news.length)*bytes<=140737488355328) (qY: ∀u∈news.flatMap enc,u.oneCell'=true)
    (hx:evF σ x=.slice A l.length l.length:=by exact rfl) (hy:evF σ y=.slice B news.length c:=by exact rfl) (yK:0<k:=by decide) (JW:z.cells.size=k:=by exact rfl) (hd:Nat.blt d n=true:=by exact rfl)
    (h: ∀v' w',Sep w0 S (bJ e k enc v' (l++news)::rs) w'->Kept noB w w'->FL P r n ops Q rest (upd σ d v') w'):
    FL P r n ops Q (⟨some d,.call {callee:=.builtin .append,args:= #[x,y],argTypes:= #[t,t]},ty,pos,after,none⟩::rest) σ w:=by
  obtain⟨v',w',hg,hs',bZ⟩:=M7 (P:=P) (t:=t) (ty:=ty) H hx hr hy hrb qY yK JW iC h63 hbytes;exact dG hg hd (h v' w' hs' bZ)
theorem M8 {P:Program} {ρ:Od->Value} {ty:Td} {x y:Od} {t c bytes:Nat} {v:Value} [hs:dh P t e] [hc:Cells P e k bytes] {z:Value} [hz:Zero P e z] [hk:jf enc k]
    (H:Sep w0 S rs w) (hx:ρ x=v) (hy:ρ y=.slice B news.length c) (hrb:Rd w B enc k news) (hat:At rs (bJ e k enc v l) put) (qY: ∀u∈news.flatMap enc,u.oneCell'=true)
    (yK:0<k) (JW:z.cells.size=k) (h63:l.length+news.length<=maxLen) (hbytes:(l.length+news.length)*bytes<=140737488355328):
    ∃v' w',Gives P ρ (.call {callee:=.builtin .append,args:= #[x,y],argTypes:= #[t,t]}) ty w v' w'/\Sep w0 S (put (bJ e k enc v' (l++news))) w':=by
  obtain⟨v',w',hg,h2⟩:=Eb (P:=P) (t:=t) (ty:=ty) H hx hy hat hrb qY yK JW h63 hbytes;refine⟨v',w',hg,?_⟩;have e:bJ e k enc v' (l++news)=yU e k v' (l.length+news.length) (l.flatMap enc++news.flatMap enc):=by unfold bJ;rw[zad,zby]
  rw[e];exact h2
theorem oO {d:Nat} {x y:Od} {t c bytes:Nat} {v:Value} [hs:dh P t e] [hc:Cells P e k bytes] {z:Value} [hz:Zero P e z] [hk:jf enc k]
    (H:Sep w0 S rs w) (hat:At rs (bJ e k enc v l) put) (hrb:Rd w B enc k news) (h63:l.length+news.length<=maxLen) (hbytes:(l.length+news.length)*bytes<=140737488355328) (qY: ∀u∈news.flatMap enc,u.oneCell'=true)
    (hx:evF σ x=v:=by exact rfl) (hy:evF σ y=.slice B news.length c:=by exact rfl) (yK:0<k:=by decide) (JW:z.cells.size=k:=by exact rfl) (hd:Nat.blt d n=true:=by exact rfl)
    (h: ∀v' w',Sep w0 S (put (bJ e k enc v' (l++news))) w'->FL P r n ops Q rest (upd σ d v') w'):
    FL P r n ops Q (⟨some d,.call {callee:=.builtin .append,args:= #[x,y],argTypes:= #[t,t]},ty,pos,after,none⟩::rest) σ w:=by
  obtain⟨v',w',hg,hs'⟩:=M8 (P:=P) (t:=t) (ty:=ty) H hx hy hrb hat qY yK JW h63 hbytes;exact dG hg hd (h v' w' hs')
end
section
/-! The same,whatever else is ready. -/
variable {P:Program} {r:Option Nat} {n:Nat} {ops:AO} {Q:Post} {rest:LO} {σ:St} {w w' w0:Wd} {S:NP} {rs:List HP} {put:HP->List HP} {ty:Td} {pos:String} {after:Array Edge} {guard:Option (Nat×Bool)} {lv:List Bool} {pd:LNB} {α:Type} {enc:α->LV} {k e:Nat} {l news:List α} {A B:OA} {v:Value}
theorem fG (eH:dJ n ops=true) (i:Nat) (pd':LNB) {d:Nat} {t e:Td} {xs:List Od} {parts:List (Nat×Od)} {out:LV} {size bytes:Nat} [hs:dh P t e] [hc:Cells P e size bytes] {z:Value} [hz:Zero P e z] (H:Sep w0 S rs w) (hE:dK (evF σ) size xs out)
    (ho:ops[i]? =some ⟨some d,.buildSlice t xs.length parts.toArray,ty,pos,after,guard⟩:=by exact rfl)
    (hw:Region.wanted ⟨some d,.buildSlice t xs.length parts.toArray,ty,pos,after,guard⟩ (bX ops σ)=true:=by kernel_rfl)
    (hp:parts=(xs.zipIdx 0).map λp=>(p.2,p.1):=by exact rfl) (hlen:Nat.ble (xs.length*size) 16777216=true:=by exact rfl)
    (d9:om ops lv (pd.map (·.1)) i=true:=by kernel_rfl) (oo:pd.filter (λp=> !((above ops i).contains p.1))=pd':=by exact pD)
    (h: ∀b w',Sep w0 S (blk b out e::rs) w'->jk P ops (upd σ d (.slice (some ⟨b,0,none⟩) xs.length xs.length)) w' pd'/\FG P r n ops Q (lv.set i true) pd' (upd σ d (.slice (some ⟨b,0,none⟩) xs.length xs.length)) w'):pX P r n ops Q lv pd σ w i:=
  Ep eH i pd' (C:=λv w'=>∃b,v=.slice (some ⟨b,0,none⟩) xs.length xs.length/\Sep w0 S (blk b out e::rs) w') ho hw ⟨_,_,Gives.buildSlice hE hp hlen,_,rfl,H.alloc _⟩ d9 oo λv w' ⟨b,hv,acE⟩=>by subst hv;exact h b w' acE
end
theorem Rd.cut {α:Type} {enc:α->LV} {k:Nat} [hk:jf enc k] {w:Wd} {A:OA} {l:List α} (h:Rd w A enc k l) (m:Nat):Rd w A enc k (l.take m):=by
 refine⟨jr hk.len _,λhn=>?_⟩;have hl:0<l.length:=by rw[zaj]at hn;omega
 obtain⟨ad,h1,h2⟩:=h.at_ hl;refine⟨ad,h1,λj u hu=>h2 j u ?_⟩;rw[Pb hk.len,zck]at hu
 split at hu
 .exact hu
 cases hu
theorem Rd.from {α:Type} {enc:α->LV} {k:Nat} [hk:jf enc k] {w:Wd} {A:OA} {l:List α} (h:Rd w A enc k l) (m:Nat):Rd w (A.map λa=>a.add (m*k)) enc k (l.drop m):=by
 refine⟨jr hk.len _,λhn=>?_⟩;rw[zbq]at hn;obtain⟨ad,h1,h2⟩:=h.at_ oM;subst h1;refine⟨ad.add (m*k),rfl,λj u hu=>?_⟩;rw[add_add];refine h2 _ _ ?_;rw[<-hu];have e:l.flatMap enc=(l.take m).flatMap enc++(l.drop m).flatMap enc:=by rw[<-zby,zbs]
 have el:((l.take m).flatMap enc).length=m*k:=by rw[jr hk.len,zaj,zcv oM]
 rw[e,zbv oM,el,Nat.add_sub_cancel_left]
theorem Rd.nil {α:Type} {enc:α->LV} {k:Nat} {w:Wd} {A:OA}:Rd w A enc k []:=⟨sM,λh=>zap h sM⟩
theorem Rd.alA {α:Type} {enc:α->LV} {k c:Nat} [hk:jf enc k] {w:Wd} {A:OA} {l:List α} (h:Rd w A enc k l) (m:Nat) (hc:l.length<=c):Rd w (if c=m then A else A.map λa=>a.add (m*k)) enc k (l.drop m):=by
 split
 .rw[zbu oM];exact Rd.nil
 exact h.from m
end Go.Mw
namespace Go.Proofs.YtkfpleidaoaonaaGreatDoor
open Go Go.Mw
def intCells (n:Int):LV:=[I n]
def fT (s:L8):LV:=[str s]
instance:jf intCells 1:=⟨λ_=>rfl⟩
instance:jf fT 1:=⟨λ_=>rfl⟩
end Go.Proofs.YtkfpleidaoaonaaGreatDoor
namespace Go.Proofs.YtkfpleidaoaonaaGreatDoor
open Go Go.Mw Go.Lib
set_option maxRecDepth 4000
attribute [local irreducible] FW FL FG FGn fZ gG cO gW Qfn Gives
def resT (cols:List bF) (st:List bN) (x:aZ):Option bN:=
 if nT x.kind=0 then je cols x else Cm x.kind (st.getD (st.length-nT x.kind) jF) (st.getD (st.length-1) jF)
theorem Vg {cols:List bF} {st:List bN} {x:aZ} (h:iE x=false\/st.length<nT x.kind):stepT cols st x=none:=by
 unfold stepT
 by_cases h1:iE x=false
 .dsimp only;rw[zac (.inl h1)]
 have hm:iE x=true:=by simpa using h1
 rw[Br hm]at h;dsimp only;rw[zac (h.imp id id)]
theorem abY {cols:List bF} {st:List bN} {x:aZ} (h1:iE x=true) (h2:nT x.kind<=st.length):stepT cols st x=(resT cols st x).map λt=>st.take (st.length-nT x.kind)++[t]:=by
 unfold stepT resT;rw[Br h1]at h2 ⊢;dsimp only;rw[zab (by rw[h1];simp;omega)]
theorem mO {α:Type} {l:List α} {i:Nat} {c d:α} (h:l[i]? =some c):l.getD i d=c:=by rw[zak,h];rfl
theorem jG {α:Type} {w0 w:Wd} {S:NP} {rs:List HP} {put:HP->List HP} {e k c:Nat} {enc:α->LV} {l:List α} {A:OA} (H:Sep w0 S rs w) (hat:At rs (bJ e k enc (.slice A l.length c) l) put):Rd w A enc k l:=Sep.rowAt H hat
attribute [local irreducible] iE nC
section
variable {w:Wd}
end
end Go.Proofs.YtkfpleidaoaonaaGreatDoor
namespace Go.Proofs.YtkfpleidaoaonaaGreatDoor
open Go Go.Mw Go.Lib
set_option maxRecDepth 4000
attribute [local irreducible] FW FL FG FGn fZ gG cO gW Qfn Gives
theorem afk {n b:Int} (hn: -9223372036854775808<=n/\n<=9223372036854775807) (h0:b≠0) (h1:b≠ -1): -9223372036854775808<=n.tdiv b/\n.tdiv b<=9223372036854775807:=by
 by_cases hb:b=1
 .subst hb;rw[Int.tdiv_one];exact hn
 have e:(n.tdiv b).natAbs=n.natAbs/b.natAbs:=Int.natAbs_tdiv n b;have hb2:2<=b.natAbs:=oM;have h2:n.natAbs/b.natAbs<=n.natAbs/2:=Nat.div_le_div_left hb2 dC;obtain⟨q,hq⟩: ∃q,q=n.natAbs/b.natAbs:=⟨_,rfl⟩;obtain⟨m,hm⟩: ∃m,m=n.tdiv b:=⟨_,rfl⟩;rw[<-hq]at e h2;rw[<-hm]at e ⊢;omega
theorem abZ {a b:Int} (h0:b≠0) (hb: -9223372036854775808<=b/\b<=9223372036854775807):(IntKind.i64.wrap (a*b)).tdiv b=a↔eO (a*b)=true:=by
 obtain⟨p,hp⟩: ∃p,p=a*b:=⟨_,rfl⟩;rw[<-hp];constructor
 .intro h
  refine zbj ?_;obtain⟨n,hn⟩: ∃n,n=IntKind.i64.wrap p:=⟨_,rfl⟩;rw[<-hn]at h;have hm:=(Int.mul_tdiv_add_tmod n b).symm;have Ey:(n.tmod b).natAbs=n.natAbs%b.natAbs:=Int.natAbs_tmod n b;have hm3:n.natAbs%b.natAbs<b.natAbs:=Nat.mod_lt _ oM;rw[h,Int.mul_comm,<-hp]at hm;rw[IntKind.wrap_i64]at hn;omega
 intro h;have h':=zba h;rw[wrap64 h',hp,Int.mul_tdiv_cancel _ h0]
def Yf (k:Int) (a b:ay):ay:=
 if k=13/\((a.null=false/\a.n=0)\/(b.null=false/\b.n=0))then iK false
 else if k=14/\(a.n=1\/b.n=1)then iK true
 else if a.null=true\/b.null=true then bU
 else if k=15 then iK (decide (a.n=0))
 else iK (decide (k=13))
section
variable {w:Wd}
end
def BK (n:Int):Option ay:=if eO n=true then some ⟨false,n,[]⟩else none
def pE (k:Int) (a b:ay):Option ay:=
 if k=13\/k=14\/k=15 then some (Yf k a b)
 else if k=16 then some (iK a.null)
 else if k=17 then some (if a.null=true then b else a)
 else if a.null=true\/b.null=true then some bU
 else if k=7 then BK (a.n+b.n)
 else if k=8 then BK (a.n-b.n)
 else if k=9 then BK (a.n*b.n)
 else if k=10 then BK (-a.n)
 else if k=11 then some (iK (decide (a=b)))
 else if k=12 then some (iK (decide (rE a b<0)))
 else some ⟨false,a.s.length,[]⟩
theorem ab0 {res:Option ay} {c:ay} {ok:Bool} (h1:ok=res.isSome) (h2: ∀y,res=some y->c=y): ∃t',Value.tuple #[agg (ah c),.bool ok]=.tuple #[agg (ah t'),.bool res.isSome]/\∀x,res=some x->t'=x:=
 ⟨c,by rw[h1],h2⟩
theorem iY {res:Option ay} {c:ay} (h:res=some c): ∃t',Value.tuple #[agg (ah c),.bool true]=.tuple #[agg (ah t'),.bool res.isSome]/\∀x,res=some x->t'=x:=
 ab0 (by rw[h];rfl) (λy hy=>by rw[h]at hy;injection hy)
theorem ab1 {res:Option ay} {n c:Int} {ok:Bool} (h:res=BK n) (h1:ok=eO n) (h2:eO n=true->c=n): ∃t',Value.tuple #[agg (ah ⟨false,c,[]⟩),.bool ok]=.tuple #[agg (ah t'),.bool res.isSome]/\∀x,res=some x->t'=x:=by
 subst h h1;unfold BK;cases hf:eO n with
 | false=>exact⟨_,rfl,λy hy=>by cases hy⟩
 | true=>exact⟨_,rfl,λy hy=>by rw[h2 hf];injection hy⟩
attribute [local irreducible] rE
section
variable {w:Wd}
end
end Go.Proofs.YtkfpleidaoaonaaGreatDoor
