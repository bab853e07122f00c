/-
 Maps keyed by int,told by a function;maps.Clone. Nothing of a given program stands here.
-/
import Derived.Test.YtkfpleidaoaonaaGreatDoorNu1
import Derived.Test.YtkfpleidaoaonaaGreatDoorNu9
import Derived.Laws.Externs
import Derived.MapKept
import Derived.Test.YtkfpleidaoaonaaGreatDoorNu3
import Derived.Laws.RangeAny
import Derived.Lib.OthersKept
import Derived.Laws.BitsAllLaws
set_option linter.unusedVariables false
set_option linter.unusedSimpArgs false
namespace Go.Mw.K32
open Go.Mw
open Go.RowKit

def rE (k:Int) (e:MapEntry):Bool:=match e.key with
 | .int .i32 a=>a==k
 | _=>false
def Gh (es:List MapEntry) (k:Int):Option Value:=(es.find? (rE k)).map (·.val)
def intKeys (es:List MapEntry):Prop:=∀e∈es,∃a,e.key=.int .i32 a
section
variable {w0 w w':Wd} {S:NP} {rs:List HP} {put:HP->List HP} {P:Program}
theorem CX (k:Int): ∀(es:List MapEntry) (i:Nat),intKeys es->∃r,Instr.findNow (.int .i32) (.int .i32 k) es i=some r/\r.map (·.2)=Gh es k/\
    (∀j v,r=some (j,v)->∃m,j=i+m/\∃e,es[m]? =some e/\rE k e=true/\es.find? (rE k)=some e/\∀m' e',m'<m->es[m']? =some e'->rE k e'=false):=by
  intro es
  induction es with
  | nil=>intro i _;exact⟨none,rfl,rfl,λ_ _ h=>by cases h⟩
  | cons e es ih=>
    intro i hk;obtain⟨a,ha⟩:=hk e zah;obtain⟨r,h1,h2,h3⟩:=ih (i+1) λx hx=>hk x (zai _ hx);have hs:Instr.sameNow (.int .i32) (.int .i32 k) e.key=some (k==a):=by rw[ha];simp[Instr.sameNow]
    have Qe:rE k e=(a==k):=by unfold rE;rw[ha]
    by_cases hka:k=a
    . subst hka
      have hkt:rE k e=true:=by rw[Qe];simp
      refine⟨some (i,e.val),?_,?_,?_⟩
      . unfold Instr.findNow;rw[hs];simp
      . simp[Gh,hkt]
      rintro j v Qf;injection Qf with Qf
      injection Qf with h4 h5
      exact⟨0,oM,e,rfl,hkt,by simp[hkt],λm' _ hm=>oM⟩
    have Ws:rE k e=false:=by rw[Qe];simpa using λh:a=k=>hka h.symm
    refine⟨r,?_,?_,?_⟩
    . unfold Instr.findNow;rw[hs,h1]
      have :(k==a)=false:=by simpa using hka
      rw[this]
    . rw[h2];simp[Gh,Ws]
    rintro j v Qf;obtain⟨m,hm,e',he',hk',hf',bX⟩:=h3 j v Qf;refine⟨m+1,oM,e',by simpa using he',hk',by simp[Ws,hf'],λm' e'' qo Qg=>?_⟩;cases m' with
    | zero=>simp at Qg;rw[<-Qg];exact Ws
    | succ m'=>exact bX m' e'' oM (by simpa using Qg)
theorem vP {kt:Td} (hu:P.underlying kt=some (.int .i32)) (k:Int) (es:List MapEntry) (hk:intKeys es):
    ∃r,(Instr.findKey kt (.int .i32 k) es).run P w=.ok r w/\r.map (·.2)=Gh es k/\
    (∀j v,r=some (j,v)->∃e,es[j]? =some e/\rE k e=true/\∀m' e',m'<j->es[m']? =some e'->rE k e'=false):=by
  obtain⟨r,h1,h2,h3⟩:=CX k es 0 hk;refine⟨r,by simp[Instr.findKey,run_underlying hu,h1],h2,λj v Qf=>?_⟩;obtain⟨m,hm,e,he,nu,_,bX⟩:=h3 j v Qf;have :j=m:=by omega
  subst this;exact⟨e,he,nu,bX⟩
theorem uK {kt:Td} (hu:P.underlying kt=some (.int .i32)) (b:Bool) (k:Int) (d:Nat):(Instr.checkKey b (d+1) kt (.int .i32 k)).run P w=.ok () w:=by
 simp[Instr.checkKey,run_underlying hu]
theorem run_getObj_map {b:Nat} {es:Array MapEntry} {c:Nat} (h:w.heap[b]? =some (.map es c)):(getObj b).run P w=.ok (.map es c) w:=by
 simp[getObj,Sem.run,h]
end
end Go.Mw.K32
namespace Go.Mw
open Go.RowKit
section
variable {P:Program} {ρ:Od->Value} {ty:Td} {w w0:Wd} {x y z:Od} {S:NP} {rs:List HP} {put:HP->List HP}
theorem WJ {T k e:Td} [hm:IsMap P T k e] [hk:lF P k .i32] {b:Nat} {es:Array MapEntry} {c:Nat} {i:Int} {v:Value}
    (H:Sep w0 S rs w) (hat:At rs (obj b (.map es c)) put) (uG:K32.intKeys es.toList) (qR:K32.Gh es.toList i=none) (hx:ρ x=.map (some b)) (hy:ρ y=.int .i32 i) (hz:ρ z=v):
    ∃w',Qy P ρ (.insert T x y z) ty w w'/\Sep w0 S (put (obj b (.map (es.push {key:=.int .i32 i,val:=v,born:=c}) (c+1)))) w':=by
  have hb:=H.obj hat;obtain⟨r,h1,h2,_⟩:=K32.vP (P:=P) (w:=w) hk.und i es.toList uG
  have hr:r=none:=by
    cases r with
    | none=>rfl
    | some jv=>rw[qR]at h2;cases h2
  subst hr;have fq:=K32.uK (P:=P) (w:=w) hk.und false i 9999;have Bd: ∀o:Obj,(setObj b o).run P w=.ok () {w with heap:=w.heap.setIfInBounds b o}:=λo=>by simp[Go.setObj,Sem.run,hb]
  have bX:=mU hb;refine⟨{w with heap:=w.heap.setIfInBounds b (.map (es.push {key:=.int .i32 i,val:=v,born:=c}) (c+1))},λ_ _ _ _=>?_,H.setObj hat ⟨rfl,rfl,rfl,sM,λj hj iF=>by simp only[zbz];rw[zab (λe=>iF e.symm)]⟩ (by simp[bX])⟩;simp only[execOp,hx,hy,hz,Instr.mapUpdate,zbk,run_underlying hm.und,zas,run_getObj_map hb];rw[fq];simp only[zas,h1,Bd,zbn]
theorem uL {r:Option Nat} {n:Nat} {ops:AO} {Q:Post} {rest:LO} {σ:St} {pos:String} {after:Array Edge} {T k e:Td} [hm:IsMap P T k e] [hk:lF P k .i32] {b:Nat} {es:Array MapEntry} {c:Nat} {i:Int} {v:Value}
    (H:Sep w0 S rs w) (hat:At rs (obj b (.map es c)) put) (uG:K32.intKeys es.toList) (qR:K32.Gh es.toList i=none) (hx:evF σ x=.map (some b):=by exact rfl) (hy:evF σ y=.int .i32 i:=by exact rfl) (hz:evF σ z=v:=by exact rfl)
    (h: ∀w',Sep w0 S (put (obj b (.map (es.push {key:=.int .i32 i,val:=v,born:=c}) (c+1)))) w'->FL P r n ops Q rest σ w'):FL P r n ops Q (⟨none,.insert T x y z,ty,pos,after,none⟩::rest) σ w:=by
  obtain⟨w',ha,hs⟩:=WJ (P:=P) (ty:=ty) (T:=T) H hat uG qR hx hy hz;exact Kt ha rfl (h w' hs)
theorem Qz {T k e:Td} [hm:IsMap P T k e] [hk:lF P k .i32] {zv:Value} [hz:Zero P e zv] {b:Nat} {es:Array MapEntry} {c:Nat} {i:Int}
    (hb:w.heap[b]? =some (.map es c)) (uG:K32.intKeys es.toList) (hx:ρ x=.map (some b)) (hy:ρ y=.int .i32 i):Gives P ρ (.lookup T x y true) ty w (.tuple #[(K32.Gh es.toList i).getD zv,.bool (K32.Gh es.toList i).isSome]) w:=by
  obtain⟨r,h1,h2,_⟩:=K32.vP (P:=P) (w:=w) hk.und i es.toList uG;intro _ _ _ _;rw[<-h2];have fq:=K32.uK (P:=P) (w:=w) hk.und es.isEmpty i 9999;simp only[execOp,hx,hy,Instr.lookup,zbk,run_underlying hm.und,zas,run_getObj_map hb,zbn];rw[fq];simp only[zas,h1];cases r with
  | none=>simp[hz.run]
  | some jv=>obtain⟨j,v⟩:=jv;simp
theorem Uy {T:Td} [ht:nZ P T] {s:ByteArray} (H:Sep w0 S rs w) (hx:ρ x=.string s): ∃k w',Gives P ρ (.range T x) ty w (.pointer (some ⟨k,0,none⟩)) w'/\Sep w0 S (obj k (.stringIter s 0)::rs) w':=by
 refine⟨w.heap.size,w.alloc (.stringIter s 0),λ_ _ _ _=>?_,H.alloc _⟩;have:=run_range_string (P:=P) w T s ht.und;simp only[execOp,hx,zbk,this,zas,zbn];rfl
theorem WK {s:ByteArray} {k pos:Nat} (H:Sep w0 S rs w) (hat:At rs (obj k (.stringIter s pos)) put) (hx:ρ x=.pointer (some ⟨k,0,none⟩)) (h:pos<s.size):
    ∃w',Gives P ρ (.next x true) ty w (.tuple #[.bool true,.int .i64 pos,.int .i32 (Utf8.decode s pos).1]) w'/\Sep w0 S (put (obj k (.stringIter s (pos+(Utf8.decode s pos).2)))) w':=by
  have hk:=H.obj hat;have bX:=mU hk;have:=Lib.run_next_any_at (P:=P) w k s pos ty hk h;refine⟨w.iterAt k s (pos+(Utf8.decode s pos).2),λ_ _ _ _=>?_,H.setObj hat ⟨rfl,rfl,rfl,?_,λj hj iF=>?_⟩ (Lib.iterAt_heap w k s pos _ hk)⟩
  . simp only[execOp,hx,zbk,this,zas,zbn]
  . simp[World.iterAt]
  simp only[World.iterAt,zbz];rw[zab (λe=>iF e.symm)]
theorem QA {s:ByteArray} {k pos:Nat} (H:Sep w0 S rs w) (hat:At rs (obj k (.stringIter s pos)) put) (hx:ρ x=.pointer (some ⟨k,0,none⟩)) (h: ¬pos<s.size):Gives P ρ (.next x true) ty w (.tuple #[.bool false]) w:=λ_ _ _ _=>by
 have:=Lib.run_next_end_at (P:=P) w k s pos ty (H.obj hat) h;simp only[execOp,hx,zbk,this,zas,zbn]
end
end Go.Mw
namespace Go.Proofs.YtkfpleidaoaonaaGreatDoor
open Go Go.Mw Go.Lib
set_option maxRecDepth 4000
attribute [local irreducible] FW FL FG FGn gu gy dh gH Qfn Gives
theorem keys_nil:K32.intKeys (#[]:Array MapEntry).toList:=λe he=>by simp at he
theorem iG {es:Array MapEntry} {k:Int} {v:Value} {c:Nat} (h:K32.intKeys es.toList):K32.intKeys (es.push {key:=.int .i32 k,val:=v,born:=c}).toList:=by
 intro e he;rw[zfp,zbh,zay]at he
 rcases he with he | rfl
 .exact h e he
 exact⟨k,rfl⟩
def Bn (k:Int) (v:Int) (b:Nat):MapEntry:={key:=.int .i32 k,val:=.int .u8 v,born:=b}
def jC:Array MapEntry:= #[Bn 34 34 0,Bn 92 92 1,Bn 8 98 2,Bn 12 102 3,Bn 10 110 4,Bn 13 114 5,Bn 9 116 6]
def Bo (r:Int):Option UInt8:=if r=34 then some 34 else if r=92 then some 92 else if r=8 then some 98 else if r=12 then some 102 else if r=10 then some 110 else if r=13 then some 114 else if r=9 then some 116 else none
theorem ZW (r:Int):K32.Gh jC.toList r=(Bo r).map B:=by
 unfold K32.Gh Bo jC;simp only[zcj,List.find?_nil,K32.rE,Bn]
 by_cases h1:r=34
 .subst h1;rfl
 by_cases h2:r=92
 .subst h2;rfl
 by_cases h3:r=8
 .subst h3;rfl
 by_cases h4:r=12
 .subst h4;rfl
 by_cases h5:r=10
 .subst h5;rfl
 by_cases h6:r=13
 .subst h6;rfl
 by_cases h7:r=9
 .subst h7;rfl
 have e: ∀k:Int,r≠k->(k==r)=false:=λk h=>by simpa using λe=>h e.symm
 simp only[e _ h1,e _ h2,e _ h3,e _ h4,e _ h5,e _ h6,e _ h7,zab h1,zab h2,zab h3,zab h4,zab h5,zab h6,zab h7];rfl
theorem WL:K32.intKeys jC.toList:=by
 intro e he;simp only[jC,zap,zaj,or_false]at he
 rcases he with rfl | rfl | rfl | rfl | rfl | rfl | rfl<;>exact⟨_,rfl⟩
section
variable {w:Wd}
theorem WM:aN Tryz.prog 325 [] w λv w'=>∃m:Nat,v=.map (some m)/\True/\Turn noB (obj m (.map jC 7)) w w':=by
 have H:=Sep.aL w;refine ab7 Tryz.func325 rfl rfl rfl ?_;refine Zb1 ?_;refine yA H (h:=λb2 w3 H3 k2=>?_);refine uL H3 At0 keys_nil rfl (h:=λw5 H5=>?_);refine uL H5 At0 (iG keys_nil) rfl (h:=λw7 H7=>?_);refine uL H7 At0 (iG (iG keys_nil)) rfl (h:=λw9 H9=>?_);refine uL H9 At0 (iG (iG (iG keys_nil))) rfl (h:=λwa Ha=>?_);refine uL Ha At0 (iG (iG (iG (iG keys_nil)))) rfl (h:=λwb Hb=>?_);refine uL Hb At0 (iG (iG (iG (iG (iG keys_nil))))) rfl (h:=λwc Hc=>?_);refine uL Hc At0 (iG (iG (iG (iG (iG (iG keys_nil)))))) rfl (h:=λwd Hd=>?_);refine Zb2 ?_;exact⟨_,rfl,trivial,Hd.turn⟩
end
end Go.Proofs.YtkfpleidaoaonaaGreatDoor
namespace Go.Mw
open Go.RowKit
section gives
variable {P:Program} {ρ:Od->Value} {ty:Td} {w:Wd} {x y:Od} {T U:Td} {k:IntKind} {a b c:Int}
theorem Gives.orE (hx:ρ x=.int k a) (hy:ρ y=.int k b) (he:bits .or k a b=c):Gives P ρ (.binOp .or T x y U) ty w (.int k c) w:=by subst he;exact Gives.or hx hy
theorem Gives.Gi (hx:ρ x=.int k a) (hy:ρ y=.int k b) (he:bits .and k a b=c):Gives P ρ (.binOp .and T x y U) ty w (.int k c) w:=by subst he;exact Gives.and hx hy
theorem Gives.Gj {m s:Nat} {j:IntKind} (hx:ρ x=.int k m) (hy:ρ y=.int j s) (hs:s<=k.bits):Gives P ρ (.binOp .shr T x y U) ty w (.int k ((m/2^s:Nat):Int)) w:=by
 have h:=Gives.shr (P:=P) (ty:=ty) (w:=w) (T:=T) (U:=U) hx hy oM;rw[zdv,zck hs]at h
 have e:(m:Int).fdiv (2^s)=((m/2^s:Nat):Int):=by
  rw[zfr _ (Int.pow_nonneg dC)];simp
 rw[e]at h;exact h
end gives
end Go.Mw
namespace Go.Proofs.YtkfpleidaoaonaaGreatDoor
open Go Go.Mw Go.Lib
set_option maxRecDepth 4000
attribute [local irreducible] FW FL FG FGn gu gy dh gH Qfn Gives
theorem or_fin {h n:Nat} (hh:h<256) (hn:n<256) (key:h||| n=h+n):bits .or .u8 (h:Int) (n:Int)=((h+n:Nat):Int):=by
 rw[u8_or_nat h n hh hn,key]
theorem anN {x:Nat} (h:x<32):bits .or .u8 192 (x:Int)=((192+x:Nat):Int):=by
 have key: ∀i:Fin 32,192||| i.val=192+i.val:=dC
 exact or_fin (h:=192) dC oM (key ⟨x,h⟩)
theorem CY {x:Nat} (h:x<64):bits .or .u8 128 (x:Int)=((128+x:Nat):Int):=by
 have key: ∀i:Fin 64,128||| i.val=128+i.val:=dC
 exact or_fin (h:=128) dC oM (key ⟨x,h⟩)
theorem ak0 {x:Nat} (h:x<16):bits .or .u8 224 (x:Int)=((224+x:Nat):Int):=by
 have key: ∀i:Fin 16,224||| i.val=224+i.val:=dC
 exact or_fin (h:=224) dC oM (key ⟨x,h⟩)
theorem ak1 {x:Nat} (h:x<8):bits .or .u8 240 (x:Int)=((240+x:Nat):Int):=by
 have key: ∀i:Fin 8,240||| i.val=240+i.val:=dC
 exact or_fin (h:=240) dC oM (key ⟨x,h⟩)
theorem CZ {x:Nat} (h:x<256):bits .and .u8 (x:Int) 63=((x%64:Nat):Int):=by
 have key: ∀i:Fin 256,i.val&&& 63=i.val%64:=dC;have:=u8_and_nat x 63 h dC;rw[key ⟨x,h⟩]at this;exact this
theorem u8w (r:Nat):IntKind.u8.wrap (r:Int)=((r%256:Nat):Int):=by rw[IntKind.wrap_u8];omega
def cb (n:Nat):Value:=.int .u8 (n:Int)
theorem alO {n:Nat} (h:n<256):B n.toUInt8=cb n:=by
 unfold B cb;simp[Nat.mod_eq_of_lt h]
theorem Ku {r:Nat} {l:List Nat} (h:encodeRuneZ r=l.map λn:Nat=>(n:Int)) (hl: ∀n∈l,n<256):l.map cb=(encodeRune r).map B:=by
 unfold encodeRune;rw[h,zcy,zcy];refine zco λn hn=>?_;simp only[Function.comp,zdv];exact(alO (hl n hn)).symm
theorem enc2 {r:Nat} (h0:128<=r) (h1:r<=2047):[cb (192+r/64),cb (128+r%64)]=(encodeRune r).map B:=
 Ku (l:=[192+r/64,128+r%64]) (by rw[encodeRuneZ_two oM oM];simp) (by intro n hn;simp at hn;omega)
theorem enc3 {r:Nat} (h:(2048<=r/\r<55296)\/(57343<r/\r<=65535)):[cb (224+r/4096),cb (128+r/64%64),cb (128+r%64)]=(encodeRune r).map B:=
 Ku (l:=[224+r/4096,128+r/64%64,128+r%64]) (by rw[encodeRuneZ_three oM];simp) (by intro n hn;simp at hn;omega)
theorem enc4 {r:Nat} (h0:65536<=r) (h1:r<=1114111):[cb (240+r/262144),cb (128+r/4096%64),cb (128+r/64%64),cb (128+r%64)]=(encodeRune r).map B:=
 Ku (l:=[240+r/262144,128+r/4096%64,128+r/64%64,128+r%64]) (by
  have e:encodeRuneZ (r:Int)=[240+(r:Int)/262144,128+(r:Int)/4096%64,128+(r:Int)/64%64,128+(r:Int)%64]:=by
   unfold encodeRuneZ;rw[zab oM,zab oM,zab oM,zac oM]
  rw[e];simp) (by intro n hn;simp at hn;omega)
section
variable {w:Wd}
theorem Uz {v:Value} {l:L8} {F:NP} {r:Nat} (hp:(oD 5 v l).ok F w) (hl:l.length<=100000000) (h0:128<=r) (h1:r<=1114111) (hs:r<55296\/57343<r):
    aN Tryz.prog 371 [v,I32 r] w λx w'=>∃v',x=v'/\True/\Turn F (oD 5 v' (l++encodeRune r)) w w':=by
  have H:=Sep.dZ hp;have hel:=Nz (r:Int);refine dS Tryz.func371 rfl rfl rfl rfl ?_;refine Zb2 ?_;refine Vv (Gives.sV (c:=(r:Int)) rfl (by rw[IntKind.wrap_u32];omega)) ?_;refine Za4 ?_;refine Qn (Cp rfl (λy8=>?_) (λy8=>?_))
  . have Je:=y8
    refine Zb2 ?_;refine Vv (Gives.Gj (m:=r) (s:=6) rfl rfl dC) (Vv (Gives.sV (c:=((r/64:Nat):Int)) rfl (by rw[u8w];omega)) ?_);refine Vv (Gives.orE (c:=((192+r/64:Nat):Int)) rfl rfl (anN oM)) (Mv ?_);refine Vv (Gives.sV (c:=((r%256:Nat):Int)) rfl (u8w r)) (Vv (Gives.Gi (c:=((r%64:Nat):Int)) rfl rfl (by rw[CZ oM];omega)) ?_);refine Vv (Gives.orE (c:=((128+r%64:Nat):Int)) rfl rfl (CY oM)) (Bs H [cb (192+r/64),cb (128+r%64)] (λbs wa Ha ka=>?_));have G7:(encodeRune r).length=2:=by have:=zaw List.length (enc2 (r:=r) h0 oM);simpa using this.symm
    rw[enc2 h0 oM]at Ha;refine sK Ha At0 oM (hc':=G7.symm) (h:=?_);intro v2 wb Hb;refine Zb1 ?_;exact⟨_,rfl,trivial,Hb.turn⟩
  have Je:=y8;refine Za3 ?_;refine Qn (Cp rfl (λIa=>?_) (λIa=>?_))
  . refine Sk (xu (zaw Value.bool (zbe Ia)) ?_)
    refine Zb2 ?_;refine Vv (Gives.Gj (m:=r) (s:=12) rfl rfl dC) (Vv (Gives.sV (c:=((r/4096:Nat):Int)) rfl (by rw[u8w];omega)) ?_);refine Vv (Gives.orE (c:=((224+r/4096:Nat):Int)) rfl rfl (ak0 oM)) (Mv ?_);refine Vv (Gives.Gj (m:=r) (s:=6) rfl rfl dC) (Vv (Gives.sV (c:=((r/64%256:Nat):Int)) rfl (u8w _)) ?_);refine Vv (Gives.Gi (c:=((r/64%64:Nat):Int)) rfl rfl (by rw[CZ oM];omega)) ?_;refine Vv (Gives.orE (c:=((128+r/64%64:Nat):Int)) rfl rfl (CY oM)) (Mv ?_);refine Vv (Gives.sV (c:=((r%256:Nat):Int)) rfl (u8w r)) (Vv (Gives.Gi (c:=((r%64:Nat):Int)) rfl rfl (by rw[CZ oM];omega)) ?_);refine Vv (Gives.orE (c:=((128+r%64:Nat):Int)) rfl rfl (CY oM)) (Bs H [cb (224+r/4096),cb (128+r/64%64),cb (128+r%64)] (λbs wc Hc kb=>?_));have G7:(encodeRune r).length=3:=by have:=zaw List.length (enc3 (r:=r) oM);simpa using this.symm
    rw[enc3 oM]at Hc;refine sK Hc At0 oM (hc':=G7.symm) (h:=?_);intro v2 wd Hd;refine Zb1 ?_;exact⟨_,rfl,trivial,Hd.turn⟩
  refine Zb3 ?_;refine aC (t:=30) rfl (λSa=>?_) (λSa=>?_)
  . refine Za4 ?_
    refine Qn (Cp rfl (λIb=>?_) (λIb=>?_))
    . refine Zb2 ?_
      refine Vv (Gives.Gj (m:=r) (s:=12) rfl rfl dC) (Vv (Gives.sV (c:=((r/4096:Nat):Int)) rfl (by rw[u8w];omega)) ?_);refine Vv (Gives.orE (c:=((224+r/4096:Nat):Int)) rfl rfl (ak0 oM)) (Mv ?_);refine Vv (Gives.Gj (m:=r) (s:=6) rfl rfl dC) (Vv (Gives.sV (c:=((r/64%256:Nat):Int)) rfl (u8w _)) ?_);refine Vv (Gives.Gi (c:=((r/64%64:Nat):Int)) rfl rfl (by rw[CZ oM];omega)) ?_;refine Vv (Gives.orE (c:=((128+r/64%64:Nat):Int)) rfl rfl (CY oM)) (Mv ?_);refine Vv (Gives.sV (c:=((r%256:Nat):Int)) rfl (u8w r)) (Vv (Gives.Gi (c:=((r%64:Nat):Int)) rfl rfl (by rw[CZ oM];omega)) ?_);refine Vv (Gives.orE (c:=((128+r%64:Nat):Int)) rfl rfl (CY oM)) (Bs H [cb (224+r/4096),cb (128+r/64%64),cb (128+r%64)] (λbs we He kc=>?_));have G7:(encodeRune r).length=3:=by have:=zaw List.length (enc3 (r:=r) oM);simpa using this.symm
      rw[enc3 oM]at He;refine sK He At0 oM (hc':=G7.symm) (h:=?_);intro v2 wf Hf;refine Zb1 ?_;exact⟨_,rfl,trivial,Hf.turn⟩
    refine Zb3 ?_;refine aC (t:=53) rfl (λSb=>?_) (λSb=>?_)
    . refine Za4 ?_
      refine Qn (Cp rfl (λIc=>?_) (λIc=>?_))
      . refine Zb2 ?_
        refine Vv (Gives.Gj (m:=r) (s:=18) rfl rfl dC) (Vv (Gives.sV (c:=((r/262144:Nat):Int)) rfl (by rw[u8w];omega)) ?_);refine Vv (Gives.orE (c:=((240+r/262144:Nat):Int)) rfl rfl (ak1 oM)) (Mv ?_);refine Vv (Gives.Gj (m:=r) (s:=12) rfl rfl dC) (Vv (Gives.sV (c:=((r/4096%256:Nat):Int)) rfl (u8w _)) ?_);refine Vv (Gives.Gi (c:=((r/4096%64:Nat):Int)) rfl rfl (by rw[CZ oM];omega)) ?_;refine Vv (Gives.orE (c:=((128+r/4096%64:Nat):Int)) rfl rfl (CY oM)) (Mv ?_);refine Vv (Gives.Gj (m:=r) (s:=6) rfl rfl dC) (Vv (Gives.sV (c:=((r/64%256:Nat):Int)) rfl (u8w _)) ?_);refine Vv (Gives.Gi (c:=((r/64%64:Nat):Int)) rfl rfl (by rw[CZ oM];omega)) ?_;refine Vv (Gives.orE (c:=((128+r/64%64:Nat):Int)) rfl rfl (CY oM)) (Mv ?_);refine Vv (Gives.sV (c:=((r%256:Nat):Int)) rfl (u8w r)) (Vv (Gives.Gi (c:=((r%64:Nat):Int)) rfl rfl (by rw[CZ oM];omega)) ?_);refine Vv (Gives.orE (c:=((128+r%64:Nat):Int)) rfl rfl (CY oM)) (Bs H [cb (240+r/262144),cb (128+r/4096%64),cb (128+r/64%64),cb (128+r%64)] (λbs wg Hg kd=>?_));have G7:(encodeRune r).length=4:=by have:=zaw List.length (enc4 (r:=r) oM h1);simpa using this.symm
        rw[enc4 oM h1]at Hg;refine sK Hg At0 oM (hc':=G7.symm) (h:=?_);intro v2 wh Hh;refine Zb1 ?_;exact⟨_,rfl,trivial,Hh.turn⟩
      exact zat h1 oM
    exact zat h1 oM
  refine Zb5 ?_;refine aC (t:=53) rfl (λSc=>?_) (λSc=>?_)
  . refine Za4 ?_
    refine Qn (Cp rfl (λId=>?_) (λId=>?_))
    . refine Zb2 ?_
      refine Vv (Gives.Gj (m:=r) (s:=18) rfl rfl dC) (Vv (Gives.sV (c:=((r/262144:Nat):Int)) rfl (by rw[u8w];omega)) ?_);refine Vv (Gives.orE (c:=((240+r/262144:Nat):Int)) rfl rfl (ak1 oM)) (Mv ?_);refine Vv (Gives.Gj (m:=r) (s:=12) rfl rfl dC) (Vv (Gives.sV (c:=((r/4096%256:Nat):Int)) rfl (u8w _)) ?_);refine Vv (Gives.Gi (c:=((r/4096%64:Nat):Int)) rfl rfl (by rw[CZ oM];omega)) ?_;refine Vv (Gives.orE (c:=((128+r/4096%64:Nat):Int)) rfl rfl (CY oM)) (Mv ?_);refine Vv (Gives.Gj (m:=r) (s:=6) rfl rfl dC) (Vv (Gives.sV (c:=((r/64%256:Nat):Int)) rfl (u8w _)) ?_);refine Vv (Gives.Gi (c:=((r/64%64:Nat):Int)) rfl rfl (by rw[CZ oM];omega)) ?_;refine Vv (Gives.orE (c:=((128+r/64%64:Nat):Int)) rfl rfl (CY oM)) (Mv ?_);refine Vv (Gives.sV (c:=((r%256:Nat):Int)) rfl (u8w r)) (Vv (Gives.Gi (c:=((r%64:Nat):Int)) rfl rfl (by rw[CZ oM];omega)) ?_);refine Vv (Gives.orE (c:=((128+r%64:Nat):Int)) rfl rfl (CY oM)) (Bs H [cb (240+r/262144),cb (128+r/4096%64),cb (128+r/64%64),cb (128+r%64)] (λbs wi Hi ke=>?_));have G7:(encodeRune r).length=4:=by have:=zaw List.length (enc4 (r:=r) oM h1);simpa using this.symm
      rw[enc4 oM h1]at Hi;refine sK Hi At0 oM (hc':=G7.symm) (h:=?_);intro v2 wj Hj;refine Zb1 ?_;exact⟨_,rfl,trivial,Hj.turn⟩
    exact zat h1 oM
  exact zat h1 oM
theorem QB {v:Value} {l:L8} {F:NP} {r:Nat} (hp:(oD 5 v l).ok F w) (hl:l.length<=100000000) (h1:r<=1114111) (hs:r<55296\/57343<r):
    aN Tryz.prog 361 [v,I32 r] w λx w'=>∃v',x=v'/\True/\Turn F (oD 5 v' (l++encodeRune r)) w w':=by
  have H:=Sep.dZ hp;refine dS Tryz.func361 rfl rfl rfl rfl ?_;refine Zb2 ?_;refine Vv (Gives.sV (c:=(r:Int)) rfl (by rw[IntKind.wrap_u32];omega)) ?_;refine Za1 ?_;refine Qn (Cp rfl (λQh=>?_) (λQh=>?_))
  . have rA:encodeRune (r:Int)=[r.toUInt8]:=by unfold encodeRune;rw[encodeRuneZ_one oM oM];simp
    refine Zb2 ?_;refine Vv (Gives.sV (c:=((r%256:Nat):Int)) rfl (u8w r)) ?_;have hb:Value.int .u8 ((r%256:Nat):Int)=B r.toUInt8:=by rw[alO oM,Nat.mod_eq_of_lt oM];rfl
    refine pV H (xs:=[.tmp 10]) (out:=[r.toUInt8].map B) (bE.one hb rfl bE.nil) rfl rfl rfl (λbs wa Ha ka=>?_);refine sK Ha (news:=[r.toUInt8]) At0 (by simp;omega) (h:=?_);intro v2 wb Hb;rw[<-rA]at Hb;refine Zb1 ?_;exact⟨_,rfl,trivial,Hb.turn⟩
  refine Zb2 ?_;obtain⟨F0,fZ,iK,aQ⟩:=H.focus At0;refine aS (Uz fZ hl oM h1 hs) rfl rfl (λv' wc hv=>?_);obtain⟨v2,rfl,_,eB,F1,hq,jw⟩:=hv;have Hc:=aQ _ F1 _ eB hq jw;refine Zb1 ?_;exact⟨_,rfl,trivial,Hc.turn⟩
theorem UA {b:Nat} {l:L8} {F:NP} {r:Nat} (hp:(y7 b l).ok F w) (hl:l.length<=10000000) (h1:r<=1114111) (hs:r<55296\/57343<r):aN Tryz.prog 326 [aA b,I32 r] w λ_ w'=>Turn F (y7 b (l++encodeRune r)) w w':=by
 obtain⟨a,v,ha,H⟩:=Sep.PG (Sep.dZ hp);obtain⟨A,c,rfl,qQ,_,_⟩:=Sep.zq H At1;have hel:=Nz (r:Int)
 have iF:encodeRune (r:Int)≠[]:=by
  intro e;unfold encodeRune encodeRuneZ at e
  repeat' split at e
  all_goals simp at e
 refine dS Tryz.func326 rfl rfl rfl rfl ?_;refine Zb3 ?_;obtain⟨F0,fZ,iK,aQ⟩:=H.focus At0;refine aS (D9 ha.1 fZ) rfl rfl (λv' w5 hv=>?_);obtain⟨rfl,eB,F1,hq,jw⟩:=hv;have H5:=aQ _ F1 _ eB hq jw;refine aqF ?_;obtain⟨F0,fZ,iK,aQ⟩:=H5.focus At1;refine aS (QB fZ oM h1 hs) rfl rfl (λv' wa hv=>?_);obtain⟨v2,rfl,_,eB,F1,hq,jw⟩:=hv;have Ha:=aQ _ F1 _ eB hq jw;obtain⟨A2,c2,rfl,_⟩:=Sep.zq Ha At1;refine Zb2 ?_;refine bM Ha (h:=λwb Hb=>?_);refine Zb9 ?_;exact(Sep.TT ⟨.inr rfl,λe=>zat (List.append_eq_nil_iff.1 e).2 iF⟩ Hb).turn
end
end Go.Proofs.YtkfpleidaoaonaaGreatDoor
namespace Go.Mw
open Go.RowKit
section
variable {P:Program} {r:Option Nat} {n:Nat} {ops:AO} {Q:Post} {rest:LO} {σ:St} {w w0:Wd} {S:NP} {rs:List HP} {put:HP->List HP} {ty:Td} {pos:String} {after:Array Edge}
theorem ade {d:Nat} {x:Od} {T:Td} [ht:nZ P T] {s:ByteArray} (H:Sep w0 S rs w) (hx:evF σ x=.string s:=by exact rfl) (hd:Nat.blt d n=true:=by exact rfl)
    (h: ∀k w',Sep w0 S (obj k (.stringIter s 0)::rs) w'->FL P r n ops Q rest (upd σ d (.pointer (some ⟨k,0,none⟩))) w'):FL P r n ops Q (⟨some d,.range T x,ty,pos,after,none⟩::rest) σ w:=by
  obtain⟨k,w',hg,hs⟩:=Uy (P:=P) (ty:=ty) (T:=T) H hx;exact dU hg hd (h k w' hs)
theorem afQ {d:Nat} {x:Od} {s:ByteArray} {k i:Nat} (H:Sep w0 S rs w) (hat:At rs (obj k (.stringIter s i)) put)
    (h1:i<s.size->∀w',Sep w0 S (put (obj k (.stringIter s (i+(Utf8.decode s i).2)))) w'->FL P r n ops Q rest (upd σ d (.tuple #[.bool true,.int .i64 i,.int .i32 (Utf8.decode s i).1])) w')
    (h2: ¬i<s.size->FL P r n ops Q rest (upd σ d (.tuple #[.bool false])) w) (hx:evF σ x=.pointer (some ⟨k,0,none⟩):=by exact rfl) (hd:Nat.blt d n=true:=by exact rfl):
    FL P r n ops Q (⟨some d,.next x true,ty,pos,after,none⟩::rest) σ w:=by
  by_cases h:i<s.size
  . obtain⟨w',hg,hs⟩:=WK (P:=P) (ty:=ty) H hat hx h
    exact dU hg hd (h1 h w' hs)
  exact dU (QA (P:=P) (ty:=ty) H hat hx h) hd (h2 h)
end
end Go.Mw
namespace Go.Proofs.YtkfpleidaoaonaaGreatDoor
open Go Go.Mw Go.Lib
attribute [local irreducible] FW FL FG FGn gu gy dh gH Qfn Gives
theorem afR {r:Nat} (h:128<=r) (h1:r<=1114111): ∀c∈encodeRune (r:Int),128<=c.toNat:=by
 intro c hc;unfold encodeRune at hc;obtain⟨x,hx,rfl⟩:=zaq.1 hc;unfold encodeRuneZ at hx;rw[zab oM]at hx
 repeat' split at hx
 all_goals (simp only[zap,zaj,or_false]at hx)
 all_goals (rcases hx with rfl | rfl | rfl | rfl<;>simp<;>omega)
theorem ZX {l:L8} (h: ∀c∈l,128<=c.toNat):l.flatMap mo=l:=by
 induction l with
 | nil=>rfl
 | cons c t ih=>
  rw[zbg,Mx (h c sM),ih (λx hx=>h x (by simp[hx]))];rfl
theorem ZY (r:Nat) (h1:r<=1114111) (h:r<55296\/57343<r):Utf8.valid (r:Int)=true:=by
 simp[Utf8.valid];omega
theorem anO (r:Nat) (v:Utf8.valid (r:Int)=true) (c1:r<128):(Utf8.encode (r:Int)).data.toList=[UInt8.ofNat r]:=by
 simp[Utf8.encode,v,c1]
theorem anP (r:Nat) (v:Utf8.valid (r:Int)=true) (c1: ¬r<128) (c2:r<2048):(Utf8.encode (r:Int)).data.toList=[UInt8.ofNat (192+r/64),UInt8.ofNat (128+r%64)]:=by
 simp[Utf8.encode,v,c1,c2]
theorem anQ (r:Nat) (v:Utf8.valid (r:Int)=true) (c1: ¬r<128) (c2: ¬r<2048) (c3:r<65536):(Utf8.encode (r:Int)).data.toList=[UInt8.ofNat (224+r/4096),UInt8.ofNat (128+r/64%64),UInt8.ofNat (128+r%64)]:=by
 simp[Utf8.encode,v,c1,c2,c3]
theorem anR (r:Nat) (v:Utf8.valid (r:Int)=true) (c1: ¬r<128) (c2: ¬r<2048) (c3: ¬r<65536):(Utf8.encode (r:Int)).data.toList=[UInt8.ofNat (240+r/262144),UInt8.ofNat (128+r/4096%64),UInt8.ofNat (128+r/64%64),UInt8.ofNat (128+r%64)]:=by
 simp[Utf8.encode,v,c1,c2,c3]
theorem FC (n:Nat) (z:Int) (e:z.toNat=n):z.toNat.toUInt8=UInt8.ofNat n:=by rw[e]
theorem Jk (r:Int) (l:L8) (e:(Utf8.encode r).data.toList=l):Nc r=l:=by
 have h2:Utf8.encode r=⟨(Nc r).toArray⟩:=Value.string.inj (O5 r);have h3:=zaw (λb:ByteArray=>b.data.toList) h2;exact h3.symm.trans e
theorem UC (r:Nat) (h1:r<=1114111) (h:r<55296\/57343<r):Nc (r:Int)=encodeRune (r:Int):=by
 have v:=ZY r h1 h;unfold encodeRune
 by_cases c1:r<128
 .have e1:=FC r (r:Int) oM
  rw[encodeRuneZ_one oM oM,Jk _ _ (anO r v c1),zax,zcr,e1]
 by_cases c2:r<2048
 .have e1:=FC (192+r/64) (192+(r:Int)/64) oM
  have e2:=FC (128+r%64) (128+(r:Int)%64) oM;rw[encodeRuneZ_two oM oM,Jk _ _ (anP r v c1 c2),zax,zax,zcr,e1,e2]
 by_cases c3:r<65536
 .have e1:=FC (224+r/4096) (224+(r:Int)/4096) oM
  have e2:=FC (128+r/64%64) (128+(r:Int)/64%64) oM;have e3:=FC (128+r%64) (128+(r:Int)%64) oM;rw[encodeRuneZ_three oM,Jk _ _ (anQ r v c1 c2 c3),zax,zax,zax,zcr,e1,e2,e3]
 have e1:=FC (240+r/262144) (240+(r:Int)/262144) oM;have e2:=FC (128+r/4096%64) (128+(r:Int)/4096%64) oM;have e3:=FC (128+r/64%64) (128+(r:Int)/64%64) oM;have e4:=FC (128+r%64) (128+(r:Int)%64) oM;rw[encodeRuneZ_four oM oM,Jk _ _ (anR r v c1 c2 c3),zax,zax,zax,zax,zcr,e1,e2,e3,e4]
theorem Z0 {s:L8} {r n:Nat} (h:l6 s=some (r,n)):r<=1114111/\(r<55296\/57343<r):=by
 unfold l6 at h
 split at h
 .cases h
 rename_i hn;injection h with h
 have h1:(decodeL s).1=r:=by rw[h]
 have h2:(decodeL s).2=n:=by rw[h]
 rw[decodeL_N]at h1 h2 hn;have hb:(s.getD 0 0).toNat<256:=(s.getD 0 0).toNat_lt
 rcases decodeN_shape s.length (s.getD 0 0).toNat (s.getD 1 0).toNat (s.getD 2 0).toNat (s.getD 3 0).toNat with⟨a,e⟩ | ⟨a1,a2,a3,a4,e⟩ | ⟨a1,a2,a3,a4,a5,a6,e⟩ | ⟨a1,a2,a3,a4,a5,a6,a7,e⟩ | e
 .rw[e]at h1;simp only at h1;omega
 .rw[e]at h1;simp only at h1;omega
 .rw[e]at h1;simp only at h1;omega
 .rw[e]at h1;simp only at h1;omega
 rw[e]at hn;exact zat (.inr ⟨rfl,rfl⟩) hn
theorem afS {s:L8} {r n:Nat} (h:l6 s=some (r,n)) (hr:r<128):n=1/\s.take 1=[r.toUInt8]:=by
 obtain⟨_,h1,h2,h3⟩:=xV h;have e:encodeRune (r:Int)=[r.toUInt8]:=by unfold encodeRune;rw[encodeRuneZ_one oM oM];simp
 rw[e]at h3;have:=zaw List.length h3;rw[zag]at this;simp at this;have hn:n=1:=oM;subst hn;exact⟨rfl,h3.symm⟩
theorem adf {l:L8} {i:Nat} (hv:validD (l.drop i)=true) (bX:i<l.length): ∃r n:Nat,Utf8.decode ⟨l.toArray⟩ i=(r,n)/\1<=n/\i+n<=l.length/\validD (l.drop (i+n))=true/\r<=1114111/\(r<55296\/57343<r)/\
    (r<128->JW l (i+n)=JW l i++mo r.toUInt8)/\(128<=r->JW l (i+n)=JW l i++encodeRune (r:Int)):=by
  have iF:l.drop i≠[]:=λe=>by have:=zaw List.length e;rw[zbu]at this;simp at this;omega
  have hs:=O8 iF;rw[hv]at hs;cases hx:l6 (l.drop i)with
  | none=>rw[hx]at hs;cases hs
  | some p=>
    obtain⟨r,n⟩:=p;rw[hx]at hs;dsimp only at hs;obtain⟨e1,h1,h2,h3⟩:=xV hx;obtain⟨s1,s2⟩:=Z0 hx;rw[zbu]at h2;have hd:Utf8.decode ⟨l.toArray⟩ i=(r,n):=by rw[<-decodeL_drop];exact e1
    have hdv:validD (l.drop (i+n))=true:=by
      rw[zfw]at hs;exact hs.symm
    have afr:JW l (i+n)=JW l i++((l.drop i).take n).flatMap mo:=by
      unfold JW;rw[List.take_add,zcd];rfl
    refine⟨r,n,hd,h1,oM,hdv,s1,s2,λh=>?_,λh=>?_⟩
    . obtain⟨hn,ht⟩:=afS hx h
      rw[afr,hn,ht];simp
    rw[afr,<-h3,ZX (λc hc=>afR h s1 c hc)]
theorem WO {r:Nat} {c:UInt8} (h:Bo r=some c):r<128/\mo r.toUInt8=[92]++encodeRune (c.toNat:Int)/\c.toNat<128:=by
 unfold Bo at h
 by_cases h1:(r:Int)=34
 .rw[zac h1]at h;injection h with h;subst h;have :r=34:=oM
  subst this;exact⟨dC,dC,dC⟩
 rw[zab h1]at h
 by_cases h1:(r:Int)=92
 .rw[zac h1]at h;injection h with h;subst h;have :r=92:=oM
  subst this;exact⟨dC,dC,dC⟩
 rw[zab h1]at h
 by_cases h1:(r:Int)=8
 .rw[zac h1]at h;injection h with h;subst h;have :r=8:=oM
  subst this;exact⟨dC,dC,dC⟩
 rw[zab h1]at h
 by_cases h1:(r:Int)=12
 .rw[zac h1]at h;injection h with h;subst h;have :r=12:=oM
  subst this;exact⟨dC,dC,dC⟩
 rw[zab h1]at h
 by_cases h1:(r:Int)=10
 .rw[zac h1]at h;injection h with h;subst h;have :r=10:=oM
  subst this;exact⟨dC,dC,dC⟩
 rw[zab h1]at h
 by_cases h1:(r:Int)=13
 .rw[zac h1]at h;injection h with h;subst h;have :r=13:=oM
  subst this;exact⟨dC,dC,dC⟩
 rw[zab h1]at h
 by_cases h1:(r:Int)=9
 .rw[zac h1]at h;injection h with h;subst h;have :r=9:=oM
  subst this;exact⟨dC,dC,dC⟩
 rw[zab h1]at h;cases h
theorem Z4 {r:Nat} (h:Bo r=none):(r<32->mo r.toUInt8=[92,117,48,48,pK (r/16),pK (r%16)])/\(32<=r->r<128->mo r.toUInt8=encodeRune (r:Int)):=by
 have iF:r≠34/\r≠92/\r≠8/\r≠12/\r≠10/\r≠13/\r≠9:=by
  refine⟨?_,?_,?_,?_,?_,?_,?_⟩<;>(intro e;subst e;revert h;decide)
 constructor
 .intro h32
  have hn:(r.toUInt8).toNat=r:=by simp;omega
  rw[Pk,hn,zab oM,zab oM,zab oM,zab oM,zab oM,zab oM,zab oM,zac h32]
 intro h32 h128;have hn:(r.toUInt8).toNat=r:=by simp;omega
 rw[Pk,hn,zab oM,zab oM,zab oM,zab oM,zab oM,zab oM,zab oM,zab oM];unfold encodeRune;rw[encodeRuneZ_one oM oM];simp
section
variable {w:Wd}
theorem ak2 {x:Nat} (h:x<32):bits .and .i32 (x:Int) 15=((x%16:Nat):Int):=by
 have key: ∀i:Fin 32,bits .and .i32 (i.val:Int) 15=((i.val%16:Nat):Int):=dC;exact key ⟨x,h⟩
set_option maxRecDepth 4000
theorem adg (l:L8) (hl:l.length<=1000000) (hT:pO w):aN Tryz.prog 246 [str l] w λv w'=>v=.tuple #[str (Lc l).1,I (Lc l).2]/\Kept noB w w':=by
 have H:=Sep.aL w;refine eP Tryz.func246 rfl rfl rfl rfl ?_;refine Zb3 ?_;refine aF H (MG l oM (hT.keep H.kept)) (h:=λw5 H5 k4=>?_);refine Za1 ?_;refine Qn (Cd rfl (λqx=>?_) (λqx=>?_))
 .have hq:Lc l=([],40):=zab (by simpa using qx)
  refine Zb2 ?_;exact⟨by rw[hq];rfl,H5.kept⟩
 have hv:validD l=true:=by simpa using qx
 have hq:Lc l=(yM l,0):=zac hv;refine Zb0 ?_;refine aW H5 (h:=λb4 wa Ha ka=>?_);replace Ha:=Sep.ako Ha;refine Nx ?_;obtain⟨F0,fZ,iK,aQ⟩:=Ha.focus At0;refine aS (xI 34 fZ sM) rfl rfl (λv' wb hv=>?_);obtain⟨rfl,eB,F1,tC,hs⟩:=hv;have Hb:=aQ _ F1 _ eB tC hs;refine Nx (aS (WM) rfl rfl (λv' wc hv=>?_));obtain⟨m,rfl,_,eB,F1,tC,jw⟩:=hv;have Hc:=Hb.new eB tC (λb hb=>(jw b hb).resolve_left id);refine Zb2 ?_;refine ade Hc (h:=λk wd Hd=>?_);refine Zb0 ?_;refine aP (λ_:Nat=>[(0,str l),(4,aA b4),(5,.map (some m)),(16,.pointer (some ⟨k,0,none⟩))]) (λi w'=>(i<=l.length/\validD (l.drop i)=true)/\Sep w noB [obj k (.stringIter ⟨l.toArray⟩ i),obj m (.map jC 7),y7 b4 (JW l i)] w') (λi _=>l.length-i) 0 tR ⟨⟨zak _,hv⟩,Hd⟩ (λi τ we hI=>?_);obtain⟨⟨hi,hvd⟩,He⟩:=hI
 try simp only[dA,like,bB,bY]
 refine Sr (afQ He At0 (h1:=λakv wf Hf=>?_) (h2:=λakv=>?_))
 .have bX:i<l.length:=by rw[Mw.size_mk]at akv;exact akv
  obtain⟨r,n,aoy,Kl,hin,hvn,Zn,V7,Ng,aoz⟩:=adf hvd bX;rw[aoy]at Hf;rw[aoy];have hol:=YB l i;have hel:=Nz (r:Int);refine Zb5 ?_;refine dU (Qz (zv:=B 0) (i:=(r:Int)) (Hf.obj At1) WL rfl rfl) rfl ?_;rw[ZW,show((Bo (r:Int)).map B).getD (B 0)=B ((Bo (r:Int)).getD 0)from by cases Bo (r:Int)<;>rfl,Option.isSome_map];refine Za7 ?_;refine Qn (Cd rfl (λIa=>?_) (λIa=>?_))
  .obtain⟨c,hc⟩:=zeu.1 Ia
   obtain⟨hr7,hqb,qx⟩:=WO hc;rw[hc,zdk];refine Zb1 ?_;refine Vv (Gives.acO (a:=(c.toNat:Int)) rfl oM) (Vv (Gives.ahx rfl) ?_);rw[UC c.toNat oM oM];have aue:=Nz (c.toNat:Int);refine Vv (Gives.Yq rfl rfl (by simp;omega)) ?_;obtain⟨F0,fZ,iK,aQ⟩:=Hf.focus At2;refine aS (yR sM fZ (by simp;omega)) rfl rfl (λv' wg hv=>?_);obtain⟨rfl,eB,F1,tC,hs⟩:=hv;have Hg:=aQ _ F1 _ eB tC hs;rw[<-hqb,<-Ng hr7]at Hg;refine Zb0 ?_;exact ak (i+n) tR ⟨⟨hin,hvn⟩,Hg⟩ oM
  have ac0:Bo (r:Int)=none:=by simpa using Ia
  obtain⟨aqO,aoA⟩:=Z4 ac0;refine Za3 ?_;refine Qn (Cp rfl (λIb=>?_) (λIb=>?_))
  .refine Ds (λSa wh Hh=>?_)
   refine Zb1 ?_;refine GS (Gn rfl (λ_=>(Gives.Gj (m:=r) (s:=4) rfl rfl dC)) ?_);refine Zb1 ?_;refine GS (Gn rfl (λ_=>(Gives.Gj (m:=r) (s:=4) rfl rfl dC)) ?_);refine GS (Gn rfl (λ_=>(Gives.ahQ (c:=((r/16+1:Nat):Int)) rfl rfl (by rw[IntKind.wrap_i32];omega))) ?_);refine GS (Gn rfl (λ_=>(Gives.GJ (l:=vV) (i:=r/16) (m:=r/16+1) rfl rfl rfl oM (by show r/16+1<=16;first | done | omega))) ?_);rw[TK oM];refine Zb2 ?_;refine GS (Gn rfl (λ_=>(Gives.Gi (c:=((r%16:Nat):Int)) rfl rfl (ak2 oM))) ?_);refine Zb1 ?_;refine GS (Gn rfl (λ_=>(Gives.Gi (c:=((r%16:Nat):Int)) rfl rfl (ak2 oM))) ?_);refine GS (Gn rfl (λ_=>(Gives.ahQ (c:=((r%16+1:Nat):Int)) rfl rfl (by rw[IntKind.wrap_i32];omega))) ?_);refine GS (Gn rfl (λ_=>(Gives.GJ (l:=vV) (i:=r%16) (m:=r%16+1) rfl rfl rfl oM (by show r%16+1<=16;first | done | omega))) ?_);rw[TK oM];refine Zb1 ?_;have hq6:=aqO oM;obtain⟨F0,fZ,iK,aQ⟩:=Hh.focus At2;refine fO Sa 14 [] rfl kR (yR (news:=mo r.toUInt8) (by rw[hq6];simp) fZ (by rw[hq6];simp;omega)) (by rw[hq6];rfl) kR kR (λv' wi hv=>?_);obtain⟨rfl,eB,F1,tC,hs⟩:=hv;have Hi:=aQ _ F1 _ eB tC hs;rw[<-Ng oM]at Hi;refine⟨sT,?_⟩;refine Zb0 ?_;exact ak (i+n) tR ⟨⟨hin,hvn⟩,Hi⟩ oM
  refine Zb1 ?_;obtain⟨F0,fZ,iK,aQ⟩:=Hf.focus At2;refine aS (UA fZ oM Zn V7) rfl rfl (λv' wj hv=>?_);obtain⟨eB,F1,tC,hs⟩:=hv;have Hj:=aQ _ F1 _ eB tC hs
  have afr:JW l i++encodeRune (r:Int)=JW l (i+n):=by
   by_cases h128:r<128
   .rw[Ng h128,aoA oM h128]
   exact(aoz oM).symm
  rw[afr]at Hj;refine Zb0 ?_;exact ak (i+n) tR ⟨⟨hin,hvn⟩,Hj⟩ oM
 have qp:i=l.length:=by rw[Mw.size_mk]at akv;omega
 have iq:JW l i++[34]=yM l:=by
  rw[qp];unfold JW yM;rw[zbl];rfl
 refine Zb1 ?_;have hol:=YB l i;obtain⟨F0,fZ,iK,aQ⟩:=He.focus At2;refine aS (xI 34 fZ oM) rfl rfl (λv' wk hv=>?_);obtain⟨rfl,eB,F1,tC,hs⟩:=hv;have Hk:=aQ _ F1 _ eB tC hs;rw[iq]at Hk;refine Nx ?_;have auf:(yM l).length<=6000008:=by rw[<-iq,zad];simp;omega
 obtain⟨F0,fZ,iK,aQ⟩:=Hk.focus At2;refine aS (E9 fZ oM) rfl rfl (λv' wl hv=>?_);obtain⟨rfl,eB,F1,tC,hs⟩:=hv;have Hl:=aQ _ F1 _ eB tC hs;refine Zb2 ?_;exact⟨by rw[hq];rfl,Hl.kept⟩
end
end Go.Proofs.YtkfpleidaoaonaaGreatDoor
namespace Go.Mw
open Go.RowKit
section
variable {P:Program} {r:Option Nat} {n:Nat} {ops:AO} {Q:Post} {rest:LO} {σ:St} {w w0:Wd} {S:NP} {rs:List HP} {ty:Td} {pos:String} {after:Array Edge} {l:L8}
theorem adh {d:Nat} {s t e:Td} {x:Od} [hs:nZ P s] [ht:dD P t e] [he:lF P e .u8] (H:Sep w0 S rs w) (hx:evF σ x=str l:=by exact rfl) (hd:Nat.blt d n=true:=by exact rfl)
    (h: ∀b c o w',(∀w2:Wd,w2.heap[b]? =some o->jB w2 (some ⟨b,0,none⟩) l.length 1 (l.map λu=>Value.int .u8 u.toNat))->l.length<=c->Sep w0 S (obj b o::rs) w'->FL P r n ops Q rest (upd σ d (.slice (some ⟨b,0,none⟩) l.length c)) w'):
    FL P r n ops Q (⟨some d,.convert s t x,ty,pos,after,none⟩::rest) σ w:=by
  have jG:=run_bytes_of_string (P:=P) w s t e ⟨l.toArray⟩ hs.und ht.und he.und;rw[size_mk]at jG;have Ck:Kept noB w w.drew:=Kept.drew w;refine dU (v:=.slice (some ⟨w.heap.size,0,none⟩) l.length (grownCap w l.length 0 e)) (w':=w.drew.alloc (.cells (bytesRow ⟨l.toArray⟩ (grownCap w l.length 0 e)) e ((bytesRow ⟨l.toArray⟩ (grownCap w l.length 0 e)).size,(bytesRow ⟨l.toArray⟩ (grownCap w l.length 0 e)).size+1))) (λ_ _ _ _=>?_) hd (h _ _ _ _ (λw2 hw2=>?_) (grownCap_ge w l.length 0 e) ((H.keep Ck).alloc _))
  . simp only[execOp,hx,str,zbk,jG,zas,zbn]
  refine⟨sM,λ_=>⟨_,rfl,λj u hu=>?_⟩⟩;rw[Addr.add_lit,zds];have hj:=(zbd.1 hu).1
  have e0:w2.cell? ⟨w.heap.size,j,none⟩=(bytesRow ⟨l.toArray⟩ (grownCap w l.length 0 e))[j]? :=by
    unfold World.cell?;have hw3:w2.heap[w.heap.size]? =_:=hw2;simp only[hw3];rfl
  rw[e0];unfold bytesRow;rw[zfs (by simpa using hj)];simpa using hu
end
end Go.Mw
namespace Go.Proofs.YtkfpleidaoaonaaGreatDoor
open Go Go.Mw Go.Lib
set_option maxRecDepth 4000
attribute [local irreducible] FW FL FG FGn gu gy dh gH Qfn Gives
structure fA (w:Wd):Prop where
 utf:pO w
 pow:Lib.TabIs Tryz.prog w "internal/strconv.uint64pow10" .u64 Lib.pow10Tab
 syn: ∃tp p,w.var? Tryz.prog "strconv.ErrSyntax" =some #[.iface tp p]
 ran: ∃tp p,w.var? Tryz.prog "strconv.ErrRange" =some #[.iface tp p]
 len: ∃m,w.cell? ⟨0,0,none⟩=some (.int .i64 m)
theorem NQ {P:Program} {w w':Wd} {n:String} {cs:Array Value} (hk:Kept noB w w') (h:w.var? P n=some cs):w'.var? P n=some cs:=by
 unfold World.var? at h ⊢;cases hg:P.globalNamed n with
 | none=>rw[hg]at h;cases h
 | some g=>
  rw[hg]at h;simp only[zdr]at h |-
  have bX:g<w.heap.size:=by
   refine Classical.byContradiction λhn=>?_;rw[zdi oM]at h;cases h
  rw[hk.block g bX id];exact h
theorem adi {w w':Wd} {b o:Nat} {v:Value} (hk:Kept noB w w') (h:w.cell? ⟨b,o,none⟩=some v):w'.cell? ⟨b,o,none⟩=some v:=by
 have bX:b<w.heap.size:=by
  refine Classical.byContradiction λhn=>?_;unfold World.cell? at h;rw[zdi dO]at h;cases h
 unfold World.cell? at h ⊢;rw[hk.block b bX id];exact h
theorem fA.keep {w w':Wd} (h:fA w) (hk:Kept noB w w'):fA w':=
 ⟨h.utf.keep hk,NQ hk h.pow,h.syn.imp λ_ h=>h.imp λ_ h=>NQ hk h,h.ran.imp λ_ h=>h.imp λ_ h=>NQ hk h,h.len.imp λ_ h=>adi hk h⟩
def afT (c:UInt8):LV:=[B c]
instance:lY afT 1:=⟨λ_=>rfl⟩
theorem NR: ∀l:L8,l.flatMap afT=l.map B
 | []=>rfl
 | c::l=>by rw[zbg,NR l];rfl
theorem WQ {w:Wd} {A:OA} {l:L8} (h:jB w A l.length 1 (l.map λu=>Value.int .u8 u.toNat)):Rd w A afT 1 l:=by
 unfold Rd;rw[NR];exact h
theorem ab8 {n:Nat} (h:n<16):vV.getD n 0=pK n:=by
 have key: ∀i:Fin 16,vV.getD i.val 0=pK i.val:=dC;exact key ⟨n,h⟩
theorem alP {x:Nat} (h:x<256):bits .and .u8 (x:Int) 15=((x%16:Nat):Int):=by
 have key: ∀i:Fin 256,i.val&&& 15=i.val%16:=dC;have:=u8_and_nat x 15 h dC;rw[key ⟨x,h⟩]at this;exact this
section
variable {w:Wd}
theorem ajg (c:aI) (hl:c.s.length<=1000000):aN Tryz.prog 283 [agg (aj c)] w λv w'=>v=str (120::AX c.s)/\Kept noB w w':=by
 have H:=Sep.aL w;refine eP Tryz.func283 rfl rfl rfl rfl ?_;refine Sr (dz H (h:=λb1 w2 H2 k1=>?_));refine Zb1 ?_;refine aW H2 (h:=λb3 w5 H5 k4=>?_);replace H5:=Sep.ako H5;refine Nx ?_;obtain⟨F0,fZ,iK,aQ⟩:=H5.focus At0;refine aS (yR (news:=[120]) sM fZ sM) rfl rfl (λv' w7 hv=>?_);obtain⟨rfl,eB,F1,tC,hs⟩:=hv;have H7:=aQ _ F1 _ eB tC hs;refine Zb2 ?_;refine adh H7 (h:=?_);intro b9 c9 o9 wa hr9 Jf Ha;refine Zb2 ?_;refine aP (λi:Nat=>[(3,aA b3),(9,.slice (some ⟨b9,0,none⟩) c.s.length c9),(10,I c.s.length),(11,I i)]) (λi w'=>i<=c.s.length/\Sep w noB [obj b9 o9,y7 b3 (120::AX (c.s.take i))] w') (λi _=>c.s.length-i) 0 tR ⟨zak _,(Ha.aJ.aJ).firsts (l:=[_,_])⟩ (λi τ wb hI=>?_);obtain⟨hi,Hb⟩:=hI
 try simp only[dA,like,bB,bY]
 refine Za1 ?_;refine Qn (fC (Cp rfl (λIa=>?_) (λIa=>?_)))
 .have bX:i<c.s.length:=oM
  obtain⟨x,hx⟩:=get_some bX;have ZM:=aeU bX;rw[qg hx]at ZM;have hxl:=ME (c.s.take i);rw[zag]at hxl;have V8:=x.toNat_lt;refine Zb0 ?_;refine Vv (Gives.mK rfl rfl (WQ (hr9 _ (Hb.obj At0))) bX) (Vv (Gives.TM (i:=i) (f:=0) (c:=x) rfl (WQ (hr9 _ (Hb.obj At0))) hx rfl) ?_);refine Zb2 ?_;refine Vv (Gives.Gj (m:=x.toNat) (s:=4) rfl rfl dC) (Vv (Gives.CO (l:=vV) (i:=x.toNat/16) rfl rfl (by show x.toNat/16<16;omega)) ?_);rw[ab8 oM];obtain⟨F0,fZ,iK,aQ⟩:=Hb.focus At1;refine aS (xI _ fZ (by simp;omega)) rfl rfl (λv' wc hv=>?_);obtain⟨rfl,eB,F1,tC,hs⟩:=hv;have Hc:=aQ _ F1 _ eB tC hs;refine Zb1 ?_;refine Vv (Gives.Gi (c:=((x.toNat%16:Nat):Int)) rfl rfl (alP V8)) (Vv (Gives.CO (l:=vV) (i:=x.toNat%16) rfl rfl (by show x.toNat%16<16;omega)) ?_);rw[ab8 oM];obtain⟨F0,fZ,iK,aQ⟩:=Hc.focus At1;refine aS (xI _ fZ (by simp;omega)) rfl rfl (λv' wd hv=>?_);obtain⟨rfl,eB,F1,tC,hs⟩:=hv;have Hd:=aQ _ F1 _ eB tC hs;rw[show(120::AX (c.s.take i))++[pK (x.toNat/16)]++[pK (x.toNat%16)]=120::AX (c.s.take (i+1))from by rw[ZM];simp]at Hd;refine Zb2 ?_;exact ak (i+1) tR ⟨oM,Hd⟩ oM
 have qp:i=c.s.length:=oM;refine Zb0 ?_;have aui:=ME c.s;rw[qp,zbl]at Hb;obtain⟨F0,fZ,iK,aQ⟩:=Hb.focus At1;refine aS (E9 fZ (by simp;omega)) rfl rfl (λv' we hv=>?_);obtain⟨rfl,eB,F1,tC,hs⟩:=hv;have He:=aQ _ F1 _ eB tC hs;refine Zb1 ?_;exact⟨rfl,He.kept⟩
end
end Go.Proofs.YtkfpleidaoaonaaGreatDoor
namespace Go.Mw
section gives
variable {P:Program} {ρ:Od->Value} {ty:Td} {w:Wd} {x y:Od} {T U:Td} {k:IntKind} {a b c:Int}
theorem Gives.afU {yk:IntKind} (hx:ρ x=.int k a) (hy:ρ y=.int yk b) (h0:0<=b) (he:k.wrap (a*2^(Min.min b.toNat k.bits))=c):Gives P ρ (.binOp .shl T x y U) ty w (.int k c) w:=by subst he;exact Gives.shl hx hy h0
theorem Gives.anS {ts:Array Td} (hx:ρ x=.int k a) (hy:ρ y=.int k b) (he:Max.max a b=c):Gives P ρ (.call {callee:=.builtin .max,args:= #[x,y],argTypes:=ts}) ty w (.int k c) w:=by subst he;exact Gives.max hx hy
end gives
end Go.Mw
namespace Go.Proofs.YtkfpleidaoaonaaGreatDoor
open Go Go.Mw Go.Lib
set_option maxRecDepth 4000
attribute [local irreducible] FW FL FG FGn gu gy dh gH Qfn Gives
theorem Rm (c:UInt8):max 0 (Lib.indexByte vV c)=(((y5 c).getD 0:Nat):Int):=by
 have key: ∀i:Fin 256,max 0 (Lib.indexByte vV i.val.toUInt8)=(((y5 i.val.toUInt8).getD 0:Nat):Int):=by decide+kernel
 have:=key ⟨c.toNat,c.toNat_lt⟩;have e:(c.toNat).toUInt8=c:=sM;simpa only[e]using this
theorem Rn (c:UInt8):(y5 c).getD 0<16:=by
 unfold y5
 split
 .rw[zdk];omega
 split
 .rw[zdk];omega
 decide
theorem alQ {a b:Nat} (ha:a<16) (hb:b<16):bits .or .i64 ((16*a:Nat):Int) (b:Int)=((a*16+b:Nat):Int):=by
 have key: ∀i j:Fin 16,bits .or .i64 ((16*i.val:Nat):Int) (j.val:Int)=((i.val*16+j.val:Nat):Int):=by decide+kernel
 exact key ⟨a,ha⟩ ⟨b,hb⟩
theorem Z5 (a b:UInt8) (t:L8):vU (a::b::t)=((y5 a).getD 0*16+(y5 b).getD 0).toUInt8::vU t:=rfl
theorem UD {l:L8} (h:l.length<=1):vU l=[]:=by
 match l,h with
 | [],_=>rfl
 | [_],_=>rfl
section
variable {w:Wd}
theorem Bp (l:L8) (c:UInt8):aN Tryz.prog 112 [str l,B c] w λv w'=>v=I (Lib.indexByte l c)/\w=w':=
 nD (by
  have:=Tryz.strings_IndexByte ⟨l.toArray⟩ (c.toNat:Int) w;have e:((c.toNat:Int).toNat).toUInt8=c:=sM;rw[e]at this;exact this)
theorem UE (l p:L8):aN Tryz.prog 342 [str l,str p] w λv w'=>v=.tuple #[str (Lib.trimPrefix l p),.bool (Lib.hasPrefix l p)]/\w=w':=
 nD (Tryz.strings_CutPrefix ⟨l.toArray⟩ ⟨p.toArray⟩ w)
theorem adj (l:L8) (hl:l.length<=1000000) (h0:l.head?=some 120):aN Tryz.prog 284 [str l] w λv w'=>v=agg (aj ⟨false,0,vU (l.drop 1)⟩)/\Kept noB w w':=by
 have H:=Sep.aL w
 have aiA:Lib.trimPrefix l [120]=l.drop 1:=by
  cases l with
  | nil=>cases h0
  | cons c t=>
   injection h0 with h0
   subst h0;rfl
 refine sI Tryz.func284 rfl rfl rfl rfl ?_;refine Sr (aW H (h:=λb1 w2 H2 k1=>?_));refine Zb1 ?_;refine gX (UE l [120]) (h:=?_);rw[aiA];refine Zb5 ?_;have Ha:=H2.Yz 5;refine aP (λx:L8×L8×Value=>[(0,str x.1),(2,.pointer (some ⟨b1,0,none⟩)),(3,x.2.2)]) (λx w'=>(x.1.length<=l.length/\x.2.1.length+x.1.length<=l.length/\x.2.1++vU x.1=vU (l.drop 1))/\Sep w noB [oD 5 x.2.2 x.2.1,blk b1 (aj cell0) 52] w') (λx _=>x.1.length) (l.drop 1,[],.slice none 0 0) tR ⟨⟨by dsimp only;rw[zbu];omega,sM,rfl⟩,Ha⟩ (λx τ wa hI=>?_);obtain⟨s,acc,v1⟩:=x;obtain⟨⟨jO,Qv,gQ⟩,Ha⟩:=hI;dsimp only at jO Qv gQ Ha
 try simp only[dA,like,bB,bY]
 refine Za3 ?_;refine Qn (Cp rfl (λIa=>?_) (λIa=>?_))
 .have bX:1<s.length:=oM
  obtain⟨a,b,t,rfl⟩: ∃a b t,s=a::b::t:=by
   match s,bX with
   | a::b::t,_=>exact⟨a,b,t,rfl⟩
  rw[Z5]at gQ;have ha:=Rn a;have hb:=Rn b;have hbv:Value.int .u8 (((y5 a).getD 0*16+(y5 b).getD 0:Nat):Int)=B ((y5 a).getD 0*16+(y5 b).getD 0).toUInt8:=(alO oM).symm;simp only[zal]at jO Qv;refine Zb0 ?_;refine Ds (λSa wb Hb=>?_);refine Zb2 ?_;refine Gp Sa 2 rfl rfl (λ_=>(Gives.CO (i:=0) rfl rfl oM)) (Gm Sa 6 ?_);refine Gp Sa 7 rfl rfl (λ_=>(Gives.CO (i:=1) rfl rfl oM)) (Ny Sa 3 _ Hb (Bp vV a) (h:=λwc Hc=>⟨sT,?_⟩));refine GS (Gn rfl (λ_=>(Gives.anS rfl rfl (Rm a))) ?_);refine GS (Gn rfl (λ_=>(Gives.afU (c:=((16*(y5 a).getD 0:Nat):Int)) rfl rfl oM (by show IntKind.i64.wrap (((y5 a).getD 0:Nat)*16)=_;rw[IntKind.wrap_i64];omega))) ?_);refine Ny Sa 8 _ Hc (Bp vV b) (h:=λwd Hd=>⟨sT,?_⟩);refine GS (Gn rfl (λ_=>(Gives.anS rfl rfl (Rm b))) ?_);refine GS (Gn rfl (λ_=>(Gives.orE rfl rfl (alQ ha hb))) ?_);refine GS (Gn rfl (λ_=>(Gives.ahM rfl oM)) ?_);refine bU Sa 12 _ Hd (xs:=[.tmp 25]) (out:=[((y5 a).getD 0*16+(y5 b).getD 0).toUInt8].map B) (bE.one rfl rfl bE.nil) (h:=λbs we He=>⟨sT,?_⟩);refine aeS Sa 13 _ He (news:=[((y5 a).getD 0*16+(y5 b).getD 0).toUInt8]) At0 (by simp;omega) (h:=λv2 wf Hf=>⟨sT,?_⟩);refine yP Sa 14 _ (h:=⟨sT,?_⟩);refine Zb1 ?_;refine Vv (Gives.sG (l:=a::b::t) (i:=2) rfl rfl sM) ?_;refine Zb1 ?_;exact ak (t,acc++[((y5 a).getD 0*16+(y5 b).getD 0).toUInt8],v2) tR ⟨⟨dO,by dsimp only;rw[zad];simp;omega,by dsimp only;rw[zbs];exact gQ⟩,Hf⟩ (by simp;omega)
 have Q7:s.length<=1:=oM;rw[UD Q7,zci]at gQ;refine Zb1 ?_;refine Vv (Gives.amo Ha At0 rfl) (Vb (aj ⟨false,0,acc⟩) ?_);refine au Ha (h:=λwg Hg=>?_);refine Qn (fu (aX (h:=?_)));exact⟨_,jg Hg,by rw[gQ];rfl,Hg.kept⟩
end
end Go.Proofs.YtkfpleidaoaonaaGreatDoor
namespace Go.Proofs.YtkfpleidaoaonaaGreatDoor
open Go Go.Mw Go.Lib Tryz
set_option maxRecDepth 4000
attribute [local irreducible] FW FL FG FGn gu gy dh gH Qfn Gives
def jD:dJ:=⟨5,false⟩
def xw (c:aI):L8×Int:=if gN jD c=0 then(120::AX c.s,0)else([],gN jD c)
theorem afV {c:aI} (h:gN jD c=0):c.null=false/\c.s.length<=1024:=by
 unfold gN at h;have e:qK jD=true:=rfl;rw[e,zab dC]at h;cases hn:c.null with
 | true=>rw[hn,zac rfl]at h;split at h<;>rename_i hx;exact zat hx.1 dC;cases h
 | false=>
  rw[hn,zab dC]at h
  split at h
  .rename_i hx
   have :isC jD.kind c=decide (c.n=0/\c.s.length<=1024):=rfl;rw[this,decide_eq_true_eq]at hx;exact⟨rfl,hx.2⟩
  cases h
section
variable {w:Wd}
theorem NS (c:aI) (hf:fits c.n) (hT:pO w):aN prog 248 [agg (bD jD),agg (aj c)] w λv w'=>v=.tuple #[str (xw c).1,I (xw c).2]/\Kept noB w w':=by
 have H:=Sep.aL w;refine dS func248 rfl rfl rfl rfl ?_;refine Sr (dz H (cs:=bD jD) rfl (h:=λb0 w2 H2 k0=>?_));refine dz H2 (h:=λb3 w4 H4 k3=>?_);refine Zb4 ?_;refine aF H4 (xG jD c hf (hT.keep H4.kept)) (h:=λwa Ha k9=>?_);refine Za3 ?_;refine Qn (Cp rfl (λIa=>?_) (λIa=>?_))
 .have ay:xw c=([],gN jD c):=zab Ia
  refine Zb3 ?_;exact⟨by rw[ay];rfl,Ha.kept⟩
 have fq:gN jD c=0:=by simpa using Ia
 have ay:xw c=(120::AX c.s,0):=zac fq;obtain⟨hnn,Qi⟩:=afV fq;refine Za2 ?_;refine Qn (Cd rfl (λIb=>?_) (λIb=>?_))
 .exact zat Ib (by rw[hnn];decide)
 refine Zb0 ?_;refine Ds (λSa wb Hb=>?_);refine Zb1 ?_;refine nC Sa 3 Hb (h:=?_);refine fO Sa 1 [(3,false)] rfl kR (ahZ jD dC dC (hT.keep Hb.kept)) rfl kR kR (λv' wc hv=>?_);obtain⟨⟨isF,rfl,_⟩,eB⟩:=hv;have Hc:=Hb.keep eB;rw[show sZ jD.kind=kF5 from rfl];refine⟨(dN rfl kR (Gives.NM rfl (Hc.obj At0) (us:=aj c) rfl rfl) rfl (aK)),?_⟩;refine Zb1 ?_;refine jc Sa 4 _ (y:=.tmp 17) (f:=283) (fs:=[]) (cs:=[]) (vals:=[agg (aj c)]) rfl (ajg c oM) (h:=λv' wd hv=>?_);obtain⟨rfl,amC⟩:=hv;have Hd:=Hc.keep amC;refine⟨sT,?_⟩;refine Zb2 ?_;exact⟨by rw[ay];rfl,Hd.kept⟩
theorem Z6 (l:L8) (hl:l.length<=1000000) (h0:l.head?=some 120) (hT:pO w):aN prog 310 [agg (bD jD),str l] w λv w'=>(∃e,v=.tuple #[agg (aj ⟨false,0,JU l⟩),I e])/\Kept noB w w':=by
  have H:=Sep.aL w;obtain⟨s,hs⟩: ∃s,s=vU (l.drop 1):=⟨_,rfl⟩;have hrx:JU l=if 120::AX s=l/\s.length<=1024 then s else []:=by rw[hs];rfl
  have amD:gN jD ⟨false,0,s⟩=if s.length<=1024 then 0 else 90:=by
    have e:isC jD.kind ⟨false,0,s⟩=decide ((0:Int)=0/\s.length<=1024):=rfl;have e1:qK jD=true:=rfl;unfold gN;rw[e1,zab dC,zab sM,e]
    by_cases h:s.length<=1024<;>simp[h]
  refine DR func310 rfl rfl rfl rfl ?_;refine Sr (dz H (cs:=bD jD) rfl (h:=λb0 w2 H2 k0=>?_));refine aW H2 (h:=λb3 w4 H4 k3=>?_);refine Zb2 ?_;refine aF H4 (Ce jD) (h:=λw8 H8 k7=>?_);refine Za1 ?_;refine Qn (Cp rfl (λIa=>?_) (λIa=>?_))
  . exact zat Ia dC
  refine Zb1 ?_;refine aS (ahZ jD dC dC (hT.keep H8.kept)) rfl rfl (λv' wa hv=>?_);obtain⟨⟨isF,rfl,_⟩,eB⟩:=hv;have Ha:=H8.keep eB;rw[show sZ jD.kind=kF5 from rfl];refine Zb2 ?_;refine fB (f:=284) (fs:=[]) (cs:=[]) (vals:=[str l]) rfl (adj l hl h0) rfl rfl (λv' wb hv=>?_);obtain⟨rfl,eB⟩:=hv;have Hb:=Ha.keep eB;rw[<-hs];refine aW Hb (h:=λb19 wc Hc ka=>?_);refine au Hc (h:=λwd Hd=>?_);refine Za2 ?_;refine Qn (Cp rfl (λIb=>?_) (λIb=>?_))
  . have Uk:l=[110,117,108,108]:=Ib
    rw[Uk]at h0;cases h0
  refine Zb2 ?_;refine aF Hd (NS ⟨false,0,s⟩ ⟨(by show(-9223372036854775808:Int)<=0;decide),(by show(0:Int)<=9223372036854775807;decide)⟩ (hT.keep Hd.kept)) (h:=λwe He kb=>?_);refine Zb8 ?_;refine aC (t:=29) rfl (λSa=>?_) (λSa=>?_)
  . have qR:JU l=[]:=by
      rw[hrx,zab];rintro⟨_,h2⟩;refine Sa ?_;unfold xw;rw[amD,zac h2,zac rfl]
    refine Zb1 ?_;refine Vb (aj cell0) ?_;refine au He (h:=λwf Hf=>?_);refine Am ?_;refine Qn (Rs (aX (h:=?_)));exact⟨_,jh Hf,⟨4,by rw[qR];rfl⟩,Hf.kept⟩
  have hz:s.length<=1024:=by
    refine Classical.byContradiction λh=>Sa ?_;unfold xw;rw[amD,zab h,zab dC]
    decide
  have htx:(xw ⟨false,0,s⟩).1=120::AX s:=by
    unfold xw;rw[amD,zac hz,zac rfl]
  refine Za4 ?_;refine Qn (Cp rfl (λIc=>?_) (λIc=>?_))
  . have qR:JU l=[]:=by rw[hrx,zab (λh=>Ic (by rw[htx];exact h.1))]
    refine Sr (Vb (aj cell0) ?_);refine au He (h:=λwg Hg=>?_);refine Am ?_;refine Qn (Rs (aX (h:=?_)));exact⟨_,jh Hg,⟨4,by rw[qR];rfl⟩,Hg.kept⟩
  have LA:JU l=s:=by rw[hrx,zac ⟨by rw[<-htx];exact zbt.1 Ic,hz⟩]
  refine Zb1 ?_;refine au He (h:=λwh Hh=>?_);refine Am ?_;refine Qn (fu (aX (h:=?_)));exact⟨_,jh Hh,⟨0,by rw[LA];rfl⟩,Hh.kept⟩
end
end Go.Proofs.YtkfpleidaoaonaaGreatDoor
