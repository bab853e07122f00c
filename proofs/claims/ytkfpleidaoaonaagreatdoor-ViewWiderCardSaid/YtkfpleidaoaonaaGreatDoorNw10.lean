/-
 Maps keyed by int,told by a function;maps.Clone. Nothing of a given program stands here.
-/
import Derived.Test.YtkfpleidaoaonaaGreatDoorNw1
import Derived.Test.YtkfpleidaoaonaaGreatDoorNw9
import Derived.Laws.Externs
import Derived.MapKept
import Derived.Test.YtkfpleidaoaonaaGreatDoorNw3
import Derived.Laws.RangeAny
import Derived.Lib.OthersKept
import Derived.Laws.BitsAllLaws
set_option linter.unusedVariables false
set_option linter.unusedSimpArgs false
namespace Go.Mw.K32
open Go.Mw
open Go.RowKit

def nO (k:Int) (e:MapEntry):Bool:=match e.key with
 | .int .i32 a=>a==k
 | _=>false
def CG (es:List MapEntry) (k:Int):Option Value:=(es.find? (nO k)).map (·.val)
def intKeys (es:List MapEntry):Prop:=∀e∈es,∃a,e.key=.int .i32 a
section
variable {w0 w w':Wd} {S:NP} {rs:List HP} {put:HP->List HP} {P:Program}
theorem ze (k:Int): ∀(es:List MapEntry) (i:Nat),intKeys es->∃r,Instr.findNow (.int .i32) (.int .i32 k) es i=some r/\r.map (·.2)=CG es k/\
    (∀j v,r=some (j,v)->∃m,j=i+m/\∃e,es[m]? =some e/\nO k e=true/\es.find? (nO k)=some e/\∀m' e',m'<m->es[m']? =some e'->nO k e'=false):=by
  intro es
  induction es with
  | nil=>intro i _;exact⟨none,rfl,rfl,λ_ _ h=>by cases h⟩
  | cons e es ih=>
    intro i hk;obtain⟨a,ha⟩:=hk e zae;obtain⟨r,h1,h2,h3⟩:=ih (i+1) λx hx=>hk x (zag _ hx);have hs:Instr.sameNow (.int .i32) (.int .i32 k) e.key=some (k==a):=by rw[ha];simp[Instr.sameNow]
    have Mi:nO k e=(a==k):=by unfold nO;rw[ha]
    by_cases Yt:k=a
    . subst Yt
      have hkt:nO k e=true:=by rw[Mi];simp
      refine⟨some (i,e.val),?_,?_,?_⟩
      . unfold Instr.findNow;rw[hs];simp
      . simp[CG,hkt]
      rintro j v Mj;injection Mj with Mj
      injection Mj with h4 h5
      exact⟨0,oM,e,rfl,hkt,by simp[hkt],λm' _ hm=>oM⟩
    have Zy:nO k e=false:=by rw[Mi];simpa using λh:a=k=>Yt h.symm
    refine⟨r,?_,?_,?_⟩
    . unfold Instr.findNow;rw[hs,h1]
      have :(k==a)=false:=by simpa using Yt
      rw[this]
    . rw[h2];simp[CG,Zy]
    rintro j v Mj;obtain⟨m,hm,e',Zz,hk',hf',bH⟩:=h3 j v Mj;refine⟨m+1,oM,e',by simpa using Zz,hk',by simp[Zy,hf'],λm' e'' qX Mk=>?_⟩;cases m' with
    | zero=>simp at Mk;rw[<-Mk];exact Zy
    | succ m'=>exact bH m' e'' oM (by simpa using Mk)
theorem ru {kt:Td} (hu:P.underlying kt=some (.int .i32)) (k:Int) (es:List MapEntry) (hk:intKeys es):
    ∃r,(Instr.findKey kt (.int .i32 k) es).run P w=.ok r w/\r.map (·.2)=CG es k/\
    (∀j v,r=some (j,v)->∃e,es[j]? =some e/\nO k e=true/\∀m' e',m'<j->es[m']? =some e'->nO k e'=false):=by
  obtain⟨r,h1,h2,h3⟩:=ze k es 0 hk;refine⟨r,by simp[Instr.findKey,run_underlying hu,h1],h2,λj v Mj=>?_⟩;obtain⟨m,hm,e,he,mQ,_,bH⟩:=h3 j v Mj;have :j=m:=by omega
  subst this;exact⟨e,he,mQ,bH⟩
theorem qm {kt:Td} (hu:P.underlying kt=some (.int .i32)) (b:Bool) (k:Int) (d:Nat):(Instr.checkKey b (d+1) kt (.int .i32 k)).run P w=.ok () w:=by
 simp[Instr.checkKey,run_underlying hu]
theorem run_getObj_map {b:Nat} {es:Array MapEntry} {c:Nat} (h:w.heap[b]? =some (.map es c)):(getObj b).run P w=.ok (.map es c) w:=by
 simp[getObj,Sem.run,h]
end
end Go.Mw.K32
namespace Go.Mw
open Go.RowKit
section
variable {P:Program} {ρ:Od->Value} {ty:Td} {w w0:Wd} {x y z:Od} {S:NP} {rs:List HP} {put:HP->List HP}
theorem RF {T k e:Td} [hm:IsMap P T k e] [hk:lZ P k .i32] {b:Nat} {es:Array MapEntry} {c:Nat} {i:Int} {v:Value}
    (H:Sep w0 S rs w) (hat:At rs (obj b (.map es c)) put) (qj:K32.intKeys es.toList) (nI:K32.CG es.toList i=none) (hx:ρ x=.map (some b)) (hy:ρ y=.int .i32 i) (hz:ρ z=v):
    ∃w',MC P ρ (.insert T x y z) ty w w'/\Sep w0 S (put (obj b (.map (es.push {key:=.int .i32 i,val:=v,born:=c}) (c+1)))) w':=by
  have hb:=H.obj hat;obtain⟨r,h1,h2,_⟩:=K32.ru (P:=P) (w:=w) hk.und i es.toList qj
  have hr:r=none:=by
    cases r with
    | none=>rfl
    | some jv=>rw[nI]at h2;cases h2
  subst hr;have d9:=K32.qm (P:=P) (w:=w) hk.und false i 9999;have xE: ∀o:Obj,(setObj b o).run P w=.ok () {w with heap:=w.heap.setIfInBounds b o}:=λo=>by simp[Go.setObj,Sem.run,hb]
  have bH:=jB hb;refine⟨{w with heap:=w.heap.setIfInBounds b (.map (es.push {key:=.int .i32 i,val:=v,born:=c}) (c+1))},λ_ _ _ _=>?_,H.setObj hat ⟨rfl,rfl,rfl,sM,λj hj iC=>by simp only[zbt];rw[zab (λe=>iC e.symm)]⟩ (by simp[bH])⟩;simp only[execOp,hx,hy,hz,Instr.mapUpdate,zbh,run_underlying hm.und,zai,run_getObj_map hb];rw[d9];simp only[zai,h1,xE,zbm]
theorem qo {r:Option Nat} {n:Nat} {ops:AO} {Q:Post} {rest:LO} {σ:St} {pos:String} {after:Array Edge} {T k e:Td} [hm:IsMap P T k e] [hk:lZ P k .i32] {b:Nat} {es:Array MapEntry} {c:Nat} {i:Int} {v:Value}
    (H:Sep w0 S rs w) (hat:At rs (obj b (.map es c)) put) (qj:K32.intKeys es.toList) (nI:K32.CG es.toList i=none) (hx:evF σ x=.map (some b):=by exact rfl) (hy:evF σ y=.int .i32 i:=by exact rfl) (hz:evF σ z=v:=by exact rfl)
    (h: ∀w',Sep w0 S (put (obj b (.map (es.push {key:=.int .i32 i,val:=v,born:=c}) (c+1)))) w'->FL P r n ops Q rest σ w'):FL P r n ops Q (⟨none,.insert T x y z,ty,pos,after,none⟩::rest) σ w:=by
  obtain⟨w',ha,hs⟩:=RF (P:=P) (ty:=ty) (T:=T) H hat qj nI hx hy hz;exact EI ha rfl (h w' hs)
theorem ME {T k e:Td} [hm:IsMap P T k e] [hk:lZ P k .i32] {zv:Value} [hz:Zero P e zv] {b:Nat} {es:Array MapEntry} {c:Nat} {i:Int}
    (hb:w.heap[b]? =some (.map es c)) (qj:K32.intKeys es.toList) (hx:ρ x=.map (some b)) (hy:ρ y=.int .i32 i):Gives P ρ (.lookup T x y true) ty w (.tuple #[(K32.CG es.toList i).getD zv,.bool (K32.CG es.toList i).isSome]) w:=by
  obtain⟨r,h1,h2,_⟩:=K32.ru (P:=P) (w:=w) hk.und i es.toList qj;intro _ _ _ _;rw[<-h2];have d9:=K32.qm (P:=P) (w:=w) hk.und es.isEmpty i 9999;simp only[execOp,hx,hy,Instr.lookup,zbh,run_underlying hm.und,zai,run_getObj_map hb,zbm];rw[d9];simp only[zai,h1];cases r with
  | none=>simp[hz.run]
  | some jv=>obtain⟨j,v⟩:=jv;simp
theorem PS {T:Td} [ht:j3 P T] {s:ByteArray} (H:Sep w0 S rs w) (hx:ρ x=.string s): ∃k w',Gives P ρ (.range T x) ty w (.pointer (some ⟨k,0,none⟩)) w'/\Sep w0 S (obj k (.stringIter s 0)::rs) w':=by
 refine⟨w.heap.size,w.alloc (.stringIter s 0),λ_ _ _ _=>?_,H.alloc _⟩;have:=run_range_string (P:=P) w T s ht.und;simp only[execOp,hx,zbh,this,zai,zbm];rfl
theorem RG {s:ByteArray} {k pos:Nat} (H:Sep w0 S rs w) (hat:At rs (obj k (.stringIter s pos)) put) (hx:ρ x=.pointer (some ⟨k,0,none⟩)) (h:pos<s.size):
    ∃w',Gives P ρ (.next x true) ty w (.tuple #[.bool true,.int .i64 pos,.int .i32 (Utf8.decode s pos).1]) w'/\Sep w0 S (put (obj k (.stringIter s (pos+(Utf8.decode s pos).2)))) w':=by
  have hk:=H.obj hat;have bH:=jB hk;have:=Lib.run_next_any_at (P:=P) w k s pos ty hk h;refine⟨w.iterAt k s (pos+(Utf8.decode s pos).2),λ_ _ _ _=>?_,H.setObj hat ⟨rfl,rfl,rfl,?_,λj hj iC=>?_⟩ (Lib.iterAt_heap w k s pos _ hk)⟩
  . simp only[execOp,hx,zbh,this,zai,zbm]
  . simp[World.iterAt]
  simp only[World.iterAt,zbt];rw[zab (λe=>iC e.symm)]
theorem MF {s:ByteArray} {k pos:Nat} (H:Sep w0 S rs w) (hat:At rs (obj k (.stringIter s pos)) put) (hx:ρ x=.pointer (some ⟨k,0,none⟩)) (h: ¬pos<s.size):Gives P ρ (.next x true) ty w (.tuple #[.bool false]) w:=λ_ _ _ _=>by
 have:=Lib.run_next_end_at (P:=P) w k s pos ty (H.obj hat) h;simp only[execOp,hx,zbh,this,zai,zbm]
end
end Go.Mw
namespace Go.Proofs.YtkfpleidaoaonaaGreatDoor
open Go Go.Mw Go.Lib
set_option maxRecDepth 4000
attribute [local irreducible] FW FL FG FGn fZ gG cO gW Qfn Gives
theorem keys_nil:K32.intKeys (#[]:Array MapEntry).toList:=λe he=>by simp at he
theorem fI {es:Array MapEntry} {k:Int} {v:Value} {c:Nat} (h:K32.intKeys es.toList):K32.intKeys (es.push {key:=.int .i32 k,val:=v,born:=c}).toList:=by
 intro e he;rw[zfl,zbi,zar]at he
 rcases he with he | rfl
 .exact h e he
 exact⟨k,rfl⟩
def xL (k:Int) (v:Int) (b:Nat):MapEntry:={key:=.int .i32 k,val:=.int .u8 v,born:=b}
def gX:Array MapEntry:= #[xL 34 34 0,xL 92 92 1,xL 8 98 2,xL 12 102 3,xL 10 110 4,xL 13 114 5,xL 9 116 6]
def xM (r:Int):Option UInt8:=if r=34 then some 34 else if r=92 then some 92 else if r=8 then some 98 else if r=12 then some 102 else if r=10 then some 110 else if r=13 then some 114 else if r=9 then some 116 else none
theorem V9 (r:Int):K32.CG gX.toList r=(xM r).map B:=by
 unfold K32.CG xM gX;simp only[zcf,List.find?_nil,K32.nO,xL]
 by_cases h1:r=34
 .subst h1;rfl
 by_cases h2:r=92
 .subst h2;rfl
 by_cases h3:r=8
 .subst h3;rfl
 by_cases h4:r=12
 .subst h4;rfl
 by_cases h5:r=10
 .subst h5;rfl
 by_cases h6:r=13
 .subst h6;rfl
 by_cases h7:r=9
 .subst h7;rfl
 have e: ∀k:Int,r≠k->(k==r)=false:=λk h=>by simpa using λe=>h e.symm
 simp only[e _ h1,e _ h2,e _ h3,e _ h4,e _ h5,e _ h6,e _ h7,zab h1,zab h2,zab h3,zab h4,zab h5,zab h6,zab h7];rfl
theorem RH:K32.intKeys gX.toList:=by
 intro e he;simp only[gX,zan,zao,or_false]at he
 rcases he with rfl | rfl | rfl | rfl | rfl | rfl | rfl<;>exact⟨_,rfl⟩
section
variable {w:Wd}
theorem RI:aY Tryz.prog 325 [] w λv w'=>∃m:Nat,v=.map (some m)/\True/\Turn noB (obj m (.map gX 7)) w w':=by
 have H:=Sep.aJ w;refine YL Tryz.func325 rfl rfl rfl ?_;refine Zb1 ?_;refine tu H (h:=λb2 _ k _=>?_);refine qo k At0 keys_nil rfl (h:=λ_ k=>?_);refine qo k At0 (fI keys_nil) rfl (h:=λ_ k=>?_);refine qo k At0 (fI (fI keys_nil)) rfl (h:=λ_ k=>?_);refine qo k At0 (fI (fI (fI keys_nil))) rfl (h:=λ_ k=>?_);refine qo k At0 (fI (fI (fI (fI keys_nil)))) rfl (h:=λ_ k=>?_);refine qo k At0 (fI (fI (fI (fI (fI keys_nil))))) rfl (h:=λ_ k=>?_);refine qo k At0 (fI (fI (fI (fI (fI (fI keys_nil)))))) rfl (h:=λ_ k=>?_);refine Zb2 ?_;exact⟨_,rfl,trivial,k.turn⟩
end
end Go.Proofs.YtkfpleidaoaonaaGreatDoor
namespace Go.Mw
open Go.RowKit
section gives
variable {P:Program} {ρ:Od->Value} {ty:Td} {w:Wd} {x y:Od} {T U:Td} {k:IntKind} {a b c:Int}
theorem Gives.orE (hx:ρ x=.int k a) (hy:ρ y=.int k b) (he:bits .or k a b=c):Gives P ρ (.binOp .or T x y U) ty w (.int k c) w:=by subst he;exact Gives.or hx hy
theorem Gives.CJ (hx:ρ x=.int k a) (hy:ρ y=.int k b) (he:bits .and k a b=c):Gives P ρ (.binOp .and T x y U) ty w (.int k c) w:=by subst he;exact Gives.and hx hy
theorem Gives.CK {m s:Nat} {j:IntKind} (hx:ρ x=.int k m) (hy:ρ y=.int j s) (hs:s<=k.bits):Gives P ρ (.binOp .shr T x y U) ty w (.int k ((m/2^s:Nat):Int)) w:=by
 have h:=Gives.shr (P:=P) (ty:=ty) (w:=w) (T:=T) (U:=U) hx hy oM;rw[zdo,zcv hs]at h
 have e:(m:Int).fdiv (2^s)=((m/2^s:Nat):Int):=by
  rw[zfn _ (Int.pow_nonneg dC)];simp
 rw[e]at h;exact h
end gives
end Go.Mw
namespace Go.Proofs.YtkfpleidaoaonaaGreatDoor
open Go Go.Mw Go.Lib
set_option maxRecDepth 4000
attribute [local irreducible] FW FL FG FGn fZ gG cO gW Qfn Gives
theorem or_fin {h n:Nat} (hh:h<256) (hn:n<256) (key:h||| n=h+n):bits .or .u8 (h:Int) (n:Int)=((h+n:Nat):Int):=by
 rw[u8_or_nat h n hh hn,key]
theorem akO {x:Nat} (h:x<32):bits .or .u8 192 (x:Int)=((192+x:Nat):Int):=by
 have key: ∀i:Fin 32,192||| i.val=192+i.val:=dC
 exact or_fin (h:=192) dC oM (key ⟨x,h⟩)
theorem zf {x:Nat} (h:x<64):bits .or .u8 128 (x:Int)=((128+x:Nat):Int):=by
 have key: ∀i:Fin 64,128||| i.val=128+i.val:=dC
 exact or_fin (h:=128) dC oM (key ⟨x,h⟩)
theorem ah6 {x:Nat} (h:x<16):bits .or .u8 224 (x:Int)=((224+x:Nat):Int):=by
 have key: ∀i:Fin 16,224||| i.val=224+i.val:=dC
 exact or_fin (h:=224) dC oM (key ⟨x,h⟩)
theorem ah7 {x:Nat} (h:x<8):bits .or .u8 240 (x:Int)=((240+x:Nat):Int):=by
 have key: ∀i:Fin 8,240||| i.val=240+i.val:=dC
 exact or_fin (h:=240) dC oM (key ⟨x,h⟩)
theorem zh {x:Nat} (h:x<256):bits .and .u8 (x:Int) 63=((x%64:Nat):Int):=by
 have key: ∀i:Fin 256,i.val&&& 63=i.val%64:=dC;have:=u8_and_nat x 63 h dC;rw[key ⟨x,h⟩]at this;exact this
theorem u8w (r:Nat):IntKind.u8.wrap (r:Int)=((r%256:Nat):Int):=by rw[IntKind.wrap_u8];omega
def cb (n:Nat):Value:=.int .u8 (n:Int)
theorem aiV {n:Nat} (h:n<256):B n.toUInt8=cb n:=by
 unfold B cb;simp[Nat.mod_eq_of_lt h]
theorem EJ {r:Nat} {l:List Nat} (h:encodeRuneZ r=l.map λn:Nat=>(n:Int)) (hl: ∀n∈l,n<256):l.map cb=(encodeRune r).map B:=by
 unfold encodeRune;rw[h,zdt,zdt];refine zcw λn hn=>?_;simp only[Function.comp,zdo];exact(aiV (hl n hn)).symm
theorem enc2 {r:Nat} (h0:128<=r) (h1:r<=2047):[cb (192+r/64),cb (128+r%64)]=(encodeRune r).map B:=
 EJ (l:=[192+r/64,128+r%64]) (by rw[encodeRuneZ_two oM oM];simp) (by intro n hn;simp at hn;omega)
theorem enc3 {r:Nat} (h:(2048<=r/\r<55296)\/(57343<r/\r<=65535)):[cb (224+r/4096),cb (128+r/64%64),cb (128+r%64)]=(encodeRune r).map B:=
 EJ (l:=[224+r/4096,128+r/64%64,128+r%64]) (by rw[encodeRuneZ_three oM];simp) (by intro n hn;simp at hn;omega)
theorem enc4 {r:Nat} (h0:65536<=r) (h1:r<=1114111):[cb (240+r/262144),cb (128+r/4096%64),cb (128+r/64%64),cb (128+r%64)]=(encodeRune r).map B:=
 EJ (l:=[240+r/262144,128+r/4096%64,128+r/64%64,128+r%64]) (by
  have e:encodeRuneZ (r:Int)=[240+(r:Int)/262144,128+(r:Int)/4096%64,128+(r:Int)/64%64,128+(r:Int)%64]:=by
   unfold encodeRuneZ;rw[zab oM,zab oM,zab oM,zac oM]
  rw[e];simp) (by intro n hn;simp at hn;omega)
section
variable {w:Wd}
theorem PU {v:Value} {l:L8} {F:NP} {r:Nat} (hp:(lF 5 v l).ok F w) (hl:l.length<=100000000) (h0:128<=r) (h1:r<=1114111) (hs:r<55296\/57343<r):
    aY Tryz.prog 371 [v,I32 r] w λx w'=>∃v',x=v'/\True/\Turn F (lF 5 v' (l++encodeRune r)) w w':=by
  have H:=Sep.bW hp;have hel:=JU (r:Int);refine dF Tryz.func371 rfl rfl rfl rfl ?_;refine Zb2 ?_;refine Vv (Gives.pz (c:=(r:Int)) rfl (by rw[IntKind.wrap_u32];omega)) ?_;refine Za4 ?_;refine Qn (Cp rfl (λk=>?_) (λk=>?_))
  . have S:=k
    refine Zb2 ?_;refine Vv (Gives.CK (m:=r) (s:=6) rfl rfl dC) (Vv (Gives.pz (c:=((r/64:Nat):Int)) rfl (by rw[u8w];omega)) ?_);refine Vv (Gives.orE (c:=((192+r/64:Nat):Int)) rfl rfl (akO oM)) (Mv ?_);refine Vv (Gives.pz (c:=((r%256:Nat):Int)) rfl (u8w r)) (Vv (Gives.CJ (c:=((r%64:Nat):Int)) rfl rfl (by rw[zh oM];omega)) ?_);refine Vv (Gives.orE (c:=((128+r%64:Nat):Int)) rfl rfl (zf oM)) (Bs H [cb (192+r/64),cb (128+r%64)] (λbs _ I _=>?_));have Dn:(encodeRune r).length=2:=by have:=zbb List.length (enc2 (r:=r) h0 oM);simpa using this.symm
    rw[enc2 h0 oM]at I;refine oL I At0 oM (hc':=Dn.symm) (h:=?_);intro v2 I I;refine Zb1 ?_;exact⟨_,rfl,trivial,I.turn⟩
  have S:=k;refine Za3 ?_;refine Qn (Cp rfl (λI=>?_) (λI=>?_))
  . refine Sk (rT (zbb Value.bool (zbj I)) ?_)
    refine Zb2 ?_;refine Vv (Gives.CK (m:=r) (s:=12) rfl rfl dC) (Vv (Gives.pz (c:=((r/4096:Nat):Int)) rfl (by rw[u8w];omega)) ?_);refine Vv (Gives.orE (c:=((224+r/4096:Nat):Int)) rfl rfl (ah6 oM)) (Mv ?_);refine Vv (Gives.CK (m:=r) (s:=6) rfl rfl dC) (Vv (Gives.pz (c:=((r/64%256:Nat):Int)) rfl (u8w _)) ?_);refine Vv (Gives.CJ (c:=((r/64%64:Nat):Int)) rfl rfl (by rw[zh oM];omega)) ?_;refine Vv (Gives.orE (c:=((128+r/64%64:Nat):Int)) rfl rfl (zf oM)) (Mv ?_);refine Vv (Gives.pz (c:=((r%256:Nat):Int)) rfl (u8w r)) (Vv (Gives.CJ (c:=((r%64:Nat):Int)) rfl rfl (by rw[zh oM];omega)) ?_);refine Vv (Gives.orE (c:=((128+r%64:Nat):Int)) rfl rfl (zf oM)) (Bs H [cb (224+r/4096),cb (128+r/64%64),cb (128+r%64)] (λbs _ I _=>?_));have Dn:(encodeRune r).length=3:=by have:=zbb List.length (enc3 (r:=r) oM);simpa using this.symm
    rw[enc3 oM]at I;refine oL I At0 oM (hc':=Dn.symm) (h:=?_);intro v2 I I;refine Zb1 ?_;exact⟨_,rfl,trivial,I.turn⟩
  refine Zb3 ?_;refine aF (t:=30) rfl (λI=>?_) (λI=>?_)
  . refine Za4 ?_
    refine Qn (Cp rfl (λI=>?_) (λI=>?_))
    . refine Zb2 ?_
      refine Vv (Gives.CK (m:=r) (s:=12) rfl rfl dC) (Vv (Gives.pz (c:=((r/4096:Nat):Int)) rfl (by rw[u8w];omega)) ?_);refine Vv (Gives.orE (c:=((224+r/4096:Nat):Int)) rfl rfl (ah6 oM)) (Mv ?_);refine Vv (Gives.CK (m:=r) (s:=6) rfl rfl dC) (Vv (Gives.pz (c:=((r/64%256:Nat):Int)) rfl (u8w _)) ?_);refine Vv (Gives.CJ (c:=((r/64%64:Nat):Int)) rfl rfl (by rw[zh oM];omega)) ?_;refine Vv (Gives.orE (c:=((128+r/64%64:Nat):Int)) rfl rfl (zf oM)) (Mv ?_);refine Vv (Gives.pz (c:=((r%256:Nat):Int)) rfl (u8w r)) (Vv (Gives.CJ (c:=((r%64:Nat):Int)) rfl rfl (by rw[zh oM];omega)) ?_);refine Vv (Gives.orE (c:=((128+r%64:Nat):Int)) rfl rfl (zf oM)) (Bs H [cb (224+r/4096),cb (128+r/64%64),cb (128+r%64)] (λbs _ I _=>?_));have Dn:(encodeRune r).length=3:=by have:=zbb List.length (enc3 (r:=r) oM);simpa using this.symm
      rw[enc3 oM]at I;refine oL I At0 oM (hc':=Dn.symm) (h:=?_);intro v2 I I;refine Zb1 ?_;exact⟨_,rfl,trivial,I.turn⟩
    refine Zb3 ?_;refine aF (t:=53) rfl (λI=>?_) (λI=>?_)
    . refine Za4 ?_
      refine Qn (Cp rfl (λI=>?_) (λI=>?_))
      . refine Zb2 ?_
        refine Vv (Gives.CK (m:=r) (s:=18) rfl rfl dC) (Vv (Gives.pz (c:=((r/262144:Nat):Int)) rfl (by rw[u8w];omega)) ?_);refine Vv (Gives.orE (c:=((240+r/262144:Nat):Int)) rfl rfl (ah7 oM)) (Mv ?_);refine Vv (Gives.CK (m:=r) (s:=12) rfl rfl dC) (Vv (Gives.pz (c:=((r/4096%256:Nat):Int)) rfl (u8w _)) ?_);refine Vv (Gives.CJ (c:=((r/4096%64:Nat):Int)) rfl rfl (by rw[zh oM];omega)) ?_;refine Vv (Gives.orE (c:=((128+r/4096%64:Nat):Int)) rfl rfl (zf oM)) (Mv ?_);refine Vv (Gives.CK (m:=r) (s:=6) rfl rfl dC) (Vv (Gives.pz (c:=((r/64%256:Nat):Int)) rfl (u8w _)) ?_);refine Vv (Gives.CJ (c:=((r/64%64:Nat):Int)) rfl rfl (by rw[zh oM];omega)) ?_;refine Vv (Gives.orE (c:=((128+r/64%64:Nat):Int)) rfl rfl (zf oM)) (Mv ?_);refine Vv (Gives.pz (c:=((r%256:Nat):Int)) rfl (u8w r)) (Vv (Gives.CJ (c:=((r%64:Nat):Int)) rfl rfl (by rw[zh oM];omega)) ?_);refine Vv (Gives.orE (c:=((128+r%64:Nat):Int)) rfl rfl (zf oM)) (Bs H [cb (240+r/262144),cb (128+r/4096%64),cb (128+r/64%64),cb (128+r%64)] (λbs _ I _=>?_));have Dn:(encodeRune r).length=4:=by have:=zbb List.length (enc4 (r:=r) oM h1);simpa using this.symm
        rw[enc4 oM h1]at I;refine oL I At0 oM (hc':=Dn.symm) (h:=?_);intro v2 I I;refine Zb1 ?_;exact⟨_,rfl,trivial,I.turn⟩
      exact zap h1 oM
    exact zap h1 oM
  refine Zb5 ?_;refine aF (t:=53) rfl (λI=>?_) (λI=>?_)
  . refine Za4 ?_
    refine Qn (Cp rfl (λI=>?_) (λI=>?_))
    . refine Zb2 ?_
      refine Vv (Gives.CK (m:=r) (s:=18) rfl rfl dC) (Vv (Gives.pz (c:=((r/262144:Nat):Int)) rfl (by rw[u8w];omega)) ?_);refine Vv (Gives.orE (c:=((240+r/262144:Nat):Int)) rfl rfl (ah7 oM)) (Mv ?_);refine Vv (Gives.CK (m:=r) (s:=12) rfl rfl dC) (Vv (Gives.pz (c:=((r/4096%256:Nat):Int)) rfl (u8w _)) ?_);refine Vv (Gives.CJ (c:=((r/4096%64:Nat):Int)) rfl rfl (by rw[zh oM];omega)) ?_;refine Vv (Gives.orE (c:=((128+r/4096%64:Nat):Int)) rfl rfl (zf oM)) (Mv ?_);refine Vv (Gives.CK (m:=r) (s:=6) rfl rfl dC) (Vv (Gives.pz (c:=((r/64%256:Nat):Int)) rfl (u8w _)) ?_);refine Vv (Gives.CJ (c:=((r/64%64:Nat):Int)) rfl rfl (by rw[zh oM];omega)) ?_;refine Vv (Gives.orE (c:=((128+r/64%64:Nat):Int)) rfl rfl (zf oM)) (Mv ?_);refine Vv (Gives.pz (c:=((r%256:Nat):Int)) rfl (u8w r)) (Vv (Gives.CJ (c:=((r%64:Nat):Int)) rfl rfl (by rw[zh oM];omega)) ?_);refine Vv (Gives.orE (c:=((128+r%64:Nat):Int)) rfl rfl (zf oM)) (Bs H [cb (240+r/262144),cb (128+r/4096%64),cb (128+r/64%64),cb (128+r%64)] (λbs _ I _=>?_));have Dn:(encodeRune r).length=4:=by have:=zbb List.length (enc4 (r:=r) oM h1);simpa using this.symm
      rw[enc4 oM h1]at I;refine oL I At0 oM (hc':=Dn.symm) (h:=?_);intro v2 I I;refine Zb1 ?_;exact⟨_,rfl,trivial,I.turn⟩
    exact zap h1 oM
  exact zap h1 oM
theorem MG {v:Value} {l:L8} {F:NP} {r:Nat} (hp:(lF 5 v l).ok F w) (hl:l.length<=100000000) (h1:r<=1114111) (hs:r<55296\/57343<r):
    aY Tryz.prog 361 [v,I32 r] w λx w'=>∃v',x=v'/\True/\Turn F (lF 5 v' (l++encodeRune r)) w w':=by
  have H:=Sep.bW hp;refine dF Tryz.func361 rfl rfl rfl rfl ?_;refine Zb2 ?_;refine Vv (Gives.pz (c:=(r:Int)) rfl (by rw[IntKind.wrap_u32];omega)) ?_;refine Za1 ?_;refine Qn (Cp rfl (λk=>?_) (λk=>?_))
  . have qY:encodeRune (r:Int)=[r.toUInt8]:=by unfold encodeRune;rw[encodeRuneZ_one oM oM];simp
    refine Zb2 ?_;refine Vv (Gives.pz (c:=((r%256:Nat):Int)) rfl (u8w r)) ?_;have hb:Value.int .u8 ((r%256:Nat):Int)=B r.toUInt8:=by rw[aiV oM,Nat.mod_eq_of_lt oM];rfl
    refine mE H (xs:=[.tmp 10]) (out:=[r.toUInt8].map B) (dK.one hb rfl dK.nil) rfl rfl rfl (λbs _ k _=>?_);refine oL k (news:=[r.toUInt8]) At0 (by simp;omega) (h:=?_);intro v2 k k;rw[<-qY]at k;refine Zb1 ?_;exact⟨_,rfl,trivial,k.turn⟩
  refine Zb2 ?_;obtain⟨F0,dS,gH,aI⟩:=H.focus At0;refine aK (PU dS hl oM h1 hs) rfl rfl (λv' _ hv=>?_);obtain⟨v2,rfl,_,bZ,F1,hq,gT⟩:=hv;have k:=aI _ F1 _ bZ hq gT;refine Zb1 ?_;exact⟨_,rfl,trivial,k.turn⟩
theorem PW {b:Nat} {l:L8} {F:NP} {r:Nat} (hp:(um b l).ok F w) (hl:l.length<=10000000) (h1:r<=1114111) (hs:r<55296\/57343<r):aY Tryz.prog 326 [av b,I32 r] w λ_ w'=>Turn F (um b (l++encodeRune r)) w w':=by
 obtain⟨a,v,ha,H⟩:=Sep.Mh (Sep.bW hp);obtain⟨A,c,rfl,q9,_,_⟩:=Sep.uI H At1;have hel:=JU (r:Int)
 have iC:encodeRune (r:Int)≠[]:=by
  intro e;unfold encodeRune encodeRuneZ at e
  repeat' split at e
  all_goals simp at e
 refine dF Tryz.func326 rfl rfl rfl rfl ?_;refine Zb3 ?_;obtain⟨F0,dS,gH,aI⟩:=H.focus At0;refine aK (Ah ha.1 dS) rfl rfl (λv' _ hv=>?_);obtain⟨rfl,bZ,F1,hq,gT⟩:=hv;have k:=aI _ F1 _ bZ hq gT;refine anm ?_;obtain⟨F0,dS,gH,aI⟩:=k.focus At1;refine aK (MG dS oM h1 hs) rfl rfl (λv' _ hv=>?_);obtain⟨v2,rfl,_,bZ,F1,hq,gT⟩:=hv;have k:=aI _ F1 _ bZ hq gT;obtain⟨A2,c2,rfl,_⟩:=Sep.uI k At1;refine Zb2 ?_;refine bB k (h:=λ_ k=>?_);refine Zb9 ?_;exact(Sep.Pn ⟨.inr rfl,λe=>zap (List.append_eq_nil_iff.1 e).2 iC⟩ k).turn
end
end Go.Proofs.YtkfpleidaoaonaaGreatDoor
namespace Go.Mw
open Go.RowKit
section
variable {P:Program} {r:Option Nat} {n:Nat} {ops:AO} {Q:Post} {rest:LO} {σ:St} {w w0:Wd} {S:NP} {rs:List HP} {put:HP->List HP} {ty:Td} {pos:String} {after:Array Edge}
theorem ZP {d:Nat} {x:Od} {T:Td} [ht:j3 P T] {s:ByteArray} (H:Sep w0 S rs w) (hx:evF σ x=.string s:=by exact rfl) (hd:Nat.blt d n=true:=by exact rfl)
    (h: ∀k w',Sep w0 S (obj k (.stringIter s 0)::rs) w'->FL P r n ops Q rest (upd σ d (.pointer (some ⟨k,0,none⟩))) w'):FL P r n ops Q (⟨some d,.range T x,ty,pos,after,none⟩::rest) σ w:=by
  obtain⟨k,w',hg,hs⟩:=PS (P:=P) (ty:=ty) (T:=T) H hx;exact dG hg hd (h k w' hs)
theorem acQ {d:Nat} {x:Od} {s:ByteArray} {k i:Nat} (H:Sep w0 S rs w) (hat:At rs (obj k (.stringIter s i)) put)
    (h1:i<s.size->∀w',Sep w0 S (put (obj k (.stringIter s (i+(Utf8.decode s i).2)))) w'->FL P r n ops Q rest (upd σ d (.tuple #[.bool true,.int .i64 i,.int .i32 (Utf8.decode s i).1])) w')
    (h2: ¬i<s.size->FL P r n ops Q rest (upd σ d (.tuple #[.bool false])) w) (hx:evF σ x=.pointer (some ⟨k,0,none⟩):=by exact rfl) (hd:Nat.blt d n=true:=by exact rfl):
    FL P r n ops Q (⟨some d,.next x true,ty,pos,after,none⟩::rest) σ w:=by
  by_cases h:i<s.size
  . obtain⟨w',hg,hs⟩:=RG (P:=P) (ty:=ty) H hat hx h
    exact dG hg hd (h1 h w' hs)
  exact dG (MF (P:=P) (ty:=ty) H hat hx h) hd (h2 h)
end
end Go.Mw
namespace Go.Proofs.YtkfpleidaoaonaaGreatDoor
open Go Go.Mw Go.Lib
attribute [local irreducible] FW FL FG FGn fZ gG cO gW Qfn Gives
theorem acR {r:Nat} (h:128<=r) (h1:r<=1114111): ∀c∈encodeRune (r:Int),128<=c.toNat:=by
 intro c hc;unfold encodeRune at hc;obtain⟨x,hx,rfl⟩:=zat.1 hc;unfold encodeRuneZ at hx;rw[zab oM]at hx
 repeat' split at hx
 all_goals (simp only[zan,zao,or_false]at hx)
 all_goals (rcases hx with rfl | rfl | rfl | rfl<;>simp<;>omega)
theorem Wh {l:L8} (h: ∀c∈l,128<=c.toNat):l.flatMap jl=l:=by
 induction l with
 | nil=>rfl
 | cons c t ih=>
  rw[zbc,G7 (h c sM),ih (λx hx=>h x (by simp[hx]))];rfl
theorem Wi (r:Nat) (h1:r<=1114111) (h:r<55296\/57343<r):Utf8.valid (r:Int)=true:=by
 simp[Utf8.valid];omega
theorem akP (r:Nat) (v:Utf8.valid (r:Int)=true) (c1:r<128):(Utf8.encode (r:Int)).data.toList=[UInt8.ofNat r]:=by
 simp[Utf8.encode,v,c1]
theorem akQ (r:Nat) (v:Utf8.valid (r:Int)=true) (c1: ¬r<128) (c2:r<2048):(Utf8.encode (r:Int)).data.toList=[UInt8.ofNat (192+r/64),UInt8.ofNat (128+r%64)]:=by
 simp[Utf8.encode,v,c1,c2]
theorem akR (r:Nat) (v:Utf8.valid (r:Int)=true) (c1: ¬r<128) (c2: ¬r<2048) (c3:r<65536):(Utf8.encode (r:Int)).data.toList=[UInt8.ofNat (224+r/4096),UInt8.ofNat (128+r/64%64),UInt8.ofNat (128+r%64)]:=by
 simp[Utf8.encode,v,c1,c2,c3]
theorem akS (r:Nat) (v:Utf8.valid (r:Int)=true) (c1: ¬r<128) (c2: ¬r<2048) (c3: ¬r<65536):(Utf8.encode (r:Int)).data.toList=[UInt8.ofNat (240+r/262144),UInt8.ofNat (128+r/4096%64),UInt8.ofNat (128+r/64%64),UInt8.ofNat (128+r%64)]:=by
 simp[Utf8.encode,v,c1,c2,c3]
theorem BP (n:Nat) (z:Int) (e:z.toNat=n):z.toNat.toUInt8=UInt8.ofNat n:=by rw[e]
theorem Dv (r:Int) (l:L8) (e:(Utf8.encode r).data.toList=l):Ju r=l:=by
 have h2:Utf8.encode r=⟨(Ju r).toArray⟩:=Value.string.inj (Lp r);have h3:=zbb (λb:ByteArray=>b.data.toList) h2;exact h3.symm.trans e
theorem PX (r:Nat) (h1:r<=1114111) (h:r<55296\/57343<r):Ju (r:Int)=encodeRune (r:Int):=by
 have v:=Wi r h1 h;unfold encodeRune
 by_cases c1:r<128
 .have e1:=BP r (r:Int) oM
  rw[encodeRuneZ_one oM oM,Dv _ _ (akP r v c1),zay,zcm,e1]
 by_cases c2:r<2048
 .have e1:=BP (192+r/64) (192+(r:Int)/64) oM
  have e2:=BP (128+r%64) (128+(r:Int)%64) oM;rw[encodeRuneZ_two oM oM,Dv _ _ (akQ r v c1 c2),zay,zay,zcm,e1,e2]
 by_cases c3:r<65536
 .have e1:=BP (224+r/4096) (224+(r:Int)/4096) oM
  have e2:=BP (128+r/64%64) (128+(r:Int)/64%64) oM;have e3:=BP (128+r%64) (128+(r:Int)%64) oM;rw[encodeRuneZ_three oM,Dv _ _ (akR r v c1 c2 c3),zay,zay,zay,zcm,e1,e2,e3]
 have e1:=BP (240+r/262144) (240+(r:Int)/262144) oM;have e2:=BP (128+r/4096%64) (128+(r:Int)/4096%64) oM;have e3:=BP (128+r/64%64) (128+(r:Int)/64%64) oM;have e4:=BP (128+r%64) (128+(r:Int)%64) oM;rw[encodeRuneZ_four oM oM,Dv _ _ (akS r v c1 c2 c3),zay,zay,zay,zay,zcm,e1,e2,e3,e4]
theorem Wj {s:L8} {r n:Nat} (h:jg s=some (r,n)):r<=1114111/\(r<55296\/57343<r):=by
 unfold jg at h
 split at h
 .cases h
 rename_i hn;injection h with h
 have h1:(decodeL s).1=r:=by rw[h]
 have h2:(decodeL s).2=n:=by rw[h]
 rw[decodeL_N]at h1 h2 hn;have hb:(s.getD 0 0).toNat<256:=(s.getD 0 0).toNat_lt
 rcases decodeN_shape s.length (s.getD 0 0).toNat (s.getD 1 0).toNat (s.getD 2 0).toNat (s.getD 3 0).toNat with⟨a,e⟩ | ⟨a1,a2,a3,a4,e⟩ | ⟨a1,a2,a3,a4,a5,a6,e⟩ | ⟨a1,a2,a3,a4,a5,a6,a7,e⟩ | e
 .rw[e]at h1;simp only at h1;omega
 .rw[e]at h1;simp only at h1;omega
 .rw[e]at h1;simp only at h1;omega
 .rw[e]at h1;simp only at h1;omega
 rw[e]at hn;exact zap (.inr ⟨rfl,rfl⟩) hn
theorem acS {s:L8} {r n:Nat} (h:jg s=some (r,n)) (hr:r<128):n=1/\s.take 1=[r.toUInt8]:=by
 obtain⟨_,h1,h2,h3⟩:=sF h;have e:encodeRune (r:Int)=[r.toUInt8]:=by unfold encodeRune;rw[encodeRuneZ_one oM oM];simp
 rw[e]at h3;have:=zbb List.length h3;rw[zaj]at this;simp at this;have hn:n=1:=oM;subst hn;exact⟨rfl,h3.symm⟩
theorem ZQ {l:L8} {i:Nat} (hv:validD (l.drop i)=true) (bH:i<l.length): ∃r n:Nat,Utf8.decode ⟨l.toArray⟩ i=(r,n)/\1<=n/\i+n<=l.length/\validD (l.drop (i+n))=true/\r<=1114111/\(r<55296\/57343<r)/\
    (r<128->Eo l (i+n)=Eo l i++jl r.toUInt8)/\(128<=r->Eo l (i+n)=Eo l i++encodeRune (r:Int)):=by
  have iC:l.drop i≠[]:=λe=>by have:=zbb List.length e;rw[zbq]at this;simp at this;omega
  have hs:=Lx iC;rw[hv]at hs;cases hx:jg (l.drop i)with
  | none=>rw[hx]at hs;cases hs
  | some p=>
    obtain⟨r,n⟩:=p;rw[hx]at hs;dsimp only at hs;obtain⟨e1,h1,h2,h3⟩:=sF hx;obtain⟨s1,s2⟩:=Wj hx;rw[zbq]at h2;have hd:Utf8.decode ⟨l.toArray⟩ i=(r,n):=by rw[<-decodeL_drop];exact e1
    have hdv:validD (l.drop (i+n))=true:=by
      rw[zfs]at hs;exact hs.symm
    have acj:Eo l (i+n)=Eo l i++((l.drop i).take n).flatMap jl:=by
      unfold Eo;rw[List.take_add,zby];rfl
    refine⟨r,n,hd,h1,oM,hdv,s1,s2,λh=>?_,λh=>?_⟩
    . obtain⟨hn,ht⟩:=acS hx h
      rw[acj,hn,ht];simp
    rw[acj,<-h3,Wh (λc hc=>acR h s1 c hc)]
theorem RJ {r:Nat} {c:UInt8} (h:xM r=some c):r<128/\jl r.toUInt8=[92]++encodeRune (c.toNat:Int)/\c.toNat<128:=by
 unfold xM at h
 by_cases h1:(r:Int)=34
 .rw[zac h1]at h;injection h with h;subst h;have :r=34:=oM
  subst this;exact⟨dC,dC,dC⟩
 rw[zab h1]at h
 by_cases h1:(r:Int)=92
 .rw[zac h1]at h;injection h with h;subst h;have :r=92:=oM
  subst this;exact⟨dC,dC,dC⟩
 rw[zab h1]at h
 by_cases h1:(r:Int)=8
 .rw[zac h1]at h;injection h with h;subst h;have :r=8:=oM
  subst this;exact⟨dC,dC,dC⟩
 rw[zab h1]at h
 by_cases h1:(r:Int)=12
 .rw[zac h1]at h;injection h with h;subst h;have :r=12:=oM
  subst this;exact⟨dC,dC,dC⟩
 rw[zab h1]at h
 by_cases h1:(r:Int)=10
 .rw[zac h1]at h;injection h with h;subst h;have :r=10:=oM
  subst this;exact⟨dC,dC,dC⟩
 rw[zab h1]at h
 by_cases h1:(r:Int)=13
 .rw[zac h1]at h;injection h with h;subst h;have :r=13:=oM
  subst this;exact⟨dC,dC,dC⟩
 rw[zab h1]at h
 by_cases h1:(r:Int)=9
 .rw[zac h1]at h;injection h with h;subst h;have :r=9:=oM
  subst this;exact⟨dC,dC,dC⟩
 rw[zab h1]at h;cases h
theorem Wm {r:Nat} (h:xM r=none):(r<32->jl r.toUInt8=[92,117,48,48,l8 (r/16),l8 (r%16)])/\(32<=r->r<128->jl r.toUInt8=encodeRune (r:Int)):=by
 have iC:r≠34/\r≠92/\r≠8/\r≠12/\r≠10/\r≠13/\r≠9:=by
  refine⟨?_,?_,?_,?_,?_,?_,?_⟩<;>(intro e;subst e;revert h;decide)
 constructor
 .intro h32
  have hn:(r.toUInt8).toNat=r:=by simp;omega
  rw[LK,hn,zab oM,zab oM,zab oM,zab oM,zab oM,zab oM,zab oM,zac h32]
 intro h32 h128;have hn:(r.toUInt8).toNat=r:=by simp;omega
 rw[LK,hn,zab oM,zab oM,zab oM,zab oM,zab oM,zab oM,zab oM,zab oM];unfold encodeRune;rw[encodeRuneZ_one oM oM];simp
section
variable {w:Wd}
theorem ah8 {x:Nat} (h:x<32):bits .and .i32 (x:Int) 15=((x%16:Nat):Int):=by
 have key: ∀i:Fin 32,bits .and .i32 (i.val:Int) 15=((i.val%16:Nat):Int):=dC;exact key ⟨x,h⟩
set_option maxRecDepth 4000
theorem ZR (l:L8) (hl:l.length<=1000000) (hT:l9 w):Rk Tryz.prog 246 [str l] w (.tuple #[str (FQ l).1,I (FQ l).2]):=by
 have H:=Sep.aJ w;refine dI Tryz.func246 rfl rfl rfl rfl ?_;refine Zb3 ?_;refine aD H (Jd l oM (hT.keep H.kept)) (h:=λ_ S _=>?_);refine Za1 ?_;refine Qn (Cd rfl (λd=>?_) (λd=>?_))
 .have hq:FQ l=([],40):=zab (by simpa using d)
  refine Zb2 ?_;exact⟨by rw[hq];rfl,S.kept⟩
 have hv:validD l=true:=by simpa using d
 have hq:FQ l=(tT l,0):=zac hv;refine Zb0 ?_;refine aO S (h:=λb4 _ S _=>?_);replace S:=Sep.ahB S;refine Nx ?_;obtain⟨F0,dS,gH,aI⟩:=S.focus At0;refine aK (sj 34 dS sM) rfl rfl (λv' _ hv=>?_);obtain⟨rfl,bZ,F1,pF,hs⟩:=hv;have S:=aI _ F1 _ bZ pF hs;refine Nx (aK (RI) rfl rfl (λv' _ hv=>?_));obtain⟨m,rfl,_,bZ,F1,pF,gT⟩:=hv;have e:=S.new bZ pF (λb hb=>(gT b hb).resolve_left id);refine Zb2 ?_;refine ZP e (h:=λk _ e=>?_);refine Zb0 ?_;refine aR (λ_:Nat=>[(0,str l),(4,av b4),(5,.map (some m)),(16,.pointer (some ⟨k,0,none⟩))]) (λi w'=>(i<=l.length/\validD (l.drop i)=true)/\Sep w noB [obj k (.stringIter ⟨l.toArray⟩ i),obj m (.map gX 7),um b4 (Eo l i)] w') (λi _=>l.length-i) 0 tR ⟨⟨zaq _,hv⟩,e⟩ (λi τ _ hI=>?_);obtain⟨⟨hi,hvd⟩,e⟩:=hI
 try simp only[cK,like,aS,bK]
 refine Sr (acQ e At0 (h1:=λahF _ S=>?_) (h2:=λahF=>?_))
 .have bH:i<l.length:=by rw[Mw.size_mk]at ahF;exact ahF
  obtain⟨r,n,alD,Jz,hin,hvn,VG,Rp,Jy,alE⟩:=ZQ hvd bH;rw[alD]at S;rw[alD];have hol:=U8 l i;have hel:=JU (r:Int);refine Zb5 ?_;refine dG (ME (zv:=B 0) (i:=(r:Int)) (S.obj At1) RH rfl rfl) rfl ?_;rw[V9,show((xM (r:Int)).map B).getD (B 0)=B ((xM (r:Int)).getD 0)from by cases xM (r:Int)<;>rfl,Option.isSome_map];refine Za7 ?_;refine Qn (Cd rfl (λf=>?_) (λf=>?_))
  .obtain⟨c,hc⟩:=zes.1 f
   obtain⟨hr7,hqb,d⟩:=RJ hc;rw[hc,zdf];refine Zb1 ?_;refine Vv (Gives.Zn (a:=(c.toNat:Int)) rfl oM) (Vv (Gives.aeZ rfl) ?_);rw[PX c.toNat oM oM];have aqM:=JU (c.toNat:Int);refine Vv (Gives.UZ rfl rfl (by simp;omega)) ?_;obtain⟨F0,dS,gH,aI⟩:=S.focus At2;refine aK (tZ sM dS (by simp;omega)) rfl rfl (λv' _ hv=>?_);obtain⟨rfl,bZ,F1,pF,hs⟩:=hv;have d:=aI _ F1 _ bZ pF hs;rw[<-hqb,<-Jy hr7]at d;refine Zb0 ?_;exact aj (i+n) tR ⟨⟨hin,hvn⟩,d⟩ oM
  have ZA:xM (r:Int)=none:=by simpa using f
  obtain⟨anA,alF⟩:=Wm ZA;refine Za3 ?_;refine Qn (Cp rfl (λd=>?_) (λd=>?_))
  .refine Ds (λd _ f=>?_)
   refine Zb1 ?_;refine GS (Gn rfl (λ_=>(Gives.CK (m:=r) (s:=4) rfl rfl dC)) ?_);refine Zb1 ?_;refine GS (Gn rfl (λ_=>(Gives.CK (m:=r) (s:=4) rfl rfl dC)) ?_);refine GS (Gn rfl (λ_=>(Gives.afi (c:=((r/16+1:Nat):Int)) rfl rfl (by rw[IntKind.wrap_i32];omega))) ?_);refine GS (Gn rfl (λ_=>(Gives.Db (l:=rG) (i:=r/16) (m:=r/16+1) rfl rfl rfl oM (by show r/16+1<=16;first | done | omega))) ?_);rw[O9 oM];refine Zb2 ?_;refine GS (Gn rfl (λ_=>(Gives.CJ (c:=((r%16:Nat):Int)) rfl rfl (ah8 oM))) ?_);refine Zb1 ?_;refine GS (Gn rfl (λ_=>(Gives.CJ (c:=((r%16:Nat):Int)) rfl rfl (ah8 oM))) ?_);refine GS (Gn rfl (λ_=>(Gives.afi (c:=((r%16+1:Nat):Int)) rfl rfl (by rw[IntKind.wrap_i32];omega))) ?_);refine GS (Gn rfl (λ_=>(Gives.Db (l:=rG) (i:=r%16) (m:=r%16+1) rfl rfl rfl oM (by show r%16+1<=16;first | done | omega))) ?_);rw[O9 oM];refine Zb1 ?_;have hq6:=anA oM;obtain⟨F0,dS,gH,aI⟩:=f.focus At2;refine rD d 14 [] rfl kR (tZ (news:=jl r.toUInt8) (by rw[hq6];simp) dS (by rw[hq6];simp;omega)) (by rw[hq6];rfl) kR kR (λv' _ hv=>?_);obtain⟨rfl,bZ,F1,pF,hs⟩:=hv;have f:=aI _ F1 _ bZ pF hs;rw[<-Jy oM]at f;refine⟨sT,?_⟩;refine Zb0 ?_;exact aj (i+n) tR ⟨⟨hin,hvn⟩,f⟩ oM
  refine Zb1 ?_;obtain⟨F0,dS,gH,aI⟩:=S.focus At2;refine aK (PW dS oM VG Rp) rfl rfl (λv' _ hv=>?_);obtain⟨bZ,F1,pF,hs⟩:=hv;have f:=aI _ F1 _ bZ pF hs
  have acj:Eo l i++encodeRune (r:Int)=Eo l (i+n):=by
   by_cases h128:r<128
   .rw[Jy h128,alF oM h128]
   exact(alE oM).symm
  rw[acj]at f;refine Zb0 ?_;exact aj (i+n) tR ⟨⟨hin,hvn⟩,f⟩ oM
 have oQ:i=l.length:=by rw[Mw.size_mk]at ahF;omega
 have fu:Eo l i++[34]=tT l:=by
  rw[oQ];unfold Eo tT;rw[zbo];rfl
 refine Zb1 ?_;have hol:=U8 l i;obtain⟨F0,dS,gH,aI⟩:=e.focus At2;refine aK (sj 34 dS oM) rfl rfl (λv' _ hv=>?_);obtain⟨rfl,bZ,F1,pF,hs⟩:=hv;have f:=aI _ F1 _ bZ pF hs;rw[fu]at f;refine Nx ?_;have aqN:(tT l).length<=6000008:=by rw[<-fu,zad];simp;omega
 obtain⟨F0,dS,gH,aI⟩:=f.focus At2;refine aK (Bw dS oM) rfl rfl (λv' _ hv=>?_);obtain⟨rfl,bZ,F1,pF,hs⟩:=hv;have f:=aI _ F1 _ bZ pF hs;refine Zb2 ?_;exact⟨by rw[hq];rfl,f.kept⟩
end
end Go.Proofs.YtkfpleidaoaonaaGreatDoor
namespace Go.Mw
open Go.RowKit
section
variable {P:Program} {r:Option Nat} {n:Nat} {ops:AO} {Q:Post} {rest:LO} {σ:St} {w w0:Wd} {S:NP} {rs:List HP} {ty:Td} {pos:String} {after:Array Edge} {l:L8}
theorem ZT {d:Nat} {s t e:Td} {x:Od} [hs:j3 P s] [ht:dh P t e] [he:lZ P e .u8] (H:Sep w0 S rs w) (hx:evF σ x=str l:=by exact rfl) (hd:Nat.blt d n=true:=by exact rfl)
    (h: ∀b c o w',(∀k:Wd,k.heap[b]? =some o->gV k (some ⟨b,0,none⟩) l.length 1 (l.map λu=>Value.int .u8 u.toNat))->l.length<=c->Sep w0 S (obj b o::rs) w'->FL P r n ops Q rest (upd σ d (.slice (some ⟨b,0,none⟩) l.length c)) w'):
    FL P r n ops Q (⟨some d,.convert s t x,ty,pos,after,none⟩::rest) σ w:=by
  have iw:=run_bytes_of_string (P:=P) w s t e ⟨l.toArray⟩ hs.und ht.und he.und;rw[size_mk]at iw;have yK:Kept noB w w.drew:=Kept.drew w;refine dG (v:=.slice (some ⟨w.heap.size,0,none⟩) l.length (grownCap w l.length 0 e)) (w':=w.drew.alloc (.cells (bytesRow ⟨l.toArray⟩ (grownCap w l.length 0 e)) e ((bytesRow ⟨l.toArray⟩ (grownCap w l.length 0 e)).size,(bytesRow ⟨l.toArray⟩ (grownCap w l.length 0 e)).size+1))) (λ_ _ _ _=>?_) hd (h _ _ _ _ (λk hw2=>?_) (grownCap_ge w l.length 0 e) ((H.keep yK).alloc _))
  . simp only[execOp,hx,str,zbh,iw,zai,zbm]
  refine⟨sM,λ_=>⟨_,rfl,λj u hu=>?_⟩⟩;rw[Addr.add_lit,zdm];have hj:=(zaz.1 hu).1
  have e0:k.cell? ⟨w.heap.size,j,none⟩=(bytesRow ⟨l.toArray⟩ (grownCap w l.length 0 e))[j]? :=by
    unfold World.cell?;have hw3:k.heap[w.heap.size]? =_:=hw2;simp only[hw3];rfl
  rw[e0];unfold bytesRow;rw[zfm (by simpa using hj)];simpa using hu
end
end Go.Mw
namespace Go.Proofs.YtkfpleidaoaonaaGreatDoor
open Go Go.Mw Go.Lib
set_option maxRecDepth 4000
attribute [local irreducible] FW FL FG FGn fZ gG cO gW Qfn Gives
structure gQ (w:Wd):Prop where
 utf:l9 w
 pow:Lib.TabIs Tryz.prog w "internal/strconv.uint64pow10" .u64 Lib.pow10Tab
 syn: ∃tp p,w.var? Tryz.prog "strconv.ErrSyntax" =some #[.iface tp p]
 ran: ∃tp p,w.var? Tryz.prog "strconv.ErrRange" =some #[.iface tp p]
 len: ∃m,w.cell? ⟨0,0,none⟩=some (.int .i64 m)
theorem J2 {P:Program} {w w':Wd} {n:String} {cs:Array Value} (hk:Kept noB w w') (h:w.var? P n=some cs):w'.var? P n=some cs:=by
 unfold World.var? at h ⊢;cases hg:P.globalNamed n with
 | none=>rw[hg]at h;cases h
 | some g=>
  rw[hg]at h;simp only[zdk]at h |-
  have bH:g<w.heap.size:=by
   refine Classical.byContradiction λhn=>?_;rw[zdd oM]at h;cases h
  rw[hk.block g bH id];exact h
theorem ZU {w w':Wd} {b o:Nat} {v:Value} (hk:Kept noB w w') (h:w.cell? ⟨b,o,none⟩=some v):w'.cell? ⟨b,o,none⟩=some v:=by
 have bH:b<w.heap.size:=by
  refine Classical.byContradiction λhn=>?_;unfold World.cell? at h;rw[zdd dO]at h;cases h
 unfold World.cell? at h ⊢;rw[hk.block b bH id];exact h
theorem gQ.keep {w w':Wd} (h:gQ w) (hk:Kept noB w w'):gQ w':=
 ⟨h.utf.keep hk,J2 hk h.pow,h.syn.imp λ_ h=>h.imp λ_ h=>J2 hk h,h.ran.imp λ_ h=>h.imp λ_ h=>J2 hk h,h.len.imp λ_ h=>ZU hk h⟩
def acT (c:UInt8):LV:=[B c]
instance:jf acT 1:=⟨λ_=>rfl⟩
theorem J3: ∀l:L8,l.flatMap acT=l.map B
 | []=>rfl
 | c::l=>by rw[zbc,J3 l];rfl
theorem RL {w:Wd} {A:OA} {l:L8} (h:gV w A l.length 1 (l.map λu=>Value.int .u8 u.toNat)):Rd w A acT 1 l:=by
 unfold Rd;rw[J3];exact h
theorem YN {n:Nat} (h:n<16):rG.getD n 0=l8 n:=by
 have key: ∀i:Fin 16,rG.getD i.val 0=l8 i.val:=dC;exact key ⟨n,h⟩
theorem aiW {x:Nat} (h:x<256):bits .and .u8 (x:Int) 15=((x%16:Nat):Int):=by
 have key: ∀i:Fin 256,i.val&&& 15=i.val%16:=dC;have:=u8_and_nat x 15 h dC;rw[key ⟨x,h⟩]at this;exact this
section
variable {w:Wd}
theorem agl (c:ay) (hl:c.s.length<=1000000):Rk Tryz.prog 283 [agg (ah c)] w (str (120::xq c.s)):=by
 have H:=Sep.aJ w;refine dI Tryz.func283 rfl rfl rfl rfl ?_;refine Sr (cB H (h:=λb1 _ k _=>?_));refine Zb1 ?_;refine aO k (h:=λb3 _ k _=>?_);replace k:=Sep.ahB k;refine Nx ?_;obtain⟨F0,dS,gH,aI⟩:=k.focus At0;refine aK (tZ (news:=[120]) sM dS sM) rfl rfl (λv' _ hv=>?_);obtain⟨rfl,bZ,F1,pF,hs⟩:=hv;have k:=aI _ F1 _ bZ pF hs;refine Zb2 ?_;refine ZT k (h:=?_);intro b9 c9 o9 k hr9 k k;refine Zb2 ?_;refine aR (λi:Nat=>[(3,av b3),(9,.slice (some ⟨b9,0,none⟩) c.s.length c9),(10,I c.s.length),(11,I i)]) (λi w'=>i<=c.s.length/\Sep w noB [obj b9 o9,um b3 (120::xq (c.s.take i))] w') (λi _=>c.s.length-i) 0 tR ⟨zaq _,(k.aL.aL).firsts (l:=[_,_])⟩ (λi τ _ hI=>?_);obtain⟨hi,k⟩:=hI
 try simp only[cK,like,aS,bK]
 refine Za1 ?_;refine Qn (dW (Cp rfl (λS=>?_) (λS=>?_)))
 .have bH:i<c.s.length:=oM
  obtain⟨x,hx⟩:=get_some bH;have VW:=abW bH;rw[mO hx]at VW;have hxl:=Jb (c.s.take i);rw[zaj]at hxl;have Rq:=x.toNat_lt;refine Zb0 ?_;refine Vv (Gives.jJ rfl rfl (RL (hr9 _ (k.obj At0))) bH) (Vv (Gives.Pd (i:=i) (f:=0) (c:=x) rfl (RL (hr9 _ (k.obj At0))) hx rfl) ?_);refine Zb2 ?_;refine Vv (Gives.CK (m:=x.toNat) (s:=4) rfl rfl dC) (Vv (Gives.yV (l:=rG) (i:=x.toNat/16) rfl rfl (by show x.toNat/16<16;omega)) ?_);rw[YN oM];obtain⟨F0,dS,gH,aI⟩:=k.focus At1;refine aK (sj _ dS (by simp;omega)) rfl rfl (λv' _ hv=>?_);obtain⟨rfl,bZ,F1,pF,hs⟩:=hv;have S:=aI _ F1 _ bZ pF hs;refine Zb1 ?_;refine Vv (Gives.CJ (c:=((x.toNat%16:Nat):Int)) rfl rfl (aiW Rq)) (Vv (Gives.yV (l:=rG) (i:=x.toNat%16) rfl rfl (by show x.toNat%16<16;omega)) ?_);rw[YN oM];obtain⟨F0,dS,gH,aI⟩:=S.focus At1;refine aK (sj _ dS (by simp;omega)) rfl rfl (λv' _ hv=>?_);obtain⟨rfl,bZ,F1,pF,hs⟩:=hv;have S:=aI _ F1 _ bZ pF hs;rw[show(120::xq (c.s.take i))++[l8 (x.toNat/16)]++[l8 (x.toNat%16)]=120::xq (c.s.take (i+1))from by rw[VW];simp]at S;refine Zb2 ?_;exact aj (i+1) tR ⟨oM,S⟩ oM
 have oQ:i=c.s.length:=oM;refine Zb0 ?_;have aqQ:=Jb c.s;rw[oQ,zbo]at k;obtain⟨F0,dS,gH,aI⟩:=k.focus At1;refine aK (Bw dS (by simp;omega)) rfl rfl (λv' _ hv=>?_);obtain⟨rfl,bZ,F1,pF,hs⟩:=hv;have S:=aI _ F1 _ bZ pF hs;refine Zb1 ?_;exact⟨rfl,S.kept⟩
end
end Go.Proofs.YtkfpleidaoaonaaGreatDoor
namespace Go.Mw
section gives
variable {P:Program} {ρ:Od->Value} {ty:Td} {w:Wd} {x y:Od} {T U:Td} {k:IntKind} {a b c:Int}
theorem Gives.acU {yk:IntKind} (hx:ρ x=.int k a) (hy:ρ y=.int yk b) (h0:0<=b) (he:k.wrap (a*2^(Min.min b.toNat k.bits))=c):Gives P ρ (.binOp .shl T x y U) ty w (.int k c) w:=by subst he;exact Gives.shl hx hy h0
theorem Gives.akT {ts:Array Td} (hx:ρ x=.int k a) (hy:ρ y=.int k b) (he:Max.max a b=c):Gives P ρ (.call {callee:=.builtin .max,args:= #[x,y],argTypes:=ts}) ty w (.int k c) w:=by subst he;exact Gives.max hx hy
end gives
end Go.Mw
namespace Go.Proofs.YtkfpleidaoaonaaGreatDoor
open Go Go.Mw Go.Lib
set_option maxRecDepth 4000
attribute [local irreducible] FW FL FG FGn fZ gG cO gW Qfn Gives
theorem Nj (c:UInt8):max 0 (Lib.indexByte rG c)=(((uj c).getD 0:Nat):Int):=by
 have key: ∀i:Fin 256,max 0 (Lib.indexByte rG i.val.toUInt8)=(((uj i.val.toUInt8).getD 0:Nat):Int):=by decide+kernel
 have:=key ⟨c.toNat,c.toNat_lt⟩;have e:(c.toNat).toUInt8=c:=sM;simpa only[e]using this
theorem Nk (c:UInt8):(uj c).getD 0<16:=by
 unfold uj
 split
 .rw[zdf];omega
 split
 .rw[zdf];omega
 decide
theorem aiX {a b:Nat} (ha:a<16) (hb:b<16):bits .or .i64 ((16*a:Nat):Int) (b:Int)=((a*16+b:Nat):Int):=by
 have key: ∀i j:Fin 16,bits .or .i64 ((16*i.val:Nat):Int) (j.val:Int)=((i.val*16+j.val:Nat):Int):=by decide+kernel
 exact key ⟨a,ha⟩ ⟨b,hb⟩
theorem Wn (a b:UInt8) (t:L8):rF (a::b::t)=((uj a).getD 0*16+(uj b).getD 0).toUInt8::rF t:=rfl
theorem PY {l:L8} (h:l.length<=1):rF l=[]:=by
 match l,h with
 | [],_=>rfl
 | [_],_=>rfl
section
variable {w:Wd}
theorem xO (l:L8) (c:UInt8):aY Tryz.prog 112 [str l,B c] w λv w'=>v=I (Lib.indexByte l c)/\w=w':=
 jQ (by
  have:=Tryz.strings_IndexByte ⟨l.toArray⟩ (c.toNat:Int) w;have e:((c.toNat:Int).toNat).toUInt8=c:=sM;rw[e]at this;exact this)
theorem PZ (l p:L8):aY Tryz.prog 342 [str l,str p] w λv w'=>v=.tuple #[str (Lib.trimPrefix l p),.bool (Lib.hasPrefix l p)]/\w=w':=
 jQ (Tryz.strings_CutPrefix ⟨l.toArray⟩ ⟨p.toArray⟩ w)
theorem ZV (l:L8) (hl:l.length<=1000000) (h0:l.head?=some 120):Rk Tryz.prog 284 [str l] w (agg (ah ⟨false,0,rF (l.drop 1)⟩)):=by
 have H:=Sep.aJ w
 have afE:Lib.trimPrefix l [120]=l.drop 1:=by
  cases l with
  | nil=>cases h0
  | cons c t=>
   injection h0 with h0
   subst h0;rfl
 refine tQ Tryz.func284 rfl rfl rfl rfl ?_;refine Sr (aO H (h:=λb1 _ k _=>?_));refine Zb1 ?_;refine eY (PZ l [120]) (h:=?_);rw[afE];refine Zb5 ?_;have S:=k.U6 5;refine aR (λx:L8×L8×Value=>[(0,str x.1),(2,.pointer (some ⟨b1,0,none⟩)),(3,x.2.2)]) (λx w'=>(x.1.length<=l.length/\x.2.1.length+x.1.length<=l.length/\x.2.1++rF x.1=rF (l.drop 1))/\Sep w noB [lF 5 x.2.2 x.2.1,blk b1 (ah cell0) 52] w') (λx _=>x.1.length) (l.drop 1,[],.slice none 0 0) tR ⟨⟨by dsimp only;rw[zbq];omega,sM,rfl⟩,S⟩ (λx τ _ hI=>?_);obtain⟨s,acc,v1⟩:=x;obtain⟨⟨k,I,fU⟩,S⟩:=hI;dsimp only at k I fU S
 try simp only[cK,like,aS,bK]
 refine Za3 ?_;refine Qn (Cp rfl (λd=>?_) (λd=>?_))
 .have bH:1<s.length:=oM
  obtain⟨a,b,t,rfl⟩: ∃a b t,s=a::b::t:=by
   match s,bH with
   | a::b::t,_=>exact⟨a,b,t,rfl⟩
  rw[Wn]at fU;have ha:=Nk a;have hb:=Nk b;have hbv:Value.int .u8 (((uj a).getD 0*16+(uj b).getD 0:Nat):Int)=B ((uj a).getD 0*16+(uj b).getD 0).toUInt8:=(aiV oM).symm;simp only[zal]at k I;refine Zb0 ?_;refine Ds (λd _ I=>?_);refine Zb2 ?_;refine Gp d 2 rfl rfl (λ_=>(Gives.yV (i:=0) rfl rfl oM)) (Gm d 6 ?_);refine Gp d 7 rfl rfl (λ_=>(Gives.yV (i:=1) rfl rfl oM)) (JR d 3 _ I (xO rG a) (h:=λ_ I=>⟨sT,?_⟩));refine GS (Gn rfl (λ_=>(Gives.akT rfl rfl (Nj a))) ?_);refine GS (Gn rfl (λ_=>(Gives.acU (c:=((16*(uj a).getD 0:Nat):Int)) rfl rfl oM (by show IntKind.i64.wrap (((uj a).getD 0:Nat)*16)=_;rw[IntKind.wrap_i64];omega))) ?_);refine JR d 8 _ I (xO rG b) (h:=λ_ I=>⟨sT,?_⟩);refine GS (Gn rfl (λ_=>(Gives.akT rfl rfl (Nj b))) ?_);refine GS (Gn rfl (λ_=>(Gives.orE rfl rfl (aiX ha hb))) ?_);refine GS (Gn rfl (λ_=>(Gives.afe rfl oM)) ?_);refine Gz d 12 _ I ([((uj a).getD 0*16+(uj b).getD 0).toUInt8].map B) (h:=λbs _ I=>⟨sT,?_⟩);refine abU d 13 _ I (news:=[((uj a).getD 0*16+(uj b).getD 0).toUInt8]) At0 (by simp;omega) (h:=λv2 _ I=>⟨sT,?_⟩);refine Ja d 14 _ (h:=⟨sT,?_⟩);refine Zb1 ?_;refine Vv (Gives.oJ (l:=a::b::t) (i:=2) rfl rfl sM) ?_;refine Zb1 ?_;exact aj (t,acc++[((uj a).getD 0*16+(uj b).getD 0).toUInt8],v2) tR ⟨⟨dO,by dsimp only;rw[zad];simp;omega,by dsimp only;rw[zbp];exact fU⟩,I⟩ (by simp;omega)
 have hsh:s.length<=1:=oM;rw[PY hsh,zci]at fU;refine Zb1 ?_;refine Vv (Gives.ajz S At0 rfl) (Vb (ah ⟨false,0,acc⟩) ?_);refine ak S (h:=λ_ I=>?_);refine Qn (dX (aN (h:=?_)));exact⟨_,jh I,by rw[fU];rfl,I.kept⟩
end
end Go.Proofs.YtkfpleidaoaonaaGreatDoor
namespace Go.Proofs.YtkfpleidaoaonaaGreatDoor
open Go Go.Mw Go.Lib Go.Proofs.Tryz
set_option maxRecDepth 4000
attribute [local irreducible] FW FL FG FGn fZ gG cO gW Qfn Gives
def gY:bN:=⟨5,false⟩
def rU (c:ay):L8×Int:=if eF gY c=0 then(120::xq c.s,0)else([],eF gY c)
theorem acV {c:ay} (h:eF gY c=0):c.null=false/\c.s.length<=1024:=by
 unfold eF at h;have e:nC gY=true:=rfl;rw[e,zab dC]at h;cases hn:c.null with
 | true=>rw[hn,zac rfl]at h;split at h<;>rename_i hx;exact zap hx.1 dC;cases h
 | false=>
  rw[hn,zab dC]at h
  split at h
  .rename_i hx
   have :isC gY.kind c=decide (c.n=0/\c.s.length<=1024):=rfl;rw[this,decide_eq_true_eq]at hx;exact⟨rfl,hx.2⟩
  cases h
section
variable {w:Wd}
theorem J4 (c:ay) (hf:fits c.n) (hT:l9 w):Rk prog 248 [agg (aM gY),agg (ah c)] w (.tuple #[str (rU c).1,I (rU c).2]):=by
 have H:=Sep.aJ w;refine dF func248 rfl rfl rfl rfl ?_;refine Sr (cB H (cs:=aM gY) rfl (h:=λb0 _ k _=>?_));refine cB k (h:=λb3 _ k _=>?_);refine Zb4 ?_;refine aD k (rZ gY c hf (hT.keep k.kept)) (h:=λ_ k _=>?_);refine Za3 ?_;refine Qn (Cp rfl (λS=>?_) (λS=>?_))
 .have au:rU c=([],eF gY c):=zab S
  refine Zb3 ?_;exact⟨by rw[au];rfl,k.kept⟩
 have d9:eF gY c=0:=by simpa using S
 have au:rU c=(120::xq c.s,0):=zac d9;obtain⟨hnn,hsl⟩:=acV d9;refine Za2 ?_;refine Qn (Cd rfl (λS=>?_) (λS=>?_))
 .exact zap S (by rw[hnn];decide)
 refine Zb0 ?_;refine Ds (λS _ k=>?_);refine Zb1 ?_;refine pq S 3 k (h:=?_);refine rD S 1 [(3,false)] rfl kR (afr gY dC dC (hT.keep k.kept)) rfl kR kR (λv' _ hv=>?_);obtain⟨⟨isF,rfl,_⟩,bZ⟩:=hv;have a:=k.keep bZ;rw[show Af gY.kind=kF5 from rfl];refine⟨(dw rfl kR (Gives.JZ rfl (a.obj At0) (us:=ah c) rfl rfl) rfl (eZ)),?_⟩;refine Zb1 ?_;refine jH S 4 _ (y:=.tmp 17) (f:=283) (fs:=[]) (cs:=[]) (vals:=[agg (ah c)]) rfl (agl c oM) (h:=λv' _ hv=>?_);obtain⟨rfl,ajO⟩:=hv;have k:=a.keep ajO;refine⟨sT,?_⟩;refine Zb2 ?_;exact⟨by rw[au];rfl,k.kept⟩
theorem Wo (l:L8) (hl:l.length<=1000000) (h0:l.head?=some 120) (hT:l9 w):aY prog 310 [agg (aM gY),str l] w λv w'=>(∃e,v=.tuple #[agg (ah ⟨false,0,Em l⟩),I e])/\Kept noB w w':=by
  have H:=Sep.aJ w;obtain⟨s,hs⟩: ∃s,s=rF (l.drop 1):=⟨_,rfl⟩;have hrx:Em l=if 120::xq s=l/\s.length<=1024 then s else []:=by rw[hs];rfl
  have ajP:eF gY ⟨false,0,s⟩=if s.length<=1024 then 0 else 90:=by
    have e:isC gY.kind ⟨false,0,s⟩=decide ((0:Int)=0/\s.length<=1024):=rfl;have e1:nC gY=true:=rfl;unfold eF;rw[e1,zab dC,zab sM,e]
    by_cases h:s.length<=1024<;>simp[h]
  refine zR func310 rfl rfl rfl rfl ?_;refine Sr (cB H (cs:=aM gY) rfl (h:=λb0 _ k _=>?_));refine aO k (h:=λb3 _ k _=>?_);refine Zb2 ?_;refine aD k (yJ gY) (h:=λ_ k _=>?_);refine Za1 ?_;refine Qn (Cp rfl (λS=>?_) (λS=>?_))
  . exact zap S dC
  refine Zb1 ?_;refine aK (afr gY dC dC (hT.keep k.kept)) rfl rfl (λv' _ hv=>?_);obtain⟨⟨isF,rfl,_⟩,bZ⟩:=hv;have S:=k.keep bZ;rw[show Af gY.kind=kF5 from rfl];refine Zb2 ?_;refine dP (f:=284) (fs:=[]) (cs:=[]) (vals:=[str l]) rfl (ZV l hl h0) rfl rfl (λv' _ hv=>?_);obtain⟨rfl,bZ⟩:=hv;have k:=S.keep bZ;rw[<-hs];refine aO k (h:=λb19 _ k _=>?_);refine ak k (h:=λ_ k=>?_);refine Za2 ?_;refine Qn (Cp rfl (λS=>?_) (λS=>?_))
  . have hln:l=[110,117,108,108]:=S
    rw[hln]at h0;cases h0
  refine Zb2 ?_;refine aD k (J4 ⟨false,0,s⟩ ⟨(by show(-9223372036854775808:Int)<=0;decide),(by show(0:Int)<=9223372036854775807;decide)⟩ (hT.keep k.kept)) (h:=λ_ S _=>?_);refine Zb8 ?_;refine aF (t:=29) rfl (λk=>?_) (λk=>?_)
  . have nI:Em l=[]:=by
      rw[hrx,zab];rintro⟨_,h2⟩;refine k ?_;unfold rU;rw[ajP,zac h2,zac rfl]
    refine Zb1 ?_;refine Vb (ah cell0) ?_;refine ak S (h:=λ_ a=>?_);refine Am ?_;refine Qn (Rs (aN (h:=?_)));exact⟨_,gK a,⟨4,by rw[nI];rfl⟩,a.kept⟩
  have hz:s.length<=1024:=by
    refine Classical.byContradiction λh=>k ?_;unfold rU;rw[ajP,zab h,zab dC]
    decide
  have htx:(rU ⟨false,0,s⟩).1=120::xq s:=by
    unfold rU;rw[ajP,zac hz,zac rfl]
  refine Za4 ?_;refine Qn (Cp rfl (λa=>?_) (λa=>?_))
  . have nI:Em l=[]:=by rw[hrx,zab (λh=>a (by rw[htx];exact h.1))]
    refine Sr (Vb (ah cell0) ?_);refine ak S (h:=λ_ k=>?_);refine Am ?_;refine Qn (Rs (aN (h:=?_)));exact⟨_,gK k,⟨4,by rw[nI];rfl⟩,k.kept⟩
  have F8:Em l=s:=by rw[hrx,zac ⟨by rw[<-htx];exact zca.1 a,hz⟩]
  refine Zb1 ?_;refine ak S (h:=λ_ k=>?_);refine Am ?_;refine Qn (dX (aN (h:=?_)));exact⟨_,gK k,⟨0,by rw[F8];rfl⟩,k.kept⟩
end
end Go.Proofs.YtkfpleidaoaonaaGreatDoor
