/-
 The library's builder of texts,walked:copyCheck,Len,WriteByte,WriteString,String.
-/
import Derived.Test.YtjcgliljofbopaaGreatDoorNv12
set_option linter.all false
set_option maxRecDepth 4000
namespace Go.Proofs.Mw
open Go.RowKit
variable {P:Program} {ρ:Od->Value} {ty:Td} {w:Wd} {x y:Od}
def Gives.afy {src dst t e:Td} {n bytes cells b:Nat} (hs:P.underlying src=some (.pointer t)) (hd:P.underlying dst=some .unsafePointer) [hz:Cells P t n bytes] (hn:n≠0) (UG:w.shape? b=some (e,cells)) (hc:0<cells) (hx:ρ x=.pointer (some ⟨b,0,none⟩)):
    Gives P ρ (.convert src dst x) ty w (.pointer (some ⟨b,0,none⟩)) w:=λ_ _ _ _=>by
  obtain⟨j,ht,qx⟩:=zbc.1 hz.size;simp only[Prod.mk.injEq]at qx;have:=Lib.run_to_unsafe (P:=P) w ⟨b,0,none⟩ hs hd ht (by rw[qx.1];exact hn) UG hc;simp only[execOp,hx,zbi,this,zam,zbl]
def Gives.YP {src dst u e:Td} {n bytes cells b:Nat} (hs:P.underlying src=some .unsafePointer) (hd:P.underlying dst=some (.pointer u)) [hz:Cells P u n bytes] (UG:w.shape? b=some (e,cells)) (hl:liesAt P P.depth e (cells/P.cellsOf e) 0 u 1=true) (hx:ρ x=.pointer (some ⟨b,0,none⟩)):
    Gives P ρ (.convert src dst x) ty w (.pointer (some ⟨b,0,none⟩)) w:=λ_ _ _ _=>by
  obtain⟨j,hu,_⟩:=zbc.1 hz.size;have:=Lib.run_from_unsafe (P:=P) w ⟨b,0,none⟩ hs hd hu UG hl;simp only[execOp,hx,zbi,this,zam,zbl]
def Gives.alA {T U te:Td} {n bytes b:Nat} (hp:P.underlying T=some (.pointer te)) [hz:Cells P te n bytes] (hx:ρ x=.pointer (some ⟨b,0,none⟩)) (hy:ρ y=.pointer (some ⟨b,0,none⟩)) (hg: ∀x y,(eqGuard .neq T x y (.pointer (some ⟨b,0,none⟩)) (.pointer (some ⟨b,0,none⟩))).run P w=.ok () w):
    Gives P ρ (.binOp .neq T x y U) ty w (.bool false) w:=
  .bin hx hy hg (by
    obtain⟨j,ht,_⟩:=zbc.1 hz.size;exact Lib.run_neq_ptr_same (P:=P) w ⟨b,0,none⟩ hp ht)
class Mh (P:Program) (f:FuncId):Prop where
 run: ∀v w,(callFunc f #[v]).run P w=.ok (.value v) w
def Gives.afz {σ:St} {f:FuncId} [h:Mh P f] {ats:Array Td} {v:Value} (hx:evF σ x=v):Gives P (evF σ) (.call {callee:=.value (.func f),args:= #[x],argTypes:=ats}) ty w v w:=λ_ _ _ _=>by
 have e:(#[]++ #[x].map (evF σ)++ #[]:Array Value)= #[v]:=by simp[hx]
 show(callFunc f (#[]++ #[x].map (evF σ)++ #[])).run P w=_
 rw[e,h.run]
def P7 {w:Wd} {b:Nat} {cs:LV} {e:Td} (h:w.heap[b]? =some (.cells cs.toArray e (0,0))):w.shape? b=some (e,cs.length):=by
 unfold World.shape?;rw[h];simp
def Gives.sliceData {ts:Array Td} {v:Value} {w':Wd} (h:(Builtin.unsafeSliceData_ ts ty #[ρ x]).run P w=.ok v w'):Gives P ρ (.call {callee:=.builtin .unsafeSliceData,args:= #[x],argTypes:=ts}) ty w v w':=λ_ _ _ _=>by
 simp only[execOp,resolve,invoke,builtin,zbi,zbl,zam,zcc,zav,zcl,h]
def Gives.unsafeStr {ts:Array Td} {v:Value} {w':Wd} (h:(Builtin.unsafeString_ ts ty #[ρ x,ρ y]).run P w=.ok v w'):Gives P ρ (.call {callee:=.builtin .unsafeString,args:= #[x,y],argTypes:=ts}) ty w v w':=λ_ _ _ _=>by
 simp only[execOp,resolve,invoke,builtin,zbi,zbl,zam,zcc,zav,zcl,h]
variable {b c:Nat} {es:Array MapEntry}
open Go.Lib
section
attribute [local irreducible] FW FL FG FGn jK jO fI lU Qfn Gives
instance:Mh Tryz.prog 254:=⟨λv w=>by
 rw[run_callFunc_extern Tryz.func254 kR kR kR (e:=Extern.AbiNoEscape.same) kR,Lib.run_noEscape];rfl⟩
def ay (b:Nat):Value:=.pointer (some ⟨b,0,none⟩)
def vQ (b:Nat) (l:L8):HP:=exH λx:Value×Value=>star (jB ((x.1=.pointer none\/x.1=ay b)/\(l=[]->x.2=.slice none 0 0))) (star (blk b [x.1,x.2] 209) (l8 5 x.2 l))
section
variable {w w0:Wd} {S:NP} {rs:List HP}
def Sep.Mi {b:Nat} {l:L8} (H:Sep w0 S (vQ b l::rs) w): ∃a v,((a=.pointer none\/a=ay b)/\(l=[]->v=.slice none 0 0))/\Sep w0 S (blk b [a,v] 209::l8 5 v l::rs) w:=by
 obtain⟨x,k⟩:=H.ex0;obtain⟨h,I⟩:=k.bL.tC;exact⟨x.1,x.2,h,I.bL⟩
def Sep.P8 {b:Nat} {l:L8} {a v:Value} (ha:(a=.pointer none\/a=ay b)/\(l=[]->v=.slice none 0 0)) (H:Sep w0 S (blk b [a,v] 209::l8 5 v l::rs) w):Sep w0 S (vQ b l::rs) w:=
 Sep.uF (a,v) (Sep.aQ (Sep.lu ha (Sep.aQ H)))
def Sep.aiT {b:Nat} (H:Sep w0 S (blk b [.pointer none,.slice none 0 0] 209::rs) w):Sep w0 S (vQ b []::rs) w:=
 Sep.P8 ⟨.inl rfl,λ_=>rfl⟩ (H.XU 5).aG
def Vr {b:Nat} {v:Value} {F:NP} (hp:(blk b [.pointer none,v] 209).ok F w):aR Tryz.prog 179 [ay b] w λr w'=>r=.tuple #[]/\Turn F (blk b [ay b,v] 209) w w':=by
 have H:=Sep.bR hp;refine cK Tryz.func179 ?_;refine Za5 ?_;refine Qn (Cd rfl (λk=>?_) (λk=>?_))
 .refine Zb2 ?_
  refine Vv (Gives.afy (t:=209) kR kR dC (P7 (H.obj At0)) sM rfl) ?_;refine Vv (Gives.afz rfl) (Vv (Gives.YP (u:=209) kR kR (P7 (H.obj At0)) kR rfl) ?_);refine Uz (λ_ S=>?_);refine Zb0 ?_;exact⟨rfl,S.turn⟩
 exact zar k sM
def YQ {b:Nat} {v:Value} {F:NP} (hp:(blk b [ay b,v] 209).ok F w):aR Tryz.prog 179 [ay b] w λr w'=>r=.tuple #[]/\Turn F (blk b [ay b,v] 209) w w':=by
 have H:=Sep.bR hp;refine cK Tryz.func179 ?_;refine Za5 ?_;refine Qn (Cd rfl (λk=>?_) (λk=>?_))
 .exact zar k (by simp[ay])
 refine Zb5 ?_;refine Vv (Gives.alA (te:=209) kR rfl rfl (λ_ _=>rfl)) (Qn ?_);refine Cd rfl (λk=>?_) (λk=>?_)
 .cases k
 refine Zb0 ?_;exact⟨rfl,H.turn⟩
def A9 {b:Nat} {a v:Value} {F:NP} (ha:a=.pointer none\/a=ay b) (hp:(blk b [a,v] 209).ok F w):aR Tryz.prog 179 [ay b] w λr w'=>r=.tuple #[]/\Turn F (blk b [ay b,v] 209) w w':=by
 rcases ha with rfl | rfl
 .exact Vr hp
 exact YQ hp
def tO {b:Nat} {l:L8} {F:NP} (c:UInt8) (hp:(vQ b l).ok F w) (hl:l.length<=100000000):aR Tryz.prog 250 [ay b,B c] w λr w'=>r=.nilIface/\Turn F (vQ b (l++[c])) w w':=by
 obtain⟨a,v,ha,H⟩:=Sep.Mi (Sep.bR hp);refine bQ Tryz.func250 ?_;refine Zb2 ?_;obtain⟨F0,eD,gV,aK⟩:=H.focus At0;refine aL (A9 ha.1 eD) rfl rfl (λv' _ hv=>?_);obtain⟨rfl,bZ,F1,hq,hs⟩:=hv;have k:=aK _ F1 _ bZ hq hs;refine Zb6 ?_;refine Bs k ([c].map B) (λbs _ k _=>?_);refine pY k (news:=[c]) At1 (by simp;omega) (h:=?_);intro v2 k k;obtain⟨A2,c2,rfl,_⟩:=Sep.xq k At1;refine Uz (λ_ k=>?_);refine Zb1 ?_;exact⟨rfl,(Sep.P8 ⟨.inr rfl,λe=>zar e sM⟩ k).turn⟩
def uL {b:Nat} {l news:L8} {F:NP} (iN:news≠[]) (hp:(vQ b l).ok F w) (hl:l.length+news.length<=100000000):aR Tryz.prog 126 [ay b,str news] w λr w'=>r=.tuple #[I news.length,.nilIface]/\Turn F (vQ b (l++news)) w w':=by
 obtain⟨a,v,ha,H⟩:=Sep.Mi (Sep.bR hp);refine bQ Tryz.func126 ?_;refine Zb3 ?_;obtain⟨F0,eD,gV,aK⟩:=H.focus At0;refine aL (A9 ha.1 eD) rfl rfl (λv' _ hv=>?_);obtain⟨rfl,bZ,F1,hq,hs⟩:=hv;have k:=aK _ F1 _ bZ hq hs;refine Zb6 ?_;refine Oc k (news:=news) At1 oM (h:=?_);intro v2 k k;obtain⟨A2,c2,rfl,_⟩:=Sep.xq k At1;refine Uz (λ_ k=>?_);refine Zb4 ?_;exact⟨rfl,(Sep.P8 ⟨.inr rfl,λe=>zar (List.append_eq_nil_iff.1 e).2 iN⟩ k).turn⟩
def Vs {w:Wd} {F:NP} {g n:Nat} (hF:F g):Kept F w (w.freeze ⟨g,0,none⟩ n):=by
 unfold World.freeze
 split
 .exact Kept.refl _ _
 refine⟨rfl,rfl,rfl,sM,λk hk hn=>?_⟩;rw[zdk,zab (λe=>hn (by rw[<-e];exact hF))]
def Vt {b:Nat} {l:L8} {F:NP} (hp:(vQ b l).ok F w) (hl:l.length<=100000000) (h0:l≠[]):aR Tryz.prog 127 [ay b] w λr w'=>r=str l/\Turn F emp w w':=by
 obtain⟨a,v,ha,H⟩:=Sep.Mi (Sep.bR hp);obtain⟨A,c,rfl,rG,_,KG⟩:=Sep.xq H At1;have hlen:l.length≠0:=λe=>h0 (zbg e);refine cK Tryz.func127 ?_;refine Dz (λEI w4 H4=>?_);refine Zb4 ?_;refine Gm EI 5 ?_;refine Zb4 ?_;obtain⟨F0,eD,gV,aK⟩:=H4.focus At1;have tq:=Sep.rowAt H4 At1
 obtain⟨g,hA,hF0,UG⟩: ∃g,A=some ⟨g,0,none⟩/\F0 g/\w4.shape? g=some (5,c):=by
  rcases eD.1.2 with⟨hv,h1⟩ | ⟨g,cap,cur,hv,_,hh,Yb,_,OB,_⟩
  .exact zar h1 hlen
  injection hv with e1 e2 e3
  refine⟨g,e1,(eD.2 g).2 (by rw[e1];rfl),?_⟩;unfold World.shape?;rw[hh,e3];simp only[OB,zfd]
 subst hA;refine uW (C:=λv' w'=>v'=ay g/\w'=w4) EI 4 [(9,true),(8,false),(7,true),(6,true),(5,true)] rfl kR ⟨_,_,Gives.sliceData (Lib.run_unsafeSliceData_row _ _ _ ⟨g,0,none⟩ l.length c oM),rfl,rfl⟩ kR kR (λv' wa hv=>?_);obtain⟨rfl,rfl⟩:=hv;have Ha:=H4;refine⟨sL,?_⟩
 refine uW (C:=λv' w'=>v'=str l/\w'=wa.freeze ⟨g,0,none⟩ l.length) EI 10 [] rfl kR ⟨_,_,Gives.unsafeStr (Lib.run_unsafeString_row (P:=Tryz.prog) _ _ _ _ 5 kR kR g c UG l h0 rG oM (λj x hj=>by
  obtain⟨ad,e1,hc⟩:=tq.at_ oM;injection e1 with e1
  subst e1;exact hc j _ (by rw[zbz,hj];rfl))),rfl,rfl⟩ kR kR (λv' wb hv=>?_)
 obtain⟨rfl,rfl⟩:=hv;have Hb:=aK _ (λ_=>False) emp (Vs (n:=l.length) hF0) (YG (λ_=>id)) (λb hb=>hb.elim);refine⟨sT,?_⟩;refine Zb1 ?_;exact⟨rfl,Hb.aG.first.turn⟩
def YR {b:Nat} {F:NP} (hp:(vQ b []).ok F w):aR Tryz.prog 127 [ay b] w λr w'=>r=str []/\Turn F emp w w':=by
 obtain⟨a,v,ha,H⟩:=Sep.Mi (Sep.bR hp);have hv:=ha.2 rfl;subst hv;refine cK Tryz.func127 ?_;refine Dz (λEI w4 H4=>?_);refine Zb4 ?_;refine Gm EI 5 ?_;refine Zb4 ?_;refine uW (C:=λv' w'=>v'=.pointer none/\w'=w4) EI 4 [(9,true),(8,false),(7,true),(6,true),(5,true)] rfl kR ⟨_,_,Gives.sliceData (Lib.run_unsafeSliceData_nil _ _ _ 0 0),rfl,rfl⟩ kR kR (λv' wa hv=>?_);obtain⟨rfl,rfl⟩:=hv;have Ha:=H4;refine⟨sL,?_⟩;refine uW (C:=λv' w'=>v'=str []/\w'=wa) EI 10 [] rfl kR ⟨_,_,Gives.unsafeStr (Lib.run_unsafeString_none (P:=Tryz.prog) _ _ _ _ none),rfl,rfl⟩ kR kR (λv' wb hv=>?_);obtain⟨rfl,rfl⟩:=hv;have Hb:=Ha;refine⟨sT,?_⟩;refine Zb1 ?_;exact⟨rfl,⟨Hb.kept,λ_=>False,YG (λ_=>id),λb hb=>hb.elim⟩⟩
def CG {b:Nat} {l:L8} {F:NP} (hp:(vQ b l).ok F w) (hl:l.length<=100000000):aR Tryz.prog 127 [ay b] w λr w'=>r=str l/\Turn F emp w w':=by
 by_cases h:l=[]
 .subst h;exact YR hp
 exact Vt hp hl h
end
namespace K32

def oN (k:Int) (e:MapEntry):Bool:=match e.key with
 | .int .i32 a=>a==k
 | _=>false
def Ee (es:List MapEntry) (k:Int):Option Value:=(es.find? (oN k)).map (·.val)
def intKeys (es:List MapEntry):Prop:=∀e∈es,∃a,e.key=.int .i32 a
section
variable {w0 w w':Wd} {S:NP} {rs:List HP} {put:HP->List HP} {P:Program}
def Bb (k:Int): ∀(es:List MapEntry) (i:Nat),intKeys es->∃r,Instr.findNow (.int .i32) (.int .i32 k) es i=some r/\r.map (·.2)=Ee es k/\
    (∀j v,r=some (j,v)->∃m,j=i+m/\∃e,es[m]? =some e/\oN k e=true/\es.find? (oN k)=some e/\∀m' e',m'<m->es[m']? =some e'->oN k e'=false):=by
  intro es
  induction es with
  | nil=>intro i _;exact⟨none,rfl,rfl,λ_ _ h=>by cases h⟩
  | cons e es ih=>
    intro i hk;obtain⟨a,ha⟩:=hk e zao;obtain⟨r,h1,h2,h3⟩:=ih (i+1) λx hx=>hk x (zat _ hx);have hs:Instr.sameNow (.int .i32) (.int .i32 k) e.key=some (k==a):=by rw[ha];simp[Instr.sameNow]
    have KX:oN k e=(a==k):=by unfold oN;rw[ha]
    by_cases hka:k=a
    . subst hka
      have hkt:oN k e=true:=by rw[KX];simp
      refine⟨some (i,e.val),?_,?_,?_⟩
      . unfold Instr.findNow;rw[hs];simp
      . simp[Ee,hkt]
      rintro j v OC;injection OC with OC
      injection OC with h4 h5
      exact⟨0,oM,e,rfl,hkt,by simp[hkt],λm' _ hm=>oM⟩
    have hkf:oN k e=false:=by rw[KX];simpa using λh:a=k=>hka h.symm
    refine⟨r,?_,?_,?_⟩
    . unfold Instr.findNow;rw[hs,h1]
      have :(k==a)=false:=by simpa using hka
      rw[this]
    . rw[h2];simp[Ee,hkf]
    rintro j v OC;obtain⟨m,hm,e',he',Oz,hf',aS⟩:=h3 j v OC;refine⟨m+1,oM,e',by simpa using he',Oz,by simp[hkf,hf'],λm' e'' om OD=>?_⟩;cases m' with
    | zero=>simp at OD;rw[<-OD];exact hkf
    | succ m'=>exact aS m' e'' oM (by simpa using OD)
def sK {kt:Td} (hu:P.underlying kt=some (.int .i32)) (k:Int) (es:List MapEntry) (hk:intKeys es):
    ∃r,(Instr.findKey kt (.int .i32 k) es).run P w=.ok r w/\r.map (·.2)=Ee es k/\
    (∀j v,r=some (j,v)->∃e,es[j]? =some e/\oN k e=true/\∀m' e',m'<j->es[m']? =some e'->oN k e'=false):=by
  obtain⟨r,h1,h2,h3⟩:=Bb k es 0 hk;refine⟨r,by simp[Instr.findKey,run_underlying hu,h1],h2,λj v OC=>?_⟩;obtain⟨m,hm,e,he,nP,_,aS⟩:=h3 j v OC;have :j=m:=by omega
  subst this;exact⟨e,he,nP,aS⟩
def q8 {kt:Td} (hu:P.underlying kt=some (.int .i32)) (b:Bool) (k:Int) (d:Nat):(Instr.checkKey b (d+1) kt (.int .i32 k)).run P w=.ok () w:=by
 simp[Instr.checkKey,run_underlying hu]
def run_getObj_map (h:w.heap[b]? =some (.map es c)):(getObj b).run P w=.ok (.map es c) w:=by
 simp[getObj,Sem.run,h]
end
end K32
end
variable {v:Value} {k n:Nat} {s:ByteArray}
section
variable {P:Program} {ρ:Od->Value} {ty:Td} {w w0:Wd} {x y z:Od} {S:NP} {rs:List HP} {put:HP->List HP}
def Vu {T k e:Td} [hm:IsMap P T k e] [hk:mV P k .i32] {i:Int}
    (H:Sep w0 S rs w) (hat:At rs (obj b (.map es c)) put) (qX:K32.intKeys es.toList) (l9:K32.Ee es.toList i=none) (hx:ρ x=.map (some b)) (hy:ρ y=.int .i32 i) (hz:ρ z=v):
    ∃w',OV P ρ (.insert T x y z) ty w w'/\Sep w0 S (put (obj b (.map (es.push {key:=.int .i32 i,val:=v,born:=c}) (c+1)))) w':=by
  have hb:=H.obj hat;obtain⟨r,h1,h2,_⟩:=K32.sK (P:=P) (w:=w) hk.und i es.toList qX
  have hr:r=none:=by
    cases r with
    | none=>rfl
    | some jv=>rw[l9]at h2;cases h2
  subst hr;have dX:=K32.q8 (P:=P) (w:=w) hk.und false i 9999;have y9: ∀o:Obj,(setObj b o).run P w=.ok () {w with heap:=w.heap.setIfInBounds b o}:=λo=>by simp[Go.setObj,Sem.run,hb]
  have aS:=lZ hb;refine⟨{w with heap:=w.heap.setIfInBounds b (.map (es.push {key:=.int .i32 i,val:=v,born:=c}) (c+1))},λ_ _ _ _=>?_,H.setObj hat ⟨rfl,rfl,rfl,sM,λj hj iN=>by simp only[zbx];rw[zab (λe=>iN e.symm)]⟩ (by simp[aS])⟩;simp only[execOp,hx,hy,hz,Instr.mapUpdate,zbi,run_underlying hm.und,zam,run_getObj_map hb];rw[dX];simp only[zam,h1,y9,zbl]
def q9 {r:Option Nat} {ops:AO} {Q:Post} {rest:LO} {σ:St} {pos:String} {after:Array Edge} {T k e:Td} [hm:IsMap P T k e] [hk:mV P k .i32] {i:Int}
    (H:Sep w0 S rs w) (hat:At rs (obj b (.map es c)) put) (qX:K32.intKeys es.toList) (l9:K32.Ee es.toList i=none) (hx:evF σ x=.map (some b):=by exact rfl) (hy:evF σ y=.int .i32 i:=by exact rfl) (hz:evF σ z=v:=by exact rfl)
    (h: ∀w',Sep w0 S (put (obj b (.map (es.push {key:=.int .i32 i,val:=v,born:=c}) (c+1)))) w'->FL P r n ops Q rest σ w'):FL P r n ops Q (⟨none,.insert T x y z,ty,pos,after,none⟩::rest) σ w:=by
  obtain⟨w',ha,hs⟩:=Vu (P:=P) (ty:=ty) (T:=T) H hat qX l9 hx hy hz;exact Eb ha rfl (h w' hs)
def OX {T k e:Td} [hm:IsMap P T k e] [hk:mV P k .i32] {zv:Value} [hz:Zero P e zv] {i:Int}
    (hb:w.heap[b]? =some (.map es c)) (qX:K32.intKeys es.toList) (hx:ρ x=.map (some b)) (hy:ρ y=.int .i32 i):Gives P ρ (.lookup T x y true) ty w (.tuple #[(K32.Ee es.toList i).getD zv,.bool (K32.Ee es.toList i).isSome]) w:=by
  obtain⟨r,h1,h2,_⟩:=K32.sK (P:=P) (w:=w) hk.und i es.toList qX;intro _ _ _ _;rw[<-h2];have dX:=K32.q8 (P:=P) (w:=w) hk.und es.isEmpty i 9999;simp only[execOp,hx,hy,Instr.lookup,zbi,run_underlying hm.und,zam,run_getObj_map hb,zbl];rw[dX];simp only[zam,h1];cases r with
  | none=>simp[hz.run]
  | some jv=>obtain⟨j,v⟩:=jv;simp
def RZ {T:Td} [ht:lQ P T] (H:Sep w0 S rs w) (hx:ρ x=.string s): ∃k w',Gives P ρ (.range T x) ty w (.pointer (some ⟨k,0,none⟩)) w'/\Sep w0 S (obj k (.stringIter s 0)::rs) w':=by
 refine⟨w.heap.size,w.alloc (.stringIter s 0),λ_ _ _ _=>?_,H.alloc _⟩;have:=run_range_string (P:=P) w T s ht.und;simp only[execOp,hx,zbi,this,zam,zbl];rfl
def Vw {pos:Nat} (H:Sep w0 S rs w) (hat:At rs (obj k (.stringIter s pos)) put) (hx:ρ x=.pointer (some ⟨k,0,none⟩)) (h:pos<s.size):
    ∃w',Gives P ρ (.next x true) ty w (.tuple #[.bool true,.int .i64 pos,.int .i32 (Utf8.decode s pos).1]) w'/\Sep w0 S (put (obj k (.stringIter s (pos+(Utf8.decode s pos).2)))) w':=by
  have hk:=H.obj hat;have aS:=lZ hk;have:=Lib.run_next_any_at (P:=P) w k s pos ty hk h;refine⟨w.iterAt k s (pos+(Utf8.decode s pos).2),λ_ _ _ _=>?_,H.setObj hat ⟨rfl,rfl,rfl,?_,λj hj iN=>?_⟩ (Lib.iterAt_heap w k s pos _ hk)⟩
  . simp only[execOp,hx,zbi,this,zam,zbl]
  . simp[World.iterAt]
  simp only[World.iterAt,zbx];rw[zab (λe=>iN e.symm)]
def OY {pos:Nat} (H:Sep w0 S rs w) (hat:At rs (obj k (.stringIter s pos)) put) (hx:ρ x=.pointer (some ⟨k,0,none⟩)) (h: ¬pos<s.size):Gives P ρ (.next x true) ty w (.tuple #[.bool false]) w:=λ_ _ _ _=>by
 have:=Lib.run_next_end_at (P:=P) w k s pos ty (H.obj hat) h;simp only[execOp,hx,zbi,this,zam,zbl]
end
section
attribute [local irreducible] FW FL FG FGn jK jO fI lU Qfn Gives
def keys_nil:K32.intKeys (#[]:Array MapEntry).toList:=λe he=>by simp at he
def gB {k:Int} (h:K32.intKeys es.toList):K32.intKeys (es.push {key:=.int .i32 k,val:=v,born:=c}).toList:=by
 intro e he;rw[zfu,zbk,zau]at he
 rcases he with he | rfl
 .exact h e he
 exact⟨k,rfl⟩
def zw (k:Int) (v:Int) (b:Nat):MapEntry:={key:=.int .i32 k,val:=.int .u8 v,born:=b}
def iC:Array MapEntry:= #[zw 34 34 0,zw 92 92 1,zw 8 98 2,zw 12 102 3,zw 10 110 4,zw 13 114 5,zw 9 116 6]
def zx (r:Int):Option UInt8:=if r=34 then some 34 else if r=92 then some 92 else if r=8 then some 98 else if r=12 then some 102 else if r=10 then some 110 else if r=13 then some 114 else if r=9 then some 116 else none
def YS (r:Int):K32.Ee iC.toList r=(zx r).map B:=by
 unfold K32.Ee zx iC;simp only[zch,List.find?_nil,K32.oN,zw]
 by_cases h1:r=34
 .subst h1;rfl
 by_cases h2:r=92
 .subst h2;rfl
 by_cases h3:r=8
 .subst h3;rfl
 by_cases h4:r=12
 .subst h4;rfl
 by_cases h5:r=10
 .subst h5;rfl
 by_cases h6:r=13
 .subst h6;rfl
 by_cases h7:r=9
 .subst h7;rfl
 have e: ∀k:Int,r≠k->(k==r)=false:=λk h=>by simpa using λe=>h e.symm
 simp only[e _ h1,e _ h2,e _ h3,e _ h4,e _ h5,e _ h6,e _ h7,zab h1,zab h2,zab h3,zab h4,zab h5,zab h6,zab h7];rfl
def Vy:K32.intKeys iC.toList:=by
 intro e he;simp only[iC,zba,zan,or_false]at he
 rcases he with rfl | rfl | rfl | rfl | rfl | rfl | rfl<;>exact⟨_,rfl⟩
section
variable {w:Wd}
def Vz:aR Tryz.prog 251 [] w λv w'=>∃m:Nat,v=.map (some m)/\True/\Turn noB (obj m (.map iC 7)) w w':=by
 have H:=Sep.aF w;refine aaZ Tryz.func251 ?_;refine Zb1 ?_;refine uT H (h:=λb2 _ k _=>?_);refine q9 k At0 keys_nil rfl (h:=λ_ k=>?_);refine q9 k At0 (gB keys_nil) rfl (h:=λ_ k=>?_);refine q9 k At0 (gB (gB keys_nil)) rfl (h:=λ_ k=>?_);refine q9 k At0 (gB (gB (gB keys_nil))) rfl (h:=λ_ k=>?_);refine q9 k At0 (gB (gB (gB (gB keys_nil)))) rfl (h:=λ_ k=>?_);refine q9 k At0 (gB (gB (gB (gB (gB keys_nil))))) rfl (h:=λ_ k=>?_);refine q9 k At0 (gB (gB (gB (gB (gB (gB keys_nil)))))) rfl (h:=λ_ k=>?_);refine Zb2 ?_;exact⟨_,rfl,trivial,k.turn⟩
end
end
section
section gives
variable {P:Program} {ρ:Od->Value} {ty:Td} {w:Wd} {x y:Od} {T U:Td} {k:IntKind} {a b c:Int}
def Gives.orE (hx:ρ x=.int k a) (hy:ρ y=.int k b) (he:bits .or k a b=c):Gives P ρ (.binOp .or T x y U) ty w (.int k c) w:=by subst he;exact Gives.or hx hy
def Gives.Ef (hx:ρ x=.int k a) (hy:ρ y=.int k b) (he:bits .and k a b=c):Gives P ρ (.binOp .and T x y U) ty w (.int k c) w:=by subst he;exact Gives.and hx hy
def Gives.Eh {m s:Nat} {j:IntKind} (hx:ρ x=.int k m) (hy:ρ y=.int j s) (hs:s<=k.bits):Gives P ρ (.binOp .shr T x y U) ty w (.int k ((m/2^s:Nat):Int)) w:=by
 have h:=Gives.shr (P:=P) (ty:=ty) (w:=w) (T:=T) (U:=U) hx hy oM;rw[zdq,zdc hs]at h
 have e:(m:Int).fdiv (2^s)=((m/2^s:Nat):Int):=by
  rw[zfv _ (Int.pow_nonneg dC)];simp
 rw[e]at h;exact h
end gives
end
variable {r:Nat} {l:L8}
section
attribute [local irreducible] FW FL FG FGn jK jO fI lU Qfn Gives
def or_fin {h n:Nat} (hh:h<256) (hn:n<256) (key:h||| n=h+n):bits .or .u8 (h:Int) (n:Int)=((h+n:Nat):Int):=by
 rw[u8_or_nat h n hh hn,key]
def anE {x:Nat} (h:x<32):bits .or .u8 192 (x:Int)=((192+x:Nat):Int):=by
 have key: ∀i:Fin 32,192||| i.val=192+i.val:=dC
 exact or_fin (h:=192) dC oM (key ⟨x,h⟩)
def Bc {x:Nat} (h:x<64):bits .or .u8 128 (x:Int)=((128+x:Nat):Int):=by
 have key: ∀i:Fin 64,128||| i.val=128+i.val:=dC
 exact or_fin (h:=128) dC oM (key ⟨x,h⟩)
def akC {x:Nat} (h:x<16):bits .or .u8 224 (x:Int)=((224+x:Nat):Int):=by
 have key: ∀i:Fin 16,224||| i.val=224+i.val:=dC
 exact or_fin (h:=224) dC oM (key ⟨x,h⟩)
def akD {x:Nat} (h:x<8):bits .or .u8 240 (x:Int)=((240+x:Nat):Int):=by
 have key: ∀i:Fin 8,240||| i.val=240+i.val:=dC
 exact or_fin (h:=240) dC oM (key ⟨x,h⟩)
def Bd {x:Nat} (h:x<256):bits .and .u8 (x:Int) 63=((x%64:Nat):Int):=by
 have key: ∀i:Fin 256,i.val&&& 63=i.val%64:=dC;have:=u8_and_nat x 63 h dC;rw[key ⟨x,h⟩]at this;exact this
def u8w (r:Nat):IntKind.u8.wrap (r:Int)=((r%256:Nat):Int):=by rw[IntKind.wrap_u8];omega
def cb (n:Nat):Value:=.int .u8 (n:Int)
def alB (h:n<256):B n.toUInt8=cb n:=by
 unfold B cb;simp[Nat.mod_eq_of_lt h]
def GX {l:List Nat} (h:encodeRuneZ r=l.map λn:Nat=>(n:Int)) (hl: ∀n∈l,n<256):l.map cb=(encodeRune r).map B:=by
 unfold encodeRune;rw[h,zdh,zdh];refine zco λn hn=>?_;simp only[Function.comp,zdq];exact(alB (hl n hn)).symm
def enc2 {r:Nat} (h0:128<=r) (h1:r<=2047):[cb (192+r/64),cb (128+r%64)]=(encodeRune r).map B:=
 GX (l:=[192+r/64,128+r%64]) (by rw[encodeRuneZ_two oM oM];simp) (by intro n hn;simp at hn;omega)
def enc3 {r:Nat} (h:(2048<=r/\r<55296)\/(57343<r/\r<=65535)):[cb (224+r/4096),cb (128+r/64%64),cb (128+r%64)]=(encodeRune r).map B:=
 GX (l:=[224+r/4096,128+r/64%64,128+r%64]) (by rw[encodeRuneZ_three oM];simp) (by intro n hn;simp at hn;omega)
def enc4 {r:Nat} (h0:65536<=r) (h1:r<=1114111):[cb (240+r/262144),cb (128+r/4096%64),cb (128+r/64%64),cb (128+r%64)]=(encodeRune r).map B:=
 GX (l:=[240+r/262144,128+r/4096%64,128+r/64%64,128+r%64]) (by
  have e:encodeRuneZ (r:Int)=[240+(r:Int)/262144,128+(r:Int)/4096%64,128+(r:Int)/64%64,128+(r:Int)%64]:=by
   unfold encodeRuneZ;rw[zab oM,zab oM,zab oM,zac oM]
  rw[e];simp) (by intro n hn;simp at hn;omega)
section
variable {w:Wd}
theorem R3 {F:NP} (hp:(l8 5 v l).ok F w) (hl:l.length<=100000000) (h0:128<=r) (h1:r<=1114111) (hs:r<55296\/57343<r):
    aR Tryz.prog 299 [v,I32 r] w λx w'=>∃v',x=v'/\True/\Turn F (l8 5 v' (l++encodeRune r)) w w':=by
  have H:=Sep.bR hp;have hel:=Li (r:Int);refine bQ Tryz.func299 ?_;refine Zb2 ?_;refine Vv (Gives.ql (c:=(r:Int)) rfl (by rw[IntKind.wrap_u32];omega)) ?_;refine Cz (λk=>?_) (λk=>?_)
  . have S:=k
    refine Zb2 ?_;refine Vv (Gives.Eh (m:=r) (s:=6) rfl rfl dC) (Vv (Gives.ql (c:=((r/64:Nat):Int)) rfl (by rw[u8w];omega)) ?_);refine Vv (Gives.orE (c:=((192+r/64:Nat):Int)) rfl rfl (anE oM)) (Mv ?_);refine Vv (Gives.ql (c:=((r%256:Nat):Int)) rfl (u8w r)) (Vv (Gives.Ef (c:=((r%64:Nat):Int)) rfl rfl (by rw[Bd oM];omega)) ?_);refine Vv (Gives.orE (c:=((128+r%64:Nat):Int)) rfl rfl (Bc oM)) (Bs H [cb (192+r/64),cb (128+r%64)] (λbs _ I _=>?_));have EG:(encodeRune r).length=2:=by have:=zaw List.length (enc2 (r:=r) h0 oM);simpa using this.symm
    rw[enc2 h0 oM]at I;refine pY I At0 oM (hc':=EG.symm) (h:=?_);intro v2 I I;refine Zb1 ?_;exact⟨_,rfl,trivial,I.turn⟩
  have S:=k;refine Cz (λI=>?_) (λI=>?_)
  . refine Sk (dQ (zaw Value.bool (zap I)) ?_)
    refine Zb2 ?_;refine Vv (Gives.Eh (m:=r) (s:=12) rfl rfl dC) (Vv (Gives.ql (c:=((r/4096:Nat):Int)) rfl (by rw[u8w];omega)) ?_);refine Vv (Gives.orE (c:=((224+r/4096:Nat):Int)) rfl rfl (akC oM)) (Mv ?_);refine Vv (Gives.Eh (m:=r) (s:=6) rfl rfl dC) (Vv (Gives.ql (c:=((r/64%256:Nat):Int)) rfl (u8w _)) ?_);refine Vv (Gives.Ef (c:=((r/64%64:Nat):Int)) rfl rfl (by rw[Bd oM];omega)) ?_;refine Vv (Gives.orE (c:=((128+r/64%64:Nat):Int)) rfl rfl (Bc oM)) (Mv ?_);refine Vv (Gives.ql (c:=((r%256:Nat):Int)) rfl (u8w r)) (Vv (Gives.Ef (c:=((r%64:Nat):Int)) rfl rfl (by rw[Bd oM];omega)) ?_);refine Vv (Gives.orE (c:=((128+r%64:Nat):Int)) rfl rfl (Bc oM)) (Bs H [cb (224+r/4096),cb (128+r/64%64),cb (128+r%64)] (λbs _ I _=>?_));have EG:(encodeRune r).length=3:=by have:=zaw List.length (enc3 (r:=r) oM);simpa using this.symm
    rw[enc3 oM]at I;refine pY I At0 oM (hc':=EG.symm) (h:=?_);intro v2 I I;refine Zb1 ?_;exact⟨_,rfl,trivial,I.turn⟩
  refine Sz (λI=>?_) (λI=>?_)
  . refine Cz (λI=>?_) (λI=>?_)
    . refine Zb2 ?_
      refine Vv (Gives.Eh (m:=r) (s:=12) rfl rfl dC) (Vv (Gives.ql (c:=((r/4096:Nat):Int)) rfl (by rw[u8w];omega)) ?_);refine Vv (Gives.orE (c:=((224+r/4096:Nat):Int)) rfl rfl (akC oM)) (Mv ?_);refine Vv (Gives.Eh (m:=r) (s:=6) rfl rfl dC) (Vv (Gives.ql (c:=((r/64%256:Nat):Int)) rfl (u8w _)) ?_);refine Vv (Gives.Ef (c:=((r/64%64:Nat):Int)) rfl rfl (by rw[Bd oM];omega)) ?_;refine Vv (Gives.orE (c:=((128+r/64%64:Nat):Int)) rfl rfl (Bc oM)) (Mv ?_);refine Vv (Gives.ql (c:=((r%256:Nat):Int)) rfl (u8w r)) (Vv (Gives.Ef (c:=((r%64:Nat):Int)) rfl rfl (by rw[Bd oM];omega)) ?_);refine Vv (Gives.orE (c:=((128+r%64:Nat):Int)) rfl rfl (Bc oM)) (Bs H [cb (224+r/4096),cb (128+r/64%64),cb (128+r%64)] (λbs _ I _=>?_));have EG:(encodeRune r).length=3:=by have:=zaw List.length (enc3 (r:=r) oM);simpa using this.symm
      rw[enc3 oM]at I;refine pY I At0 oM (hc':=EG.symm) (h:=?_);intro v2 I I;refine Zb1 ?_;exact⟨_,rfl,trivial,I.turn⟩
    refine Sz (λI=>?_) (λI=>?_)
    . refine Cz (λI=>?_) (λI=>?_)
      . refine Zb2 ?_
        refine Vv (Gives.Eh (m:=r) (s:=18) rfl rfl dC) (Vv (Gives.ql (c:=((r/262144:Nat):Int)) rfl (by rw[u8w];omega)) ?_);refine Vv (Gives.orE (c:=((240+r/262144:Nat):Int)) rfl rfl (akD oM)) (Mv ?_);refine Vv (Gives.Eh (m:=r) (s:=12) rfl rfl dC) (Vv (Gives.ql (c:=((r/4096%256:Nat):Int)) rfl (u8w _)) ?_);refine Vv (Gives.Ef (c:=((r/4096%64:Nat):Int)) rfl rfl (by rw[Bd oM];omega)) ?_;refine Vv (Gives.orE (c:=((128+r/4096%64:Nat):Int)) rfl rfl (Bc oM)) (Mv ?_);refine Vv (Gives.Eh (m:=r) (s:=6) rfl rfl dC) (Vv (Gives.ql (c:=((r/64%256:Nat):Int)) rfl (u8w _)) ?_);refine Vv (Gives.Ef (c:=((r/64%64:Nat):Int)) rfl rfl (by rw[Bd oM];omega)) ?_;refine Vv (Gives.orE (c:=((128+r/64%64:Nat):Int)) rfl rfl (Bc oM)) (Mv ?_);refine Vv (Gives.ql (c:=((r%256:Nat):Int)) rfl (u8w r)) (Vv (Gives.Ef (c:=((r%64:Nat):Int)) rfl rfl (by rw[Bd oM];omega)) ?_);refine Vv (Gives.orE (c:=((128+r%64:Nat):Int)) rfl rfl (Bc oM)) (Bs H [cb (240+r/262144),cb (128+r/4096%64),cb (128+r/64%64),cb (128+r%64)] (λbs _ I _=>?_));have EG:(encodeRune r).length=4:=by have:=zaw List.length (enc4 (r:=r) oM h1);simpa using this.symm
        rw[enc4 oM h1]at I;refine pY I At0 oM (hc':=EG.symm) (h:=?_);intro v2 I I;refine Zb1 ?_;exact⟨_,rfl,trivial,I.turn⟩
      exact zar h1 oM
    exact zar h1 oM
  refine Sz (λI=>?_) (λI=>?_)
  . refine Cz (λI=>?_) (λI=>?_)
    . refine Zb2 ?_
      refine Vv (Gives.Eh (m:=r) (s:=18) rfl rfl dC) (Vv (Gives.ql (c:=((r/262144:Nat):Int)) rfl (by rw[u8w];omega)) ?_);refine Vv (Gives.orE (c:=((240+r/262144:Nat):Int)) rfl rfl (akD oM)) (Mv ?_);refine Vv (Gives.Eh (m:=r) (s:=12) rfl rfl dC) (Vv (Gives.ql (c:=((r/4096%256:Nat):Int)) rfl (u8w _)) ?_);refine Vv (Gives.Ef (c:=((r/4096%64:Nat):Int)) rfl rfl (by rw[Bd oM];omega)) ?_;refine Vv (Gives.orE (c:=((128+r/4096%64:Nat):Int)) rfl rfl (Bc oM)) (Mv ?_);refine Vv (Gives.Eh (m:=r) (s:=6) rfl rfl dC) (Vv (Gives.ql (c:=((r/64%256:Nat):Int)) rfl (u8w _)) ?_);refine Vv (Gives.Ef (c:=((r/64%64:Nat):Int)) rfl rfl (by rw[Bd oM];omega)) ?_;refine Vv (Gives.orE (c:=((128+r/64%64:Nat):Int)) rfl rfl (Bc oM)) (Mv ?_);refine Vv (Gives.ql (c:=((r%256:Nat):Int)) rfl (u8w r)) (Vv (Gives.Ef (c:=((r%64:Nat):Int)) rfl rfl (by rw[Bd oM];omega)) ?_);refine Vv (Gives.orE (c:=((128+r%64:Nat):Int)) rfl rfl (Bc oM)) (Bs H [cb (240+r/262144),cb (128+r/4096%64),cb (128+r/64%64),cb (128+r%64)] (λbs _ I _=>?_));have EG:(encodeRune r).length=4:=by have:=zaw List.length (enc4 (r:=r) oM h1);simpa using this.symm
      rw[enc4 oM h1]at I;refine pY I At0 oM (hc':=EG.symm) (h:=?_);intro v2 I I;refine Zb1 ?_;exact⟨_,rfl,trivial,I.turn⟩
    exact zar h1 oM
  exact zar h1 oM
def OZ {F:NP} (hp:(l8 5 v l).ok F w) (hl:l.length<=100000000) (h1:r<=1114111) (hs:r<55296\/57343<r):
    aR Tryz.prog 288 [v,I32 r] w λx w'=>∃v',x=v'/\True/\Turn F (l8 5 v' (l++encodeRune r)) w w':=by
  have H:=Sep.bR hp;refine bQ Tryz.func288 ?_;refine Zb2 ?_;refine Vv (Gives.ql (c:=(r:Int)) rfl (by rw[IntKind.wrap_u32];omega)) ?_;refine Cz (λk=>?_) (λk=>?_)
  . have qy:encodeRune (r:Int)=[r.toUInt8]:=by unfold encodeRune;rw[encodeRuneZ_one oM oM];simp
    refine Zb2 ?_;refine Vv (Gives.ql (c:=((r%256:Nat):Int)) rfl (u8w r)) ?_;have hb:Value.int .u8 ((r%256:Nat):Int)=B r.toUInt8:=by rw[alB oM,Nat.mod_eq_of_lt oM];rfl
    refine nD H (xs:=[.tmp 10]) (out:=[r.toUInt8].map B) (dZ.one hb rfl dZ.nil) rfl rfl rfl (λbs _ k _=>?_);refine pY k (news:=[r.toUInt8]) At0 (by simp;omega) (h:=?_);intro v2 k k;rw[<-qy]at k;refine Zb1 ?_;exact⟨_,rfl,trivial,k.turn⟩
  refine Zb2 ?_;obtain⟨F0,eD,gV,aK⟩:=H.focus At0;refine aL (R3 eD hl oM h1 hs) rfl rfl (λv' _ hv=>?_);obtain⟨v2,rfl,_,bZ,F1,hq,iA⟩:=hv;have k:=aK _ F1 _ bZ hq iA;refine Zb1 ?_;exact⟨_,rfl,trivial,k.turn⟩
def R4 {F:NP} (hp:(vQ b l).ok F w) (hl:l.length<=10000000) (h1:r<=1114111) (hs:r<55296\/57343<r):aR Tryz.prog 252 [ay b,I32 r] w λ_ w'=>Turn F (vQ b (l++encodeRune r)) w w':=by
 obtain⟨a,v,ha,H⟩:=Sep.Mi (Sep.bR hp);obtain⟨A,c,rfl,rG,_,_⟩:=Sep.xq H At1;have hel:=Li (r:Int)
 have iN:encodeRune (r:Int)≠[]:=by
  intro e;unfold encodeRune encodeRuneZ at e
  repeat' split at e
  all_goals simp at e
 refine bQ Tryz.func252 ?_;refine Zb3 ?_;obtain⟨F0,eD,gV,aK⟩:=H.focus At0;refine aL (A9 ha.1 eD) rfl rfl (λv' _ hv=>?_);obtain⟨rfl,bZ,F1,hq,iA⟩:=hv;have k:=aK _ F1 _ bZ hq iA;refine aqi ?_;obtain⟨F0,eD,gV,aK⟩:=k.focus At1;refine aL (OZ eD oM h1 hs) rfl rfl (λv' _ hv=>?_);obtain⟨v2,rfl,_,bZ,F1,hq,iA⟩:=hv;have k:=aK _ F1 _ bZ hq iA;obtain⟨A2,c2,rfl,_⟩:=Sep.xq k At1;refine Uz (λ_ k=>?_);refine Zb9 ?_;exact(Sep.P8 ⟨.inr rfl,λe=>zar (List.append_eq_nil_iff.1 e).2 iN⟩ k).turn
end
end
variable {d:Nat}
section
variable {P:Program} {r:Option Nat} {n:Nat} {ops:AO} {Q:Post} {rest:LO} {σ:St} {w w0:Wd} {S:NP} {rs:List HP} {put:HP->List HP} {ty:Td} {pos:String} {after:Array Edge}
def acK {T:Td} [ht:lQ P T] (H:Sep w0 S rs w) (hx:evF σ x=.string s:=by exact rfl) (hd:Nat.blt d n=true:=by exact rfl)
    (h: ∀k w',Sep w0 S (obj k (.stringIter s 0)::rs) w'->FL P r n ops Q rest (upd σ d (.pointer (some ⟨k,0,none⟩))) w'):FL P r n ops Q (⟨some d,.range T x,ty,pos,after,none⟩::rest) σ w:=by
  obtain⟨k,w',hg,hs⟩:=RZ (P:=P) (ty:=ty) (T:=T) H hx;exact dw hg hd (h k w' hs)
def afA {i:Nat} (H:Sep w0 S rs w) (hat:At rs (obj k (.stringIter s i)) put)
    (h1:i<s.size->∀w',Sep w0 S (put (obj k (.stringIter s (i+(Utf8.decode s i).2)))) w'->FL P r n ops Q rest (upd σ d (.tuple #[.bool true,.int .i64 i,.int .i32 (Utf8.decode s i).1])) w')
    (h2: ¬i<s.size->FL P r n ops Q rest (upd σ d (.tuple #[.bool false])) w) (hx:evF σ x=.pointer (some ⟨k,0,none⟩):=by exact rfl) (hd:Nat.blt d n=true:=by exact rfl):
    FL P r n ops Q (⟨some d,.next x true,ty,pos,after,none⟩::rest) σ w:=by
  by_cases h:i<s.size
  . obtain⟨w',hg,hs⟩:=Vw (P:=P) (ty:=ty) H hat hx h
    exact dw hg hd (h1 h w' hs)
  exact dw (OY (P:=P) (ty:=ty) H hat hx h) hd (h2 h)
end
section
attribute [local irreducible] FW FL FG FGn jK jO fI lU Qfn Gives
def afB (h:128<=r) (h1:r<=1114111): ∀c∈encodeRune (r:Int),128<=c.toNat:=by
 intro c hc;unfold encodeRune at hc;obtain⟨x,hx,rfl⟩:=zaq.1 hc;unfold encodeRuneZ at hx;rw[zab oM]at hx
 repeat' split at hx
 all_goals (simp only[zba,zan,or_false]at hx)
 all_goals (rcases hx with rfl | rfl | rfl | rfl<;>simp<;>omega)
def YT (h: ∀c∈l,128<=c.toNat):l.flatMap jy=l:=by
 induction l with
 | nil=>rfl
 | cons c t ih=>
  rw[zbh,Kw (h c sM),ih (λx hx=>h x (by simp[hx]))];rfl
def YU (r:Nat) (h1:r<=1114111) (h:r<55296\/57343<r):Utf8.valid (r:Int)=true:=by
 simp[Utf8.valid];omega
def anF (r:Nat) (v:Utf8.valid (r:Int)=true) (c1:r<128):(Utf8.encode (r:Int)).data.toList=[UInt8.ofNat r]:=by
 simp[Utf8.encode,v,c1]
def anG (r:Nat) (v:Utf8.valid (r:Int)=true) (c1: ¬r<128) (c2:r<2048):(Utf8.encode (r:Int)).data.toList=[UInt8.ofNat (192+r/64),UInt8.ofNat (128+r%64)]:=by
 simp[Utf8.encode,v,c1,c2]
def anH (r:Nat) (v:Utf8.valid (r:Int)=true) (c1: ¬r<128) (c2: ¬r<2048) (c3:r<65536):(Utf8.encode (r:Int)).data.toList=[UInt8.ofNat (224+r/4096),UInt8.ofNat (128+r/64%64),UInt8.ofNat (128+r%64)]:=by
 simp[Utf8.encode,v,c1,c2,c3]
def anI (r:Nat) (v:Utf8.valid (r:Int)=true) (c1: ¬r<128) (c2: ¬r<2048) (c3: ¬r<65536):(Utf8.encode (r:Int)).data.toList=[UInt8.ofNat (240+r/262144),UInt8.ofNat (128+r/4096%64),UInt8.ofNat (128+r/64%64),UInt8.ofNat (128+r%64)]:=by
 simp[Utf8.encode,v,c1,c2,c3]
def DF (n:Nat) (z:Int) (e:z.toNat=n):z.toNat.toUInt8=UInt8.ofNat n:=by rw[e]
def Fe (r:Int) (l:L8) (e:(Utf8.encode r).data.toList=l):KP r=l:=by
 have h2:Utf8.encode r=⟨(KP r).toArray⟩:=Value.string.inj (NQ r);have h3:=zaw (λb:ByteArray=>b.data.toList) h2;exact h3.symm.trans e
def R5 (r:Nat) (h1:r<=1114111) (h:r<55296\/57343<r):KP (r:Int)=encodeRune (r:Int):=by
 have v:=YU r h1 h;unfold encodeRune
 by_cases c1:r<128
 .have e1:=DF r (r:Int) oM
  rw[encodeRuneZ_one oM oM,Fe _ _ (anF r v c1),zav,zcl,e1]
 by_cases c2:r<2048
 .have e1:=DF (192+r/64) (192+(r:Int)/64) oM
  have e2:=DF (128+r%64) (128+(r:Int)%64) oM;rw[encodeRuneZ_two oM oM,Fe _ _ (anG r v c1 c2),zav,zav,zcl,e1,e2]
 by_cases c3:r<65536
 .have e1:=DF (224+r/4096) (224+(r:Int)/4096) oM
  have e2:=DF (128+r/64%64) (128+(r:Int)/64%64) oM;have e3:=DF (128+r%64) (128+(r:Int)%64) oM;rw[encodeRuneZ_three oM,Fe _ _ (anH r v c1 c2 c3),zav,zav,zav,zcl,e1,e2,e3]
 have e1:=DF (240+r/262144) (240+(r:Int)/262144) oM;have e2:=DF (128+r/4096%64) (128+(r:Int)/4096%64) oM;have e3:=DF (128+r/64%64) (128+(r:Int)/64%64) oM;have e4:=DF (128+r%64) (128+(r:Int)%64) oM;rw[encodeRuneZ_four oM oM,Fe _ _ (anI r v c1 c2 c3),zav,zav,zav,zav,zcl,e1,e2,e3,e4]
def YV {s:L8} (h:ig s=some (r,n)):r<=1114111/\(r<55296\/57343<r):=by
 unfold ig at h
 split at h
 .cases h
 rename_i hn;injection h with h
 have h1:(decodeL s).1=r:=by rw[h]
 have h2:(decodeL s).2=n:=by rw[h]
 rw[decodeL_N]at h1 h2 hn;have hb:(s.getD 0 0).toNat<256:=(s.getD 0 0).toNat_lt
 rcases decodeN_shape s.length (s.getD 0 0).toNat (s.getD 1 0).toNat (s.getD 2 0).toNat (s.getD 3 0).toNat with⟨a,e⟩ | ⟨a1,a2,a3,a4,e⟩ | ⟨a1,a2,a3,a4,a5,a6,e⟩ | ⟨a1,a2,a3,a4,a5,a6,a7,e⟩ | e
 .rw[e]at h1;simp only at h1;omega
 .rw[e]at h1;simp only at h1;omega
 .rw[e]at h1;simp only at h1;omega
 .rw[e]at h1;simp only at h1;omega
 rw[e]at hn;exact zar (.inr ⟨rfl,rfl⟩) hn
def afC {s:L8} (h:ig s=some (r,n)) (hr:r<128):n=1/\s.take 1=[r.toUInt8]:=by
 obtain⟨_,h1,h2,h3⟩:=uw h;have e:encodeRune (r:Int)=[r.toUInt8]:=by unfold encodeRune;rw[encodeRuneZ_one oM oM];simp
 rw[e]at h3;have:=zaw List.length h3;rw[zah]at this;simp at this;have hn:n=1:=oM;subst hn;exact⟨rfl,h3.symm⟩
def acL {i:Nat} (hv:validD (l.drop i)=true) (aS:i<l.length): ∃r n:Nat,Utf8.decode ⟨l.toArray⟩ i=(r,n)/\1<=n/\i+n<=l.length/\validD (l.drop (i+n))=true/\r<=1114111/\(r<55296\/57343<r)/\
    (r<128->Gh l (i+n)=Gh l i++jy r.toUInt8)/\(128<=r->Gh l (i+n)=Gh l i++encodeRune (r:Int)):=by
  have iN:l.drop i≠[]:=λe=>by have:=zaw List.length e;rw[zbo]at this;simp at this;omega
  have hs:=Ev iN;rw[hv]at hs;cases hx:ig (l.drop i)with
  | none=>rw[hx]at hs;cases hs
  | some p=>
    obtain⟨r,n⟩:=p;rw[hx]at hs;dsimp only at hs;obtain⟨e1,h1,h2,h3⟩:=uw hx;obtain⟨s1,s2⟩:=YV hx;rw[zbo]at h2;have hd:Utf8.decode ⟨l.toArray⟩ i=(r,n):=by rw[<-decodeL_drop];exact e1
    have hdv:validD (l.drop (i+n))=true:=by
      rw[zfx]at hs;exact hs.symm
    have aeZ:Gh l (i+n)=Gh l i++((l.drop i).take n).flatMap jy:=by
      unfold Gh;rw[List.take_add,zbt];rfl
    refine⟨r,n,hd,h1,oM,hdv,s1,s2,λh=>?_,λh=>?_⟩
    . obtain⟨hn,ht⟩:=afC hx h
      rw[aeZ,hn,ht];simp
    rw[aeZ,<-h3,YT (λc hc=>afB h s1 c hc)]
def VA {c:UInt8} (h:zx r=some c):r<128/\jy r.toUInt8=[92]++encodeRune (c.toNat:Int)/\c.toNat<128:=by
 unfold zx at h
 by_cases h1:(r:Int)=34
 .rw[zac h1]at h;injection h with h;subst h;have :r=34:=oM
  subst this;exact⟨dC,dC,dC⟩
 rw[zab h1]at h
 by_cases h1:(r:Int)=92
 .rw[zac h1]at h;injection h with h;subst h;have :r=92:=oM
  subst this;exact⟨dC,dC,dC⟩
 rw[zab h1]at h
 by_cases h1:(r:Int)=8
 .rw[zac h1]at h;injection h with h;subst h;have :r=8:=oM
  subst this;exact⟨dC,dC,dC⟩
 rw[zab h1]at h
 by_cases h1:(r:Int)=12
 .rw[zac h1]at h;injection h with h;subst h;have :r=12:=oM
  subst this;exact⟨dC,dC,dC⟩
 rw[zab h1]at h
 by_cases h1:(r:Int)=10
 .rw[zac h1]at h;injection h with h;subst h;have :r=10:=oM
  subst this;exact⟨dC,dC,dC⟩
 rw[zab h1]at h
 by_cases h1:(r:Int)=13
 .rw[zac h1]at h;injection h with h;subst h;have :r=13:=oM
  subst this;exact⟨dC,dC,dC⟩
 rw[zab h1]at h
 by_cases h1:(r:Int)=9
 .rw[zac h1]at h;injection h with h;subst h;have :r=9:=oM
  subst this;exact⟨dC,dC,dC⟩
 rw[zab h1]at h;cases h
def YW (h:zx r=none):(r<32->jy r.toUInt8=[92,117,48,48,ni (r/16),ni (r%16)])/\(32<=r->r<128->jy r.toUInt8=encodeRune (r:Int)):=by
 have iN:r≠34/\r≠92/\r≠8/\r≠12/\r≠10/\r≠13/\r≠9:=by
  refine⟨?_,?_,?_,?_,?_,?_,?_⟩<;>(intro e;subst e;revert h;decide)
 constructor
 .intro h32
  have hn:(r.toUInt8).toNat=r:=by simp;omega
  rw[Oe,hn,zab oM,zab oM,zab oM,zab oM,zab oM,zab oM,zab oM,zac h32]
 intro h32 h128;have hn:(r.toUInt8).toNat=r:=by simp;omega
 rw[Oe,hn,zab oM,zab oM,zab oM,zab oM,zab oM,zab oM,zab oM,zab oM];unfold encodeRune;rw[encodeRuneZ_one oM oM];simp
section
variable {w:Wd}
def akE {x:Nat} (h:x<32):bits .and .i32 (x:Int) 15=((x%16:Nat):Int):=by
 have key: ∀i:Fin 32,bits .and .i32 (i.val:Int) 15=((i.val%16:Nat):Int):=dC;exact key ⟨x,h⟩
theorem acM (l:L8) (hl:l.length<=1000000) (hT:mX w):Rk Tryz.prog 175 [str l] w (.tuple #[str (JH l).1,I (JH l).2]):=by
 have H:=Sep.aF w;refine cK Tryz.func175 ?_;refine Kz (JW l oM (hT.keep H.kept)) (λ_ S _=>?_);refine Za1 ?_;refine Qn (Cd rfl (λd=>?_) (λd=>?_))
 .have hq:JH l=([],40):=zab (by simpa using d)
  refine Zb2 ?_;exact⟨by rw[hq];rfl,S.kept⟩
 have hv:validD l=true:=by simpa using d
 have hq:JH l=(vF l,0):=zac hv;refine Az (λb4 _ S _=>?_);replace S:=Sep.aiT S;refine Nx ?_;obtain⟨F0,eD,gV,aK⟩:=S.focus At0;refine aL (tO 34 eD sM) rfl rfl (λv' _ hv=>?_);obtain⟨rfl,bZ,F1,p8,hs⟩:=hv;have S:=aK _ F1 _ bZ p8 hs;refine Nx (aL (Vz) rfl rfl (λv' _ hv=>?_));obtain⟨m,rfl,_,bZ,F1,p8,iA⟩:=hv;have e:=S.new bZ p8 (λb hb=>(iA b hb).resolve_left id);refine Zb2 ?_;refine acK e (h:=λk _ e=>?_);refine Zb0 ?_;refine aI (λ_:Nat=>[(0,str l),(4,ay b4),(5,.map (some m)),(16,.pointer (some ⟨k,0,none⟩))]) (λi w'=>(i<=l.length/\validD (l.drop i)=true)/\Sep w noB [obj k (.stringIter ⟨l.toArray⟩ i),obj m (.map iC 7),vQ b4 (Gh l i)] w') (λi _=>l.length-i) 0 tR ⟨⟨zak _,hv⟩,e⟩ (λi τ _ hI=>?_);obtain⟨⟨hi,hvd⟩,e⟩:=hI;refine Lp ?_;refine Sr (afA e At0 (h1:=λake _ S=>?_) (h2:=λake=>?_))
 .have aS:i<l.length:=by rw[Mw.size_mk]at ake;exact ake
  obtain⟨r,n,aos,Ag,OQ,hvn,Yh,UL,vT,aot⟩:=acL hvd aS;rw[aos]at S;rw[aos];have hol:=XW l i;have hel:=Li (r:Int);refine Zb5 ?_;refine dw (OX (zv:=B 0) (i:=(r:Int)) (S.obj At1) Vy rfl rfl) rfl ?_;rw[YS,show((zx (r:Int)).map B).getD (B 0)=B ((zx (r:Int)).getD 0)from by cases zx (r:Int)<;>rfl,Option.isSome_map];refine Za7 ?_;refine Qn (Cd rfl (λf=>?_) (λf=>?_))
  .obtain⟨c,hc⟩:=Option.isSome_iff_exists.1 f
   obtain⟨hr7,hqb,d⟩:=VA hc;rw[hc,zde];refine Zb1 ?_;refine Vv (Gives.Ux (a:=(c.toNat:Int)) rfl oM) (Vv (Gives.ahh rfl) ?_);rw[R5 c.toNat oM oM];have auc:=Li (c.toNat:Int);refine Vv (Gives.XG rfl rfl (by simp;omega)) ?_;obtain⟨F0,eD,gV,aK⟩:=S.focus At2;refine aL (uL sM eD (by simp;omega)) rfl rfl (λv' _ hv=>?_);obtain⟨rfl,bZ,F1,p8,hs⟩:=hv;have d:=aK _ F1 _ bZ p8 hs;rw[<-hqb,<-vT hr7]at d;refine Zb0 ?_;exact aj (i+n) tR ⟨⟨OQ,hvn⟩,d⟩ oM
  have KG:zx (r:Int)=none:=by simpa using f
  obtain⟨aqx,aou⟩:=YW KG;refine Cz (λd=>?_) (λd=>?_)
  .refine Dz (λd _ f=>?_)
   refine Zb1 ?_;refine GS (Gn rfl (λ_=>(Gives.Eh (m:=r) (s:=4) rfl rfl dC)) ?_);refine Zb1 ?_;refine GS (Gn rfl (λ_=>(Gives.Eh (m:=r) (s:=4) rfl rfl dC)) ?_);refine GS (Gn rfl (λ_=>(Gives.aaz (c:=((r/16+1:Nat):Int)) rfl rfl (by rw[IntKind.wrap_i32];omega))) ?_);refine GS (Gn rfl (λ_=>(Gives.Eu (l:=sW) (i:=r/16) (m:=r/16+1) rfl rfl rfl oM (by show r/16+1<=16;first | done | omega))) ?_);rw[RA oM];refine Zb2 ?_;refine GS (Gn rfl (λ_=>(Gives.Ef (c:=((r%16:Nat):Int)) rfl rfl (akE oM))) ?_);refine Zb1 ?_;refine GS (Gn rfl (λ_=>(Gives.Ef (c:=((r%16:Nat):Int)) rfl rfl (akE oM))) ?_);refine GS (Gn rfl (λ_=>(Gives.aaz (c:=((r%16+1:Nat):Int)) rfl rfl (by rw[IntKind.wrap_i32];omega))) ?_);refine GS (Gn rfl (λ_=>(Gives.Eu (l:=sW) (i:=r%16) (m:=r%16+1) rfl rfl rfl oM (by show r%16+1<=16;first | done | omega))) ?_);rw[RA oM];refine Zb1 ?_;have hq6:=aqx oM;obtain⟨F0,eD,gV,aK⟩:=f.focus At2;refine qG d 14 [] rfl kR (uL (news:=jy r.toUInt8) (by rw[hq6];simp) eD (by rw[hq6];simp;omega)) (by rw[hq6];rfl) kR kR (λv' _ hv=>?_);obtain⟨rfl,bZ,F1,p8,hs⟩:=hv;have f:=aK _ F1 _ bZ p8 hs;rw[<-vT oM]at f;refine⟨sT,?_⟩;refine Zb0 ?_;exact aj (i+n) tR ⟨⟨OQ,hvn⟩,f⟩ oM
  refine Zb1 ?_;obtain⟨F0,eD,gV,aK⟩:=S.focus At2;refine aL (R4 eD oM Yh UL) rfl rfl (λv' _ hv=>?_);obtain⟨bZ,F1,p8,hs⟩:=hv;have f:=aK _ F1 _ bZ p8 hs
  have aeZ:Gh l i++encodeRune (r:Int)=Gh l (i+n):=by
   by_cases h128:r<128
   .rw[vT h128,aou oM h128]
   exact(aot oM).symm
  rw[aeZ]at f;refine Zb0 ?_;exact aj (i+n) tR ⟨⟨OQ,hvn⟩,f⟩ oM
 have jF:i=l.length:=by rw[Mw.size_mk]at ake;omega
 have bT:Gh l i++[34]=vF l:=by
  rw[jF];unfold Gh vF;rw[zbr];rfl
 refine Zb1 ?_;have hol:=XW l i;obtain⟨F0,eD,gV,aK⟩:=e.focus At2;refine aL (tO 34 eD oM) rfl rfl (λv' _ hv=>?_);obtain⟨rfl,bZ,F1,p8,hs⟩:=hv;have f:=aK _ F1 _ bZ p8 hs;rw[bT]at f;refine Nx ?_;have aud:(vF l).length<=6000008:=by rw[<-bT,zad];simp;omega
 obtain⟨F0,eD,gV,aK⟩:=f.focus At2;refine aL (CG eD oM) rfl rfl (λv' _ hv=>?_);obtain⟨rfl,bZ,F1,p8,hs⟩:=hv;have f:=aK _ F1 _ bZ p8 hs;refine Zb2 ?_;exact⟨by rw[hq];rfl,f.kept⟩
end
end
variable {P:Program} {r:Option Nat} {n:Nat} {ops:AO} {Q:Post} {rest:LO} {σ:St} {w w0:Wd} {S:NP} {rs:List HP} {ty:Td} {pos:String} {after:Array Edge} {l:L8}
def acN {s t e:Td} [hs:lQ P s] [ht:cO P t e] [he:mV P e .u8] (H:Sep w0 S rs w) (hx:evF σ x=str l:=by exact rfl) (hd:Nat.blt d n=true:=by exact rfl)
    (h: ∀b c o w',(∀k:Wd,k.heap[b]? =some o->gY k (some ⟨b,0,none⟩) l.length 1 (l.map λu=>Value.int .u8 u.toNat))->l.length<=c->Sep w0 S (obj b o::rs) w'->FL P r n ops Q rest (upd σ d (.slice (some ⟨b,0,none⟩) l.length c)) w'):
    FL P r n ops Q (⟨some d,.convert s t x,ty,pos,after,none⟩::rest) σ w:=by
  have iq:=run_bytes_of_string (P:=P) w s t e ⟨l.toArray⟩ hs.und ht.und he.und;rw[size_mk]at iq;have y8:Kept noB w w.drew:=Kept.drew w;refine dw (v:=.slice (some ⟨w.heap.size,0,none⟩) l.length (grownCap w l.length 0 e)) (w':=w.drew.alloc (.cells (bytesRow ⟨l.toArray⟩ (grownCap w l.length 0 e)) e ((bytesRow ⟨l.toArray⟩ (grownCap w l.length 0 e)).size,(bytesRow ⟨l.toArray⟩ (grownCap w l.length 0 e)).size+1))) (λ_ _ _ _=>?_) hd (h _ _ _ _ (λk hw2=>?_) (grownCap_ge w l.length 0 e) ((H.keep y8).alloc _))
  . simp only[execOp,hx,str,zbi,iq,zam,zbl]
  refine⟨sM,λ_=>⟨_,rfl,λj u hu=>?_⟩⟩;rw[Addr.add_lit,zcz];have hj:=(zbb.1 hu).1
  have e0:k.cell? ⟨w.heap.size,j,none⟩=(bytesRow ⟨l.toArray⟩ (grownCap w l.length 0 e))[j]? :=by
    unfold World.cell?;have hw3:k.heap[w.heap.size]? =_:=hw2;simp only[hw3];rfl
  rw[e0];unfold bytesRow;rw[Array.getElem?_append_left (by simpa using hj)];simpa using hu
section
attribute [local irreducible] FW FL FG FGn jK jO fI lU Qfn Gives
structure iB (w:Wd):Prop where
 utf:mX w
 pow:Lib.TabIs Tryz.prog w "internal/strconv.uint64pow10" .u64 Lib.pow10Tab
 syn: ∃tp p,w.var? Tryz.prog "strconv.ErrSyntax" =some #[.iface tp p]
 ran: ∃tp p,w.var? Tryz.prog "strconv.ErrRange" =some #[.iface tp p]
 len: ∃m,w.cell? ⟨0,0,none⟩=some (.int .i64 m)
def Mj {w':Wd} {n:String} {cs:Array Value} (hk:Kept noB w w') (h:w.var? P n=some cs):w'.var? P n=some cs:=by
 unfold World.var? at h ⊢;cases hg:P.globalNamed n with
 | none=>rw[hg]at h;cases h
 | some g=>
  rw[hg]at h;simp only[zdy]at h |-
  have aS:g<w.heap.size:=by
   refine Classical.byContradiction λhn=>?_;rw[zdi oM]at h;cases h
  rw[hk.block g aS id];exact h
def acO {w':Wd} {o:Nat} (hk:Kept noB w w') (h:w.cell? ⟨b,o,none⟩=some v):w'.cell? ⟨b,o,none⟩=some v:=by
 have aS:b<w.heap.size:=by
  refine Classical.byContradiction λhn=>?_;unfold World.cell? at h;rw[zdi dO]at h;cases h
 unfold World.cell? at h ⊢;rw[hk.block b aS id];exact h
def iB.keep {w w':Wd} (h:iB w) (hk:Kept noB w w'):iB w':=
 ⟨h.utf.keep hk,Mj hk h.pow,h.syn.imp λ_ h=>h.imp λ_ h=>Mj hk h,h.ran.imp λ_ h=>h.imp λ_ h=>Mj hk h,h.len.imp λ_ h=>acO hk h⟩
def afD (c:UInt8):LV:=[B c]
instance:je afD 1:=⟨λ_=>rfl⟩
def Mk: ∀l:L8,l.flatMap afD=l.map B
 | []=>rfl
 | c::l=>by rw[zbh,Mk l];rfl
def VB {A:OA} {l:L8} (h:gY w A l.length 1 (l.map λu=>Value.int .u8 u.toNat)):Rd w A afD 1 l:=by
 unfold Rd;rw[Mk];exact h
def abd (h:n<16):sW.getD n 0=ni n:=by
 have key: ∀i:Fin 16,sW.getD i.val 0=ni i.val:=dC;exact key ⟨n,h⟩
def alC {x:Nat} (h:x<256):bits .and .u8 (x:Int) 15=((x%16:Nat):Int):=by
 have key: ∀i:Fin 256,i.val&&& 15=i.val%16:=dC;have:=u8_and_nat x 15 h dC;rw[key ⟨x,h⟩]at this;exact this
section
variable {w:Wd}
def aiU (c:aC) (hl:c.s.length<=1000000):Rk Tryz.prog 214 [agg (ah c)] w (str (120::yY c.s)):=by
 have H:=Sep.aF w;refine cK Tryz.func214 ?_;refine Sr (bB H (h:=λb1 _ _ _=>?_));refine Az (λb3 _ k _=>?_);replace k:=Sep.aiT k;refine Nx ?_;obtain⟨F0,eD,gV,aK⟩:=k.focus At0;refine aL (uL (news:=[120]) sM eD sM) rfl rfl (λv' _ hv=>?_);obtain⟨rfl,bZ,F1,p8,hs⟩:=hv;have k:=aK _ F1 _ bZ p8 hs;refine Zb2 ?_;refine acN k (h:=?_);intro b9 c9 o9 k hr9 k k;refine Zb2 ?_;refine aI (λi:Nat=>[(3,ay b3),(9,.slice (some ⟨b9,0,none⟩) c.s.length c9),(10,I c.s.length),(11,I i)]) (λi w'=>i<=c.s.length/\Sep w noB [obj b9 o9,vQ b3 (120::yY (c.s.take i))] w') (λi _=>c.s.length-i) 0 tR ⟨zak _,(k.aG.aG).firsts (l:=[_,_])⟩ (λi τ _ hI=>?_);obtain⟨hi,k⟩:=hI;refine Lp ?_;refine Cz (λS=>?_) (λS=>?_)
 .have aS:i<c.s.length:=oM
  obtain⟨x,hx⟩:=get_some aS;have OT:=aeM aS;rw[jr hx]at OT;have hxl:=KD (c.s.take i);rw[zah]at hxl;have UZ:=x.toNat_lt;refine Zb0 ?_;refine Vv (Gives.fF rfl rfl (VB (hr9 _ (k.obj At0))) aS) (Vv (Gives.Om (i:=i) (f:=0) (c:=x) rfl (VB (hr9 _ (k.obj At0))) hx rfl) ?_);refine Zb2 ?_;refine Vv (Gives.Eh (m:=x.toNat) (s:=4) rfl rfl dC) (Vv (Gives.yT (l:=sW) (i:=x.toNat/16) rfl rfl (by show x.toNat/16<16;omega)) ?_);rw[abd oM];obtain⟨F0,eD,gV,aK⟩:=k.focus At1;refine aL (tO _ eD (by simp;omega)) rfl rfl (λv' _ hv=>?_);obtain⟨rfl,bZ,F1,p8,hs⟩:=hv;have S:=aK _ F1 _ bZ p8 hs;refine Zb1 ?_;refine Vv (Gives.Ef (c:=((x.toNat%16:Nat):Int)) rfl rfl (alC UZ)) (Vv (Gives.yT (l:=sW) (i:=x.toNat%16) rfl rfl (by show x.toNat%16<16;omega)) ?_);rw[abd oM];obtain⟨F0,eD,gV,aK⟩:=S.focus At1;refine aL (tO _ eD (by simp;omega)) rfl rfl (λv' _ hv=>?_);obtain⟨rfl,bZ,F1,p8,hs⟩:=hv;have S:=aK _ F1 _ bZ p8 hs;rw[show(120::yY (c.s.take i))++[ni (x.toNat/16)]++[ni (x.toNat%16)]=120::yY (c.s.take (i+1))from by rw[OT];simp]at S;refine Zb2 ?_;exact aj (i+1) tR ⟨oM,S⟩ oM
 have jF:i=c.s.length:=oM;refine Zb0 ?_;have aug:=KD c.s;rw[jF,zbr]at k;obtain⟨F0,eD,gV,aK⟩:=k.focus At1;refine aL (CG eD (by simp;omega)) rfl rfl (λv' _ hv=>?_);obtain⟨rfl,bZ,F1,p8,hs⟩:=hv;have S:=aK _ F1 _ bZ p8 hs;refine Zb1 ?_;exact⟨rfl,S.kept⟩
end
end
section
section gives
variable {P:Program} {ρ:Od->Value} {ty:Td} {w:Wd} {x y:Od} {T U:Td} {k:IntKind} {a b c:Int}
def Gives.afE {yk:IntKind} (hx:ρ x=.int k a) (hy:ρ y=.int yk b) (h0:0<=b) (he:k.wrap (a*2^(Min.min b.toNat k.bits))=c):Gives P ρ (.binOp .shl T x y U) ty w (.int k c) w:=by subst he;exact Gives.shl hx hy h0
def Gives.anJ {ts:Array Td} (hx:ρ x=.int k a) (hy:ρ y=.int k b) (he:Max.max a b=c):Gives P ρ (.call {callee:=.builtin .max,args:= #[x,y],argTypes:=ts}) ty w (.int k c) w:=by subst he;exact Gives.max hx hy
end gives
end
section
attribute [local irreducible] FW FL FG FGn jK jO fI lU Qfn Gives
def P9 (c:UInt8):max 0 (Lib.indexByte sW c)=(((vS c).getD 0:Nat):Int):=by
 have key: ∀i:Fin 256,max 0 (Lib.indexByte sW i.val.toUInt8)=(((vS i.val.toUInt8).getD 0:Nat):Int):=by decide+kernel
 have:=key ⟨c.toNat,c.toNat_lt⟩;have e:(c.toNat).toUInt8=c:=sM;simpa only[e]using this
def Qa (c:UInt8):(vS c).getD 0<16:=by
 unfold vS
 split
 .rw[zde];omega
 split
 .rw[zde];omega
 decide
def alD {a:Nat} (ha:a<16) (hb:b<16):bits .or .i64 ((16*a:Nat):Int) (b:Int)=((a*16+b:Nat):Int):=by
 have key: ∀i j:Fin 16,bits .or .i64 ((16*i.val:Nat):Int) (j.val:Int)=((i.val*16+j.val:Nat):Int):=by decide+kernel
 exact key ⟨a,ha⟩ ⟨b,hb⟩
def YX (a b:UInt8) (t:L8):sV (a::b::t)=((vS a).getD 0*16+(vS b).getD 0).toUInt8::sV t:=rfl
def R6 (h:l.length<=1):sV l=[]:=by
 match l,h with
 | [],_=>rfl
 | [_],_=>rfl
section
variable {w:Wd}
def zy (l:L8) (c:UInt8):aR Tryz.prog 72 [str l,B c] w λv w'=>v=I (Lib.indexByte l c)/\w=w':=
 j6 (by
  have:=Tryz.strings_IndexByte ⟨l.toArray⟩ (c.toNat:Int) w;have e:((c.toNat:Int).toNat).toUInt8=c:=sM;rw[e]at this;exact this)
def R7 (l p:L8):aR Tryz.prog 268 [str l,str p] w λv w'=>v=.tuple #[str (Lib.trimPrefix l p),.bool (Lib.hasPrefix l p)]/\w=w':=
 j6 (Tryz.strings_CutPrefix ⟨l.toArray⟩ ⟨p.toArray⟩ w)
def acP (l:L8) (hl:l.length<=1000000) (h0:l.head?=some 120):Rk Tryz.prog 215 [str l] w (agg (ah ⟨false,0,sV (l.drop 1)⟩)):=by
 have H:=Sep.aF w
 have ah0:Lib.trimPrefix l [120]=l.drop 1:=by
  cases l with
  | nil=>cases h0
  | cons c t=>
   injection h0 with h0
   subst h0;rfl
 refine oV Tryz.func215 ?_;refine Az (λb1 w2 H2 k1=>?_);refine Zb1 ?_;refine eB (R7 l [120]) (h:=?_);rw[ah0];refine Zb5 ?_;have Ha:=H2.XU 5;refine aI (λx:L8×L8×Value=>[(0,str x.1),(2,.pointer (some ⟨b1,0,none⟩)),(3,x.2.2)]) (λx w'=>(x.1.length<=l.length/\x.2.1.length+x.1.length<=l.length/\x.2.1++sV x.1=sV (l.drop 1))/\Sep w noB [l8 5 x.2.2 x.2.1,blk b1 (ah cell0) 41] w') (λx _=>x.1.length) (l.drop 1,[],.slice none 0 0) tR ⟨⟨by dsimp only;rw[zbo];omega,sM,rfl⟩,Ha⟩ (λx τ wa hI=>?_);obtain⟨s,acc,v1⟩:=x;obtain⟨⟨yc,hs2,dJ⟩,Ha⟩:=hI;dsimp only at yc hs2 dJ Ha;refine Lp ?_;refine Cz (λIe=>?_) (λIe=>?_)
 .have aS:1<s.length:=oM
  obtain⟨a,b,t,rfl⟩: ∃a b t,s=a::b::t:=by
   match s,aS with
   | a::b::t,_=>exact⟨a,b,t,rfl⟩
  rw[YX]at dJ;have ha:=Qa a;have hb:=Qa b;have hbv:Value.int .u8 (((vS a).getD 0*16+(vS b).getD 0:Nat):Int)=B ((vS a).getD 0*16+(vS b).getD 0).toUInt8:=(alB oM).symm;simp only[zas]at yc hs2;refine Dz (λSa wb Hb=>?_);refine Zb2 ?_;refine Gp Sa 2 rfl rfl (λ_=>(Gives.yT (i:=0) rfl rfl oM)) (Gm Sa 6 ?_);refine Gp Sa 7 rfl rfl (λ_=>(Gives.yT (i:=1) rfl rfl oM)) (Le Sa 3 _ Hb (zy sW a) (h:=λwc Hc=>⟨sT,?_⟩));refine GS (Gn rfl (λ_=>(Gives.anJ rfl rfl (P9 a))) ?_);refine GS (Gn rfl (λ_=>(Gives.afE (c:=((16*(vS a).getD 0:Nat):Int)) rfl rfl oM (by show IntKind.i64.wrap (((vS a).getD 0:Nat)*16)=_;rw[IntKind.wrap_i64];omega))) ?_);refine Le Sa 8 _ Hc (zy sW b) (h:=λwd Hd=>⟨sT,?_⟩);refine GS (Gn rfl (λ_=>(Gives.anJ rfl rfl (P9 b))) ?_);refine GS (Gn rfl (λ_=>(Gives.orE rfl rfl (alD ha hb))) ?_);refine GS (Gn rfl (λ_=>(Gives.ahF rfl oM)) ?_);refine Gz Sa 12 _ Hd ([((vS a).getD 0*16+(vS b).getD 0).toUInt8].map B) (h:=λbs we He=>⟨sT,?_⟩);refine aeF Sa 13 _ He (news:=[((vS a).getD 0*16+(vS b).getD 0).toUInt8]) At0 (by simp;omega) (h:=λv2 wf Hf=>⟨sT,?_⟩);refine sH Sa 14 _ (h:=⟨sT,?_⟩);refine Zb1 ?_;refine Vv (Gives.pW (l:=a::b::t) (i:=2) rfl rfl sM) ?_;refine Zb1 ?_;exact aj (t,acc++[((vS a).getD 0*16+(vS b).getD 0).toUInt8],v2) tR ⟨⟨dO,by dsimp only;rw[zad];simp;omega,by dsimp only;rw[zbm];exact dJ⟩,Hf⟩ (by simp;omega)
 have UG:s.length<=1:=oM;rw[R6 UG,zbw]at dJ;refine Zb1 ?_;refine Vv (Gives.amg Ha At0 rfl) (Vb (ah ⟨false,0,acc⟩) ?_);refine Tz (λwg Hg=>?_);refine Zb0 ?_;exact⟨_,fB Hg,by rw[dJ];rfl,Hg.kept⟩
end
end
end Go.Proofs.Mw
