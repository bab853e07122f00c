/-
 The library's builder of texts,walked:copyCheck,Len,WriteByte,WriteString,String.
-/
import Derived.Test.YtbkjpdboaclopaaGreatDoorNd12
set_option linter.all false
set_option maxRecDepth 4000
namespace Go.Proofs.Mw
open Go.RowKit
variable {P:Program} {ρ:Od->Value} {ty:Td} {w:Wd} {x y:Od}
def Gives.agu {src dst t e:Td} {n bytes cells b:Nat} (hs:P.underlying src=some (.pointer t)) (hd:P.underlying dst=some .unsafePointer) [hz:Cells P t n bytes] (hn:n≠0) (Vi:w.shape? b=some (e,cells)) (hc:0<cells) (hx:ρ x=.pointer (some ⟨b,0,none⟩)):
    Gives P ρ (.convert src dst x) ty w (.pointer (some ⟨b,0,none⟩)) w:=λ_ _ _ _=>by
  obtain⟨j,ht,qE⟩:=zbc.1 hz.size;simp only[Prod.mk.injEq]at qE;have:=Lib.run_to_unsafe (P:=P) w ⟨b,0,none⟩ hs hd ht (by rw[qE.1];exact hn) Vi hc;simp only[execOp,hx,zbj,this,zan,zbl]
def Gives.ZA {src dst u e:Td} {n bytes cells b:Nat} (hs:P.underlying src=some .unsafePointer) (hd:P.underlying dst=some (.pointer u)) [hz:Cells P u n bytes] (Vi:w.shape? b=some (e,cells)) (hl:liesAt P P.depth e (cells/P.cellsOf e) 0 u 1=true) (hx:ρ x=.pointer (some ⟨b,0,none⟩)):
    Gives P ρ (.convert src dst x) ty w (.pointer (some ⟨b,0,none⟩)) w:=λ_ _ _ _=>by
  obtain⟨j,hu,_⟩:=zbc.1 hz.size;have:=Lib.run_from_unsafe (P:=P) w ⟨b,0,none⟩ hs hd hu Vi hl;simp only[execOp,hx,zbj,this,zan,zbl]
def Gives.amD {T U te:Td} {n bytes b:Nat} (hp:P.underlying T=some (.pointer te)) [hz:Cells P te n bytes] (hx:ρ x=.pointer (some ⟨b,0,none⟩)) (hy:ρ y=.pointer (some ⟨b,0,none⟩)) (hg: ∀x y,(eqGuard .neq T x y (.pointer (some ⟨b,0,none⟩)) (.pointer (some ⟨b,0,none⟩))).run P w=.ok () w):
    Gives P ρ (.binOp .neq T x y U) ty w (.bool false) w:=
  .bin hx hy hg (by
    obtain⟨j,ht,_⟩:=zbc.1 hz.size;exact Lib.run_neq_ptr_same (P:=P) w ⟨b,0,none⟩ hp ht)
class MO (P:Program) (f:FuncId):Prop where
 run: ∀v w,(callFunc f #[v]).run P w=.ok (.value v) w
def Gives.agv {σ:St} {f:FuncId} [h:MO P f] {ats:Array Td} {v:Value} (hx:evF σ x=v):Gives P (evF σ) (.call {callee:=.value (.func f),args:= #[x],argTypes:=ats}) ty w v w:=λ_ _ _ _=>by
 have e:(#[]++ #[x].map (evF σ)++ #[]:Array Value)= #[v]:=by simp[hx]
 show(callFunc f (#[]++ #[x].map (evF σ)++ #[])).run P w=_
 rw[e,h.run]
def QC {w:Wd} {b:Nat} {cs:LV} {e:Td} (h:w.heap[b]? =some (.cells cs.toArray e (0,0))):w.shape? b=some (e,cs.length):=by
 unfold World.shape?;rw[h];simp
def Gives.sliceData {ts:Array Td} {v:Value} {w':Wd} (h:(Builtin.unsafeSliceData_ ts ty #[ρ x]).run P w=.ok v w'):Gives P ρ (.call {callee:=.builtin .unsafeSliceData,args:= #[x],argTypes:=ts}) ty w v w':=λ_ _ _ _=>by
 simp only[execOp,resolve,invoke,builtin,zbj,zbl,zan,zce,zav,zci,h]
def Gives.unsafeStr {ts:Array Td} {v:Value} {w':Wd} (h:(Builtin.unsafeString_ ts ty #[ρ x,ρ y]).run P w=.ok v w'):Gives P ρ (.call {callee:=.builtin .unsafeString,args:= #[x,y],argTypes:=ts}) ty w v w':=λ_ _ _ _=>by
 simp only[execOp,resolve,invoke,builtin,zbj,zbl,zan,zce,zav,zci,h]
variable {b c:Nat} {es:Array MapEntry}
open Go.Lib
section
attribute [local irreducible] FW FL FG FGn jJ jO fC lJ Qfn Gives
instance:MO Tryz.prog 302:=⟨λv w=>by
 rw[run_callFunc_extern Tryz.func302 kR kR kR (e:=Extern.AbiNoEscape.same) kR,Lib.run_noEscape];rfl⟩
def av (b:Nat):Value:=.pointer (some ⟨b,0,none⟩)
def xB (b:Nat) (l:L8):HP:=exH λx:Value×Value=>star (jk ((x.1=.pointer none\/x.1=av b)/\(l=[]->x.2=.slice none 0 0))) (star (blk b [x.1,x.2] 225) (mD 5 x.2 l))
section
variable {w w0:Wd} {S:NP} {rs:List HP}
def Sep.MP {b:Nat} {l:L8} (H:Sep w0 S (xB b l::rs) w): ∃a v,((a=.pointer none\/a=av b)/\(l=[]->v=.slice none 0 0))/\Sep w0 S (blk b [a,v] 225::mD 5 v l::rs) w:=by
 obtain⟨x,k⟩:=H.ex0;obtain⟨h,I⟩:=k.bE.ru;exact⟨x.1,x.2,h,I.bE⟩
def Sep.QD {b:Nat} {l:L8} {a v:Value} (ha:(a=.pointer none\/a=av b)/\(l=[]->v=.slice none 0 0)) (H:Sep w0 S (blk b [a,v] 225::mD 5 v l::rs) w):Sep w0 S (xB b l::rs) w:=
 Sep.tY (a,v) (Sep.aR (Sep.jP ha (Sep.aR H)))
def Sep.ajU {b:Nat} (H:Sep w0 S (blk b [.pointer none,.slice none 0 0] 225::rs) w):Sep w0 S (xB b []::rs) w:=
 Sep.QD ⟨.inl rfl,λ_=>rfl⟩ (H.YH 5).aF
def Ww {b:Nat} {v:Value} {F:NP} (hp:(blk b [.pointer none,v] 225).ok F w):aQ Tryz.prog 211 [av b] w λr w'=>r=.tuple #[]/\Turn F (blk b [av b,v] 225) w w':=by
 have H:=Sep.bW hp;refine dh Tryz.func211 ?_;refine O5 ?_;refine Qn (Cd rfl (λk=>?_) (λk=>?_))
 .refine V2 ?_
  refine Vv (Gives.agu (t:=225) kR kR dC (QC (H.obj At0)) sM rfl) ?_;refine Vv (Gives.agv rfl) (Vv (Gives.ZA (u:=225) kR kR (QC (H.obj At0)) kR rfl) ?_);refine Uz (λ_ S=>?_);refine V0 ?_;exact⟨rfl,S.turn⟩
 exact zas k sM
def ZB {b:Nat} {v:Value} {F:NP} (hp:(blk b [av b,v] 225).ok F w):aQ Tryz.prog 211 [av b] w λr w'=>r=.tuple #[]/\Turn F (blk b [av b,v] 225) w w':=by
 have H:=Sep.bW hp;refine dh Tryz.func211 ?_;refine O5 ?_;refine Qn (Cd rfl (λk=>?_) (λk=>?_))
 .exact zas k (by simp[av])
 refine V5 ?_;refine Vv (Gives.amD (te:=225) kR rfl rfl (λ_ _=>rfl)) (Qn ?_);refine Cd rfl (λk=>?_) (λk=>?_)
 .cases k
 refine V0 ?_;exact⟨rfl,H.turn⟩
def BA {b:Nat} {a v:Value} {F:NP} (ha:a=.pointer none\/a=av b) (hp:(blk b [a,v] 225).ok F w):aQ Tryz.prog 211 [av b] w λr w'=>r=.tuple #[]/\Turn F (blk b [av b,v] 225) w w':=by
 rcases ha with rfl | rfl
 .exact Ww hp
 exact ZB hp
def uw {b:Nat} {l:L8} {F:NP} (c:UInt8) (hp:(xB b l).ok F w) (hl:l.length<=100000000):aQ Tryz.prog 298 [av b,B c] w λr w'=>r=.nilIface/\Turn F (xB b (l++[c])) w w':=by
 obtain⟨a,v,ha,H⟩:=Sep.MP (Sep.bW hp);refine bU Tryz.func298 ?_;refine V2 ?_;obtain⟨F0,eO,gQ,aK⟩:=H.focus At0;refine aL (BA ha.1 eO) rfl rfl (λv' _ hv=>?_);obtain⟨rfl,cK,F1,hq,hs⟩:=hv;have k:=aK _ F1 _ cK hq hs;refine V6 ?_;refine Bs k ([c].map B) (λbs _ k _=>?_);refine qh k (news:=[c]) At1 (by simp;omega) (h:=?_);intro v2 k k;obtain⟨A2,c2,rfl,_⟩:=Sep.xQ k At1;refine Uz (λ_ k=>?_);refine V1 ?_;exact⟨rfl,(Sep.QD ⟨.inr rfl,λe=>zas e sM⟩ k).turn⟩
def u6 {b:Nat} {l news:L8} {F:NP} (iJ:news≠[]) (hp:(xB b l).ok F w) (hl:l.length+news.length<=100000000):aQ Tryz.prog 147 [av b,str news] w λr w'=>r=.tuple #[I news.length,.nilIface]/\Turn F (xB b (l++news)) w w':=by
 obtain⟨a,v,ha,H⟩:=Sep.MP (Sep.bW hp);refine bU Tryz.func147 ?_;refine V3 ?_;obtain⟨F0,eO,gQ,aK⟩:=H.focus At0;refine aL (BA ha.1 eO) rfl rfl (λv' _ hv=>?_);obtain⟨rfl,cK,F1,hq,hs⟩:=hv;have k:=aK _ F1 _ cK hq hs;refine V6 ?_;refine OM k (news:=news) At1 oM (h:=?_);intro v2 k k;obtain⟨A2,c2,rfl,_⟩:=Sep.xQ k At1;refine Uz (λ_ k=>?_);refine V4 ?_;exact⟨rfl,(Sep.QD ⟨.inr rfl,λe=>zas (List.append_eq_nil_iff.1 e).2 iJ⟩ k).turn⟩
def Wx {w:Wd} {F:NP} {g n:Nat} (hF:F g):Kept F w (w.freeze ⟨g,0,none⟩ n):=by
 unfold World.freeze
 split
 .exact Kept.refl _ _
 refine⟨rfl,rfl,rfl,sM,λk hk hn=>?_⟩;rw[zdm,zaa (λe=>hn (by rw[<-e];exact hF))]
def Wy {b:Nat} {l:L8} {F:NP} (hp:(xB b l).ok F w) (hl:l.length<=100000000) (h0:l≠[]):aQ Tryz.prog 148 [av b] w λr w'=>r=str l/\Turn F emp w w':=by
 obtain⟨a,v,ha,H⟩:=Sep.MP (Sep.bW hp);obtain⟨A,c,rfl,rW,_,Li⟩:=Sep.xQ H At1;have hlen:l.length≠0:=λe=>h0 (zbg e);refine dh Tryz.func148 ?_;refine Dz (λFj w4 H4=>?_);refine V4 ?_;refine Gm Fj 5 ?_;refine V4 ?_;obtain⟨F0,eO,gQ,aK⟩:=H4.focus At1;have tV:=Sep.rowAt H4 At1
 obtain⟨g,hA,hF0,Vi⟩: ∃g,A=some ⟨g,0,none⟩/\F0 g/\w4.shape? g=some (5,c):=by
  rcases eO.1.2 with⟨hv,h1⟩ | ⟨g,cap,cur,hv,_,hh,YU,_,Ph,_⟩
  .exact zas h1 hlen
  injection hv with e1 e2 e3
  refine⟨g,e1,(eO.2 g).2 (by rw[e1];rfl),?_⟩;unfold World.shape?;rw[hh,e3];simp only[Ph,zfd]
 subst hA;refine vK (C:=λv' w'=>v'=av g/\w'=w4) Fj 4 [(9,true),(8,false),(7,true),(6,true),(5,true)] rfl kR ⟨_,_,Gives.sliceData (Lib.run_unsafeSliceData_row _ _ _ ⟨g,0,none⟩ l.length c oM),rfl,rfl⟩ kR kR (λv' wa hv=>?_);obtain⟨rfl,rfl⟩:=hv;have Ha:=H4;refine⟨sL,?_⟩
 refine vK (C:=λv' w'=>v'=str l/\w'=wa.freeze ⟨g,0,none⟩ l.length) Fj 10 [] rfl kR ⟨_,_,Gives.unsafeStr (Lib.run_unsafeString_row (P:=Tryz.prog) _ _ _ _ 5 kR kR g c Vi l h0 rW oM (λj x hj=>by
  obtain⟨ad,e1,hc⟩:=tV.at_ oM;injection e1 with e1
  subst e1;exact hc j _ (by rw[zbz,hj];rfl))),rfl,rfl⟩ kR kR (λv' wb hv=>?_)
 obtain⟨rfl,rfl⟩:=hv;have Hb:=aK _ (λ_=>False) emp (Wx (n:=l.length) hF0) (Zp (λ_=>id)) (λb hb=>hb.elim);refine⟨sT,?_⟩;refine V1 ?_;exact⟨rfl,Hb.aF.first.turn⟩
def ZC {b:Nat} {F:NP} (hp:(xB b []).ok F w):aQ Tryz.prog 148 [av b] w λr w'=>r=str []/\Turn F emp w w':=by
 obtain⟨a,v,ha,H⟩:=Sep.MP (Sep.bW hp);have hv:=ha.2 rfl;subst hv;refine dh Tryz.func148 ?_;refine Dz (λFj w4 H4=>?_);refine V4 ?_;refine Gm Fj 5 ?_;refine V4 ?_;refine vK (C:=λv' w'=>v'=.pointer none/\w'=w4) Fj 4 [(9,true),(8,false),(7,true),(6,true),(5,true)] rfl kR ⟨_,_,Gives.sliceData (Lib.run_unsafeSliceData_nil _ _ _ 0 0),rfl,rfl⟩ kR kR (λv' wa hv=>?_);obtain⟨rfl,rfl⟩:=hv;have Ha:=H4;refine⟨sL,?_⟩;refine vK (C:=λv' w'=>v'=str []/\w'=wa) Fj 10 [] rfl kR ⟨_,_,Gives.unsafeStr (Lib.run_unsafeString_none (P:=Tryz.prog) _ _ _ _ none),rfl,rfl⟩ kR kR (λv' wb hv=>?_);obtain⟨rfl,rfl⟩:=hv;have Hb:=Ha;refine⟨sT,?_⟩;refine V1 ?_;exact⟨rfl,⟨Hb.kept,λ_=>False,Zp (λ_=>id),λb hb=>hb.elim⟩⟩
def Dj {b:Nat} {l:L8} {F:NP} (hp:(xB b l).ok F w) (hl:l.length<=100000000):aQ Tryz.prog 148 [av b] w λr w'=>r=str l/\Turn F emp w w':=by
 by_cases h:l=[]
 .subst h;exact ZC hp
 exact Wy hp hl h
end
namespace K32

def o7 (k:Int) (e:MapEntry):Bool:=match e.key with
 | .int .i32 a=>a==k
 | _=>false
def EB (es:List MapEntry) (k:Int):Option Value:=(es.find? (o7 k)).map (·.val)
def intKeys (es:List MapEntry):Prop:=∀e∈es,∃a,e.key=.int .i32 a
section
variable {w0 w w':Wd} {S:NP} {rs:List HP} {put:HP->List HP} {P:Program}
def BD (k:Int): ∀(es:List MapEntry) (i:Nat),intKeys es->∃r,Instr.findNow (.int .i32) (.int .i32 k) es i=some r/\r.map (·.2)=EB es k/\
    (∀j v,r=some (j,v)->∃m,j=i+m/\∃e,es[m]? =some e/\o7 k e=true/\es.find? (o7 k)=some e/\∀m' e',m'<m->es[m']? =some e'->o7 k e'=false):=by
  intro es
  induction es with
  | nil=>intro i _;exact⟨none,rfl,rfl,λ_ _ h=>by cases h⟩
  | cons e es ih=>
    intro i hk;obtain⟨a,ha⟩:=hk e zao;obtain⟨r,h1,h2,h3⟩:=ih (i+1) λx hx=>hk x (zau _ hx);have hs:Instr.sameNow (.int .i32) (.int .i32 k) e.key=some (k==a):=by rw[ha];simp[Instr.sameNow]
    have LX:o7 k e=(a==k):=by unfold o7;rw[ha]
    by_cases hka:k=a
    . subst hka
      have hkt:o7 k e=true:=by rw[LX];simp
      refine⟨some (i,e.val),?_,?_,?_⟩
      . unfold Instr.findNow;rw[hs];simp
      . simp[EB,hkt]
      rintro j v Pj;injection Pj with Pj
      injection Pj with h4 h5
      exact⟨0,oM,e,rfl,hkt,by simp[hkt],λm' _ hm=>oM⟩
    have hkf:o7 k e=false:=by rw[LX];simpa using λh:a=k=>hka h.symm
    refine⟨r,?_,?_,?_⟩
    . unfold Instr.findNow;rw[hs,h1]
      have :(k==a)=false:=by simpa using hka
      rw[this]
    . rw[h2];simp[EB,hkf]
    rintro j v Pj;obtain⟨m,hm,e',he',Pe,hf',aX⟩:=h3 j v Pj;refine⟨m+1,oM,e',by simpa using he',Pe,by simp[hkf,hf'],λm' e'' nX Pk=>?_⟩;cases m' with
    | zero=>simp at Pk;rw[<-Pk];exact hkf
    | succ m'=>exact aX m' e'' oM (by simpa using Pk)
def tF {kt:Td} (hu:P.underlying kt=some (.int .i32)) (k:Int) (es:List MapEntry) (hk:intKeys es):
    ∃r,(Instr.findKey kt (.int .i32 k) es).run P w=.ok r w/\r.map (·.2)=EB es k/\
    (∀j v,r=some (j,v)->∃e,es[j]? =some e/\o7 k e=true/\∀m' e',m'<j->es[m']? =some e'->o7 k e'=false):=by
  obtain⟨r,h1,h2,h3⟩:=BD k es 0 hk;refine⟨r,by simp[Instr.findKey,run_underlying hu,h1],h2,λj v Pj=>?_⟩;obtain⟨m,hm,e,he,nW,_,aX⟩:=h3 j v Pj;have :j=m:=by omega
  subst this;exact⟨e,he,nW,aX⟩
def rF {kt:Td} (hu:P.underlying kt=some (.int .i32)) (b:Bool) (k:Int) (d:Nat):(Instr.checkKey b (d+1) kt (.int .i32 k)).run P w=.ok () w:=by
 simp[Instr.checkKey,run_underlying hu]
def run_getObj_map (h:w.heap[b]? =some (.map es c)):(getObj b).run P w=.ok (.map es c) w:=by
 simp[getObj,Sem.run,h]
end
end K32
end
variable {v:Value} {k n:Nat} {s:ByteArray}
section
variable {P:Program} {ρ:Od->Value} {ty:Td} {w w0:Wd} {x y z:Od} {S:NP} {rs:List HP} {put:HP->List HP}
def Wz {T k e:Td} [hm:IsMap P T k e] [hk:nk P k .i32] {i:Int}
    (H:Sep w0 S rs w) (hat:At rs (obj b (.map es c)) put) (rA:K32.intKeys es.toList) (mE:K32.EB es.toList i=none) (hx:ρ x=.map (some b)) (hy:ρ y=.int .i32 i) (hz:ρ z=v):
    ∃w',PE P ρ (.insert T x y z) ty w w'/\Sep w0 S (put (obj b (.map (es.push {key:=.int .i32 i,val:=v,born:=c}) (c+1)))) w':=by
  have hb:=H.obj hat;obtain⟨r,h1,h2,_⟩:=K32.tF (P:=P) (w:=w) hk.und i es.toList rA
  have hr:r=none:=by
    cases r with
    | none=>rfl
    | some jv=>rw[mE]at h2;cases h2
  subst hr;have dN:=K32.rF (P:=P) (w:=w) hk.und false i 9999;have xk: ∀o:Obj,(setObj b o).run P w=.ok () {w with heap:=w.heap.setIfInBounds b o}:=λo=>by simp[Go.setObj,Sem.run,hb]
  have aX:=mg hb;refine⟨{w with heap:=w.heap.setIfInBounds b (.map (es.push {key:=.int .i32 i,val:=v,born:=c}) (c+1))},λ_ _ _ _=>?_,H.setObj hat ⟨rfl,rfl,rfl,sM,λj hj iJ=>by simp only[zbx];rw[zaa (λe=>iJ e.symm)]⟩ (by simp[aX])⟩;simp only[execOp,hx,hy,hz,Instr.mapUpdate,zbj,run_underlying hm.und,zan,run_getObj_map hb];rw[dN];simp only[zan,h1,xk,zbl]
def rG {r:Option Nat} {ops:AO} {Q:Post} {rest:LO} {σ:St} {pos:String} {after:Array Edge} {T k e:Td} [hm:IsMap P T k e] [hk:nk P k .i32] {i:Int}
    (H:Sep w0 S rs w) (hat:At rs (obj b (.map es c)) put) (rA:K32.intKeys es.toList) (mE:K32.EB es.toList i=none) (hx:evF σ x=.map (some b):=by exact rfl) (hy:evF σ y=.int .i32 i:=by exact rfl) (hz:evF σ z=v:=by exact rfl)
    (h: ∀w',Sep w0 S (put (obj b (.map (es.push {key:=.int .i32 i,val:=v,born:=c}) (c+1)))) w'->FL P r n ops Q rest σ w'):FL P r n ops Q (⟨none,.insert T x y z,ty,pos,after,none⟩::rest) σ w:=by
  obtain⟨w',ha,hs⟩:=Wz (P:=P) (ty:=ty) (T:=T) H hat rA mE hx hy hz;exact Ey ha rfl (h w' hs)
def PI {T k e:Td} [hm:IsMap P T k e] [hk:nk P k .i32] {zv:Value} [hz:Zero P e zv] {i:Int}
    (hb:w.heap[b]? =some (.map es c)) (rA:K32.intKeys es.toList) (hx:ρ x=.map (some b)) (hy:ρ y=.int .i32 i):Gives P ρ (.lookup T x y true) ty w (.tuple #[(K32.EB es.toList i).getD zv,.bool (K32.EB es.toList i).isSome]) w:=by
  obtain⟨r,h1,h2,_⟩:=K32.tF (P:=P) (w:=w) hk.und i es.toList rA;intro _ _ _ _;rw[<-h2];have dN:=K32.rF (P:=P) (w:=w) hk.und es.isEmpty i 9999;simp only[execOp,hx,hy,Instr.lookup,zbj,run_underlying hm.und,zan,run_getObj_map hb,zbl];rw[dN];simp only[zan,h1];cases r with
  | none=>simp[hz.run]
  | some jv=>obtain⟨j,v⟩:=jv;simp
def TJ {T:Td} [ht:lX P T] (H:Sep w0 S rs w) (hx:ρ x=.string s): ∃k w',Gives P ρ (.range T x) ty w (.pointer (some ⟨k,0,none⟩)) w'/\Sep w0 S (obj k (.stringIter s 0)::rs) w':=by
 refine⟨w.heap.size,w.alloc (.stringIter s 0),λ_ _ _ _=>?_,H.alloc _⟩;have:=run_range_string (P:=P) w T s ht.und;simp only[execOp,hx,zbj,this,zan,zbl];rfl
def WA {pos:Nat} (H:Sep w0 S rs w) (hat:At rs (obj k (.stringIter s pos)) put) (hx:ρ x=.pointer (some ⟨k,0,none⟩)) (h:pos<s.size):
    ∃w',Gives P ρ (.next x true) ty w (.tuple #[.bool true,.int .i64 pos,.int .i32 (Utf8.decode s pos).1]) w'/\Sep w0 S (put (obj k (.stringIter s (pos+(Utf8.decode s pos).2)))) w':=by
  have hk:=H.obj hat;have aX:=mg hk;have:=Lib.run_next_any_at (P:=P) w k s pos ty hk h;refine⟨w.iterAt k s (pos+(Utf8.decode s pos).2),λ_ _ _ _=>?_,H.setObj hat ⟨rfl,rfl,rfl,?_,λj hj iJ=>?_⟩ (Lib.iterAt_heap w k s pos _ hk)⟩
  . simp only[execOp,hx,zbj,this,zan,zbl]
  . simp[World.iterAt]
  simp only[World.iterAt,zbx];rw[zaa (λe=>iJ e.symm)]
def PK {pos:Nat} (H:Sep w0 S rs w) (hat:At rs (obj k (.stringIter s pos)) put) (hx:ρ x=.pointer (some ⟨k,0,none⟩)) (h: ¬pos<s.size):Gives P ρ (.next x true) ty w (.tuple #[.bool false]) w:=λ_ _ _ _=>by
 have:=Lib.run_next_end_at (P:=P) w k s pos ty (H.obj hat) h;simp only[execOp,hx,zbj,this,zan,zbl]
end
section
attribute [local irreducible] FW FL FG FGn jJ jO fC lJ Qfn Gives
def keys_nil:K32.intKeys (#[]:Array MapEntry).toList:=λe he=>by simp at he
def gF {k:Int} (h:K32.intKeys es.toList):K32.intKeys (es.push {key:=.int .i32 k,val:=v,born:=c}).toList:=by
 intro e he;rw[zfu,zbk,zaw]at he
 rcases he with he | rfl
 .exact h e he
 exact⟨k,rfl⟩
def zT (k:Int) (v:Int) (b:Nat):MapEntry:={key:=.int .i32 k,val:=.int .u8 v,born:=b}
def iD:Array MapEntry:= #[zT 34 34 0,zT 92 92 1,zT 8 98 2,zT 12 102 3,zT 10 110 4,zT 13 114 5,zT 9 116 6]
def zU (r:Int):Option UInt8:=if r=34 then some 34 else if r=92 then some 92 else if r=8 then some 98 else if r=12 then some 102 else if r=10 then some 110 else if r=13 then some 114 else if r=9 then some 116 else none
def ZE (r:Int):K32.EB iD.toList r=(zU r).map B:=by
 unfold K32.EB zU iD;simp only[zch,List.find?_nil,K32.o7,zT]
 by_cases h1:r=34
 .subst h1;rfl
 by_cases h2:r=92
 .subst h2;rfl
 by_cases h3:r=8
 .subst h3;rfl
 by_cases h4:r=12
 .subst h4;rfl
 by_cases h5:r=10
 .subst h5;rfl
 by_cases h6:r=13
 .subst h6;rfl
 by_cases h7:r=9
 .subst h7;rfl
 have e: ∀k:Int,r≠k->(k==r)=false:=λk h=>by simpa using λe=>h e.symm
 simp only[e _ h1,e _ h2,e _ h3,e _ h4,e _ h5,e _ h6,e _ h7,zaa h1,zaa h2,zaa h3,zaa h4,zaa h5,zaa h6,zaa h7];rfl
def WC:K32.intKeys iD.toList:=by
 intro e he;simp only[iD,zbb,zam,or_false]at he
 rcases he with rfl | rfl | rfl | rfl | rfl | rfl | rfl<;>exact⟨_,rfl⟩
section
variable {w:Wd}
def WE:aQ Tryz.prog 299 [] w λv w'=>∃m:Nat,v=.map (some m)/\True/\Turn noB (obj m (.map iD 7)) w w':=by
 have H:=Sep.aH w;refine abR Tryz.func299 ?_;refine V1 ?_;refine vH H (h:=λb2 _ k _=>?_);refine rG k At0 keys_nil rfl (h:=λ_ k=>?_);refine rG k At0 (gF keys_nil) rfl (h:=λ_ k=>?_);refine rG k At0 (gF (gF keys_nil)) rfl (h:=λ_ k=>?_);refine rG k At0 (gF (gF (gF keys_nil))) rfl (h:=λ_ k=>?_);refine rG k At0 (gF (gF (gF (gF keys_nil)))) rfl (h:=λ_ k=>?_);refine rG k At0 (gF (gF (gF (gF (gF keys_nil))))) rfl (h:=λ_ k=>?_);refine rG k At0 (gF (gF (gF (gF (gF (gF keys_nil)))))) rfl (h:=λ_ k=>?_);refine V2 ?_;exact⟨_,rfl,trivial,k.turn⟩
end
end
section
section gives
variable {P:Program} {ρ:Od->Value} {ty:Td} {w:Wd} {x y:Od} {T U:Td} {k:IntKind} {a b c:Int}
def Gives.orE (hx:ρ x=.int k a) (hy:ρ y=.int k b) (he:bits .or k a b=c):Gives P ρ (.binOp .or T x y U) ty w (.int k c) w:=by subst he;exact Gives.or hx hy
def Gives.EC (hx:ρ x=.int k a) (hy:ρ y=.int k b) (he:bits .and k a b=c):Gives P ρ (.binOp .and T x y U) ty w (.int k c) w:=by subst he;exact Gives.and hx hy
def Gives.ED {m s:Nat} {j:IntKind} (hx:ρ x=.int k m) (hy:ρ y=.int j s) (hs:s<=k.bits):Gives P ρ (.binOp .shr T x y U) ty w (.int k ((m/2^s:Nat):Int)) w:=by
 have h:=Gives.shr (P:=P) (ty:=ty) (w:=w) (T:=T) (U:=U) hx hy oM;rw[zds,zcp hs]at h
 have e:(m:Int).fdiv (2^s)=((m/2^s:Nat):Int):=by
  rw[zfv _ (Int.pow_nonneg dC)];simp
 rw[e]at h;exact h
end gives
end
variable {r:Nat} {l:L8}
section
attribute [local irreducible] FW FL FG FGn jJ jO fC lJ Qfn Gives
def or_fin {h n:Nat} (hh:h<256) (hn:n<256) (key:h||| n=h+n):bits .or .u8 (h:Int) (n:Int)=((h+n:Nat):Int):=by
 rw[u8_or_nat h n hh hn,key]
def aoG {x:Nat} (h:x<32):bits .or .u8 192 (x:Int)=((192+x:Nat):Int):=by
 have key: ∀i:Fin 32,192||| i.val=192+i.val:=dC
 exact or_fin (h:=192) dC oM (key ⟨x,h⟩)
def BF {x:Nat} (h:x<64):bits .or .u8 128 (x:Int)=((128+x:Nat):Int):=by
 have key: ∀i:Fin 64,128||| i.val=128+i.val:=dC
 exact or_fin (h:=128) dC oM (key ⟨x,h⟩)
def alL {x:Nat} (h:x<16):bits .or .u8 224 (x:Int)=((224+x:Nat):Int):=by
 have key: ∀i:Fin 16,224||| i.val=224+i.val:=dC
 exact or_fin (h:=224) dC oM (key ⟨x,h⟩)
def alM {x:Nat} (h:x<8):bits .or .u8 240 (x:Int)=((240+x:Nat):Int):=by
 have key: ∀i:Fin 8,240||| i.val=240+i.val:=dC
 exact or_fin (h:=240) dC oM (key ⟨x,h⟩)
def BG {x:Nat} (h:x<256):bits .and .u8 (x:Int) 63=((x%64:Nat):Int):=by
 have key: ∀i:Fin 256,i.val&&& 63=i.val%64:=dC;have:=u8_and_nat x 63 h dC;rw[key ⟨x,h⟩]at this;exact this
def u8w (r:Nat):IntKind.u8.wrap (r:Int)=((r%256:Nat):Int):=by rw[IntKind.wrap_u8];omega
def cb (n:Nat):Value:=.int .u8 (n:Int)
def amE (h:n<256):B n.toUInt8=cb n:=by
 unfold B cb;simp[Nat.mod_eq_of_lt h]
def Jt {l:List Nat} (h:encodeRuneZ r=l.map λn:Nat=>(n:Int)) (hl: ∀n∈l,n<256):l.map cb=(encodeRune r).map B:=by
 unfold encodeRune;rw[h,zdj,zdj];refine zcr λn hn=>?_;simp only[Function.comp,zds];exact(amE (hl n hn)).symm
def enc2 {r:Nat} (h0:128<=r) (h1:r<=2047):[cb (192+r/64),cb (128+r%64)]=(encodeRune r).map B:=
 Jt (l:=[192+r/64,128+r%64]) (by rw[encodeRuneZ_two oM oM];simp) (by intro n hn;simp at hn;omega)
def enc3 {r:Nat} (h:(2048<=r/\r<55296)\/(57343<r/\r<=65535)):[cb (224+r/4096),cb (128+r/64%64),cb (128+r%64)]=(encodeRune r).map B:=
 Jt (l:=[224+r/4096,128+r/64%64,128+r%64]) (by rw[encodeRuneZ_three oM];simp) (by intro n hn;simp at hn;omega)
def enc4 {r:Nat} (h0:65536<=r) (h1:r<=1114111):[cb (240+r/262144),cb (128+r/4096%64),cb (128+r/64%64),cb (128+r%64)]=(encodeRune r).map B:=
 Jt (l:=[240+r/262144,128+r/4096%64,128+r/64%64,128+r%64]) (by
  have e:encodeRuneZ (r:Int)=[240+(r:Int)/262144,128+(r:Int)/4096%64,128+(r:Int)/64%64,128+(r:Int)%64]:=by
   unfold encodeRuneZ;rw[zaa oM,zaa oM,zaa oM,zac oM]
  rw[e];simp) (by intro n hn;simp at hn;omega)
section
variable {w:Wd}
theorem TK {F:NP} (hp:(mD 5 v l).ok F w) (hl:l.length<=100000000) (h0:128<=r) (h1:r<=1114111) (hs:r<55296\/57343<r):
    aQ Tryz.prog 363 [v,I32 r] w λx w'=>∃v',x=v'/\True/\Turn F (mD 5 v' (l++encodeRune r)) w w':=by
  have H:=Sep.bW hp;have hel:=Ml (r:Int);refine bU Tryz.func363 ?_;refine V2 ?_;refine Vv (Gives.qx (c:=(r:Int)) rfl (by rw[IntKind.wrap_u32];omega)) ?_;refine Cz (λk=>?_) (λk=>?_)
  . have S:=k
    refine V2 ?_;refine Vv (Gives.ED (m:=r) (s:=6) rfl rfl dC) (Vv (Gives.qx (c:=((r/64:Nat):Int)) rfl (by rw[u8w];omega)) ?_);refine Vv (Gives.orE (c:=((192+r/64:Nat):Int)) rfl rfl (aoG oM)) (Mv ?_);refine Vv (Gives.qx (c:=((r%256:Nat):Int)) rfl (u8w r)) (Vv (Gives.EC (c:=((r%64:Nat):Int)) rfl rfl (by rw[BG oM];omega)) ?_);refine Vv (Gives.orE (c:=((128+r%64:Nat):Int)) rfl rfl (BF oM)) (Bs H [cb (192+r/64),cb (128+r%64)] (λbs _ I _=>?_));have Fe:(encodeRune r).length=2:=by have:=zay List.length (enc2 (r:=r) h0 oM);simpa using this.symm
    rw[enc2 h0 oM]at I;refine qh I At0 oM (hc':=Fe.symm) (h:=?_);intro v2 I I;refine V1 ?_;exact⟨_,rfl,trivial,I.turn⟩
  have S:=k;refine Cz (λI=>?_) (λI=>?_)
  . refine Sk (dV (zay Value.bool (zap I)) ?_)
    refine V2 ?_;refine Vv (Gives.ED (m:=r) (s:=12) rfl rfl dC) (Vv (Gives.qx (c:=((r/4096:Nat):Int)) rfl (by rw[u8w];omega)) ?_);refine Vv (Gives.orE (c:=((224+r/4096:Nat):Int)) rfl rfl (alL oM)) (Mv ?_);refine Vv (Gives.ED (m:=r) (s:=6) rfl rfl dC) (Vv (Gives.qx (c:=((r/64%256:Nat):Int)) rfl (u8w _)) ?_);refine Vv (Gives.EC (c:=((r/64%64:Nat):Int)) rfl rfl (by rw[BG oM];omega)) ?_;refine Vv (Gives.orE (c:=((128+r/64%64:Nat):Int)) rfl rfl (BF oM)) (Mv ?_);refine Vv (Gives.qx (c:=((r%256:Nat):Int)) rfl (u8w r)) (Vv (Gives.EC (c:=((r%64:Nat):Int)) rfl rfl (by rw[BG oM];omega)) ?_);refine Vv (Gives.orE (c:=((128+r%64:Nat):Int)) rfl rfl (BF oM)) (Bs H [cb (224+r/4096),cb (128+r/64%64),cb (128+r%64)] (λbs _ I _=>?_));have Fe:(encodeRune r).length=3:=by have:=zay List.length (enc3 (r:=r) oM);simpa using this.symm
    rw[enc3 oM]at I;refine qh I At0 oM (hc':=Fe.symm) (h:=?_);intro v2 I I;refine V1 ?_;exact⟨_,rfl,trivial,I.turn⟩
  refine Sz (λI=>?_) (λI=>?_)
  . refine Cz (λI=>?_) (λI=>?_)
    . refine V2 ?_
      refine Vv (Gives.ED (m:=r) (s:=12) rfl rfl dC) (Vv (Gives.qx (c:=((r/4096:Nat):Int)) rfl (by rw[u8w];omega)) ?_);refine Vv (Gives.orE (c:=((224+r/4096:Nat):Int)) rfl rfl (alL oM)) (Mv ?_);refine Vv (Gives.ED (m:=r) (s:=6) rfl rfl dC) (Vv (Gives.qx (c:=((r/64%256:Nat):Int)) rfl (u8w _)) ?_);refine Vv (Gives.EC (c:=((r/64%64:Nat):Int)) rfl rfl (by rw[BG oM];omega)) ?_;refine Vv (Gives.orE (c:=((128+r/64%64:Nat):Int)) rfl rfl (BF oM)) (Mv ?_);refine Vv (Gives.qx (c:=((r%256:Nat):Int)) rfl (u8w r)) (Vv (Gives.EC (c:=((r%64:Nat):Int)) rfl rfl (by rw[BG oM];omega)) ?_);refine Vv (Gives.orE (c:=((128+r%64:Nat):Int)) rfl rfl (BF oM)) (Bs H [cb (224+r/4096),cb (128+r/64%64),cb (128+r%64)] (λbs _ I _=>?_));have Fe:(encodeRune r).length=3:=by have:=zay List.length (enc3 (r:=r) oM);simpa using this.symm
      rw[enc3 oM]at I;refine qh I At0 oM (hc':=Fe.symm) (h:=?_);intro v2 I I;refine V1 ?_;exact⟨_,rfl,trivial,I.turn⟩
    refine Sz (λI=>?_) (λI=>?_)
    . refine Cz (λI=>?_) (λI=>?_)
      . refine V2 ?_
        refine Vv (Gives.ED (m:=r) (s:=18) rfl rfl dC) (Vv (Gives.qx (c:=((r/262144:Nat):Int)) rfl (by rw[u8w];omega)) ?_);refine Vv (Gives.orE (c:=((240+r/262144:Nat):Int)) rfl rfl (alM oM)) (Mv ?_);refine Vv (Gives.ED (m:=r) (s:=12) rfl rfl dC) (Vv (Gives.qx (c:=((r/4096%256:Nat):Int)) rfl (u8w _)) ?_);refine Vv (Gives.EC (c:=((r/4096%64:Nat):Int)) rfl rfl (by rw[BG oM];omega)) ?_;refine Vv (Gives.orE (c:=((128+r/4096%64:Nat):Int)) rfl rfl (BF oM)) (Mv ?_);refine Vv (Gives.ED (m:=r) (s:=6) rfl rfl dC) (Vv (Gives.qx (c:=((r/64%256:Nat):Int)) rfl (u8w _)) ?_);refine Vv (Gives.EC (c:=((r/64%64:Nat):Int)) rfl rfl (by rw[BG oM];omega)) ?_;refine Vv (Gives.orE (c:=((128+r/64%64:Nat):Int)) rfl rfl (BF oM)) (Mv ?_);refine Vv (Gives.qx (c:=((r%256:Nat):Int)) rfl (u8w r)) (Vv (Gives.EC (c:=((r%64:Nat):Int)) rfl rfl (by rw[BG oM];omega)) ?_);refine Vv (Gives.orE (c:=((128+r%64:Nat):Int)) rfl rfl (BF oM)) (Bs H [cb (240+r/262144),cb (128+r/4096%64),cb (128+r/64%64),cb (128+r%64)] (λbs _ I _=>?_));have Fe:(encodeRune r).length=4:=by have:=zay List.length (enc4 (r:=r) oM h1);simpa using this.symm
        rw[enc4 oM h1]at I;refine qh I At0 oM (hc':=Fe.symm) (h:=?_);intro v2 I I;refine V1 ?_;exact⟨_,rfl,trivial,I.turn⟩
      exact zas h1 oM
    exact zas h1 oM
  refine Sz (λI=>?_) (λI=>?_)
  . refine Cz (λI=>?_) (λI=>?_)
    . refine V2 ?_
      refine Vv (Gives.ED (m:=r) (s:=18) rfl rfl dC) (Vv (Gives.qx (c:=((r/262144:Nat):Int)) rfl (by rw[u8w];omega)) ?_);refine Vv (Gives.orE (c:=((240+r/262144:Nat):Int)) rfl rfl (alM oM)) (Mv ?_);refine Vv (Gives.ED (m:=r) (s:=12) rfl rfl dC) (Vv (Gives.qx (c:=((r/4096%256:Nat):Int)) rfl (u8w _)) ?_);refine Vv (Gives.EC (c:=((r/4096%64:Nat):Int)) rfl rfl (by rw[BG oM];omega)) ?_;refine Vv (Gives.orE (c:=((128+r/4096%64:Nat):Int)) rfl rfl (BF oM)) (Mv ?_);refine Vv (Gives.ED (m:=r) (s:=6) rfl rfl dC) (Vv (Gives.qx (c:=((r/64%256:Nat):Int)) rfl (u8w _)) ?_);refine Vv (Gives.EC (c:=((r/64%64:Nat):Int)) rfl rfl (by rw[BG oM];omega)) ?_;refine Vv (Gives.orE (c:=((128+r/64%64:Nat):Int)) rfl rfl (BF oM)) (Mv ?_);refine Vv (Gives.qx (c:=((r%256:Nat):Int)) rfl (u8w r)) (Vv (Gives.EC (c:=((r%64:Nat):Int)) rfl rfl (by rw[BG oM];omega)) ?_);refine Vv (Gives.orE (c:=((128+r%64:Nat):Int)) rfl rfl (BF oM)) (Bs H [cb (240+r/262144),cb (128+r/4096%64),cb (128+r/64%64),cb (128+r%64)] (λbs _ I _=>?_));have Fe:(encodeRune r).length=4:=by have:=zay List.length (enc4 (r:=r) oM h1);simpa using this.symm
      rw[enc4 oM h1]at I;refine qh I At0 oM (hc':=Fe.symm) (h:=?_);intro v2 I I;refine V1 ?_;exact⟨_,rfl,trivial,I.turn⟩
    exact zas h1 oM
  exact zas h1 oM
def PL {F:NP} (hp:(mD 5 v l).ok F w) (hl:l.length<=100000000) (h1:r<=1114111) (hs:r<55296\/57343<r):
    aQ Tryz.prog 343 [v,I32 r] w λx w'=>∃v',x=v'/\True/\Turn F (mD 5 v' (l++encodeRune r)) w w':=by
  have H:=Sep.bW hp;refine bU Tryz.func343 ?_;refine V2 ?_;refine Vv (Gives.qx (c:=(r:Int)) rfl (by rw[IntKind.wrap_u32];omega)) ?_;refine Cz (λk=>?_) (λk=>?_)
  . have qF:encodeRune (r:Int)=[r.toUInt8]:=by unfold encodeRune;rw[encodeRuneZ_one oM oM];simp
    refine V2 ?_;refine Vv (Gives.qx (c:=((r%256:Nat):Int)) rfl (u8w r)) ?_;have hb:Value.int .u8 ((r%256:Nat):Int)=B r.toUInt8:=by rw[amE oM,Nat.mod_eq_of_lt oM];rfl
    refine nM H (xs:=[.tmp 10]) (out:=[r.toUInt8].map B) (eu.one hb rfl eu.nil) rfl rfl rfl (λbs _ k _=>?_);refine qh k (news:=[r.toUInt8]) At0 (by simp;omega) (h:=?_);intro v2 k k;rw[<-qF]at k;refine V1 ?_;exact⟨_,rfl,trivial,k.turn⟩
  refine V2 ?_;obtain⟨F0,eO,gQ,aK⟩:=H.focus At0;refine aL (TK eO hl oM h1 hs) rfl rfl (λv' _ hv=>?_);obtain⟨v2,rfl,_,cK,F1,hq,iC⟩:=hv;have k:=aK _ F1 _ cK hq iC;refine V1 ?_;exact⟨_,rfl,trivial,k.turn⟩
def TL {F:NP} (hp:(xB b l).ok F w) (hl:l.length<=10000000) (h1:r<=1114111) (hs:r<55296\/57343<r):aQ Tryz.prog 300 [av b,I32 r] w λ_ w'=>Turn F (xB b (l++encodeRune r)) w w':=by
 obtain⟨a,v,ha,H⟩:=Sep.MP (Sep.bW hp);obtain⟨A,c,rfl,rW,_,_⟩:=Sep.xQ H At1;have hel:=Ml (r:Int)
 have iJ:encodeRune (r:Int)≠[]:=by
  intro e;unfold encodeRune encodeRuneZ at e
  repeat' split at e
  all_goals simp at e
 refine bU Tryz.func300 ?_;refine V3 ?_;obtain⟨F0,eO,gQ,aK⟩:=H.focus At0;refine aL (BA ha.1 eO) rfl rfl (λv' _ hv=>?_);obtain⟨rfl,cK,F1,hq,iC⟩:=hv;have k:=aK _ F1 _ cK hq iC;refine V12 ?_;obtain⟨F0,eO,gQ,aK⟩:=k.focus At1;refine aL (PL eO oM h1 hs) rfl rfl (λv' _ hv=>?_);obtain⟨v2,rfl,_,cK,F1,hq,iC⟩:=hv;have k:=aK _ F1 _ cK hq iC;obtain⟨A2,c2,rfl,_⟩:=Sep.xQ k At1;refine Uz (λ_ k=>?_);refine V9 ?_;exact(Sep.QD ⟨.inr rfl,λe=>zas (List.append_eq_nil_iff.1 e).2 iJ⟩ k).turn
end
end
variable {d:Nat}
section
variable {P:Program} {r:Option Nat} {n:Nat} {ops:AO} {Q:Post} {rest:LO} {σ:St} {w w0:Wd} {S:NP} {rs:List HP} {put:HP->List HP} {ty:Td} {pos:String} {after:Array Edge}
def adF {T:Td} [ht:lX P T] (H:Sep w0 S rs w) (hx:evF σ x=.string s:=by exact rfl) (hd:Nat.blt d n=true:=by exact rfl)
    (h: ∀k w',Sep w0 S (obj k (.stringIter s 0)::rs) w'->FL P r n ops Q rest (upd σ d (.pointer (some ⟨k,0,none⟩))) w'):FL P r n ops Q (⟨some d,.range T x,ty,pos,after,none⟩::rest) σ w:=by
  obtain⟨k,w',hg,hs⟩:=TJ (P:=P) (ty:=ty) (T:=T) H hx;exact dD hg hd (h k w' hs)
def agw {i:Nat} (H:Sep w0 S rs w) (hat:At rs (obj k (.stringIter s i)) put)
    (h1:i<s.size->∀w',Sep w0 S (put (obj k (.stringIter s (i+(Utf8.decode s i).2)))) w'->FL P r n ops Q rest (upd σ d (.tuple #[.bool true,.int .i64 i,.int .i32 (Utf8.decode s i).1])) w')
    (h2: ¬i<s.size->FL P r n ops Q rest (upd σ d (.tuple #[.bool false])) w) (hx:evF σ x=.pointer (some ⟨k,0,none⟩):=by exact rfl) (hd:Nat.blt d n=true:=by exact rfl):
    FL P r n ops Q (⟨some d,.next x true,ty,pos,after,none⟩::rest) σ w:=by
  by_cases h:i<s.size
  . obtain⟨w',hg,hs⟩:=WA (P:=P) (ty:=ty) H hat hx h
    exact dD hg hd (h1 h w' hs)
  exact dD (PK (P:=P) (ty:=ty) H hat hx h) hd (h2 h)
end
section
attribute [local irreducible] FW FL FG FGn jJ jO fC lJ Qfn Gives
def agx (h:128<=r) (h1:r<=1114111): ∀c∈encodeRune (r:Int),128<=c.toNat:=by
 intro c hc;unfold encodeRune at hc;obtain⟨x,hx,rfl⟩:=zar.1 hc;unfold encodeRuneZ at hx;rw[zaa oM]at hx
 repeat' split at hx
 all_goals (simp only[zbb,zam,or_false]at hx)
 all_goals (rcases hx with rfl | rfl | rfl | rfl<;>simp<;>omega)
def ZF (h: ∀c∈l,128<=c.toNat):l.flatMap jF=l:=by
 induction l with
 | nil=>rfl
 | cons c t ih=>
  rw[zbh,K7 (h c sM),ih (λx hx=>h x (by simp[hx]))];rfl
def ZG (r:Nat) (h1:r<=1114111) (h:r<55296\/57343<r):Utf8.valid (r:Int)=true:=by
 simp[Utf8.valid];omega
def aoH (r:Nat) (v:Utf8.valid (r:Int)=true) (c1:r<128):(Utf8.encode (r:Int)).data.toList=[UInt8.ofNat r]:=by
 simp[Utf8.encode,v,c1]
def aoI (r:Nat) (v:Utf8.valid (r:Int)=true) (c1: ¬r<128) (c2:r<2048):(Utf8.encode (r:Int)).data.toList=[UInt8.ofNat (192+r/64),UInt8.ofNat (128+r%64)]:=by
 simp[Utf8.encode,v,c1,c2]
def aoJ (r:Nat) (v:Utf8.valid (r:Int)=true) (c1: ¬r<128) (c2: ¬r<2048) (c3:r<65536):(Utf8.encode (r:Int)).data.toList=[UInt8.ofNat (224+r/4096),UInt8.ofNat (128+r/64%64),UInt8.ofNat (128+r%64)]:=by
 simp[Utf8.encode,v,c1,c2,c3]
def aoK (r:Nat) (v:Utf8.valid (r:Int)=true) (c1: ¬r<128) (c2: ¬r<2048) (c3: ¬r<65536):(Utf8.encode (r:Int)).data.toList=[UInt8.ofNat (240+r/262144),UInt8.ofNat (128+r/4096%64),UInt8.ofNat (128+r/64%64),UInt8.ofNat (128+r%64)]:=by
 simp[Utf8.encode,v,c1,c2,c3]
def Eb (n:Nat) (z:Int) (e:z.toNat=n):z.toNat.toUInt8=UInt8.ofNat n:=by rw[e]
def FQ (r:Int) (l:L8) (e:(Utf8.encode r).data.toList=l):LH r=l:=by
 have h2:Utf8.encode r=⟨(LH r).toArray⟩:=Value.string.inj (Oo r);have h3:=zay (λb:ByteArray=>b.data.toList) h2;exact h3.symm.trans e
def TM (r:Nat) (h1:r<=1114111) (h:r<55296\/57343<r):LH (r:Int)=encodeRune (r:Int):=by
 have v:=ZG r h1 h;unfold encodeRune
 by_cases c1:r<128
 .have e1:=Eb r (r:Int) oM
  rw[encodeRuneZ_one oM oM,FQ _ _ (aoH r v c1),zav,zci,e1]
 by_cases c2:r<2048
 .have e1:=Eb (192+r/64) (192+(r:Int)/64) oM
  have e2:=Eb (128+r%64) (128+(r:Int)%64) oM;rw[encodeRuneZ_two oM oM,FQ _ _ (aoI r v c1 c2),zav,zav,zci,e1,e2]
 by_cases c3:r<65536
 .have e1:=Eb (224+r/4096) (224+(r:Int)/4096) oM
  have e2:=Eb (128+r/64%64) (128+(r:Int)/64%64) oM;have e3:=Eb (128+r%64) (128+(r:Int)%64) oM;rw[encodeRuneZ_three oM,FQ _ _ (aoJ r v c1 c2 c3),zav,zav,zav,zci,e1,e2,e3]
 have e1:=Eb (240+r/262144) (240+(r:Int)/262144) oM;have e2:=Eb (128+r/4096%64) (128+(r:Int)/4096%64) oM;have e3:=Eb (128+r/64%64) (128+(r:Int)/64%64) oM;have e4:=Eb (128+r%64) (128+(r:Int)%64) oM;rw[encodeRuneZ_four oM oM,FQ _ _ (aoK r v c1 c2 c3),zav,zav,zav,zav,zci,e1,e2,e3,e4]
def ZH {s:L8} (h:iq s=some (r,n)):r<=1114111/\(r<55296\/57343<r):=by
 unfold iq at h
 split at h
 .cases h
 rename_i hn;injection h with h
 have h1:(decodeL s).1=r:=by rw[h]
 have h2:(decodeL s).2=n:=by rw[h]
 rw[decodeL_N]at h1 h2 hn;have hb:(s.getD 0 0).toNat<256:=(s.getD 0 0).toNat_lt
 rcases decodeN_shape s.length (s.getD 0 0).toNat (s.getD 1 0).toNat (s.getD 2 0).toNat (s.getD 3 0).toNat with⟨a,e⟩ | ⟨a1,a2,a3,a4,e⟩ | ⟨a1,a2,a3,a4,a5,a6,e⟩ | ⟨a1,a2,a3,a4,a5,a6,a7,e⟩ | e
 .rw[e]at h1;simp only at h1;omega
 .rw[e]at h1;simp only at h1;omega
 .rw[e]at h1;simp only at h1;omega
 .rw[e]at h1;simp only at h1;omega
 rw[e]at hn;exact zas (.inr ⟨rfl,rfl⟩) hn
def agy {s:L8} (h:iq s=some (r,n)) (hr:r<128):n=1/\s.take 1=[r.toUInt8]:=by
 obtain⟨_,h1,h2,h3⟩:=uP h;have e:encodeRune (r:Int)=[r.toUInt8]:=by unfold encodeRune;rw[encodeRuneZ_one oM oM];simp
 rw[e]at h3;have:=zay List.length h3;rw[zah]at this;simp at this;have hn:n=1:=oM;subst hn;exact⟨rfl,h3.symm⟩
def adG {i:Nat} (hv:validD (l.drop i)=true) (aX:i<l.length): ∃r n:Nat,Utf8.decode ⟨l.toArray⟩ i=(r,n)/\1<=n/\i+n<=l.length/\validD (l.drop (i+n))=true/\r<=1114111/\(r<55296\/57343<r)/\
    (r<128->G5 l (i+n)=G5 l i++jF r.toUInt8)/\(128<=r->G5 l (i+n)=G5 l i++encodeRune (r:Int)):=by
  have iJ:l.drop i≠[]:=λe=>by have:=zay List.length e;rw[zbo]at this;simp at this;omega
  have hs:=ET iJ;rw[hv]at hs;cases hx:iq (l.drop i)with
  | none=>rw[hx]at hs;cases hs
  | some p=>
    obtain⟨r,n⟩:=p;rw[hx]at hs;dsimp only at hs;obtain⟨e1,h1,h2,h3⟩:=uP hx;obtain⟨s1,s2⟩:=ZH hx;rw[zbo]at h2;have hd:Utf8.decode ⟨l.toArray⟩ i=(r,n):=by rw[<-decodeL_drop];exact e1
    have hdv:validD (l.drop (i+n))=true:=by
      rw[zfx]at hs;exact hs.symm
    have afS:G5 l (i+n)=G5 l i++((l.drop i).take n).flatMap jF:=by
      unfold G5;rw[List.take_add,zbv];rfl
    refine⟨r,n,hd,h1,oM,hdv,s1,s2,λh=>?_,λh=>?_⟩
    . obtain⟨hn,ht⟩:=agy hx h
      rw[afS,hn,ht];simp
    rw[afS,<-h3,ZF (λc hc=>agx h s1 c hc)]
def WG {c:UInt8} (h:zU r=some c):r<128/\jF r.toUInt8=[92]++encodeRune (c.toNat:Int)/\c.toNat<128:=by
 unfold zU at h
 by_cases h1:(r:Int)=34
 .rw[zac h1]at h;injection h with h;subst h;have :r=34:=oM
  subst this;exact⟨dC,dC,dC⟩
 rw[zaa h1]at h
 by_cases h1:(r:Int)=92
 .rw[zac h1]at h;injection h with h;subst h;have :r=92:=oM
  subst this;exact⟨dC,dC,dC⟩
 rw[zaa h1]at h
 by_cases h1:(r:Int)=8
 .rw[zac h1]at h;injection h with h;subst h;have :r=8:=oM
  subst this;exact⟨dC,dC,dC⟩
 rw[zaa h1]at h
 by_cases h1:(r:Int)=12
 .rw[zac h1]at h;injection h with h;subst h;have :r=12:=oM
  subst this;exact⟨dC,dC,dC⟩
 rw[zaa h1]at h
 by_cases h1:(r:Int)=10
 .rw[zac h1]at h;injection h with h;subst h;have :r=10:=oM
  subst this;exact⟨dC,dC,dC⟩
 rw[zaa h1]at h
 by_cases h1:(r:Int)=13
 .rw[zac h1]at h;injection h with h;subst h;have :r=13:=oM
  subst this;exact⟨dC,dC,dC⟩
 rw[zaa h1]at h
 by_cases h1:(r:Int)=9
 .rw[zac h1]at h;injection h with h;subst h;have :r=9:=oM
  subst this;exact⟨dC,dC,dC⟩
 rw[zaa h1]at h;cases h
def ZI (h:zU r=none):(r<32->jF r.toUInt8=[92,117,48,48,nE (r/16),nE (r%16)])/\(32<=r->r<128->jF r.toUInt8=encodeRune (r:Int)):=by
 have iJ:r≠34/\r≠92/\r≠8/\r≠12/\r≠10/\r≠13/\r≠9:=by
  refine⟨?_,?_,?_,?_,?_,?_,?_⟩<;>(intro e;subst e;revert h;decide)
 constructor
 .intro h32
  have hn:(r.toUInt8).toNat=r:=by simp;omega
  rw[OO,hn,zaa oM,zaa oM,zaa oM,zaa oM,zaa oM,zaa oM,zaa oM,zac h32]
 intro h32 h128;have hn:(r.toUInt8).toNat=r:=by simp;omega
 rw[OO,hn,zaa oM,zaa oM,zaa oM,zaa oM,zaa oM,zaa oM,zaa oM,zaa oM];unfold encodeRune;rw[encodeRuneZ_one oM oM];simp
section
variable {w:Wd}
def alN {x:Nat} (h:x<32):bits .and .i32 (x:Int) 15=((x%16:Nat):Int):=by
 have key: ∀i:Fin 32,bits .and .i32 (i.val:Int) 15=((i.val%16:Nat):Int):=dC;exact key ⟨x,h⟩
theorem adH (l:L8) (hl:l.length<=1000000) (hT:ny w):Rk Tryz.prog 207 [str l] w (.tuple #[str (Ki l).1,I (Ki l).2]):=by
 have H:=Sep.aH w;refine dh Tryz.func207 ?_;refine Kz (KA l oM (hT.keep H.kept)) (λ_ S _=>?_);refine O1 ?_;refine Qn (Cd rfl (λd=>?_) (λd=>?_))
 .have hq:Ki l=([],40):=zaa (by simpa using d)
  refine V2 ?_;exact⟨by rw[hq];rfl,S.kept⟩
 have hv:validD l=true:=by simpa using d
 have hq:Ki l=(vV l,0):=zac hv;refine Az (λb4 _ S _=>?_);replace S:=Sep.ajU S;refine Nx ?_;obtain⟨F0,eO,gQ,aK⟩:=S.focus At0;refine aL (uw 34 eO sM) rfl rfl (λv' _ hv=>?_);obtain⟨rfl,cK,F1,qD,hs⟩:=hv;have S:=aK _ F1 _ cK qD hs;refine Nx (aL (WE) rfl rfl (λv' _ hv=>?_));obtain⟨m,rfl,_,cK,F1,qD,iC⟩:=hv;have e:=S.new cK qD (λb hb=>(iC b hb).resolve_left id);refine V2 ?_;refine adF e (h:=λk _ e=>?_);refine V0 ?_;refine aI (λ_:Nat=>[(0,str l),(4,av b4),(5,.map (some m)),(16,.pointer (some ⟨k,0,none⟩))]) (λi w'=>(i<=l.length/\validD (l.drop i)=true)/\Sep w noB [obj k (.stringIter ⟨l.toArray⟩ i),obj m (.map iD 7),xB b4 (G5 l i)] w') (λi _=>l.length-i) 0 tR ⟨⟨zai _,hv⟩,e⟩ (λi τ _ hI=>?_);obtain⟨⟨hi,hvd⟩,e⟩:=hI;refine Lp ?_;refine Sr (agw e At0 (h1:=λalh _ S=>?_) (h2:=λalh=>?_))
 .have aX:i<l.length:=by rw[Mw.size_mk]at alh;exact alh
  obtain⟨r,n,apy,AZ,Pw,hvn,Y3,Vp,xE,apz⟩:=adG hvd aX;rw[apy]at S;rw[apy];have hol:=YJ l i;have hel:=Ml (r:Int);refine V5 ?_;refine dD (PI (zv:=B 0) (i:=(r:Int)) (S.obj At1) WC rfl rfl) rfl ?_;rw[ZE,show((zU (r:Int)).map B).getD (B 0)=B ((zU (r:Int)).getD 0)from by cases zU (r:Int)<;>rfl,Option.isSome_map];refine O7 ?_;refine Qn (Cd rfl (λf=>?_) (λf=>?_))
  .obtain⟨c,hc⟩:=Option.isSome_iff_exists.1 f
   obtain⟨hr7,hqb,d⟩:=WG hc;rw[hc,zdg];refine V1 ?_;refine Vv (Gives.U8 (a:=(c.toNat:Int)) rfl oM) (Vv (Gives.ah1 rfl) ?_);rw[TM c.toNat oM oM];have avm:=Ml (c.toNat:Int);refine Vv (Gives.Yr rfl rfl (by simp;omega)) ?_;obtain⟨F0,eO,gQ,aK⟩:=S.focus At2;refine aL (u6 sM eO (by simp;omega)) rfl rfl (λv' _ hv=>?_);obtain⟨rfl,cK,F1,qD,hs⟩:=hv;have d:=aK _ F1 _ cK qD hs;rw[<-hqb,<-xE hr7]at d;refine V0 ?_;exact aj (i+n) tR ⟨⟨Pw,hvn⟩,d⟩ oM
  have Li:zU (r:Int)=none:=by simpa using f
  obtain⟨arK,apA⟩:=ZI Li;refine Cz (λd=>?_) (λd=>?_)
  .refine Dz (λd _ f=>?_)
   refine V1 ?_;refine GS (Gn rfl (λ_=>(Gives.ED (m:=r) (s:=4) rfl rfl dC)) ?_);refine V1 ?_;refine GS (Gn rfl (λ_=>(Gives.ED (m:=r) (s:=4) rfl rfl dC)) ?_);refine GS (Gn rfl (λ_=>(Gives.abp (c:=((r/16+1:Nat):Int)) rfl rfl (by rw[IntKind.wrap_i32];omega))) ?_);refine GS (Gn rfl (λ_=>(Gives.EP (l:=tT) (i:=r/16) (m:=r/16+1) rfl rfl rfl oM (by show r/16+1<=16;first | done | omega))) ?_);rw[Tj oM];refine V2 ?_;refine GS (Gn rfl (λ_=>(Gives.EC (c:=((r%16:Nat):Int)) rfl rfl (alN oM))) ?_);refine V1 ?_;refine GS (Gn rfl (λ_=>(Gives.EC (c:=((r%16:Nat):Int)) rfl rfl (alN oM))) ?_);refine GS (Gn rfl (λ_=>(Gives.abp (c:=((r%16+1:Nat):Int)) rfl rfl (by rw[IntKind.wrap_i32];omega))) ?_);refine GS (Gn rfl (λ_=>(Gives.EP (l:=tT) (i:=r%16) (m:=r%16+1) rfl rfl rfl oM (by show r%16+1<=16;first | done | omega))) ?_);rw[Tj oM];refine V1 ?_;have hq6:=arK oM;obtain⟨F0,eO,gQ,aK⟩:=f.focus At2;refine p8 d 14 [] rfl kR (u6 (news:=jF r.toUInt8) (by rw[hq6];simp) eO (by rw[hq6];simp;omega)) (by rw[hq6];rfl) kR kR (λv' _ hv=>?_);obtain⟨rfl,cK,F1,qD,hs⟩:=hv;have f:=aK _ F1 _ cK qD hs;rw[<-xE oM]at f;refine⟨sT,?_⟩;refine V0 ?_;exact aj (i+n) tR ⟨⟨Pw,hvn⟩,f⟩ oM
  refine V1 ?_;obtain⟨F0,eO,gQ,aK⟩:=S.focus At2;refine aL (TL eO oM Y3 Vp) rfl rfl (λv' _ hv=>?_);obtain⟨cK,F1,qD,hs⟩:=hv;have f:=aK _ F1 _ cK qD hs
  have afS:G5 l i++encodeRune (r:Int)=G5 l (i+n):=by
   by_cases h128:r<128
   .rw[xE h128,apA oM h128]
   exact(apz oM).symm
  rw[afS]at f;refine V0 ?_;exact aj (i+n) tR ⟨⟨Pw,hvn⟩,f⟩ oM
 have jG:i=l.length:=by rw[Mw.size_mk]at alh;omega
 have bX:G5 l i++[34]=vV l:=by
  rw[jG];unfold G5 vV;rw[zbq];rfl
 refine V1 ?_;have hol:=YJ l i;obtain⟨F0,eO,gQ,aK⟩:=e.focus At2;refine aL (uw 34 eO oM) rfl rfl (λv' _ hv=>?_);obtain⟨rfl,cK,F1,qD,hs⟩:=hv;have f:=aK _ F1 _ cK qD hs;rw[bX]at f;refine Nx ?_;have avn:(vV l).length<=6000008:=by rw[<-bX,zad];simp;omega
 obtain⟨F0,eO,gQ,aK⟩:=f.focus At2;refine aL (Dj eO oM) rfl rfl (λv' _ hv=>?_);obtain⟨rfl,cK,F1,qD,hs⟩:=hv;have f:=aK _ F1 _ cK qD hs;refine V2 ?_;exact⟨by rw[hq];rfl,f.kept⟩
end
end
variable {P:Program} {r:Option Nat} {n:Nat} {ops:AO} {Q:Post} {rest:LO} {σ:St} {w w0:Wd} {S:NP} {rs:List HP} {ty:Td} {pos:String} {after:Array Edge} {l:L8}
def adI {s t e:Td} [hs:lX P s] [ht:dn P t e] [he:nk P e .u8] (H:Sep w0 S rs w) (hx:evF σ x=str l:=by exact rfl) (hd:Nat.blt d n=true:=by exact rfl)
    (h: ∀b c o w',(∀k:Wd,k.heap[b]? =some o->gZ k (some ⟨b,0,none⟩) l.length 1 (l.map λu=>Value.int .u8 u.toNat))->l.length<=c->Sep w0 S (obj b o::rs) w'->FL P r n ops Q rest (upd σ d (.slice (some ⟨b,0,none⟩) l.length c)) w'):
    FL P r n ops Q (⟨some d,.convert s t x,ty,pos,after,none⟩::rest) σ w:=by
  have iw:=run_bytes_of_string (P:=P) w s t e ⟨l.toArray⟩ hs.und ht.und he.und;rw[size_mk]at iw;have zF:Kept noB w w.drew:=Kept.drew w;refine dD (v:=.slice (some ⟨w.heap.size,0,none⟩) l.length (grownCap w l.length 0 e)) (w':=w.drew.alloc (.cells (bytesRow ⟨l.toArray⟩ (grownCap w l.length 0 e)) e ((bytesRow ⟨l.toArray⟩ (grownCap w l.length 0 e)).size,(bytesRow ⟨l.toArray⟩ (grownCap w l.length 0 e)).size+1))) (λ_ _ _ _=>?_) hd (h _ _ _ _ (λk hw2=>?_) (grownCap_ge w l.length 0 e) ((H.keep zF).alloc _))
  . simp only[execOp,hx,str,zbj,iw,zan,zbl]
  refine⟨sM,λ_=>⟨_,rfl,λj u hu=>?_⟩⟩;rw[Addr.add_lit,zdc];have hj:=(zax.1 hu).1
  have e0:k.cell? ⟨w.heap.size,j,none⟩=(bytesRow ⟨l.toArray⟩ (grownCap w l.length 0 e))[j]? :=by
    unfold World.cell?;have hw3:k.heap[w.heap.size]? =_:=hw2;simp only[hw3];rfl
  rw[e0];unfold bytesRow;rw[Array.getElem?_append_left (by simpa using hj)];simpa using hu
section
attribute [local irreducible] FW FL FG FGn jJ jO fC lJ Qfn Gives
structure gT (w:Wd):Prop where
 utf:ny w
 pow:Lib.TabIs Tryz.prog w "internal/strconv.uint64pow10" .u64 Lib.pow10Tab
 syn: ∃tp p,w.var? Tryz.prog "strconv.ErrSyntax" =some #[.iface tp p]
 ran: ∃tp p,w.var? Tryz.prog "strconv.ErrRange" =some #[.iface tp p]
 len: ∃m,w.cell? ⟨0,0,none⟩=some (.int .i64 m)
def MQ {w':Wd} {n:String} {cs:Array Value} (hk:Kept noB w w') (h:w.var? P n=some cs):w'.var? P n=some cs:=by
 unfold World.var? at h ⊢;cases hg:P.globalNamed n with
 | none=>rw[hg]at h;cases h
 | some g=>
  rw[hg]at h;simp only[zdy]at h |-
  have aX:g<w.heap.size:=by
   refine Classical.byContradiction λhn=>?_;rw[zdk oM]at h;cases h
  rw[hk.block g aX id];exact h
def adJ {w':Wd} {o:Nat} (hk:Kept noB w w') (h:w.cell? ⟨b,o,none⟩=some v):w'.cell? ⟨b,o,none⟩=some v:=by
 have aX:b<w.heap.size:=by
  refine Classical.byContradiction λhn=>?_;unfold World.cell? at h;rw[zdk dO]at h;cases h
 unfold World.cell? at h ⊢;rw[hk.block b aX id];exact h
def gT.keep {w w':Wd} (h:gT w) (hk:Kept noB w w'):gT w':=
 ⟨h.utf.keep hk,MQ hk h.pow,h.syn.imp λ_ h=>h.imp λ_ h=>MQ hk h,h.ran.imp λ_ h=>h.imp λ_ h=>MQ hk h,h.len.imp λ_ h=>adJ hk h⟩
def agz (c:UInt8):LV:=[B c]
instance:jd agz 1:=⟨λ_=>rfl⟩
def MR: ∀l:L8,l.flatMap agz=l.map B
 | []=>rfl
 | c::l=>by rw[zbh,MR l];rfl
def WH {A:OA} {l:L8} (h:gZ w A l.length 1 (l.map λu=>Value.int .u8 u.toNat)):Rd w A agz 1 l:=by
 unfold Rd;rw[MR];exact h
def ab3 (h:n<16):tT.getD n 0=nE n:=by
 have key: ∀i:Fin 16,tT.getD i.val 0=nE i.val:=dC;exact key ⟨n,h⟩
def amF {x:Nat} (h:x<256):bits .and .u8 (x:Int) 15=((x%16:Nat):Int):=by
 have key: ∀i:Fin 256,i.val&&& 15=i.val%16:=dC;have:=u8_and_nat x 15 h dC;rw[key ⟨x,h⟩]at this;exact this
section
variable {w:Wd}
def ajV (c:aC) (hl:c.s.length<=1000000):Rk Tryz.prog 263 [agg (ah c)] w (str (120::zA c.s)):=by
 have H:=Sep.aH w;refine dh Tryz.func263 ?_;refine Sr (bB H (h:=λb1 _ _ _=>?_));refine Az (λb3 _ k _=>?_);replace k:=Sep.ajU k;refine Nx ?_;obtain⟨F0,eO,gQ,aK⟩:=k.focus At0;refine aL (u6 (news:=[120]) sM eO sM) rfl rfl (λv' _ hv=>?_);obtain⟨rfl,cK,F1,qD,hs⟩:=hv;have k:=aK _ F1 _ cK qD hs;refine V2 ?_;refine adI k (h:=?_);intro b9 c9 o9 k hr9 k k;refine V2 ?_;refine aI (λi:Nat=>[(3,av b3),(9,.slice (some ⟨b9,0,none⟩) c.s.length c9),(10,I c.s.length),(11,I i)]) (λi w'=>i<=c.s.length/\Sep w noB [obj b9 o9,xB b3 (120::zA (c.s.take i))] w') (λi _=>c.s.length-i) 0 tR ⟨zai _,(k.aF.aF).firsts (l:=[_,_])⟩ (λi τ _ hI=>?_);obtain⟨hi,k⟩:=hI;refine Lp ?_;refine Cz (λS=>?_) (λS=>?_)
 .have aX:i<c.s.length:=oM
  obtain⟨x,hx⟩:=get_some aX;have Px:=afF aX;rw[jy hx]at Px;have hxl:=Le (c.s.take i);rw[zah]at hxl;have VB:=x.toNat_lt;refine V0 ?_;refine Vv (Gives.fA rfl rfl (WH (hr9 _ (k.obj At0))) aX) (Vv (Gives.CJ (i:=i) (f:=0) (c:=x) rfl (WH (hr9 _ (k.obj At0))) hx rfl) ?_);refine V2 ?_;refine Vv (Gives.ED (m:=x.toNat) (s:=4) rfl rfl dC) (Vv (Gives.zu (l:=tT) (i:=x.toNat/16) rfl rfl (by show x.toNat/16<16;omega)) ?_);rw[ab3 oM];obtain⟨F0,eO,gQ,aK⟩:=k.focus At1;refine aL (uw _ eO (by simp;omega)) rfl rfl (λv' _ hv=>?_);obtain⟨rfl,cK,F1,qD,hs⟩:=hv;have S:=aK _ F1 _ cK qD hs;refine V1 ?_;refine Vv (Gives.EC (c:=((x.toNat%16:Nat):Int)) rfl rfl (amF VB)) (Vv (Gives.zu (l:=tT) (i:=x.toNat%16) rfl rfl (by show x.toNat%16<16;omega)) ?_);rw[ab3 oM];obtain⟨F0,eO,gQ,aK⟩:=S.focus At1;refine aL (uw _ eO (by simp;omega)) rfl rfl (λv' _ hv=>?_);obtain⟨rfl,cK,F1,qD,hs⟩:=hv;have S:=aK _ F1 _ cK qD hs;rw[show(120::zA (c.s.take i))++[nE (x.toNat/16)]++[nE (x.toNat%16)]=120::zA (c.s.take (i+1))from by rw[Px];simp]at S;refine V2 ?_;exact aj (i+1) tR ⟨oM,S⟩ oM
 have jG:i=c.s.length:=oM;refine V0 ?_;have avq:=Le c.s;rw[jG,zbq]at k;obtain⟨F0,eO,gQ,aK⟩:=k.focus At1;refine aL (Dj eO (by simp;omega)) rfl rfl (λv' _ hv=>?_);obtain⟨rfl,cK,F1,qD,hs⟩:=hv;have S:=aK _ F1 _ cK qD hs;refine V1 ?_;exact⟨rfl,S.kept⟩
end
end
section
section gives
variable {P:Program} {ρ:Od->Value} {ty:Td} {w:Wd} {x y:Od} {T U:Td} {k:IntKind} {a b c:Int}
def Gives.agA {yk:IntKind} (hx:ρ x=.int k a) (hy:ρ y=.int yk b) (h0:0<=b) (he:k.wrap (a*2^(Min.min b.toNat k.bits))=c):Gives P ρ (.binOp .shl T x y U) ty w (.int k c) w:=by subst he;exact Gives.shl hx hy h0
def Gives.aoL {ts:Array Td} (hx:ρ x=.int k a) (hy:ρ y=.int k b) (he:Max.max a b=c):Gives P ρ (.call {callee:=.builtin .max,args:= #[x,y],argTypes:=ts}) ty w (.int k c) w:=by subst he;exact Gives.max hx hy
end gives
end
section
attribute [local irreducible] FW FL FG FGn jJ jO fC lJ Qfn Gives
def QE (c:UInt8):max 0 (Lib.indexByte tT c)=(((xD c).getD 0:Nat):Int):=by
 have key: ∀i:Fin 256,max 0 (Lib.indexByte tT i.val.toUInt8)=(((xD i.val.toUInt8).getD 0:Nat):Int):=by decide+kernel
 have:=key ⟨c.toNat,c.toNat_lt⟩;have e:(c.toNat).toUInt8=c:=sM;simpa only[e]using this
def QF (c:UInt8):(xD c).getD 0<16:=by
 unfold xD
 split
 .rw[zdg];omega
 split
 .rw[zdg];omega
 decide
def amG {a:Nat} (ha:a<16) (hb:b<16):bits .or .i64 ((16*a:Nat):Int) (b:Int)=((a*16+b:Nat):Int):=by
 have key: ∀i j:Fin 16,bits .or .i64 ((16*i.val:Nat):Int) (j.val:Int)=((i.val*16+j.val:Nat):Int):=by decide+kernel
 exact key ⟨a,ha⟩ ⟨b,hb⟩
def ZJ (a b:UInt8) (t:L8):tQ (a::b::t)=((xD a).getD 0*16+(xD b).getD 0).toUInt8::tQ t:=rfl
def TN (h:l.length<=1):tQ l=[]:=by
 match l,h with
 | [],_=>rfl
 | [_],_=>rfl
section
variable {w:Wd}
def zV (l:L8) (c:UInt8):aQ Tryz.prog 84 [str l,B c] w λv w'=>v=I (Lib.indexByte l c)/\w=w':=
 lH (by
  have:=Tryz.strings_IndexByte ⟨l.toArray⟩ (c.toNat:Int) w;have e:((c.toNat:Int).toNat).toUInt8=c:=sM;rw[e]at this;exact this)
def TP (l p:L8):aQ Tryz.prog 326 [str l,str p] w λv w'=>v=.tuple #[str (Lib.trimPrefix l p),.bool (Lib.hasPrefix l p)]/\w=w':=
 lH (Tryz.strings_CutPrefix ⟨l.toArray⟩ ⟨p.toArray⟩ w)
def adK (l:L8) (hl:l.length<=1000000) (h0:l.head?=some 120):Rk Tryz.prog 264 [str l] w (agg (ah ⟨false,0,tQ (l.drop 1)⟩)):=by
 have H:=Sep.aH w
 have ai1:Lib.trimPrefix l [120]=l.drop 1:=by
  cases l with
  | nil=>cases h0
  | cons c t=>
   injection h0 with h0
   subst h0;rfl
 refine pE Tryz.func264 ?_;refine Az (λb1 w2 H2 k1=>?_);refine V1 ?_;refine eG (TP l [120]) (h:=?_);rw[ai1];refine V5 ?_;have Ha:=H2.YH 5;refine aI (λx:L8×L8×Value=>[(0,str x.1),(2,.pointer (some ⟨b1,0,none⟩)),(3,x.2.2)]) (λx w'=>(x.1.length<=l.length/\x.2.1.length+x.1.length<=l.length/\x.2.1++tQ x.1=tQ (l.drop 1))/\Sep w noB [mD 5 x.2.2 x.2.1,blk b1 (ah cell0) 47] w') (λx _=>x.1.length) (l.drop 1,[],.slice none 0 0) tR ⟨⟨by dsimp only;rw[zbo];omega,sM,rfl⟩,Ha⟩ (λx τ wa hI=>?_);obtain⟨s,acc,v1⟩:=x;obtain⟨⟨xu,hs2,dK⟩,Ha⟩:=hI;dsimp only at xu hs2 dK Ha;refine Lp ?_;refine Cz (λIe=>?_) (λIe=>?_)
 .have aX:1<s.length:=oM
  obtain⟨a,b,t,rfl⟩: ∃a b t,s=a::b::t:=by
   match s,aX with
   | a::b::t,_=>exact⟨a,b,t,rfl⟩
  rw[ZJ]at dK;have ha:=QF a;have hb:=QF b;have hbv:Value.int .u8 (((xD a).getD 0*16+(xD b).getD 0:Nat):Int)=B ((xD a).getD 0*16+(xD b).getD 0).toUInt8:=(amE oM).symm;simp only[zaq]at xu hs2;refine Dz (λSa wb Hb=>?_);refine V2 ?_;refine Gp Sa 2 rfl rfl (λ_=>(Gives.zu (i:=0) rfl rfl oM)) (Gm Sa 6 ?_);refine Gp Sa 7 rfl rfl (λ_=>(Gives.zu (i:=1) rfl rfl oM)) (Mi Sa 3 _ Hb (zV tT a) (h:=λwc Hc=>⟨sT,?_⟩));refine GS (Gn rfl (λ_=>(Gives.aoL rfl rfl (QE a))) ?_);refine GS (Gn rfl (λ_=>(Gives.agA (c:=((16*(xD a).getD 0:Nat):Int)) rfl rfl oM (by show IntKind.i64.wrap (((xD a).getD 0:Nat)*16)=_;rw[IntKind.wrap_i64];omega))) ?_);refine Mi Sa 8 _ Hc (zV tT b) (h:=λwd Hd=>⟨sT,?_⟩);refine GS (Gn rfl (λ_=>(Gives.aoL rfl rfl (QE b))) ?_);refine GS (Gn rfl (λ_=>(Gives.orE rfl rfl (amG ha hb))) ?_);refine GS (Gn rfl (λ_=>(Gives.aiH rfl oM)) ?_);refine Gz Sa 12 _ Hd ([((xD a).getD 0*16+(xD b).getD 0).toUInt8].map B) (h:=λbs we He=>⟨sT,?_⟩);refine afy Sa 13 _ He (news:=[((xD a).getD 0*16+(xD b).getD 0).toUInt8]) At0 (by simp;omega) (h:=λv2 wf Hf=>⟨sT,?_⟩);refine tq Sa 14 _ (h:=⟨sT,?_⟩);refine V1 ?_;refine Vv (Gives.qc (l:=a::b::t) (i:=2) rfl rfl sM) ?_;refine V1 ?_;exact aj (t,acc++[((xD a).getD 0*16+(xD b).getD 0).toUInt8],v2) tR ⟨⟨dO,by dsimp only;rw[zad];simp;omega,by dsimp only;rw[zbm];exact dK⟩,Hf⟩ (by simp;omega)
 have Vi:s.length<=1:=oM;rw[TN Vi,zbt]at dK;refine V1 ?_;refine Vv (Gives.anj Ha At0 rfl) (Vb (ah ⟨false,0,acc⟩) ?_);refine Tz (λwg Hg=>?_);refine V0 ?_;exact⟨_,fG Hg,by rw[dK];rfl,Hg.kept⟩
end
end
end Go.Proofs.Mw
