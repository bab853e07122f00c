/-
 The program's Uses,walked;copies and comparisons of rows.
-/
import Derived.Test.YtbfjonalkaophaaGreatDoorNk12
set_option linter.all false
set_option maxRecDepth 4000
namespace Go.Proofs.Mw
open Go.Lib
section
attribute [local irreducible] FW FL FG FGn jX lg gD l7 Qfn ah
def KP (l:List bH):List Int:=(l.filter λx=>decide (x.kind=1)).map λx=>x.n
def ahl {l:List bH} {i:Nat} {x:bH} (h:l[i]? =some x) (d:x.kind=1):KP (l.take (i+1))=KP (l.take i)++[x.n]:=by
 unfold KP;rw[zaq,h,zel,zan];simp[d]
def aji {l:List bH} {i:Nat} {x:bH} (h:l[i]? =some x) (d: ¬x.kind=1):KP (l.take (i+1))=KP (l.take i):=by
 unfold KP;rw[zaq,h,zel,zan];simp[d]
def ahm (l:List bH):(KP l).length<=l.length:=by
 unfold KP;rw[zae];exact zee _ _
section
variable {w:Wd}
def UN {l:List bH} {vl:Value} (X:aP w vl aQ 3 l) (s:l.length<=1000):
    aX Tryz.prog 76 [vl] w λv w'=>∃x,v=x/\True/\cO noB (aY 3 1 intCells x (tC l)) w w':=by
  obtain⟨C,n,rfl,⟨z,Y⟩,r⟩:=X;have H:=Sep.aI w;rw[<-J6 l];refine dL Tryz.func76 ?_;refine V4 ?_;have j:=Sep.iX H 3 1 intCells;refine aM (λx:Nat×Value=>[(2,x.2),(5,.slice C l.length n),(6,I l.length),(7,I x.1)]) (λx w'=>x.1<=l.length/\Sep w noB [aY 3 1 intCells x.2 (KP (l.take x.1))] w') (λx _=>l.length-x.1) (0,.slice none 0 0) tR ⟨zai _,j⟩ (λx τ w6 V=>?_);obtain⟨i,T⟩:=x;obtain⟨hi,j⟩:=V;dsimp only at hi j;obtain⟨B,cb,rfl,W,c⟩:=Sep.bX j At0;have m:=ahm (l.take i);rw[zah,zcf hi]at m;refine Lp ?_;refine Cz (λu=>?_) (λu=>?_)
  . have D:i<l.length:=oM
    obtain⟨x,p⟩:=aN D;refine Az (λb wa S P=>?_);refine Tz (λwb K=>?_);refine Cz (λq=>?_) (λq=>?_)
    . have e:=ahl p q
      refine V3 ?_;refine Bs K ([x.n].flatMap intCells) (λa wc O Q=>?_);refine eH O (news:=[x.n]) At1 kP kN (dW (λ_=>rfl) [x.n]) (h:=?_);intro k wd L;rw[<-e]at L;refine V3 ?_;exact ak (i+1,k) tR ⟨dO,(L).bN⟩ dO
    have e:=aji p q;refine V2 ?_;exact ak (i+1,.slice B (KP (l.take i)).length cb) tR ⟨dO,by dsimp only;rw[e];exact(K).bN⟩ dO
  have A:i=l.length:=oM;rw[A,zbo]at j m ⊢;refine V1 ?_;obtain⟨N,g,t,d⟩:=j.bG At0;refine aO (aat g oM) rfl rfl (λZ we J=>?_);obtain⟨rfl,f,F,E,G⟩:=J;have M:=d _ F _ f E G;have o:((KP l).mergeSort λx y=>decide (x<=y)).length=(KP l).length:=zfs _;rw[<-o]at M;refine V1 ?_;obtain⟨N,g,t,d⟩:=M.bG At0;refine aO (LK g oM) (by rw[o];rfl) rfl (λZ wf J=>?_);obtain⟨rfl,f,F,E,G⟩:=J;have R:=d _ F _ f E G;refine V1 ?_;exact⟨_,rfl,trivial,R.bf⟩
end
end
open Go.RowKit
variable {P:Program} {ρ:Od->Value} {ty:Td} {w:Wd} {x y:Od}
def ah.aeu {src H t e:Td} {n u cells b:Nat} (m:P.underlying src=some (.pointer t)) (g:P.underlying H=some .unsafePointer) [q:Cells P t n u] (i:n≠0) (d:w.shape? b=some (e,cells)) (f:0<cells) (p:ρ x=.pointer (some ⟨b,0,none⟩)):
    ah P ρ (.convert src H x) ty w (.pointer (some ⟨b,0,none⟩)) w:=λ_ _ _ _=>by
  obtain⟨j,o,h⟩:=zbb.1 q.size;simp only[Prod.mk.injEq]at h;have:=Lib.run_to_unsafe (P:=P) w ⟨b,0,none⟩ m g o (by rw[h.1];exact i) d f;simp only[execOp,p,zbj,this,zar,zbl]
def ah.X6 {src q u e:Td} {n p cells b:Nat} (g:P.underlying src=some .unsafePointer) (d:P.underlying q=some (.pointer u)) [o:Cells P u n p] (h:w.shape? b=some (e,cells)) (f:liesAt P P.depth e (cells/P.cellsOf e) 0 u 1=true) (m:ρ x=.pointer (some ⟨b,0,none⟩)):
    ah P ρ (.convert src q x) ty w (.pointer (some ⟨b,0,none⟩)) w:=λ_ _ _ _=>by
  obtain⟨j,i,_⟩:=zbb.1 o.size;have:=Lib.run_from_unsafe (P:=P) w ⟨b,0,none⟩ g d i h f;simp only[execOp,m,zbj,this,zar,zbl]
def ah.ajj {T U te:Td} {n m b:Nat} (d:P.underlying T=some (.pointer te)) [i:Cells P te n m] (f:ρ x=.pointer (some ⟨b,0,none⟩)) (g:ρ y=.pointer (some ⟨b,0,none⟩)) (h: ∀x y,(eqGuard .neq T x y (.pointer (some ⟨b,0,none⟩)) (.pointer (some ⟨b,0,none⟩))).run P w=.ok () w):
    ah P ρ (.binOp .neq T x y U) ty w (.bool false) w:=
  .bin f g h (by
    obtain⟨j,e,_⟩:=zbb.1 i.size;exact Lib.run_neq_ptr_same (P:=P) w ⟨b,0,none⟩ d e)
class LM (P:Program) (f:FuncId):Prop where
 run: ∀v w,(callFunc f #[v]).run P w=.ok (.value v) w
def ah.aev {σ:St} {f:FuncId} [h:LM P f] {a:Array Td} {v:Value} (d:evF σ x=v):ah P (evF σ) (.call {callee:=.value (.func f),args:= #[x],argTypes:=a}) ty w v w:=λ_ _ _ _=>by
 have e:(#[]++ #[x].map (evF σ)++ #[]:Array Value)= #[v]:=by simp[d]
 show(callFunc f (#[]++ #[x].map (evF σ)++ #[])).run P w=_
 rw[e,h.run]
def Pn {w:Wd} {b:Nat} {cs:LV} {e:Td} (h:w.heap[b]? =some (.cells cs.toArray e (0,0))):w.shape? b=some (e,cs.length):=by
 unfold World.shape?;rw[h];simp
def ah.sliceData {t:Array Td} {v:Value} {w':Wd} (h:(Builtin.unsafeSliceData_ t ty #[ρ x]).run P w=.ok v w'):ah P ρ (.call {callee:=.builtin .unsafeSliceData,args:= #[x],argTypes:=t}) ty w v w':=λ_ _ _ _=>by
 simp only[execOp,resolve,invoke,builtin,zbj,zbl,zar,zch,zbc,zcn,h]
variable {b c:Nat} {es:Array MapEntry}
def ah.unsafeStr {t:Array Td} {v:Value} {w':Wd} (h:(Builtin.unsafeString_ t ty #[ρ x,ρ y]).run P w=.ok v w'):ah P ρ (.call {callee:=.builtin .unsafeString,args:= #[x,y],argTypes:=t}) ty w v w':=λ_ _ _ _=>by
 simp only[execOp,resolve,invoke,builtin,zbj,zbl,zar,zch,zbc,zcn,h]
section
attribute [local irreducible] FW FL FG FGn jX lg gD l7 Qfn ah
instance:LM Tryz.prog 236:=⟨λv w=>by
 rw[run_callFunc_extern Tryz.func236 kR kR kR (e:=Extern.AbiNoEscape.same) kR,Lib.run_noEscape];rfl⟩
def aC (b:Nat):Value:=.pointer (some ⟨b,0,none⟩)
def xw (b:Nat) (l:L8):HP:=exH λx:Value×Value=>dx (jH ((x.1=.pointer none\/x.1=aC b)/\(l=[]->x.2=.slice none 0 0))) (dx (blk b [x.1,x.2] 157) (mY 5 x.2 l))
section
variable {w w0:Wd} {S:NP} {rs:List HP}
def Sep.LP {b:Nat} {l:L8} (H:Sep w0 S (xw b l::rs) w): ∃a v,((a=.pointer none\/a=aC b)/\(l=[]->v=.slice none 0 0))/\Sep w0 S (blk b [a,v] 157::mY 5 v l::rs) w:=by
 obtain⟨x,d⟩:=H.ex0;obtain⟨h,e⟩:=d.bW.ru;exact⟨x.1,x.2,h,e.bW⟩
def Sep.Po {b:Nat} {l:L8} {a v:Value} (h:(a=.pointer none\/a=aC b)/\(l=[]->v=.slice none 0 0)) (H:Sep w0 S (blk b [a,v] 157::mY 5 v l::rs) w):Sep w0 S (xw b l::rs) w:=
 Sep.tZ (a,v) (Sep.aZ (Sep.jY h (Sep.aZ H)))
def Sep.ahn {b:Nat} (H:Sep w0 S (blk b [.pointer none,.slice none 0 0] 157::rs) w):Sep w0 S (xw b []::rs) w:=
 Sep.Po ⟨.inl rfl,λ_=>rfl⟩ (H.XC 5).aJ
def UO {b:Nat} {v:Value} {F:NP} (e:(blk b [.pointer none,v] 157).ok F w):aX Tryz.prog 155 [aC b] w λr w'=>r=.tuple #[]/\cO F (blk b [aC b,v] 157) w w':=by
 have H:=Sep.dA e;refine dL Tryz.func155 ?_;refine O5 ?_;refine Qn (Cd rfl (λh=>?_) (λh=>?_))
 .refine V2 ?_
  refine Vv (ah.aeu (t:=157) kR kR dC (Pn (H.obj At0)) sM rfl) ?_;refine Vv (ah.aev rfl) (Vv (ah.X6 (u:=157) kR kR (Pn (H.obj At0)) kR rfl) ?_);refine Uz (λf d=>?_);refine V0 ?_;exact⟨rfl,d.bf⟩
 exact zas h sM
def X7 {b:Nat} {v:Value} {F:NP} (d:(blk b [aC b,v] 157).ok F w):aX Tryz.prog 155 [aC b] w λr w'=>r=.tuple #[]/\cO F (blk b [aC b,v] 157) w w':=by
 have H:=Sep.dA d;refine dL Tryz.func155 ?_;refine O5 ?_;refine Qn (Cd rfl (λh=>?_) (λh=>?_))
 .exact zas h (by simp[aC])
 refine V5 ?_;refine Vv (ah.ajj (te:=157) kR rfl rfl (λ_ _=>rfl)) (Qn ?_);refine Cd rfl (λk=>?_) (λk=>?_)
 .cases k
 refine V0 ?_;exact⟨rfl,H.bf⟩
def Bn {b:Nat} {a v:Value} {F:NP} (d:a=.pointer none\/a=aC b) (h:(blk b [a,v] 157).ok F w):aX Tryz.prog 155 [aC b] w λr w'=>r=.tuple #[]/\cO F (blk b [aC b,v] 157) w w':=by
 rcases d with rfl | rfl
 .exact UO h
 exact X7 h
def uw {b:Nat} {l:L8} {F:NP} (c:UInt8) (t:(xw b l).ok F w) (K:l.length<=100000000):aX Tryz.prog 232 [aC b,B c] w λr w'=>r=.nilIface/\cO F (xw b (l++[c])) w w':=by
 obtain⟨a,v,s,H⟩:=Sep.LP (Sep.dA t);refine dn Tryz.func232 ?_;refine V2 ?_;obtain⟨E,g,q,d⟩:=H.bG At0;refine aO (Bn s.1 g) rfl rfl (λL N C=>?_);obtain⟨rfl,f,i,u,A⟩:=C;have j:=d _ i _ f u A;refine V6 ?_;refine Bs j ([c].map B) (λG O m k=>?_);refine qh m (news:=[c]) At1 kN (h:=?_);intro M R o;obtain⟨D,J,rfl,_⟩:=Sep.xM o At1;refine Uz (λV p=>?_);refine V1 ?_;exact⟨rfl,(Sep.Po ⟨.inr rfl,λe=>zas e sM⟩ p).bf⟩
def uZ {b:Nat} {l news:L8} {F:NP} (g:news≠[]) (t:(xw b l).ok F w) (G:l.length+news.length<=100000000):aX Tryz.prog 92 [aC b,str news] w λr w'=>r=.tuple #[I news.length,.nilIface]/\cO F (xw b (l++news)) w w':=by
 obtain⟨a,v,s,H⟩:=Sep.LP (Sep.dA t);refine dn Tryz.func92 ?_;refine V3 ?_;obtain⟨E,i,q,d⟩:=H.bG At0;refine aO (Bn s.1 i) rfl rfl (λJ L C=>?_);obtain⟨rfl,f,j,u,A⟩:=C;have m:=d _ j _ f u A;refine V6 ?_;refine NW m (news:=news) At1 oM (h:=?_);intro K M o;obtain⟨D,c,rfl,_⟩:=Sep.xM o At1;refine Uz (λN p=>?_);refine V4 ?_;exact⟨rfl,(Sep.Po ⟨.inr rfl,λe=>zas (List.append_eq_nil_iff.1 e).2 g⟩ p).bf⟩
def UQ {w:Wd} {F:NP} {g n:Nat} (h:F g):aS F w (w.freeze ⟨g,0,none⟩ n):=by
 unfold World.freeze
 split
 .exact aS.refl _ _
 refine⟨rfl,rfl,rfl,sM,λk f d=>?_⟩;rw[zcw,zab (λe=>d (by rw[<-e];exact h))]
def UR {b:Nat} {l:L8} {F:NP} (y:(xw b l).ok F w) (hl:l.length<=100000000) (J:l≠[]):aX Tryz.prog 93 [aC b] w λr w'=>r=str l/\cO F emp w w':=by
 obtain⟨a,v,ha,H⟩:=Sep.LP (Sep.dA y);obtain⟨A,c,rfl,u,_,D⟩:=Sep.xM H At1;have m:l.length≠0:=λe=>J (zbf e);refine dL Tryz.func93 ?_;refine Dz (λh L s=>?_);refine V4 ?_;refine Gm h 5 ?_;refine V4 ?_;obtain⟨M,o,X,d⟩:=s.bG At1;have p:=Sep.rowAt s At1
 obtain⟨g,W,t,E⟩: ∃g,A=some ⟨g,0,none⟩/\M g/\L.shape? g=some (5,c):=by
  rcases o.1.2 with⟨i,V⟩ | ⟨g,cap,O,i,_,k,K,_,G,_⟩
  .exact zas V m
  injection i with f e2 R
  refine⟨g,f,(o.2 g).2 (by rw[f];rfl),?_⟩;unfold World.shape?;rw[k,R];simp only[G,zfc]
 subst W;refine vJ (C:=λq w'=>q=aC g/\w'=L) h 4 [(9,true),(8,false),(7,true),(6,true),(5,true)] rfl kR ⟨_,_,ah.sliceData (Lib.run_unsafeSliceData_row _ _ _ ⟨g,0,none⟩ l.length c oM),rfl,rfl⟩ kR kR (λq z i=>?_);obtain⟨rfl,rfl⟩:=i;have Q:=s;refine⟨sL,?_⟩
 refine vJ (C:=λq w'=>q=str l/\w'=z.freeze ⟨g,0,none⟩ l.length) h 10 [] rfl kR ⟨_,_,ah.unsafeStr (Lib.run_unsafeString_row (P:=Tryz.prog) _ _ _ _ 5 kR kR g c E l J u oM (λj x S=>by
  obtain⟨T,f,Z⟩:=p.at_ oM;injection f with f
  subst f;exact Z j _ (by rw[zbw,S];rfl))),rfl,rfl⟩ kR kR (λq wb i=>?_)
 obtain⟨rfl,rfl⟩:=i;have N:=d _ (λ_=>False) emp (UQ (n:=l.length) t) (XR (λ_=>id)) (λb Y=>Y.elim);refine⟨sT,?_⟩;refine V1 ?_;exact⟨rfl,N.aJ.first.bf⟩
def X8 {b:Nat} {F:NP} (o:(xw b []).ok F w):aX Tryz.prog 93 [aC b] w λr w'=>r=str []/\cO F emp w w':=by
 obtain⟨a,v,j,H⟩:=Sep.LP (Sep.dA o);have d:=j.2 rfl;subst d;refine dL Tryz.func93 ?_;refine Dz (λh p f=>?_);refine V4 ?_;refine Gm h 5 ?_;refine V4 ?_;refine vJ (C:=λe w'=>e=.pointer none/\w'=p) h 4 [(9,true),(8,false),(7,true),(6,true),(5,true)] rfl kR ⟨_,_,ah.sliceData (Lib.run_unsafeSliceData_nil _ _ _ 0 0),rfl,rfl⟩ kR kR (λe q d=>?_);obtain⟨rfl,rfl⟩:=d;have g:=f;refine⟨sL,?_⟩;refine vJ (C:=λe w'=>e=str []/\w'=q) h 10 [] rfl kR ⟨_,_,ah.unsafeStr (Lib.run_unsafeString_none (P:=Tryz.prog) _ _ _ _ none),rfl,rfl⟩ kR kR (λe s d=>?_);obtain⟨rfl,rfl⟩:=d;have i:=g;refine⟨sT,?_⟩;refine V1 ?_;exact⟨rfl,⟨i.au,λ_=>False,XR (λ_=>id),λb m=>m.elim⟩⟩
def CQ {b:Nat} {l:L8} {F:NP} (d:(xw b l).ok F w) (e:l.length<=100000000):aX Tryz.prog 93 [aC b] w λr w'=>r=str l/\cO F emp w w':=by
 by_cases h:l=[]
 .subst h;exact X8 d
 exact UR d e h
end
namespace K32

def pz (k:Int) (e:MapEntry):Bool:=match e.key with
 | .int .i32 a=>a==k
 | _=>false
def Ei (es:List MapEntry) (k:Int):Option Value:=(es.find? (pz k)).map (·.val)
def intKeys (es:List MapEntry):Prop:=∀e∈es,∃a,e.key=.int .i32 a
section
variable {w0 w w':Wd} {S:NP} {rs:List HP} {put:HP->List HP} {P:Program}
def Bo (k:Int): ∀(g:List MapEntry) (i:Nat),intKeys g->∃r,Instr.findNow (.int .i32) (.int .i32 k) g i=some r/\r.map (·.2)=Ei g k/\
    (∀j v,r=some (j,v)->∃m,j=i+m/\∃e,g[m]? =some e/\pz k e=true/\g.find? (pz k)=some e/\∀s u,s<m->g[s]? =some u->pz k u=false):=by
  intro g
  induction g with
  | nil=>intro i _;exact⟨none,rfl,rfl,λ_ _ h=>by cases h⟩
  | cons e g V=>
    intro i G;obtain⟨a,F⟩:=G e zak;obtain⟨r,K,L,M⟩:=V (i+1) λx R=>G x (zap _ R);have J:Instr.sameNow (.int .i32) (.int .i32 k) e.key=some (k==a):=by rw[F];simp[Instr.sameNow]
    have t:pz k e=(a==k):=by unfold pz;rw[F]
    by_cases o:k=a
    . subst o
      have q:pz k e=true:=by rw[t];simp
      refine⟨some (i,e.val),?_,?_,?_⟩
      . unfold Instr.findNow;rw[J];simp
      . simp[Ei,q]
      rintro j v f;injection f with f
      injection f with W X
      exact⟨0,oM,e,rfl,q,by simp[q],λs _ N=>oM⟩
    have p:pz k e=false:=by rw[t];simpa using λh:a=k=>o h.symm
    refine⟨r,?_,?_,?_⟩
    . unfold Instr.findNow;rw[J,K]
      have :(k==a)=false:=by simpa using o
      rw[this]
    . rw[L];simp[Ei,p]
    rintro j v f;obtain⟨m,N,u,A,D,C,E⟩:=M j v f;refine⟨m+1,oM,u,by simpa using A,D,by simp[p,C],λs H O d=>?_⟩;cases s with
    | zero=>simp at d;rw[<-d];exact p
    | succ s=>exact E s H oM (by simpa using d)
def tJ {C:Td} (H:P.underlying C=some (.int .i32)) (k:Int) (h:List MapEntry) (u:intKeys h):
    ∃r,(Instr.findKey C (.int .i32 k) h).run P w=.ok r w/\r.map (·.2)=Ei h k/\
    (∀j v,r=some (j,v)->∃e,h[j]? =some e/\pz k e=true/\∀o i,o<j->h[o]? =some i->pz k i=false):=by
  obtain⟨r,p,q,s⟩:=Bo k h 0 u;refine⟨r,by simp[Instr.findKey,run_underlying H,p],q,λj v d=>?_⟩;obtain⟨m,A,e,t,f,_,g⟩:=s j v d;have :j=m:=by omega
  subst this;exact⟨e,t,f,g⟩
def rE {e:Td} (h:P.underlying e=some (.int .i32)) (b:Bool) (k:Int) (d:Nat):(Instr.checkKey b (d+1) e (.int .i32 k)).run P w=.ok () w:=by
 simp[Instr.checkKey,run_underlying h]
def run_getObj_map (h:w.heap[b]? =some (.map es c)):(getObj b).run P w=.ok (.map es c) w:=by
 simp[getObj,Sem.run,h]
end
end K32
end
variable {v:Value} {k n:Nat} {s:ByteArray}
section
variable {P:Program} {ρ:Od->Value} {ty:Td} {w w0:Wd} {x y z:Od} {S:NP} {rs:List HP} {put:HP->List HP}
def UU {T k e:Td} [D:IsMap P T k e] [A:nO P k .i32] {i:Int}
    (H:Sep w0 S rs w) (d:At rs (obj b (.map es c)) put) (h:K32.intKeys es.toList) (t:K32.Ei es.toList i=none) (F:ρ x=.map (some b)) (G:ρ y=.int .i32 i) (J:ρ z=v):
    ∃w',Oq P ρ (.insert T x y z) ty w w'/\Sep w0 S (put (obj b (.map (es.push {key:=.int .i32 i,val:=v,born:=c}) (c+1)))) w':=by
  have m:=H.obj d;obtain⟨r,C,u,_⟩:=K32.tJ (P:=P) (w:=w) A.und i es.toList h
  have E:r=none:=by
    cases r with
    | none=>rfl
    | some L=>rw[t]at u;cases u
  subst E;have p:=K32.rE (P:=P) (w:=w) A.und false i 9999;have g: ∀o:Obj,(setObj b o).run P w=.ok () {w with heap:=w.heap.setIfInBounds b o}:=λo=>by simp[Go.setObj,Sem.run,m]
  have q:=lq m;refine⟨{w with heap:=w.heap.setIfInBounds b (.map (es.push {key:=.int .i32 i,val:=v,born:=c}) (c+1))},λ_ _ _ _=>?_,H.setObj d ⟨rfl,rfl,rfl,sM,λj K s=>by simp only[zbz];rw[zab (λe=>s e.symm)]⟩ (by simp[q])⟩;simp only[execOp,F,G,J,Instr.mapUpdate,zbj,run_underlying D.und,zar,run_getObj_map m];rw[p];simp only[zar,C,g,zbl]
def rF {r:Option Nat} {ops:AO} {Q:Post} {rest:LO} {σ:St} {pos:String} {after:Array Edge} {T k e:Td} [t:IsMap P T k e] [s:nO P k .i32] {i:Int}
    (H:Sep w0 S rs w) (f:At rs (obj b (.map es c)) put) (d:K32.intKeys es.toList) (g:K32.Ei es.toList i=none) (o:evF σ x=.map (some b):=by exact rfl) (p:evF σ y=.int .i32 i:=by exact rfl) (q:evF σ z=v:=by exact rfl)
    (h: ∀w',Sep w0 S (put (obj b (.map (es.push {key:=.int .i32 i,val:=v,born:=c}) (c+1)))) w'->FL P r n ops Q rest σ w'):FL P r n ops Q (⟨none,.insert T x y z,ty,pos,after,none⟩::rest) σ w:=by
  obtain⟨w',j,m⟩:=UU (P:=P) (ty:=ty) (T:=T) H f d g o p q;exact Ee j rfl (h w' m)
def Ou {T k e:Td} [p:IsMap P T k e] [f:nO P k .i32] {zv:Value} [t:Zero P e zv] {i:Int}
    (o:w.heap[b]? =some (.map es c)) (h:K32.intKeys es.toList) (q:ρ x=.map (some b)) (s:ρ y=.int .i32 i):ah P ρ (.lookup T x y true) ty w (.tuple #[(K32.Ei es.toList i).getD zv,.bool (K32.Ei es.toList i).isSome]) w:=by
  obtain⟨r,g,m,_⟩:=K32.tJ (P:=P) (w:=w) f.und i es.toList h;intro _ _ _ _;rw[<-m];have d:=K32.rE (P:=P) (w:=w) f.und es.isEmpty i 9999;simp only[execOp,q,s,Instr.lookup,zbj,run_underlying p.und,zar,run_getObj_map o,zbl];rw[d];simp only[zar,g];cases r with
  | none=>simp[t.run]
  | some u=>obtain⟨j,v⟩:=u;simp
def RI {T:Td} [h:mD P T] (H:Sep w0 S rs w) (d:ρ x=.string s): ∃k w',ah P ρ (.range T x) ty w (.pointer (some ⟨k,0,none⟩)) w'/\Sep w0 S (obj k (.stringIter s 0)::rs) w':=by
 refine⟨w.heap.size,w.alloc (.stringIter s 0),λ_ _ _ _=>?_,H.alloc _⟩;have:=run_range_string (P:=P) w T s h.und;simp only[execOp,d,zbj,this,zar,zbl];rfl
def UW {pos:Nat} (H:Sep w0 S rs w) (d:At rs (obj k (.stringIter s pos)) put) (m:ρ x=.pointer (some ⟨k,0,none⟩)) (h:pos<s.size):
    ∃w',ah P ρ (.next x true) ty w (.tuple #[.bool true,.int .i64 pos,.int .i32 (Utf8.decode s pos).1]) w'/\Sep w0 S (put (obj k (.stringIter s (pos+(Utf8.decode s pos).2)))) w':=by
  have f:=H.obj d;have i:=lq f;have:=Lib.run_next_any_at (P:=P) w k s pos ty f h;refine⟨w.iterAt k s (pos+(Utf8.decode s pos).2),λ_ _ _ _=>?_,H.setObj d ⟨rfl,rfl,rfl,?_,λj o g=>?_⟩ (Lib.iterAt_heap w k s pos _ f)⟩
  . simp only[execOp,m,zbj,this,zar,zbl]
  . simp[World.iterAt]
  simp only[World.iterAt,zbz];rw[zab (λe=>g e.symm)]
def Ov {pos:Nat} (H:Sep w0 S rs w) (d:At rs (obj k (.stringIter s pos)) put) (e:ρ x=.pointer (some ⟨k,0,none⟩)) (h: ¬pos<s.size):ah P ρ (.next x true) ty w (.tuple #[.bool false]) w:=λ_ _ _ _=>by
 have:=Lib.run_next_end_at (P:=P) w k s pos ty (H.obj d) h;simp only[execOp,e,zbj,this,zar,zbl]
end
section
attribute [local irreducible] FW FL FG FGn jX lg gD l7 Qfn ah
def keys_nil:K32.intKeys (#[]:Array MapEntry).toList:=λe h=>by simp at h
def gX {k:Int} (h:K32.intKeys es.toList):K32.intKeys (es.push {key:=.int .i32 k,val:=v,born:=c}).toList:=by
 intro e d;rw[zfv,zbh,zaw]at d
 rcases d with d | rfl
 .exact h e d
 exact⟨k,rfl⟩
def zO (k:Int) (v:Int) (b:Nat):MapEntry:={key:=.int .i32 k,val:=.int .u8 v,born:=b}
def iM:Array MapEntry:= #[zO 34 34 0,zO 92 92 1,zO 8 98 2,zO 12 102 3,zO 10 110 4,zO 13 114 5,zO 9 116 6]
def zQ (r:Int):Option UInt8:=if r=34 then some 34 else if r=92 then some 92 else if r=8 then some 98 else if r=12 then some 102 else if r=10 then some 110 else if r=13 then some 114 else if r=9 then some 116 else none
def X9 (r:Int):K32.Ei iM.toList r=(zQ r).map B:=by
 unfold K32.Ei zQ iM;simp only[zcm,List.find?_nil,K32.pz,zO]
 by_cases d:r=34
 .subst d;rfl
 by_cases f:r=92
 .subst f;rfl
 by_cases g:r=8
 .subst g;rfl
 by_cases i:r=12
 .subst i;rfl
 by_cases j:r=10
 .subst j;rfl
 by_cases m:r=13
 .subst m;rfl
 by_cases o:r=9
 .subst o;rfl
 have e: ∀k:Int,r≠k->(k==r)=false:=λk h=>by simpa using λe=>h e.symm
 simp only[e _ d,e _ f,e _ g,e _ i,e _ j,e _ m,e _ o,zab d,zab f,zab g,zab i,zab j,zab m,zab o];rfl
def UY:K32.intKeys iM.toList:=by
 intro e h;simp only[iM,zax,zal,or_false]at h
 rcases h with rfl | rfl | rfl | rfl | rfl | rfl | rfl<;>exact⟨_,rfl⟩
section
variable {w:Wd}
def UZ:aX Tryz.prog 233 [] w λv w'=>∃m:Nat,v=.map (some m)/\True/\cO noB (obj m (.map iM 7)) w w':=by
 have H:=Sep.aI w;refine Ut Tryz.func233 ?_;refine V1 ?_;refine vG H (h:=λb q d k=>?_);refine rF d At0 keys_nil rfl (h:=λs e=>?_);refine rF e At0 (gX keys_nil) rfl (h:=λt f=>?_);refine rF f At0 (gX (gX keys_nil)) rfl (h:=λu g=>?_);refine rF g At0 (gX (gX (gX keys_nil))) rfl (h:=λA i=>?_);refine rF i At0 (gX (gX (gX (gX keys_nil)))) rfl (h:=λC j=>?_);refine rF j At0 (gX (gX (gX (gX (gX keys_nil))))) rfl (h:=λD o=>?_);refine rF o At0 (gX (gX (gX (gX (gX (gX keys_nil)))))) rfl (h:=λE p=>?_);refine V2 ?_;exact⟨_,rfl,trivial,p.bf⟩
end
end
section
section gives
variable {P:Program} {ρ:Od->Value} {ty:Td} {w:Wd} {x y:Od} {T U:Td} {k:IntKind} {a b c:Int}
def ah.orE (d:ρ x=.int k a) (e:ρ y=.int k b) (h:bits .or k a b=c):ah P ρ (.binOp .or T x y U) ty w (.int k c) w:=by subst h;exact ah.or d e
def ah.Ej (d:ρ x=.int k a) (e:ρ y=.int k b) (h:bits .and k a b=c):ah P ρ (.binOp .and T x y U) ty w (.int k c) w:=by subst h;exact ah.and d e
def ah.El {m s:Nat} {j:IntKind} (f:ρ x=.int k m) (g:ρ y=.int j s) (d:s<=k.bits):ah P ρ (.binOp .shr T x y U) ty w (.int k ((m/2^s:Nat):Int)) w:=by
 have h:=ah.shr (P:=P) (ty:=ty) (w:=w) (T:=T) (U:=U) f g oM;rw[zdv,zcf d]at h
 have e:(m:Int).fdiv (2^s)=((m/2^s:Nat):Int):=by
  rw[zfx _ (Int.pow_nonneg dC)];simp
 rw[e]at h;exact h
end gives
end
variable {r:Nat} {l:L8}
section
attribute [local irreducible] FW FL FG FGn jX lg gD l7 Qfn ah
def or_fin {h n:Nat} (d:h<256) (e:n<256) (key:h||| n=h+n):bits .or .u8 (h:Int) (n:Int)=((h+n:Nat):Int):=by
 rw[u8_or_nat h n d e,key]
def akS {x:Nat} (h:x<32):bits .or .u8 192 (x:Int)=((192+x:Nat):Int):=by
 have key: ∀i:Fin 32,192||| i.val=192+i.val:=dC
 exact or_fin (h:=192) dC oM (key ⟨x,h⟩)
def Bp {x:Nat} (h:x<64):bits .or .u8 128 (x:Int)=((128+x:Nat):Int):=by
 have key: ∀i:Fin 64,128||| i.val=128+i.val:=dC
 exact or_fin (h:=128) dC oM (key ⟨x,h⟩)
def aiM {x:Nat} (h:x<16):bits .or .u8 224 (x:Int)=((224+x:Nat):Int):=by
 have key: ∀i:Fin 16,224||| i.val=224+i.val:=dC
 exact or_fin (h:=224) dC oM (key ⟨x,h⟩)
def aiN {x:Nat} (h:x<8):bits .or .u8 240 (x:Int)=((240+x:Nat):Int):=by
 have key: ∀i:Fin 8,240||| i.val=240+i.val:=dC
 exact or_fin (h:=240) dC oM (key ⟨x,h⟩)
def Bq {x:Nat} (h:x<256):bits .and .u8 (x:Int) 63=((x%64:Nat):Int):=by
 have key: ∀i:Fin 256,i.val&&& 63=i.val%64:=dC;have:=u8_and_nat x 63 h dC;rw[key ⟨x,h⟩]at this;exact this
def u8w (r:Nat):IntKind.u8.wrap (r:Int)=((r%256:Nat):Int):=by rw[IntKind.wrap_u8];omega
def cb (n:Nat):Value:=.int .u8 (n:Int)
def ajk (h:n<256):B n.toUInt8=cb n:=by
 unfold B cb;simp[Nat.mod_eq_of_lt h]
def GX {l:List Nat} (h:encodeRuneZ r=l.map λn:Nat=>(n:Int)) (d: ∀n∈l,n<256):l.map cb=(encodeRune r).map B:=by
 unfold encodeRune;rw[h,zdn,zdn];refine zcu λn e=>?_;simp only[Function.comp,zdv];exact(ajk (d n e)).symm
def enc2 {r:Nat} (d:128<=r) (e:r<=2047):[cb (192+r/64),cb (128+r%64)]=(encodeRune r).map B:=
 GX (l:=[192+r/64,128+r%64]) (by rw[encodeRuneZ_two oM oM];simp) (by intro n h;simp at h;omega)
def enc3 {r:Nat} (h:(2048<=r/\r<55296)\/(57343<r/\r<=65535)):[cb (224+r/4096),cb (128+r/64%64),cb (128+r%64)]=(encodeRune r).map B:=
 GX (l:=[224+r/4096,128+r/64%64,128+r%64]) (by rw[encodeRuneZ_three oM];simp) (by intro n d;simp at d;omega)
def enc4 {r:Nat} (d:65536<=r) (f:r<=1114111):[cb (240+r/262144),cb (128+r/4096%64),cb (128+r/64%64),cb (128+r%64)]=(encodeRune r).map B:=
 GX (l:=[240+r/262144,128+r/4096%64,128+r/64%64,128+r%64]) (by
  have e:encodeRuneZ (r:Int)=[240+(r:Int)/262144,128+(r:Int)/4096%64,128+(r:Int)/64%64,128+(r:Int)%64]:=by
   unfold encodeRuneZ;rw[zab oM,zab oM,zab oM,zac oM]
  rw[e];simp) (by intro n h;simp at h;omega)
section
variable {w:Wd}
theorem RJ {F:NP} (O:(mY 5 v l).ok F w) (R:l.length<=100000000) (u:128<=r) (e:r<=1114111) (V:r<55296\/57343<r):
    aX Tryz.prog 351 [v,I32 r] w λx w'=>∃A,x=A/\True/\cO F (mY 5 A (l++encodeRune r)) w w':=by
  have H:=Sep.dA O;have N:=Lm (r:Int);refine dn Tryz.func351 ?_;refine V2 ?_;refine Vv (ah.qA (c:=(r:Int)) rfl (by rw[IntKind.wrap_u32];omega)) ?_;refine Cz (λf=>?_) (λf=>?_)
  . have i:=f
    refine V2 ?_;refine Vv (ah.El (m:=r) (s:=6) rfl rfl dC) (Vv (ah.qA (c:=((r/64:Nat):Int)) rfl IZ) ?_);refine Vv (ah.orE (c:=((192+r/64:Nat):Int)) rfl rfl (akS oM)) (Mv ?_);refine Vv (ah.qA (c:=((r%256:Nat):Int)) rfl (u8w r)) (Vv (ah.Ej (c:=((r%64:Nat):Int)) rfl rfl kX) ?_);refine Vv (ah.orE (c:=((128+r%64:Nat):Int)) rfl rfl (Bp oM)) (Bs H [cb (192+r/64),cb (128+r%64)] (λb z j W=>?_));have d:(encodeRune r).length=2:=by have:=zay List.length (enc2 (r:=r) u oM);simpa using this.symm
    rw[enc2 u oM]at j;refine qh j At0 oM (hc':=d.symm) (h:=?_);intro g P C;refine V1 ?_;exact⟨_,rfl,trivial,C.bf⟩
  have i:=f;refine Cz (λk=>?_) (λk=>?_)
  . refine Sk (fC (zay Value.bool (zau k)) ?_)
    refine V2 ?_;refine Vv (ah.El (m:=r) (s:=12) rfl rfl dC) (Vv (ah.qA (c:=((r/4096:Nat):Int)) rfl IZ) ?_);refine Vv (ah.orE (c:=((224+r/4096:Nat):Int)) rfl rfl (aiM oM)) (Mv ?_);refine Vv (ah.El (m:=r) (s:=6) rfl rfl dC) (Vv (ah.qA (c:=((r/64%256:Nat):Int)) rfl (u8w _)) ?_);refine Vv (ah.Ej (c:=((r/64%64:Nat):Int)) rfl rfl kX) ?_;refine Vv (ah.orE (c:=((128+r/64%64:Nat):Int)) rfl rfl (Bp oM)) (Mv ?_);refine Vv (ah.qA (c:=((r%256:Nat):Int)) rfl (u8w r)) (Vv (ah.Ej (c:=((r%64:Nat):Int)) rfl rfl kX) ?_);refine Vv (ah.orE (c:=((128+r%64:Nat):Int)) rfl rfl (Bp oM)) (Bs H [cb (224+r/4096),cb (128+r/64%64),cb (128+r%64)] (λb Q o X=>?_));have d:(encodeRune r).length=3:=by have:=zay List.length (enc3 (r:=r) oM);simpa using this.symm
    rw[enc3 oM]at o;refine qh o At0 oM (hc':=d.symm) (h:=?_);intro g T D;refine V1 ?_;exact⟨_,rfl,trivial,D.bf⟩
  refine Sz (λK=>?_) (λK=>?_)
  . refine Cz (λS=>?_) (λS=>?_)
    . refine V2 ?_
      refine Vv (ah.El (m:=r) (s:=12) rfl rfl dC) (Vv (ah.qA (c:=((r/4096:Nat):Int)) rfl IZ) ?_);refine Vv (ah.orE (c:=((224+r/4096:Nat):Int)) rfl rfl (aiM oM)) (Mv ?_);refine Vv (ah.El (m:=r) (s:=6) rfl rfl dC) (Vv (ah.qA (c:=((r/64%256:Nat):Int)) rfl (u8w _)) ?_);refine Vv (ah.Ej (c:=((r/64%64:Nat):Int)) rfl rfl kX) ?_;refine Vv (ah.orE (c:=((128+r/64%64:Nat):Int)) rfl rfl (Bp oM)) (Mv ?_);refine Vv (ah.qA (c:=((r%256:Nat):Int)) rfl (u8w r)) (Vv (ah.Ej (c:=((r%64:Nat):Int)) rfl rfl kX) ?_);refine Vv (ah.orE (c:=((128+r%64:Nat):Int)) rfl rfl (Bp oM)) (Bs H [cb (224+r/4096),cb (128+r/64%64),cb (128+r%64)] (λb we p Y=>?_));have d:(encodeRune r).length=3:=by have:=zay List.length (enc3 (r:=r) oM);simpa using this.symm
      rw[enc3 oM]at p;refine qh p At0 oM (hc':=d.symm) (h:=?_);intro g wf E;refine V1 ?_;exact⟨_,rfl,trivial,E.bf⟩
    refine Sz (λL=>?_) (λL=>?_)
    . refine Cz (λa=>?_) (λa=>?_)
      . refine V2 ?_
        refine Vv (ah.El (m:=r) (s:=18) rfl rfl dC) (Vv (ah.qA (c:=((r/262144:Nat):Int)) rfl IZ) ?_);refine Vv (ah.orE (c:=((240+r/262144:Nat):Int)) rfl rfl (aiN oM)) (Mv ?_);refine Vv (ah.El (m:=r) (s:=12) rfl rfl dC) (Vv (ah.qA (c:=((r/4096%256:Nat):Int)) rfl (u8w _)) ?_);refine Vv (ah.Ej (c:=((r/4096%64:Nat):Int)) rfl rfl kX) ?_;refine Vv (ah.orE (c:=((128+r/4096%64:Nat):Int)) rfl rfl (Bp oM)) (Mv ?_);refine Vv (ah.El (m:=r) (s:=6) rfl rfl dC) (Vv (ah.qA (c:=((r/64%256:Nat):Int)) rfl (u8w _)) ?_);refine Vv (ah.Ej (c:=((r/64%64:Nat):Int)) rfl rfl kX) ?_;refine Vv (ah.orE (c:=((128+r/64%64:Nat):Int)) rfl rfl (Bp oM)) (Mv ?_);refine Vv (ah.qA (c:=((r%256:Nat):Int)) rfl (u8w r)) (Vv (ah.Ej (c:=((r%64:Nat):Int)) rfl rfl kX) ?_);refine Vv (ah.orE (c:=((128+r%64:Nat):Int)) rfl rfl (Bp oM)) (Bs H [cb (240+r/262144),cb (128+r/4096%64),cb (128+r/64%64),cb (128+r%64)] (λb wg q Z=>?_));have d:(encodeRune r).length=4:=by have:=zay List.length (enc4 (r:=r) oM e);simpa using this.symm
        rw[enc4 oM e]at q;refine qh q At0 oM (hc':=d.symm) (h:=?_);intro g wh G;refine V1 ?_;exact⟨_,rfl,trivial,G.bf⟩
      exact zas e oM
    exact zas e oM
  refine Sz (λM=>?_) (λM=>?_)
  . refine Cz (λn=>?_) (λn=>?_)
    . refine V2 ?_
      refine Vv (ah.El (m:=r) (s:=18) rfl rfl dC) (Vv (ah.qA (c:=((r/262144:Nat):Int)) rfl IZ) ?_);refine Vv (ah.orE (c:=((240+r/262144:Nat):Int)) rfl rfl (aiN oM)) (Mv ?_);refine Vv (ah.El (m:=r) (s:=12) rfl rfl dC) (Vv (ah.qA (c:=((r/4096%256:Nat):Int)) rfl (u8w _)) ?_);refine Vv (ah.Ej (c:=((r/4096%64:Nat):Int)) rfl rfl kX) ?_;refine Vv (ah.orE (c:=((128+r/4096%64:Nat):Int)) rfl rfl (Bp oM)) (Mv ?_);refine Vv (ah.El (m:=r) (s:=6) rfl rfl dC) (Vv (ah.qA (c:=((r/64%256:Nat):Int)) rfl (u8w _)) ?_);refine Vv (ah.Ej (c:=((r/64%64:Nat):Int)) rfl rfl kX) ?_;refine Vv (ah.orE (c:=((128+r/64%64:Nat):Int)) rfl rfl (Bp oM)) (Mv ?_);refine Vv (ah.qA (c:=((r%256:Nat):Int)) rfl (u8w r)) (Vv (ah.Ej (c:=((r%64:Nat):Int)) rfl rfl kX) ?_);refine Vv (ah.orE (c:=((128+r%64:Nat):Int)) rfl rfl (Bp oM)) (Bs H [cb (240+r/262144),cb (128+r/4096%64),cb (128+r/64%64),cb (128+r%64)] (λb wi t y=>?_));have d:(encodeRune r).length=4:=by have:=zay List.length (enc4 (r:=r) oM e);simpa using this.symm
      rw[enc4 oM e]at t;refine qh t At0 oM (hc':=d.symm) (h:=?_);intro g wj J;refine V1 ?_;exact⟨_,rfl,trivial,J.bf⟩
    exact zas e oM
  exact zas e oM
def Ow {F:NP} (D:(mY 5 v l).ok F w) (C:l.length<=100000000) (t:r<=1114111) (G:r<55296\/57343<r):
    aX Tryz.prog 307 [v,I32 r] w λx w'=>∃m,x=m/\True/\cO F (mY 5 m (l++encodeRune r)) w w':=by
  have H:=Sep.dA D;refine dn Tryz.func307 ?_;refine V2 ?_;refine Vv (ah.qA (c:=(r:Int)) rfl (by rw[IntKind.wrap_u32];omega)) ?_;refine Cz (λg=>?_) (λg=>?_)
  . have e:encodeRune (r:Int)=[r.toUInt8]:=by unfold encodeRune;rw[encodeRuneZ_one oM oM];simp
    refine V2 ?_;refine Vv (ah.qA (c:=((r%256:Nat):Int)) rfl (u8w r)) ?_;have A:Value.int .u8 ((r%256:Nat):Int)=B r.toUInt8:=by rw[ajk oM,Nat.mod_eq_of_lt oM];rfl
    refine j5 H (xs:=[.tmp 10]) (out:=[r.toUInt8].map B) (dI.one A rfl dI.nil) rfl rfl rfl (λb M q k=>?_);refine qh q (news:=[r.toUInt8]) At0 kN (h:=?_);intro K N o;rw[<-e]at o;refine V1 ?_;exact⟨_,rfl,trivial,o.bf⟩
  refine V2 ?_;obtain⟨L,j,u,d⟩:=H.bG At0;refine aO (RJ j C oM t G) rfl rfl (λm O J=>?_);obtain⟨K,rfl,_,i,p,E,f⟩:=J;have s:=d _ p _ i E f;refine V1 ?_;exact⟨_,rfl,trivial,s.bf⟩
def RL {F:NP} (J:(xw b l).ok F w) (O:l.length<=10000000) (C:r<=1114111) (K:r<55296\/57343<r):aX Tryz.prog 234 [aC b,I32 r] w λ_ w'=>cO F (xw b (l++encodeRune r)) w w':=by
 obtain⟨a,v,D,H⟩:=Sep.LP (Sep.dA J);obtain⟨A,c,rfl,G,_,_⟩:=Sep.xM H At1;have E:=Lm (r:Int)
 have m:encodeRune (r:Int)≠[]:=by
  intro e;unfold encodeRune encodeRuneZ at e
  repeat' split at e
  all_goals simp at e
 refine dn Tryz.func234 ?_;refine V3 ?_;obtain⟨q,g,j,h⟩:=H.bG At0;refine aO (Bn D.1 g) rfl rfl (λL V p=>?_);obtain⟨rfl,f,i,o,d⟩:=p;have s:=h _ i _ f o d;refine V12 ?_;obtain⟨q,g,j,h⟩:=s.bG At1;refine aO (Ow g oM C K) rfl rfl (λL W p=>?_);obtain⟨R,rfl,_,f,i,o,d⟩:=p;have t:=h _ i _ f o d;obtain⟨M,N,rfl,_⟩:=Sep.xM t At1;refine Uz (λX u=>?_);refine V9 ?_;exact(Sep.Po ⟨.inr rfl,λe=>zas (List.append_eq_nil_iff.1 e).2 m⟩ u).bf
end
end
variable {d:Nat}
section
variable {P:Program} {r:Option Nat} {n:Nat} {ops:AO} {Q:Post} {rest:LO} {σ:St} {w w0:Wd} {S:NP} {rs:List HP} {put:HP->List HP} {ty:Td} {pos:String} {after:Array Edge}
def abF {T:Td} [j:mD P T] (H:Sep w0 S rs w) (i:evF σ x=.string s:=by exact rfl) (e:Nat.blt d n=true:=by exact rfl)
    (h: ∀k w',Sep w0 S (obj k (.stringIter s 0)::rs) w'->FL P r n ops Q rest (upd σ d (.pointer (some ⟨k,0,none⟩))) w'):FL P r n ops Q (⟨some d,.range T x,ty,pos,after,none⟩::rest) σ w:=by
  obtain⟨k,w',f,g⟩:=RI (P:=P) (ty:=ty) (T:=T) H i;exact eu f e (h k w' g)
def aew {i:Nat} (H:Sep w0 S rs w) (e:At rs (obj k (.stringIter s i)) put)
    (h1:i<s.size->∀w',Sep w0 S (put (obj k (.stringIter s (i+(Utf8.decode s i).2)))) w'->FL P r n ops Q rest (upd σ d (.tuple #[.bool true,.int .i64 i,.int .i32 (Utf8.decode s i).1])) w')
    (h2: ¬i<s.size->FL P r n ops Q rest (upd σ d (.tuple #[.bool false])) w) (g:evF σ x=.pointer (some ⟨k,0,none⟩):=by exact rfl) (f:Nat.blt d n=true:=by exact rfl):
    FL P r n ops Q (⟨some d,.next x true,ty,pos,after,none⟩::rest) σ w:=by
  by_cases h:i<s.size
  . obtain⟨w',j,m⟩:=UW (P:=P) (ty:=ty) H e g h
    exact eu j f (h1 h w' m)
  exact eu (Ov (P:=P) (ty:=ty) H e g h) f (h2 h)
end
section
attribute [local irreducible] FW FL FG FGn jX lg gD l7 Qfn ah
def aex (h:128<=r) (f:r<=1114111): ∀c∈encodeRune (r:Int),128<=c.toNat:=by
 intro c e;unfold encodeRune at e;obtain⟨x,d,rfl⟩:=zav.1 e;unfold encodeRuneZ at d;rw[zab oM]at d
 repeat' split at d
 all_goals (simp only[zax,zal,or_false]at d)
 all_goals (rcases d with rfl | rfl | rfl | rfl<;>simp<;>omega)
def Ya (h: ∀c∈l,128<=c.toNat):l.flatMap jT=l:=by
 induction l with
 | nil=>rfl
 | cons c t i=>
  rw[zbi,KG (h c sM),i (λx d=>h x (by simp[d]))];rfl
def Yb (r:Nat) (d:r<=1114111) (h:r<55296\/57343<r):Utf8.valid (r:Int)=true:=by
 simp[Utf8.valid];omega
def akT (r:Nat) (v:Utf8.valid (r:Int)=true) (c:r<128):(Utf8.encode (r:Int)).data.toList=[UInt8.ofNat r]:=by
 simp[Utf8.encode,v,c]
def akU (r:Nat) (v:Utf8.valid (r:Int)=true) (c: ¬r<128) (h:r<2048):(Utf8.encode (r:Int)).data.toList=[UInt8.ofNat (192+r/64),UInt8.ofNat (128+r%64)]:=by
 simp[Utf8.encode,v,c,h]
def akV (r:Nat) (v:Utf8.valid (r:Int)=true) (c: ¬r<128) (h: ¬r<2048) (d:r<65536):(Utf8.encode (r:Int)).data.toList=[UInt8.ofNat (224+r/4096),UInt8.ofNat (128+r/64%64),UInt8.ofNat (128+r%64)]:=by
 simp[Utf8.encode,v,c,h,d]
def akW (r:Nat) (v:Utf8.valid (r:Int)=true) (c: ¬r<128) (h: ¬r<2048) (d: ¬r<65536):(Utf8.encode (r:Int)).data.toList=[UInt8.ofNat (240+r/262144),UInt8.ofNat (128+r/4096%64),UInt8.ofNat (128+r/64%64),UInt8.ofNat (128+r%64)]:=by
 simp[Utf8.encode,v,c,h,d]
def DL (n:Nat) (z:Int) (e:z.toNat=n):z.toNat.toUInt8=UInt8.ofNat n:=by rw[e]
def Fb (r:Int) (l:L8) (e:(Utf8.encode r).data.toList=l):KU r=l:=by
 have h:Utf8.encode r=⟨(KU r).toArray⟩:=Value.string.inj (Nu r);have d:=zay (λb:ByteArray=>b.data.toList) h;exact d.symm.trans e
def RN (r:Nat) (m:r<=1114111) (h:r<55296\/57343<r):KU (r:Int)=encodeRune (r:Int):=by
 have v:=Yb r m h;unfold encodeRune
 by_cases c:r<128
 .have e:=DL r (r:Int) oM
  rw[encodeRuneZ_one oM oM,Fb _ _ (akT r v c),zbc,zcn,e]
 by_cases f:r<2048
 .have e:=DL (192+r/64) (192+(r:Int)/64) oM
  have d:=DL (128+r%64) (128+(r:Int)%64) oM;rw[encodeRuneZ_two oM oM,Fb _ _ (akU r v c f),zbc,zbc,zcn,e,d]
 by_cases i:r<65536
 .have e:=DL (224+r/4096) (224+(r:Int)/4096) oM
  have d:=DL (128+r/64%64) (128+(r:Int)/64%64) oM;have g:=DL (128+r%64) (128+(r:Int)%64) oM;rw[encodeRuneZ_three oM,Fb _ _ (akV r v c f i),zbc,zbc,zbc,zcn,e,d,g]
 have e:=DL (240+r/262144) (240+(r:Int)/262144) oM;have d:=DL (128+r/4096%64) (128+(r:Int)/4096%64) oM;have g:=DL (128+r/64%64) (128+(r:Int)/64%64) oM;have j:=DL (128+r%64) (128+(r:Int)%64) oM;rw[encodeRuneZ_four oM oM,Fb _ _ (akW r v c f i),zbc,zbc,zbc,zbc,zcn,e,d,g,j]
def Yc {s:L8} (h:iI s=some (r,n)):r<=1114111/\(r<55296\/57343<r):=by
 unfold iI at h
 split at h
 .cases h
 rename_i f;injection h with h
 have d:(decodeL s).1=r:=by rw[h]
 have q:(decodeL s).2=n:=by rw[h]
 rw[decodeL_N]at d q f;have u:(s.getD 0 0).toNat<256:=(s.getD 0 0).toNat_lt
 rcases decodeN_shape s.length (s.getD 0 0).toNat (s.getD 1 0).toNat (s.getD 2 0).toNat (s.getD 3 0).toNat with⟨a,e⟩ | ⟨g,i,j,m,e⟩ | ⟨g,i,j,m,o,p,e⟩ | ⟨g,i,j,m,o,p,t,e⟩ | e
 .rw[e]at d;simp only at d;omega
 .rw[e]at d;simp only at d;omega
 .rw[e]at d;simp only at d;omega
 .rw[e]at d;simp only at d;omega
 rw[e]at f;exact zas (.inr ⟨rfl,rfl⟩) f
def aey {s:L8} (h:iI s=some (r,n)) (j:r<128):n=1/\s.take 1=[r.toUInt8]:=by
 obtain⟨_,g,i,d⟩:=uO h;have e:encodeRune (r:Int)=[r.toUInt8]:=by unfold encodeRune;rw[encodeRuneZ_one oM oM];simp
 rw[e]at d;have:=zay List.length d;rw[zah]at this;simp at this;have f:n=1:=oM;subst f;exact⟨rfl,d.symm⟩
def abG {i:Nat} (D:validD (l.drop i)=true) (H:i<l.length): ∃r n:Nat,Utf8.decode ⟨l.toArray⟩ i=(r,n)/\1<=n/\i+n<=l.length/\validD (l.drop (i+n))=true/\r<=1114111/\(r<55296\/57343<r)/\
    (r<128->Gg l (i+n)=Gg l i++jT r.toUInt8)/\(128<=r->Gg l (i+n)=Gg l i++encodeRune (r:Int)):=by
  have j:l.drop i≠[]:=λe=>by have:=zay List.length e;rw[zbm]at this;simp at this;omega
  have f:=EF j;rw[D]at f;cases hx:iI (l.drop i)with
  | none=>rw[hx]at f;cases f
  | some p=>
    obtain⟨r,n⟩:=p;rw[hx]at f;dsimp only at f;obtain⟨m,o,q,t⟩:=uO hx;obtain⟨s,E⟩:=Yc hx;rw[zbm]at q;have v:Utf8.decode ⟨l.toArray⟩ i=(r,n):=by rw[<-decodeL_drop];exact m
    have g:validD (l.drop (i+n))=true:=by
      rw[zga]at f;exact f.symm
    have d:Gg l (i+n)=Gg l i++((l.drop i).take n).flatMap jT:=by
      unfold Gg;rw[List.take_add,zbu];rfl
    refine⟨r,n,v,o,oM,g,s,E,λh=>?_,λh=>?_⟩
    . obtain⟨A,C⟩:=aey hx h
      rw[d,A,C];simp
    rw[d,<-t,Ya (λc u=>aex h s c u)]
def U0 {c:UInt8} (h:zQ r=some c):r<128/\jT r.toUInt8=[92]++encodeRune (c.toNat:Int)/\c.toNat<128:=by
 unfold zQ at h
 by_cases d:(r:Int)=34
 .rw[zac d]at h;injection h with h;subst h;have :r=34:=oM
  subst this;exact⟨dC,dC,dC⟩
 rw[zab d]at h
 by_cases d:(r:Int)=92
 .rw[zac d]at h;injection h with h;subst h;have :r=92:=oM
  subst this;exact⟨dC,dC,dC⟩
 rw[zab d]at h
 by_cases d:(r:Int)=8
 .rw[zac d]at h;injection h with h;subst h;have :r=8:=oM
  subst this;exact⟨dC,dC,dC⟩
 rw[zab d]at h
 by_cases d:(r:Int)=12
 .rw[zac d]at h;injection h with h;subst h;have :r=12:=oM
  subst this;exact⟨dC,dC,dC⟩
 rw[zab d]at h
 by_cases d:(r:Int)=10
 .rw[zac d]at h;injection h with h;subst h;have :r=10:=oM
  subst this;exact⟨dC,dC,dC⟩
 rw[zab d]at h
 by_cases d:(r:Int)=13
 .rw[zac d]at h;injection h with h;subst h;have :r=13:=oM
  subst this;exact⟨dC,dC,dC⟩
 rw[zab d]at h
 by_cases d:(r:Int)=9
 .rw[zac d]at h;injection h with h;subst h;have :r=9:=oM
  subst this;exact⟨dC,dC,dC⟩
 rw[zab d]at h;cases h
def Yd (h:zQ r=none):(r<32->jT r.toUInt8=[92,117,48,48,nU (r/16),nU (r%16)])/\(32<=r->r<128->jT r.toUInt8=encodeRune (r:Int)):=by
 have i:r≠34/\r≠92/\r≠8/\r≠12/\r≠10/\r≠13/\r≠9:=by
  refine⟨?_,?_,?_,?_,?_,?_,?_⟩<;>(intro e;subst e;revert h;decide)
 constructor
 .intro d
  have f:(r.toUInt8).toNat=r:=by simp;omega
  rw[NY,f,zab oM,zab oM,zab oM,zab oM,zab oM,zab oM,zab oM,zac d]
 intro d g;have f:(r.toUInt8).toNat=r:=by simp;omega
 rw[NY,f,zab oM,zab oM,zab oM,zab oM,zab oM,zab oM,zab oM,zab oM];unfold encodeRune;rw[encodeRuneZ_one oM oM];simp
section
variable {w:Wd}
def aiO {x:Nat} (h:x<32):bits .and .i32 (x:Int) 15=((x%16:Nat):Int):=by
 have key: ∀i:Fin 32,bits .and .i32 (i.val:Int) 15=((i.val%16:Nat):Int):=dC;exact key ⟨x,h⟩
theorem abH (l:L8) (hl:l.length<=1000000) (hT:nQ w):Rk Tryz.prog 151 [str l] w (.tuple #[str (JO l).1,I (JO l).2]):=by
 have H:=Sep.aI w;refine dL Tryz.func151 ?_;refine Kz (J2 l oM (hT.aK H.au)) (λw5 H5 k4=>?_);refine O1 ?_;refine Qn (Cd rfl (λu=>?_) (λu=>?_))
 .have y:JO l=([],40):=zab (by simpa using u)
  refine V2 ?_;exact⟨by rw[y];rfl,H5.au⟩
 have j:validD l=true:=by simpa using u
 have y:JO l=(vW l,0):=zac j;refine Az (λb4 wa X ka=>?_);replace X:=Sep.ahn X;refine Nx ?_;obtain⟨N,g,p,d⟩:=X.bG At0;refine aO (uw 34 g sM) rfl rfl (λM wb j=>?_);obtain⟨rfl,e,F,f,t⟩:=j;have Hb:=d _ F _ e f t;refine Nx (aO (UZ) rfl rfl (λM wc j=>?_));obtain⟨m,rfl,_,e,F,f,V⟩:=j;have Hc:=Hb.new e f (λb hb=>(V b hb).resolve_left id);refine V2 ?_;refine abF Hc (h:=λk wd Hd=>?_);refine V0 ?_;refine aM (λ_:Nat=>[(0,str l),(4,aC b4),(5,.map (some m)),(16,.pointer (some ⟨k,0,none⟩))]) (λi w'=>(i<=l.length/\validD (l.drop i)=true)/\Sep w noB [obj k (.stringIter ⟨l.toArray⟩ i),obj m (.map iM 7),xw b4 (Gg l i)] w') (λi _=>l.length-i) 0 tR ⟨⟨zai _,j⟩,Hd⟩ (λi τ we hI=>?_);obtain⟨⟨hi,hvd⟩,He⟩:=hI;refine Lp ?_;refine Sr (aew He At0 (h1:=λo wf W=>?_) (h2:=λo=>?_))
 .have S:i<l.length:=by rw[Mw.size_mk]at o;exact o
  obtain⟨r,n,A,XM,E,L,P,Q,q,D⟩:=abG hvd S;rw[A]at W;rw[A];have x:=XE l i;have hel:=Lm (r:Int);refine V5 ?_;refine eu (Ou (zv:=B 0) (i:=(r:Int)) (W.obj At1) UY rfl rfl) rfl ?_;rw[X9,show((zQ (r:Int)).map B).getD (B 0)=B ((zQ (r:Int)).getD 0)from by cases zQ (r:Int)<;>rfl,Option.isSome_map];refine O7 ?_;refine Qn (Cd rfl (λY=>?_) (λY=>?_))
  .obtain⟨c,hc⟩:=zfh.1 Y
   obtain⟨T,z,u⟩:=U0 hc;rw[hc,zdg];refine V1 ?_;refine Vv (ah.Uk (a:=(c.toNat:Int)) rfl oM) (Vv (ah.af6 rfl) ?_);rw[RN c.toNat oM oM];have apT:=Lm (c.toNat:Int);refine Vv (ah.Xk rfl rfl kN) ?_;obtain⟨N,g,p,d⟩:=W.bG At2;refine aO (uZ sM g kN) rfl rfl (λM wg j=>?_);obtain⟨rfl,e,F,f,t⟩:=j;have Hg:=d _ F _ e f t;rw[<-z,<-q T]at Hg;refine V0 ?_;exact ak (i+n) tR ⟨⟨E,L⟩,Hg⟩ oM
  have J:zQ (r:Int)=none:=by simpa using Y
  obtain⟨O,G⟩:=Yd J;refine Cz (λIf=>?_) (λIf=>?_)
  .refine Dz (λSa wh Hh=>?_)
   refine V1 ?_;refine GS (Gn rfl (λ_=>(ah.El (m:=r) (s:=4) rfl rfl dC)) ?_);refine V1 ?_;refine GS (Gn rfl (λ_=>(ah.El (m:=r) (s:=4) rfl rfl dC)) ?_);refine GS (Gn rfl (λ_=>(ah.Z7 (c:=((r/16+1:Nat):Int)) rfl rfl Ip)) ?_);refine GS (Gn rfl (λ_=>(ah.EA (l:=tY) (i:=r/16) (m:=r/16+1) rfl rfl rfl oM (by show r/16+1<=16;first | done | omega))) ?_);rw[Rc oM];refine V2 ?_;refine GS (Gn rfl (λ_=>(ah.Ej (c:=((r%16:Nat):Int)) rfl rfl (aiO oM))) ?_);refine V1 ?_;refine GS (Gn rfl (λ_=>(ah.Ej (c:=((r%16:Nat):Int)) rfl rfl (aiO oM))) ?_);refine GS (Gn rfl (λ_=>(ah.Z7 (c:=((r%16+1:Nat):Int)) rfl rfl Ip)) ?_);refine GS (Gn rfl (λ_=>(ah.EA (l:=tY) (i:=r%16) (m:=r%16+1) rfl rfl rfl oM (by show r%16+1<=16;first | done | omega))) ?_);rw[Rc oM];refine V1 ?_;have K:=O oM;obtain⟨N,g,p,d⟩:=Hh.bG At2;refine p8 Sa 14 [] rfl kR (uZ (news:=jT r.toUInt8) (by rw[K];simp) g (by rw[K];simp;omega)) (by rw[K];rfl) kR kR (λM wi j=>?_);obtain⟨rfl,e,F,f,t⟩:=j;have Hi:=d _ F _ e f t;rw[<-q oM]at Hi;refine⟨sT,?_⟩;refine V0 ?_;exact ak (i+n) tR ⟨⟨E,L⟩,Hi⟩ oM
  refine V1 ?_;obtain⟨N,g,p,d⟩:=W.bG At2;refine aO (RL g oM P Q) rfl rfl (λM wj j=>?_);obtain⟨e,F,f,t⟩:=j;have Hj:=d _ F _ e f t
  have R:Gg l i++encodeRune (r:Int)=Gg l (i+n):=by
   by_cases v:r<128
   .rw[q v,G oM v]
   exact(D oM).symm
  rw[R]at Hj;refine V0 ?_;exact ak (i+n) tR ⟨⟨E,L⟩,Hj⟩ oM
 have Z:i=l.length:=by rw[Mw.size_mk]at o;omega
 have C:Gg l i++[34]=vW l:=by
  rw[Z];unfold Gg vW;rw[zbo];rfl
 refine V1 ?_;have x:=XE l i;obtain⟨N,g,p,d⟩:=He.bG At2;refine aO (uw 34 g oM) rfl rfl (λM wk j=>?_);obtain⟨rfl,e,F,f,t⟩:=j;have Hk:=d _ F _ e f t;rw[C]at Hk;refine Nx ?_;have apU:(vW l).length<=6000008:=by rw[<-C,zad];simp;omega
 obtain⟨N,g,p,d⟩:=Hk.bG At2;refine aO (CQ g oM) rfl rfl (λM wl j=>?_);obtain⟨rfl,e,F,f,t⟩:=j;have Hl:=d _ F _ e f t;refine V2 ?_;exact⟨by rw[y];rfl,Hl.au⟩
end
end
variable {P:Program} {r:Option Nat} {n:Nat} {ops:AO} {Q:Post} {rest:LO} {σ:St} {w w0:Wd} {S:NP} {rs:List HP} {ty:Td} {pos:String} {after:Array Edge} {l:L8}
def abI {s t e:Td} [F:mD P s] [G:dR P t e] [D:nO P e .u8] (H:Sep w0 S rs w) (J:evF σ x=str l:=by exact rfl) (C:Nat.blt d n=true:=by exact rfl)
    (h: ∀b c o w',(∀g:Wd,g.heap[b]? =some o->iU g (some ⟨b,0,none⟩) l.length 1 (l.map λu=>Value.int .u8 u.toNat))->l.length<=c->Sep w0 S (obj b o::rs) w'->FL P r n ops Q rest (upd σ d (.slice (some ⟨b,0,none⟩) l.length c)) w'):
    FL P r n ops Q (⟨some d,.convert s t x,ty,pos,after,none⟩::rest) σ w:=by
  have f:=run_bytes_of_string (P:=P) w s t e ⟨l.toArray⟩ F.und G.und D.und;rw[size_mk]at f;have i:aS noB w w.drew:=aS.drew w;refine eu (v:=.slice (some ⟨w.heap.size,0,none⟩) l.length (grownCap w l.length 0 e)) (w':=w.drew.alloc (.cells (bytesRow ⟨l.toArray⟩ (grownCap w l.length 0 e)) e ((bytesRow ⟨l.toArray⟩ (grownCap w l.length 0 e)).size,(bytesRow ⟨l.toArray⟩ (grownCap w l.length 0 e)).size+1))) (λ_ _ _ _=>?_) C (h _ _ _ _ (λg m=>?_) (grownCap_ge w l.length 0 e) ((H.aK i).alloc _))
  . simp only[execOp,J,str,zbj,f,zar,zbl]
  refine⟨sM,λ_=>⟨_,rfl,λj u q=>?_⟩⟩;rw[Addr.add_lit,zde];have E:=(zba.1 q).1
  have A:g.cell? ⟨w.heap.size,j,none⟩=(bytesRow ⟨l.toArray⟩ (grownCap w l.length 0 e))[j]? :=by
    unfold World.cell?;have p:g.heap[w.heap.size]? =_:=m;simp only[p];rfl
  rw[A];unfold bytesRow;rw[zfw (by simpa using E)];simpa using q
section
attribute [local irreducible] FW FL FG FGn jX lg gD l7 Qfn ah
structure gK (w:Wd):Prop where
 utf:nQ w
 pow:Lib.TabIs Tryz.prog w "internal/strconv.uint64pow10" .u64 Lib.pow10Tab
 syn: ∃tp p,w.var? Tryz.prog "strconv.ErrSyntax" =some #[.iface tp p]
 ran: ∃tp p,w.var? Tryz.prog "strconv.ErrRange" =some #[.iface tp p]
 len: ∃m,w.cell? ⟨0,0,none⟩=some (.int .i64 m)
def LQ {w':Wd} {n:String} {cs:Array Value} (e:aS noB w w') (h:w.var? P n=some cs):w'.var? P n=some cs:=by
 unfold World.var? at h ⊢;cases hg:P.globalNamed n with
 | none=>rw[hg]at h;cases h
 | some g=>
  rw[hg]at h;simp only[zeb]at h |-
  have d:g<w.heap.size:=by
   refine Classical.byContradiction λf=>?_;rw[zdo oM]at h;cases h
  rw[e.block g d id];exact h
def abJ {w':Wd} {o:Nat} (e:aS noB w w') (h:w.cell? ⟨b,o,none⟩=some v):w'.cell? ⟨b,o,none⟩=some v:=by
 have d:b<w.heap.size:=by
  refine Classical.byContradiction λf=>?_;unfold World.cell? at h;rw[zdo dO]at h;cases h
 unfold World.cell? at h ⊢;rw[e.block b d id];exact h
def gK.aK {w w':Wd} (h:gK w) (d:aS noB w w'):gK w':=
 ⟨h.utf.aK d,LQ d h.pow,h.syn.imp λ_ h=>h.imp λ_ h=>LQ d h,h.ran.imp λ_ h=>h.imp λ_ h=>LQ d h,h.len.imp λ_ h=>abJ d h⟩
def aez (c:UInt8):LV:=[B c]
instance:jl aez 1:=⟨λ_=>rfl⟩
def LU: ∀l:L8,l.flatMap aez=l.map B
 | []=>rfl
 | c::l=>by rw[zbi,LU l];rfl
def U1 {A:OA} {l:L8} (h:iU w A l.length 1 (l.map λu=>Value.int .u8 u.toNat)):Rd w A aez 1 l:=by
 unfold Rd;rw[LU];exact h
def aau (h:n<16):tY.getD n 0=nU n:=by
 have key: ∀i:Fin 16,tY.getD i.val 0=nU i.val:=dC;exact key ⟨n,h⟩
def ajl {x:Nat} (h:x<256):bits .and .u8 (x:Int) 15=((x%16:Nat):Int):=by
 have key: ∀i:Fin 256,i.val&&& 15=i.val%16:=dC;have:=u8_and_nat x 15 h dC;rw[key ⟨x,h⟩]at this;exact this
section
variable {w:Wd}
def aho (c:aF) (y:c.s.length<=1000000):Rk Tryz.prog 304 [agg (aj c)] w (str (120::zC c.s)):=by
 have H:=Sep.aI w;refine dL Tryz.func304 ?_;refine Sr (bK H (h:=λr Q n z=>?_));refine Az (λb T D P=>?_);replace D:=Sep.ahn D;refine Nx ?_;obtain⟨C,g,o,d⟩:=D.bG At0;refine aO (uZ (news:=[120]) sM g sM) rfl rfl (λK w7 t=>?_);obtain⟨rfl,e,F,j,q⟩:=t;have R:=d _ F _ e j q;refine V2 ?_;refine abI R (h:=?_);intro M Z a wa v S V;refine V2 ?_;refine aM (λi:Nat=>[(3,aC b),(9,.slice (some ⟨M,0,none⟩) c.s.length Z),(10,I c.s.length),(11,I i)]) (λi w'=>i<=c.s.length/\Sep w noB [obj M a,xw b (120::zC (c.s.take i))] w') (λi _=>c.s.length-i) 0 tR ⟨zai _,(V.aJ.aJ).firsts (l:=[_,_])⟩ (λi τ wb k=>?_);obtain⟨hi,u⟩:=k;refine Lp ?_;refine Cz (λY=>?_) (λY=>?_)
 .have p:i<c.s.length:=oM
  obtain⟨x,N⟩:=aN p;have A:=adO p;rw[jP N]at A;have J:=KL (c.s.take i);rw[zah]at J;have E:=x.toNat_lt;refine V0 ?_;refine Vv (ah.fT rfl rfl (U1 (v _ (u.obj At0))) p) (Vv (ah.yh (i:=i) (f:=0) (c:=x) rfl (U1 (v _ (u.obj At0))) N rfl) ?_);refine V2 ?_;refine Vv (ah.El (m:=x.toNat) (s:=4) rfl rfl dC) (Vv (ah.zw (l:=tY) (i:=x.toNat/16) rfl rfl (by show x.toNat/16<16;omega)) ?_);rw[aau oM];obtain⟨C,g,o,d⟩:=u.bG At1;refine aO (uw _ g kN) rfl rfl (λK wc t=>?_);obtain⟨rfl,e,F,j,q⟩:=t;have W:=d _ F _ e j q;refine V1 ?_;refine Vv (ah.Ej (c:=((x.toNat%16:Nat):Int)) rfl rfl (ajl E)) (Vv (ah.zw (l:=tY) (i:=x.toNat%16) rfl rfl (by show x.toNat%16<16;omega)) ?_);rw[aau oM];obtain⟨C,g,o,d⟩:=W.bG At1;refine aO (uw _ g kN) rfl rfl (λK wd t=>?_);obtain⟨rfl,e,F,j,q⟩:=t;have L:=d _ F _ e j q;rw[show(120::zC (c.s.take i))++[nU (x.toNat/16)]++[nU (x.toNat%16)]=120::zC (c.s.take (i+1))from by rw[A];simp]at L;refine V2 ?_;exact ak (i+1) tR ⟨oM,L⟩ oM
 have G:i=c.s.length:=oM;refine V0 ?_;have O:=KL c.s;rw[G,zbo]at u;obtain⟨C,g,o,d⟩:=u.bG At1;refine aO (CQ g kN) rfl rfl (λK we t=>?_);obtain⟨rfl,e,F,j,q⟩:=t;have X:=d _ F _ e j q;refine V1 ?_;exact⟨rfl,X.au⟩
end
end
end Go.Proofs.Mw
