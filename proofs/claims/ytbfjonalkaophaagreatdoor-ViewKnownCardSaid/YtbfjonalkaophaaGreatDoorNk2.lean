/-
 Rules of the walk for memory:variables,rows behind slices,append,make. Nothing of a given program stands here.
-/
import Derived.Test.YtbfjonalkaophaaGreatDoorNk1
import Derived.Maps.AppendAt
set_option linter.all false
namespace Go.Proofs.Mw
open Go.RowKit
structure iU (w:Wd) (A:OA) (n s:Nat) (xs:LV):Prop where
 len:xs.length=n*s
 at_:0<n->∃ad,A=some ad/\∀(j:Nat) u,xs[j]? =some u->w.cell? (ad.add j)=some u
def add_add (a:Addr) (i j:Nat):(a.add i).add j=a.add (i+j):=by
 unfold Addr.add
 by_cases hi:i=0<;>by_cases h:j=0<;>simp[hi,h,Nat.add_assoc]
def add_block (a:Addr) (n:Nat):(a.add n).block=a.block:=by unfold Addr.add;split<;>rfl
variable {a:Addr} {v:Value}
def aaH {w:Wd} (h:w.cell? a=some v):a.block<w.heap.size:=block_lt_of_cell h
def aS.cell {S:NP} {w w':Wd} (h:aS S w w') {v:Value} (k:w.cell? a=some v) (b: ¬S a.block):w'.cell? a=some v:=
 (World.cell?_of_block (h.block _ (aaH k) b)).trans k
variable {w w':Wd} {A:OA} {n s:Nat} {xs:LV}
def iU.nil (w:Wd) (A:OA) (s:Nat):iU w A 0 s []:=⟨sM,λh=>zas h (Nat.lt_irrefl 0)⟩
def Off (A:OA) (n:Nat) (F:NP):Prop:=0<n->∀ad,A=some ad->¬F ad.block
def iU.ak6 {S:NP} (h:iU w A n s xs) (f:aS S w w') (k:Off A n S):iU w' A n s xs:=
 ⟨h.len,λc=>by
  obtain⟨a,b,d⟩:=h.at_ c;exact⟨a,b,λj u e=>f.cell (d j u e) (by rw[add_block];exact k c a b)⟩⟩
def iU.aK (h:iU w A n s xs) (k:aS noB w w'):iU w' A n s xs:=h.ak6 k λ_ _ _=>id
def Off.of {S F:NP} (l:Off A n S) (h:iU w A n s xs) (j: ∀b,F b->S b\/w.heap.size<=b) (q:0<s):Off A n F:=λc f e m=>by
 obtain⟨g,k,i⟩:=h.at_ c;rw[e]at k;injection k with k
 subst k;have p:0<xs.length:=by rw[h.len];exact Nat.mul_pos c q
 have o:=i 0 xs[0] (by simp[p]);have a:=aaH o;rw[add_block]at a
 rcases j _ m with d | d
 .exact l c f e d
 omega
def iU.cut (h:iU w A n s xs) {k cap:Nat} (e:k<=n) (d:n<=cap):
    iU w (if cap=k then A else A.map (·.add (k*s))) (n-k) s (xs.drop (k*s)):=by
  refine⟨by rw[zbm,h.len,Nat.sub_mul],λf=>?_⟩;obtain⟨b,rfl,a⟩:=h.at_ oM;rw[zab oM];exact⟨b.add (k*s),rfl,λj u c=>by rw[add_add];exact a _ u (by rw[<-c,zco])⟩
def iU.take (h:iU w A n s xs) {k:Nat} (e:k<=n):iU w A k s (xs.take (k*s)):=by
 refine⟨by rw[zah,h.len];exact zcf (zfe s e),λf=>?_⟩;obtain⟨c,d,a⟩:=h.at_ oM;refine⟨c,d,λj u b=>a j u ?_⟩;rw[zcq]at b
 split at b
 .exact b
 cases b
def vE (E s:Nat) (v:Value) (n:Nat) (xs:LV):HP where
 ok F w:=w.ownsRow 0 E s v n xs/\∀b,F b↔v.ownBlock=some b
 loc _ h XL:=by
  obtain⟨⟨h1,h2⟩,hF⟩:=XL;refine⟨⟨h1,?_⟩,hF⟩
  rcases h2 with h2 | ⟨g,cap,cur,hv,hg,hh,r⟩
  .exact .inl h2
  refine .inr ⟨g,cap,cur,hv,hg,?_,r⟩;rw[h g ((hF g).2 (by rw[hv];rfl))];exact hh
 low XL b hb:=(XL.1.lt b ((XL.2 b).1 hb)).2
variable {c:Nat} {cs:LV}
def FC {B E:Nat} (h:w.ownsRow B E s (.slice A n c) n xs):iU w A n s xs:=by
 refine⟨h.1,λf=>?_⟩
 rcases h.2 with⟨k,d⟩ | ⟨g,cap,a,k,_,e,r⟩
 .omega
 injection k with b
 subst b;exact⟨_,rfl,h.cells (g:=g) rfl⟩
section
variable {w0 w w':Wd} {S:NP} {rs:List HP} {put:HP->List HP}
def Sep.rowAt {E:Nat} (h:Sep w0 S rs w) (k:At rs (vE E s (.slice A n c) n xs) put):iU w A n s xs:=by
 obtain⟨F,a,_,_⟩:=h.bG k;exact FC a.1
def Sep.xM {E:Nat} (h:Sep w0 S rs w) (k:At rs (vE E s v n xs) put): ∃A c,v=.slice A n c/\n<=c/\xs.length=n*s/\(A=none->n=0/\c=0):=by
 obtain⟨F,b,_,_⟩:=h.bG k
 rcases b.1.2 with⟨d,f⟩ | ⟨g,cap,i,d,_,j,a,r⟩
 .exact⟨none,0,by rw[d,f],oM,b.1.1,λ_=>⟨f,rfl⟩⟩
 exact⟨_,cap,d,a,b.1.1,λe=>by cases e⟩
def Sep.gQ (h:Sep w0 S rs w) (E s:Nat):Sep w0 S (vE E s (.slice none 0 0) 0 []::rs) w:=
 h.new (F':=λ_=>False) (aS.refl _ _) ⟨World.ownsRow_nil _ _ _ _,λb=>by simp[Value.ownBlock]⟩ λ_ k=>k.elim
def Sep.nC {b E s n:Nat} (h:Sep w0 S rs w) (k:At rs (blk b cs E) put) (a:cs.length=n*s) (d:n<=maxLen):Sep w0 S (put (vE E s (.slice (some ⟨b,0,none⟩) n n) n cs)) w:=
 h.imp k λF c=>⟨⟨a,.inr ⟨b,n,cs.toArray,rfl,zai _,c.2,zbk _,d,by simpa using a,by rw[<-a];simp⟩⟩,λx=>by rw[c.1 x];simp[Value.ownBlock,eq_comm]⟩
def Sep.CY {E q:Nat} {p:Value} {x:LV} (h:Sep w0 S rs w) (g:At rs (vE E s v n xs) put) (c:w.grownBy w' v.ownBlock) (d:w'.ownsRow 0 E s p q x) (l:p.ownBlock=v.ownBlock\/p.ownBlock=some w.heap.size\/p.ownBlock=none):Sep w0 S (put (vE E s p q x)) w':=by
 obtain⟨F,i,o,f⟩:=h.bG g;refine f w' (λb=>p.ownBlock=some b) _ ⟨c.os,c.tape,c.output,c.size,λk m j=>c.block k m λe=>j ((i.2 k).2 e.symm)⟩ ⟨d,λb=>Iff.rfl⟩ λb a=>?_
 rcases l with e | e | e
 .exact .inl ((i.2 b).2 (by rw[<-e];exact a))
 .rw[e]at a;injection a with a;exact .inr oM
 rw[e]at a;cases a
end

def run_append_nil {P:Program} (base t ty e:Nat) (i:TypeInfo) (size:Nat) (a:P.underlying t=some (.slice e)) (hi:P.info? e=some i)
    (v:Value) (n:Nat) (xs:LV) (h:w.ownsRow base e size v n xs) (A:OA) (d:A=none) (c:Nat):(Builtin.append_ #[t,t] ty #[v,.slice A 0 c]).run P w=.ok v w:=by
  subst d
  rcases h.2 with⟨rfl,rfl⟩ | ⟨g,cap,b,rfl,_,_,k,_⟩
  . simp[Builtin.append_,run_underlying a,sizeOf,typeInfo,hi,Builtin.lenOf,Builtin.firstCells]
  simp[Builtin.append_,run_underlying a,sizeOf,typeInfo,hi,Builtin.lenOf,Builtin.firstCells,k,storeCells]
variable {E T e t:Td} {b bytes d:Nat} {x y:Od} {z:Value}
def vF {P:Program} (t ty e:Nat) [J:dR P t e] {size:Nat} [T:Cells P e size bytes] {z:Value} [W:Zero P e z] (F:0<size) (G:z.cells.size=size)
    (v:Value) (n:Nat) (xs:LV) (a:w.ownsRow 0 e size v n xs) (A:OA) (m c:Nat) (k:LV) (p:iU w A m size k) (M: ∀u∈k,u.oneCell'=true)
    (C:n+m<=maxLen) (b:(n+m)*bytes<=140737488355328):
    ∃o w',(Builtin.append_ #[t,t] ty #[v,.slice A m c]).run P w=.ok o w'/\w'.ownsRow 0 e size o (n+m) (xs++k)/\w.grownBy w' v.ownBlock/\
      (o.ownBlock=v.ownBlock\/o.ownBlock=some w.heap.size):=by
  obtain⟨i,hi,g⟩:=zbb.1 T.size;simp only[Prod.mk.injEq]at g
  have l:i.zero=some z:=by
    have:=W.run w;simp[zeroValue,typeInfo,hi]at this;cases hq:i.zero with
    | none=>simp[hq]at this
    | some u=>simp[hq]at this;rw[this]
  rcases A with _ | H
  . have V:m=0:=by
      rcases zeh m with f | f
      . exact f
      obtain⟨H,h,_⟩:=p.at_ f;cases h
    subst V;have E:k=[]:=zbf (by simpa using p.len);subst E;exact⟨v,w,run_append_nil 0 t ty e i size J.und hi v n xs a none rfl c,by simpa using a,World.grownBy.refl w _,.inl rfl⟩
  have d: ∀j u,k[j]? =some u->w.cell? (H.add j)=some u:=by
    intro j u K
    rcases zeh m with f | f
    . subst f
      have E:k=[]:=zbf (by simpa using p.len);subst E;simp at K
    obtain⟨L,h,D⟩:=p.at_ f;injection h with h
    subst h;exact D j u K
  obtain⟨o,w',q,N,O,_,R⟩:=run_append_own_at (P:=P) w 0 t ty e i z size bytes J.und hi l g.1 g.2 G F v n xs a H m c k p.len d M C b (zai _);exact⟨o,w',q,N,O,R⟩

section rules
variable {P:Program} {r:Option Nat} {n:Nat} {ops:AO} {Q:Post} {rest:LO} {σ:St} {w w' w0:Wd} {S:NP} {rs:List HP} {put:HP->List HP} {ty:Td} {pos:String} {after:Array Edge}
def ahF (a:evF σ x=v:=by exact eV) (k:Nat.blt d n=true:=by exact rfl) (h:FL P r n ops Q rest (upd σ d v) w):
    FL P r n ops Q (⟨some d,.move x,ty,pos,after,none⟩::rest) σ w:=eu (ah.move a) k h
def acE (a:evF σ x=v:=by exact eV) (k:Nat.blt d n=true:=by exact rfl) (h:FL P r n ops Q rest (upd σ d v) w):
    FL P r n ops Q (⟨some d,.assign x,ty,pos,after,none⟩::rest) σ w:=eu (ah.assign a) k h
def afj {z:Od} (k:evF σ z=.bool false:=by exact rfl) (b:evF σ y=v:=by exact eV) (a:Nat.blt d n=true:=by exact rfl) (h:FL P r n ops Q rest (upd σ d v) w):
    FL P r n ops Q (⟨some d,.pick z x y,ty,pos,after,none⟩::rest) σ w:=eu (ah.aiK k b) a h
def Lb {o:Nat} [OneCell P T] (H:Sep w0 S rs w) (c:evF σ x=.pointer (some ⟨b,o,none⟩):=by exact rfl)
    (k:At rs (blk b cs E) put:=by exact aT) (hv:cs[o]? =some v:=by exact rfl) (a:Nat.blt d n=true:=by exact rfl) (h:FL P r n ops Q rest (upd σ d v) w):
    FL P r n ops Q (⟨some d,.load T x,ty,pos,after,none⟩::rest) σ w:=eu (ah.nP c (H.obj k) hv) a h
def FD {d b o k:Nat} [Agg P T k] {us:LV} (H:Sep w0 S rs w) (hx:evF σ x=.pointer (some ⟨b,o,none⟩):=by exact rfl)
    (hat:At rs (blk b cs E) put:=by exact aT) (hu:(cs.drop o).take k=us) (hk:us.length=k) (a:Nat.blt d n=true:=by exact rfl) (h:FL P r n ops Q rest (upd σ d (.agg us.toArray)) w):
    FL P r n ops Q (⟨some d,.load T x,ty,pos,after,none⟩::rest) σ w:=eu (ah.JZ hx (H.obj hat) hu hk) a h
def afk [k:OneCell P T] (b:w.cell? a=some v) (e:evF σ x=.pointer (some a):=by exact rfl) (c:Nat.blt d n=true:=by exact rfl) (h:FL P r n ops Q rest (upd σ d v) w):
    FL P r n ops Q (⟨some d,.load T x,ty,pos,after,none⟩::rest) σ w:=
  eu (w':=w) (λ_ _ _ _=>by simp[execOp,e,Instr.loadAt,Instr.sureAddr,loadVar,k.agg,b]) c h
def acF {k:Nat} [b:Agg P T k] {us:LV} (c: ∀j u,us[j]? =some u->w.cell? (a.add j)=some u) (f:us.length=k) (g:evF σ x=.pointer (some a):=by exact rfl) (e:Nat.blt d n=true:=by exact rfl) (h:FL P r n ops Q rest (upd σ d (.agg us.toArray)) w):
    FL P r n ops Q (⟨some d,.load T x,ty,pos,after,none⟩::rest) σ w:=
  eu (w':=w) (λ_ _ _ _=>by have:=run_loadCells_list (P:=P) w a us c;rw[f]at this;simp[execOp,g,Instr.loadAt,Instr.sureAddr,loadVar,b.agg,b.size,this]) e h
def Ae {o:Nat} {v:Value} (c:w.heap[b]? =some (.cells cs.toArray E (0,0))) (h:o<cs.length):
    aS (λx=>x=b) w (w.setCell ⟨b,o,none⟩ v)/\(w.setCell ⟨b,o,none⟩ v).heap[b]? =some (.cells (cs.set o v).toArray E (0,0)):=by
  refine⟨⟨rfl,rfl,rfl,by simp[World.setCell],λk d a=>Below.heap_setCell w _ v k a⟩,?_⟩;simp only[World.setCell,zcw,if_true,c,zdk];simp
def sO {o:Nat} [i:OneCell P T] {cs cs':LV} {v:Value} (H:Sep w0 S rs w) (l:evF σ x=.pointer (some ⟨b,o,none⟩):=by exact rfl)
    (hy:evF σ y=v:=by exact eV) (g:v.oneCell'=true:=by exact rfl)
    (k:At rs (blk b cs E) put:=by exact aT) (ho:Nat.blt o cs.length=true:=by exact rfl)
    (hs:cs.set o v=cs':=by first | (simp only[zcz,zfr];rfl) | exact rfl) (h: ∀w',Sep w0 S (put (blk b cs' E)) w'->FL P r n ops Q rest σ w'):
    FL P r n ops Q (⟨none,.store T x y,ty,pos,after,none⟩::rest) σ w:=by
  have a:o<cs.length:=zbd ho;have c:=H.obj k;obtain⟨j,e⟩:=Ae (v:=v) c a;refine Ee (w':=w.setCell ⟨b,o,none⟩ v) (λ_ _ _ _=>?_) rfl (h _ (by subst hs;exact H.setObj k j e))
  have f:(store (⟨b,o,none⟩:Addr) v).run P w=.ok () (w.setCell ⟨b,o,none⟩ v):=by
    rw[run_store P w _ v _ g,lu c,zaa a];simp[World.frozen?,c]
  have d:v.cells= #[v]:=by cases v<;>first | rfl | cases g
  simp[execOp,l,hy,Instr.storeAt,Instr.sureAddr,storeVar,i.size,d,storeCells,f,Addr.add_zero']
def Qb {o k:Nat} [g:Agg P T k] {cs us cs':LV} (H:Sep w0 S rs w) (q:evF σ x=.pointer (some ⟨b,o,none⟩):=by exact rfl)
    (t:evF σ y=.agg us.toArray:=by exact rfl) (f:us.length=k) (p: ∀u∈us,u.oneCell'=true)
    (c:At rs (blk b cs E) put:=by exact aT) (l:o+us.length<=cs.length)
    (m:cs.take o++us++cs.drop (o+us.length)=cs') (h: ∀w',Sep w0 S (put (blk b cs' E)) w'->FL P r n ops Q rest σ w'):
    FL P r n ops Q (⟨none,.store T x y,ty,pos,after,none⟩::rest) σ w:=by
  have d:=H.obj c;have a:=run_storeCells_at P b o E us 0 cs.toArray w d (by simpa using l) p
  refine Ee (w':=w.setRow b (cs.take o++us++cs.drop (o+us.length)).toArray) (λ_ _ _ _=>?_) rfl (h _ (by
    subst m;refine H.setObj c ⟨rfl,rfl,rfl,sM,λj v i=>?_⟩ ?_
    . simp only[World.setRow,zcw];rw[zab (λe=>i e.symm)]
    simp only[World.setRow,zcw,if_true,d,zdk]))
  simp only[zfi]at a;simp[execOp,q,t,Instr.storeAt,Instr.sureAddr,storeVar,g.size,Value.cells,f];simp[f]at a;rw[a];simp
def MR [c:Zero P T z] {cs:LV} (H:Sep w0 S rs w) (k:z.cells=cs.toArray:=by exact rfl) (a:Nat.blt d n=true:=by exact rfl)
    (h: ∀b w',Sep w0 S (blk b cs T::rs) w'->aS noB w w'->FL P r n ops Q rest (upd σ d (.pointer (some ⟨b,0,none⟩))) w'):
    FL P r n ops Q (⟨some d,.alloc T,ty,pos,after,none⟩::rest) σ w:=
  eu (w':=w.alloc (.cells cs.toArray T)) (v:=.pointer (some ⟨w.heap.size,0,none⟩)) (λ_ _ _ _=>by simp[execOp,Instr.alloc,c.run,newVar,newRow,k]) a (h _ _ (H.alloc _) (aS.alloc _ _))
def bK {cs:LV} (H:Sep w0 S rs w) (c:evF σ x=v:=by exact eV) (k:v.cells=cs.toArray:=by exact rfl) (a:Nat.blt d n=true:=by exact rfl)
    (h: ∀b w',Sep w0 S (blk b cs T::rs) w'->aS noB w w'->FL P r n ops Q rest (upd σ d (.pointer (some ⟨b,0,none⟩))) w'):
    FL P r n ops Q (⟨some d,.box T x,ty,pos,after,none⟩::rest) σ w:=
  eu (w':=w.alloc (.cells cs.toArray T)) (v:=.pointer (some ⟨w.heap.size,0,none⟩)) (λ_ _ _ _=>by simp[execOp,Instr.box,c,newVar,newRow,k]) a (h _ _ (H.alloc _) (aS.alloc _ _))
def vG (H:Sep w0 S rs w) (k:Nat.blt d n=true:=by exact rfl)
    (h: ∀b w',Sep w0 S (obj b (.map #[] 0)::rs) w'->aS noB w w'->FL P r n ops Q rest (upd σ d (.map (some b))) w'):
    FL P r n ops Q (⟨some d,.makeMap T none,ty,pos,after,none⟩::rest) σ w:=
  eu (w':=w.alloc (.map #[] 0)) (v:=.map (some w.heap.size)) (λ_ _ _ _=>by simp[execOp,Instr.makeMap]) k (h _ _ (H.alloc _) (aS.alloc _ _))
def Wv {f:FuncId} {xs:List Od} {p:Array Td} {l:LV} (H:Sep w0 S rs w) (a:Rk P f l w v) (c:xs.map (evF σ)=l:=by exact rfl) (b:Nat.blt d n=true:=by exact rfl)
    (h: ∀w',Sep w0 S rs w'->aS noB w w'->FL P r n ops Q rest (upd σ d v) w') (g:qB P f:=by exact eT):
    FL P r n ops Q (⟨some d,.call {callee:=.value (.func f),args:=xs.toArray,argTypes:=p},ty,pos,after,none⟩::rest) σ w:=
  aO a c b λi w' ⟨e,k⟩=>by subst e;exact h w' (H.aK k) k
def Qc [K:dR P t e] {size:Nat} [J:Cells P e size bytes] [L:Zero P e z] {v:Value} {k m c:Nat} {xs news:LV} {A:OA}
    (H:Sep w0 S rs w) (E:evF σ x=v) (G:evF σ y=.slice A m c) (a:At rs (vE e size v k xs) put) (D:iU w A m size news) (l: ∀u∈news,u.oneCell'=true)
    (i:0<size:=by decide) (j:z.cells.size=size:=by exact rfl) (h63:k+m<=maxLen) (hbytes:(k+m)*bytes<=140737488355328) (p:Nat.blt d n=true:=by exact rfl)
    (h: ∀g w',Sep w0 S (put (vE e size g (k+m) (xs++news))) w'->FL P r n ops Q rest (upd σ d g) w'):
    FL P r n ops Q (⟨some d,.call {callee:=.builtin .append,args:= #[x,y],argTypes:= #[t,t]},ty,pos,after,none⟩::rest) σ w:=by
  obtain⟨F,C,_,_⟩:=H.bG a;obtain⟨g,w',f,b,q,o⟩:=vF (P:=P) (ty:=ty) t e i j v k xs C.1 A m c news D l h63 hbytes;refine eu (v:=g) (w':=w') (λ_ _ _ _=>?_) p (h g w' (H.CY a q b (by rcases o with e | e<;>simp[e])));simp only[execOp,resolve,invoke,builtin,zbj,zbl,zar,zch,zbc,zcn,E,G,f]
end rules

variable {k:IntKind} {m:Nat}
section gives
variable {P:Program} {ρ:Od->Value} {ty:Td} {w w':Wd} {x y z:Od}
def ah.afl [h:dR P t e] (k:ρ x=.slice A m c):ah P ρ (.call {callee:=.builtin .len,args:= #[x],argTypes:= #[t]}) ty w (.int .i64 m) w:=λ_ _ _ _=>by
 simp[execOp,resolve,invoke,builtin,k,Builtin.len_,run_underlying h.und,goInt]
def ah.lenStr {t:Td} [h:mD P t] {s:ByteArray} (k:ρ x=.string s):ah P ρ (.call {callee:=.builtin .len,args:= #[x],argTypes:= #[t]}) ty w (.int .i64 s.size) w:=λ_ _ _ _=>by
 simp[execOp,resolve,invoke,builtin,k,Builtin.len_,run_underlying h.und,goInt]
def ah.min {a b:Int} {t:Array Td} (h:ρ x=.int k a) (c:ρ y=.int k b):ah P ρ (.call {callee:=.builtin .min,args:= #[x,y],argTypes:=t}) ty w (.int k (min a b)) w:=λ_ _ _ _=>by
 have:=run_min_int2 (P:=P) w t ty k k a b;simp only[execOp,resolve,invoke,builtin,zbj,zbl,zar,zch,zbc,zcn,h,c,this];rw[Int.min_def]
 split<;>split<;>first | rfl | (congr 3;omega)
def ah.max {a b:Int} {t:Array Td} (h:ρ x=.int k a) (c:ρ y=.int k b):ah P ρ (.call {callee:=.builtin .max,args:= #[x,y],argTypes:=t}) ty w (.int k (max a b)) w:=λ_ _ _ _=>by
 have:=run_max_int2 (P:=P) w t ty k k a b;simp only[execOp,resolve,invoke,builtin,zbj,zbl,zar,zch,zbc,zcn,h,c,this];rw[Int.max_def]
 split<;>split<;>first | rfl | (congr 3;omega)
def ah.sliceTo [j:dR P t e] {size:Nat} [d:Cells P e size bytes] {m c h:Nat} (l:ρ x=.slice A m c) (o:ρ y=.int k h) (f:h<=c):ah P ρ (.slice t x none (some y) none) ty w (.slice A h c) w:=λ_ _ _ _=>by
 obtain⟨i,hi,g⟩:=zbb.1 d.size;have a:(0:Int)<=(h:Int)/\(h:Int)<=(c:Int):=oM;have b:A.map (λx:Addr=>x.add 0)=A:=by cases A<;>simp[Addr.add_zero']
 simp[execOp,l,o,Instr.sliceAt,run_underlying j.und,Instr.slice,Instr.sliceBounds,Instr.sliceBound,asIntOf,a,sizeOf,typeInfo,hi,b];omega
def ah.sliceFrom {t e:Td} [f:dR P t e] {size:Nat} [b:Cells P e size bytes] {A:OA} {m c l:Nat} (g:ρ x=.slice A m c) (j:ρ y=.int k l) (d:l<=m):ah P ρ (.slice t x (some y) none none) ty w (.slice (if c=l then A else A.map (·.add (l*size))) (m-l) (c-l)) w:=λ_ _ _ _=>by
 obtain⟨i,hi,h⟩:=zbb.1 b.size;simp only[Prod.mk.injEq]at h;have a:(0:Int)<=(l:Int)/\(l:Int)<=(m:Int):=oM;simp[execOp,g,j,Instr.sliceAt,run_underlying f.und,Instr.slice,Instr.sliceBounds,Instr.sliceBound,asIntOf,a,sizeOf,typeInfo,hi,h.1];omega
def ah.acG [p:dR P t e] {size:Nat} [o:Cells P e size bytes] {l h:Nat} {j:IntKind} (q:ρ x=.slice A m c) (u:ρ y=.int k l) (v:ρ z=.int j h) (d:l<=h) (a:h<=c):ah P ρ (.slice t x (some y) (some z) none) ty w (.slice (if c=l then A else A.map (·.add (l*size))) (h-l) (c-l)) w:=λ_ _ _ _=>by
 obtain⟨i,hi,b⟩:=zbb.1 o.size;simp only[Prod.mk.injEq]at b;have f:(0:Int)<=(l:Int)/\(l:Int)<=(h:Int):=oM;have g:(0:Int)<=(h:Int)/\(h:Int)<=(c:Int):=oM;simp[execOp,q,u,v,Instr.sliceAt,run_underlying p.und,Instr.slice,Instr.sliceBounds,Instr.sliceBound,asIntOf,f,g,sizeOf,typeInfo,hi,b.1,d,a]
def ah.afm {m:Td} [b:zI P t m e] {size:Nat} [h:Cells P e size bytes] (c:ρ x=.pointer (some a)):ah P ρ (.slice t x none none none) ty w (.slice (some a) m m) w:=λ_ _ _ _=>by
 obtain⟨i,hi,k⟩:=zbb.1 h.size;simp[execOp,c,Instr.sliceAt,run_underlying b.und,Instr.sliceBounds,Instr.sureAddr,sizeOf,typeInfo,hi];intro _;simp[Addr.add_zero']
def ah.idx [g:dR P t e] {size:Nat} [d:Cells P e size bytes] {p:Addr} {m c i:Nat} (l:ρ x=.slice (some p) m c) (o:ρ y=.int k i) (a:i<m):ah P ρ (.indexAddr t x y) ty w (.pointer (some (p.add (i*size)))) w:=λ_ _ _ _=>by
 obtain⟨j,f,h⟩:=zbb.1 d.size;simp only[Prod.mk.injEq]at h;have b:(0:Int)<=(i:Int)/\(i:Int)<(m:Int):=oM;simp[execOp,l,o,Instr.indexAt,run_underlying g.und,asIntOf,b,sizeOf,typeInfo,f,h.1,a]
def ah.BD {t e m:Td} [f:zI P t m e] {size:Nat} [c:Cells P e size bytes] {l:Addr} {i:Nat} (hx:ρ x=.pointer (some l)) (g:ρ y=.int k i) (a:i<m):ah P ρ (.indexAddr t x y) ty w (.pointer (some (l.add (i*size)))) w:=λ_ _ _ _=>by
 obtain⟨j,d,h⟩:=zbb.1 c.size;simp only[Prod.mk.injEq]at h;have b:(0:Int)<=(i:Int)/\(i:Int)<(m:Int):=oM;simp[execOp,hx,g,Instr.indexAt,run_underlying f.und,asIntOf,Instr.sureAddr,b,sizeOf,typeInfo,d,h.1,a]
end gives
section
variable (ops:AO)
def nS (i:Nat):List Nat:=match ops[i]? with
 | some o=>o.after.toList.filterMap λe=>if Region.binds .any e then some e.on else none
 | none=>[]
def jL (i:Nat):Option Nat:=(ops[i]?).bind (λo:Oper=>o.dst)
def looks (i:Nat):List Nat:=match ops[i]? with
 | some o=>o.looksAt ops
 | none=>[]
def Le:Op->Bool
 | .select .. =>false
 | _=>true
def lU (lv:List Bool) (ids:List Nat) (i:Nat):Bool:=
 !(lv.getD i true)&&(nS ops i).all (λe=>lv.getD e false)&&(match jL ops i with | some d=> !(looks ops i).contains d | none=>true)&&
 ids.all λk=>(match jL ops i with | some d=>jL ops k !=some d&& !(looks ops k).contains d | none=>true)&&
  (match jL ops k with | some d=> !(looks ops i).contains d||(nS ops i).contains k | none=>true)
def vH (lv:List Bool):List Nat:=(List.range ops.size).filter λi=> !(lv.getD i true)&&(nS ops i).all λe=>lv.getD e false
def gy (lv:List Bool) (ids:List Nat) (e:Nat):Bool:=
 vH ops lv==[e]&&
 ids.all λk=>(nS ops e).contains k||((match jL ops e with | some d=>jL ops k !=some d&& !(looks ops k).contains d | none=>true)&&
  (match jL ops k with | some d=> !(looks ops e).contains d | none=>true))
def Je (S:List Nat) (k:Nat):List Nat:=if S.contains k then S++(nS ops k).filter (λj=> !(S.contains j))else S
def above (i:Nat):List Nat:=(List.range ops.size).reverse.foldl (Je ops) (nS ops i)
end

def BF (P:Program) (ops:AO) (σ:St) (w:Wd) (o:Oper) (v:Value):Prop:=
 (Region.wanted o (dG ops σ)=true/\(execOp (evF σ) o).run P w=.ok (.value v) w)\/(Region.wanted o (dG ops σ)=false/\v=undef)
def eY (n:Nat) (ops:AO):Bool:=ops.all λo=>OY n o.dst&&Le o.op

structure Real (P:Program) (n:Nat) (ops:AO) (lv:List Bool) (pd:LNB) (σ:St) (w:Wd) (sub:LNB) (lr:Array Bool) (a:Act):Prop where
 mem: ∀p∈sub,p∈pd
 nd:(sub.map (·.1)).Nodup
 pw:sub.Pairwise λx y=>x.1∉nS ops y.1
 pr: ∀p∈sub,∀e∈nS ops p.1,lv.getD e false=true/\e≠p.1
 lvl: ∀p∈sub,lv.getD p.1 false=true
 lrv: ∀i,i<ops.size->lr.getD i true=(lv.getD i true&& !((sub.map (·.1)).contains i))
 sz:lr.size=ops.size
 lsz:lv.length=ops.size
 cl: ∀i,lr.getD i false=true->∀e∈nS ops i,lr.getD e false=true
 rep: ∃σr,Rep n σr a/\σr.ds=σ.ds/\∀x,(∀p∈sub,jL ops p.1≠some x)->σr x=σ x
 yl: ∀p∈sub,∃o v,ops[p.1]? =some o/\(∀d,o.dst=some d->σ d=v)/\∀w',(p.2=true\/w'=w)->BF P ops σ w' o v
 own: ∀p∈sub,∀d,jL ops p.1=some d->d∉looks ops p.1
 apart: ∀p∈sub,∀q∈sub,p.1≠q.1->∀d,jL ops p.1=some d->jL ops q.1≠some d/\(d∈looks ops q.1->p.1∈nS ops q.1)

def left (ops:AO) (lr:Array Bool):Nat:=((List.range ops.size).filter λi=> !(lr.getD i true)).length

def FG (P:Program) (r:Option Nat) (n:Nat) (ops:AO) (Q:Post) (lv:List Bool) (pd:LNB) (σ:St) (w:Wd):Prop:=
 ∀sub lr a,Real P n ops lv pd σ w sub lr a->wpAnyIn (fen r) 0 P .any ops (lift n Q) (left ops lr) lr a w

variable {P:Program} {r:Option Nat} {ops:AO} {Q:Post} {lv:List Bool} {pd:LNB} {σ:St}
variable {o:Oper} {i:Nat}
def Qd {e:Nat} (b:ops[i]? =some o):e∈nS ops i↔∃x∈o.after,Region.binds .any x=true/\x.on=e:=by
 unfold nS;simp only[b,List.mem_filterMap];constructor
 .rintro⟨x,a,h⟩
  split at h
  .rename_i k;injection h with h;exact⟨x,by simpa using a,k,h⟩
  cases h
 rintro⟨x,a,k,h⟩;exact⟨x,by simpa using a,by rw[zac k,h]⟩
variable {j:Nat} {lr:Array Bool}
def y9:j∈Region.ready .any ops lr↔lr.getD j true=false/\j<ops.size/\∀e∈nS ops j,lr.getD e false=true:=by
 rw[mem_ready];constructor
 .rintro⟨a,o,d,h⟩
  refine⟨a,(zdi.1 d).1,λe c=>?_⟩;obtain⟨x,f,b,rfl⟩:=(Qd d).1 c;exact h x f b
 rintro⟨a,k,h⟩;refine⟨a,ops[j],zdz k,λe c b=>h _ ((Qd (zdz k)).2 ⟨e,c,b,rfl⟩)⟩
def Af:j∈vH ops lv↔lv.getD j true=false/\j<ops.size/\∀e∈nS ops j,lv.getD e false=true:=by
 unfold vH;simp only[zca,zeg,zbr,zdm,zaz];constructor
 .rintro⟨h,k,a⟩;exact⟨k,h,a⟩
 rintro⟨h,k,a⟩;exact⟨k,h,a⟩
def afn (hi:i<ops.size) (f:lr.size=ops.size) (h:lr.getD i true=false):left ops lr=left ops (lr.setIfInBounds i true)+1:=by
 unfold left
 have key: ∀m,m<=ops.size->((List.range m).filter λk=> !(lr.getD k true)).length=((List.range m).filter λk=> !((lr.setIfInBounds i true).getD k true)).length+(if i<m then 1 else 0):=by
  intro m
  induction m with
  | zero=>intro _;simp
  | succ m d=>
   intro e;rw[List.range_succ,zel,zel,zad,zad,d oM]
   by_cases b:i=m
   .subst b
    have a:(lr.setIfInBounds i true).getD i true=true:=by
     simp[zbq,zbz]
     split<;>rfl
    simp only[zej,List.filter_nil,h,a];simp
   simp only[zej,List.filter_nil];rw[show(lr.setIfInBounds i true).getD m true=lr.getD m true from getD_set_ne true b]
   by_cases c:i<m
   .have a:i<m+1:=oM
    simp only[c,a,if_true];omega
   have a: ¬i<m+1:=oM;simp only[c,a,if_false];omega
 rw[key ops.size (zbk _),zac hi]
def acH (h:left ops lr=0): ∀i,i<ops.size->lr.getD i true=true:=by
 intro i hi;unfold left at h;have k:=zbf h;rw[List.filter_eq_nil_iff]at k;have:=k i (zeg.2 hi);simpa using this
def nT (h:lr.size=ops.size) (hi:i<ops.size) (b:Bool):lr.getD i b=lr.getD i true:=by
 simp[zbq,h,hi]
def xO (h:lv.length=ops.size) (hi:i<ops.size) (b:Bool):lv.getD i b=lv.getD i true:=by
 simp[zao,h,hi]

def Real.ajx {sub lr a} (h:Real P n ops lv pd σ w sub lr a) (hi:lr.getD i false=true):lv.getD i false=true:=by
 have k:i<ops.size:=by
  rcases zdp i lr.size with b | b
  .rw[<-h.sz];exact b
  simp[zbq,zdo b]at hi
 have:=h.lrv i k;rw[nT h.sz k]at hi;rw[xO h.lsz k];rw[hi]at this
 revert this
 cases lv.getD i true<;>simp
def Real.CZ {sub lr a} (h:Real P n ops lv pd σ w sub lr a) {p:Nat×Bool} (b:p∈sub):lr.getD p.1 false=false:=by
 obtain⟨o,_,c,_⟩:=h.yl p b;have k:=(zdi.1 c).1;rw[nT h.sz k,h.lrv _ k];have :(sub.map (·.1)).contains p.1=true:=zcp.2 (zav.2 ⟨p,b,rfl⟩);rw[this];simp

def uD {f:St} (b:ops[i]? =some o) (h: ∀x∈looks ops i,σ x=f x):Region.wanted o (dG ops σ)=Region.wanted o (dG ops f):=by
 unfold Region.wanted;cases hg:o.guard with
 | none=>rfl
 | some a=>
  obtain⟨g,w⟩:=a
  have :dG ops σ g=dG ops f g:=by
   unfold dG;cases hd:(ops[g]?).bind (λo:Oper=>o.dst)with
   | none=>rfl
   | some d=>
    have :d∈looks ops i:=by
     unfold looks;simp only[b,Oper.looksAt,hg,zbh]
     right
     have k:(ops[g]?).bind (·.dst)=some d:=hd;simp[k]
    simp only[h d this]
  simp only[this]
def Ag {f:St} (a:ops[i]? =some o) (k:Le o.op=true) (h: ∀x∈looks ops i,σ x=f x):execOp (evF σ) o=execOp (evF f) o:=by
 refine execOp_congr o (λcs b c=>by rw[c]at k;cases k) λx d=>?_;cases x with
 | tmp t=>
  refine h t ?_;unfold looks;simp only[a,Oper.looksAt,zbh,List.mem_filterMap];exact .inl ⟨.tmp t,by simpa using d,rfl⟩
 | _=>rfl
def sP (h:eY n ops=true) (k:ops[i]? =some o):OY n o.dst=true/\Le o.op=true:=by
 unfold eY at h;rw[Array.all_eq_true_iff_forall_mem]at h;have:=h o (Array.mem_of_getElem? k);simpa using this
def Jf (k:eY n ops=true) (j d:Nat) (h:(ops[j]?).bind (λo:Oper=>o.dst)=some d):d<n:=by
 cases ho:ops[j]? with
 | none=>simp[ho]at h
 | some o=>
  simp[ho]at h;have:=(sP k ho).1;rw[h]at this;exact zbd this

def Real.pop {sub lr a} (N:eY n ops=true) (h:Real P n ops lv pd σ w sub lr a) {p:Nat×Bool} (T:p∈sub) (u: ∀e∈nS ops p.1,lr.getD e false=true)
    {K:Act->Wd->Prop} {Q:Exit->Act->Wd->Prop}
    (Z: ∀D,Real P n ops lv pd σ w (sub.filter (λq=>q.1 !=p.1)) (lr.setIfInBounds p.1 true) D->K D w):wpOpIn (fen r) 0 P ops Q p.1 K a w:=by
  obtain⟨o,v,F,s,Y⟩:=h.yl p T;have z:=Y w (.inr rfl);have X:=(zdi.1 F).1;obtain⟨M,O⟩:=sP N F;obtain⟨m,G,W,C⟩:=h.rep
  have j: ∀x∈looks ops p.1,m x=σ x:=λx R=>C x λq k E=>by
    by_cases f:q.1=p.1
    . exact h.own p T x (by rw[<-f];exact E) R
    have:=(h.apart q k p T f x E).2 R;have t:=u _ this;rw[h.CZ k]at t;cases t
  have L:jL ops p.1=o.dst:=by unfold jL;simp[F]
  have l: ∀D,Rep n (rY m o.dst v) D->Real P n ops lv pd σ w (sub.filter (λq=>q.1 !=p.1)) (lr.setIfInBounds p.1 true) D:=by
    intro D V;have b: ∀q,q∈sub.filter (λq=>q.1 !=p.1)->q∈sub/\q.1≠p.1:=λq k=>by simpa using k
    refine⟨λq k=>h.mem q (b q k).1,?_,h.pw.filter _,λq k=>h.pr q (b q k).1,λq k=>h.lvl q (b q k).1,λi hi=>?_,by simpa using h.sz,h.lsz,λi hi e S=>?_,⟨_,V,by simpa[EP]using W,λx R=>?_⟩,
      λq k=>h.yl q (b q k).1,λq k=>h.own q (b q k).1,λq k r G=>h.apart q (b q k).1 r (b r G).1⟩
    . exact List.Nodup.sublist (List.Sublist.map _ zec) h.nd
    . by_cases g:p.1=i
      . subst g
        have t:(lr.setIfInBounds p.1 true).getD p.1 true=true:=by
          simp[zbq,zbz]
          split<;>rfl
        have J:lv.getD p.1 true=true:=by
          have:=h.lvl p T;rw[xO h.lsz X]at this;exact this
        rw[t,J];simp
      rw[getD_set_ne true g,h.lrv i hi]
      congr 2
      rw[zdx];simp only[zcp,zav,zca];constructor
      . rintro⟨q,k,rfl⟩;exact⟨q,⟨k,by simpa using λe=>g e.symm⟩,rfl⟩
      rintro⟨q,⟨k,_⟩,rfl⟩;exact⟨q,k,rfl⟩
    . by_cases g:p.1=i
      . subst g;exact getD_set_true (u e S)
      rw[getD_set_ne false g]at hi;exact getD_set_true (h.cl i hi e S)
    cases E:o.dst with
    | none=>
      refine C x λq k c=>?_
      by_cases f:q.1=p.1
      . rw[f,L,E]at c;cases c
      exact R q (by simp[k,f]) c
    | some d=>
      by_cases H:x=d
      . subst H
        show upd m x v x=σ x
        rw[upd_same,s x E]
      show upd m d v x=σ x
      rw[upd_ne _ _ _ _ H];refine C x λq k c=>?_
      by_cases f:q.1=p.1
      . rw[f,L,E]at c;injection c with c;exact H c.symm
      exact R q (by simp[k,f]) c
  unfold wpOpIn;simp only[F]
  have y:Region.wanted o (yielded ops a.tmps)=Region.wanted o (dG ops σ):=by
    rw[G.yielded ops (Jf N)];exact uD F j
  rw[y]
  rcases z with⟨t,J⟩ | ⟨t,J⟩
  . rw[zac t]
    refine⟨λ_ _=>trivial,?_⟩;rw[G.eval,Gy (by rw[Ag F O j];exact J)];exact Z _ (l _ (G.Oo M _))
  rw[zab (by simp[t])];rw[<-J];exact⟨λ_ _=>trivial,Z _ (l _ (G.Oo M _))⟩

def Real.YT {sub lr a} (h:Real P n ops lv pd σ w sub lr a) (b:sub≠[]):Region.ready .any ops lr≠[]:=by
 have m:sub.getLast b∈sub:=List.getLast_mem b;have g:=h.CZ m;obtain⟨o,_,u,_⟩:=h.yl _ m;have f:=(zdi.1 u).1
 have :(sub.getLast b).1∈Region.ready .any ops lr:=by
  rw[y9];refine⟨by rw[<-nT h.sz f false];exact g,f,λe p=>?_⟩;have j:=h.pr _ m e p
  have k:e<ops.size:=by
   rcases zdp e ops.size with l | l
   .exact l
   have:=j.1;rw[zao,zed (by rw[h.lsz];exact l)]at this;cases this
  rw[nT h.sz k,h.lrv e k,<-xO h.lsz k false,j.1];simp only[zer,zdm];cases hc:(sub.map (·.1)).contains e
  .rfl
  exfalso;simp only[zcp,zav]at hc;obtain⟨q,d,rfl⟩:=hc

  have c:sub=sub.dropLast++[sub.getLast b]:=(List.dropLast_concat_getLast b).symm;have i:=h.pw;rw[c,List.pairwise_append]at i;rw[c,zbh,zaw]at d
  rcases d with d | d
  .exact i.2.2 q d _ (zaw.2 rfl) p
  rw[d]at j;exact j.2 rfl
 intro t;rw[t]at this;cases this

def Tj (J:eY n ops=true) (R:vH ops lv=[]->Q .normal σ w)
    (O: ∀e∈vH ops lv,∀sub l a,Real P n ops lv pd σ w sub l a->(∀k∈nS ops e,l.getD k false=true)->wpOpIn (fen r) 0 P ops (lift n Q) e (wpAnyIn (fen r) 0 P .any ops (lift n Q) (left ops (l.setIfInBounds e true)) (l.setIfInBounds e true)) a w):
    FG P r n ops Q lv pd σ w:=by
  have key: ∀m sub l a,sub.length=m->Real P n ops lv pd σ w sub l a->wpAnyIn (fen r) 0 P .any ops (lift n Q) (left ops l) l a w:=by
    intro m
    induction m using Nat.strongRecOn with
    | _ m W=>
      intro sub l a T h
      have o:Region.ready .any ops l=[]->lift n Q .normal a w:=λf=>by
        have u:sub=[]:=Classical.byContradiction λG=>h.YT G f;obtain⟨L,V,E,K⟩:=h.rep;have :L=σ:=St.aah (λx=>K x λp H=>by rw[u]at H;cases H) E;subst this;refine⟨_,V,R ?_⟩;rw[List.eq_nil_iff_forall_not_mem];intro j q;rw[Af]at q
        have :j∈Region.ready .any ops l:=by
          rw[y9];refine⟨by rw[h.lrv j q.2.1,u];simpa using q.1,q.2.1,λe F=>?_⟩;have d:=q.2.2 e F
          have c:e<ops.size:=by
            rcases zdp e ops.size with v | v
            . exact v
            rw[zao,zed (by rw[h.lsz];exact v)]at d;cases d
          rw[nT h.sz c,h.lrv e c,u,<-xO h.lsz c false,d];simp
        rw[f]at this;cases this
      have t: ∀i∈Region.ready .any ops l,wpOpIn (fen r) 0 P ops (lift n Q) i (wpAnyIn (fen r) 0 P .any ops (lift n Q) (left ops (l.setIfInBounds i true)) (l.setIfInBounds i true)) a w:=λi hi=>by
        obtain⟨f,g,b⟩:=y9.1 hi
        by_cases u:i∈sub.map (·.1)
        . obtain⟨p,H,rfl⟩:=zav.1 u
          refine h.pop J H b λM C=>W _ ?_ _ _ M rfl C;rw[<-T];exact List.length_filter_lt_length_iff_exists.2 ⟨p,H,sM⟩
        refine O i ?_ sub l a h b;rw[Af];refine⟨?_,g,λe F=>h.ajx (b e F)⟩;have d:=h.lrv i g;rw[f]at d
        have D:(sub.map (·.1)).contains i=false:=by
          cases D:(sub.map (·.1)).contains i
          . rfl
          exact zas (zcp.1 D) u
        rw[D]at d;simpa using d.symm
      cases hl:left ops l with
      | zero=>
        have f:Region.ready .any ops l=[]:=by
          rw[List.eq_nil_iff_forall_not_mem];intro j q;obtain⟨d,v,_⟩:=y9.1 q;rw[acH hl j v]at d;cases d
        exact⟨f,o f⟩
      | succ k=>
        refine⟨o,λi hi=>?_⟩;obtain⟨f,g,b⟩:=y9.1 hi;have:=t i hi;have e:=afn g h.sz f;rw[hl]at e;have N:k=left ops (l.setIfInBounds i true):=oM;rw[N];exact this
  exact λsub l a h=>key _ sub l a rfl h

def rO (h:lv.getD j false=true):(lv.set i true).getD j false=true:=by
 by_cases k:i=j
 .subst k
  have :i<lv.length:=by
   rcases zdp i lv.length with a | a
   .exact a
   rw[zao,zed a]at h;cases h
  simp[zao,this]
 simp only[zao,List.getElem?_set_ne k]at h ⊢;exact h
def Ah (h:i≠j) (b:Bool):(lv.set i true).getD j b=lv.getD j b:=by
 simp only[zao,List.getElem?_set_ne h]
def vI (b:Bool) (h:i<lv.length):(lv.set i true).getD i b=true:=by
 simp[zao,h]
def BG (h:lv.getD i true=false):lv.getD i false=false:=by
 rw[zao]at h ⊢;cases hq:lv[i]? with
 | none=>rfl
 | some b=>rw[hq]at h;simpa using h
def BF.congr {f:St} {o:Oper} (a:ops[i]? =some o) (k:Le o.op=true) (h: ∀x∈looks ops i,σ x=f x) (b:BF P ops σ w o v):BF P ops f w o v:=by
 unfold BF at *;rw[<-uD a h,<-Ag a k h];exact b
def jf {o:Option Nat} {x:Nat} (h:o≠some x):rY σ o v x=σ x:=by
 cases o with
 | none=>rfl
 | some d=>exact upd_ne _ _ _ _ λe=>h (by rw[e])
def za (h:ops[i]? =some o):jL ops i=o.dst:=by unfold jL;simp[h]

def fZ (k:eY n ops=true) (b:(vH ops lv).isEmpty=true) (h:Q .normal σ w):FG P r n ops Q lv pd σ w:=
 Tj k (λ_=>h) λe a=>by rw[List.isEmpty_iff.1 b]at a;cases a

def MS (O:eY n ops=true) (f:Bool) (N:ops[i]? =some o) (F:lU ops lv (pd.map (·.1)) i=true) (hy: ∀w',(f=true\/w'=w)->BF P ops σ w' o v)
    (h:FG P r n ops Q (lv.set i true) ((i,f)::pd) (rY σ o.dst v) w):FG P r n ops Q lv pd σ w:=by
  intro sub lr a j;have Y:=(zdi.1 N).1;have l:=za N;obtain⟨hod,R⟩:=sP O N;unfold lU at F;simp only[zbr,zdm,zaz]at F;obtain⟨⟨⟨A,D⟩,C⟩,L⟩:=F;have E:=BG A
  have t: ∀d,o.dst=some d->d∉looks ops i:=λd g=>by
    rw[l,g]at C;simpa using C
  have X: ∀p∈sub,p.1≠i:=λp b e=>by
    have:=j.lvl p b;rw[e,E]at this;cases this
  have c: ∀p∈sub,(∀d,o.dst=some d->jL ops p.1≠some d/\d∉looks ops p.1)/\∀d,jL ops p.1=some d->d∈looks ops i->p.1∈nS ops i:=λp b=>by
    have:=L p.1 (zav.2 ⟨p,j.mem p b,rfl⟩);rw[l]at this;refine⟨λd g=>?_,λd g m=>?_⟩
    . have u:=this.1
      rw[g]at u;simpa using u
    have u:=this.2;rw[g]at u;simp at u
    rcases u with u | u
    . exact zas m u
    exact u
  refine h ((i,f)::sub) lr a ⟨?_,?_,?_,?_,?_,?_,j.sz,by simpa using j.lsz,j.cl,?_,?_,?_,?_⟩
  . rintro p b
    rcases zax.1 b with rfl | b
    . exact zak
    exact zap _ (j.mem p b)
  . rw[zbc,zfg]
    exact⟨λZ=>by obtain⟨p,b,e⟩:=zav.1 Z;exact X p b e,j.nd⟩
  . rw[zcs]
    refine⟨λp b Z=>?_,j.pw⟩;have:=(j.pr p b _ Z).1;rw[E]at this;cases this
  . rintro p b e V
    rcases zax.1 b with rfl | b
    . exact⟨rO (D e V),λe2=>by have:=D e V;rw[e2,E]at this;cases this⟩
    exact⟨rO (j.pr p b e V).1,(j.pr p b e V).2⟩
  . rintro p b
    rcases zax.1 b with rfl | b
    . exact vI _ (by rw[j.lsz];exact Y)
    exact rO (j.lvl p b)
  . intro k hk
    rw[j.lrv k hk]
    by_cases G:i=k
    . subst G
      rw[A];simp
    rw[Ah G]
    congr 2
    have :(k==i)=false:=by simpa using λe:k=i=>G e.symm
    rw[zbc,List.contains_cons,this,Bool.false_or]
  . obtain⟨z,T,W,y⟩:=j.rep
    refine⟨z,T,by simpa[EP]using W,λx m=>?_⟩;rw[jf (λe=>m (i,f) zak (by rw[l,e]))];exact y x λp b=>m p (zap _ b)
  . rintro p b
    rcases zax.1 b with rfl | b
    . exact⟨o,v,N,λd g=>by rw[g];exact upd_same _ _ _,λw' J=>(hy w' J).congr N R λx m=>(jf λe=>t x e m).symm⟩
    obtain⟨o',v',H,S,s⟩:=j.yl p b;refine⟨o',v',H,λd g=>?_,λw' J=>?_⟩
    . rw[jf (λe=>((c p b).1 d e).1 (by rw[za H,g]))];exact S d g
    exact(s w' J).congr H (sP O H).2 λx m=>(jf λe=>((c p b).1 x e).2 m).symm
  . rintro p b d g
    rcases zax.1 b with rfl | b
    . exact t d (by rw[<-l];exact g)
    exact j.own p b d g
  rintro p b q K M d g
  rcases zax.1 b with rfl | b
  . rcases zax.1 K with rfl | K
    . exact zas rfl M
    have:=(c q K).1 d (by rw[<-l];exact g);exact⟨this.1,λm=>zas m this.2⟩
  rcases zax.1 K with rfl | K
  . refine⟨λe=>?_,λm=>(c p b).2 d g m⟩
    exact((c p b).1 d (by rw[<-l];exact e)).1 g
  exact j.apart p b q K M d g

def MU (P:Program) (σ:St) (w:Wd) (o:Oper) (K:St->Wd->Prop):Prop:=
 match(execOp (evF σ) o).run P w with
 | .ok (.value v) w'=>K (rY σ o.dst v) w'
 | .ok .skip w'=>K (rY σ o.dst undef) w'
 | .ok (.enter f args) w'=>Calls P f args w' (Ret λv w''=>K (rY σ o.dst v) w'')
 | _=>False

def FE {sub lr a} (g:Real P n ops lv pd σ w sub lr a) {e:Nat} (d: ∀k∈nS ops e,lr.getD k false=true): ∀k∈above ops e,lr.getD k false=true:=by
 have key: ∀(l:List Nat) (S:List Nat),(∀k∈S,lr.getD k false=true)->∀k∈l.foldl (Je ops) S,lr.getD k false=true:=by
  intro l
  induction l with
  | nil=>intro S h;exact h
  | cons m l i=>
   intro S h;refine i _ λk b=>?_;unfold Je at b
   split at b
   .rename_i f
    rcases zbh.1 b with c | c
    .exact h k c
    exact g.cl m (h m (zcp.1 f)) k (zca.1 c).1
   exact h k b
 exact key _ _ d

def jK (P:Program) (ops:AO) (σ:St) (w:Wd):LNB->Prop
 | []=>True
 | (i,false)::l=>(∃o v,ops[i]? =some o/\(∀d,o.dst=some d->σ d=v)/\BF P ops σ w o v)/\jK P ops σ w l
 | (_,true)::l=>jK P ops σ w l
def jK.get: ∀{l:LNB},jK P ops σ w l->∀p∈l,p.2=false->∃o v,ops[p.1]? =some o/\(∀d,o.dst=some d->σ d=v)/\BF P ops σ w o v
 | [],_,p,k,_=>by cases k
 | (i,false)::l,h,p,k,hf=>by
  rcases zax.1 k with rfl | k
  .exact h.1
  exact jK.get h.2 p k hf
 | (i,true)::l,h,p,k,hf=>by
  rcases zax.1 k with rfl | k
  .cases hf
  exact jK.get (l:=l) h p k hf

theorem C8 (G:eY n ops=true) {e:Nat} (Y:ops[e]? =some o) (N:gy ops lv (pd.map (·.1)) e=true) (hw:Region.wanted o (dG ops σ)=true) (pd':LNB) (hpd:pd.filter (λp=> !((above ops e).contains p.1))=pd')
    (h:MU P σ w o λσ' w'=>jK P ops σ' w' pd'/\FG P r n ops Q (lv.set e true) pd' σ' w'):FG P r n ops Q lv pd σ w:=by
  unfold gy at N;simp only[zbr,beq_iff_eq,zaz]at N;obtain⟨J,z⟩:=N;refine Tj G (λh0=>by rw[h0]at J;cases J) λC y sub lr a b F=>?_;rw[J,zaw]at y;subst y;have yL:=(zdi.1 Y).1;have hdo:=za Y;obtain⟨T,A⟩:=sP G Y;have hrd:=Af.1 (show C∈vH ops lv by rw[J];exact zaw.2 rfl);have h0':=BG hrd.1;obtain⟨X,i,hds,hσ⟩:=b.rep;have hnp: ∀p∈sub,p.1∉nS ops C:=λp g hm=>by have:=F _ hm;rw[b.CZ g]at this;cases this
  have q: ∀p∈sub,(∀d,o.dst=some d->jL ops p.1≠some d/\d∉looks ops p.1)/\∀d,jL ops p.1=some d->d∉looks ops C:=λp g=>by
    have:=z p.1 (zav.2 ⟨p,b.mem p g,rfl⟩);rw[Bool.or_eq_true]at this
    rcases this with M | M
    . exact zas (zcp.1 M) (hnp p g)
    rw[zbr,hdo]at M;refine⟨λd D=>?_,λd D=>?_⟩
    . have S:=M.1
      rw[D]at S;simpa using S
    have S:=M.2;rw[D]at S;simpa using S
  have E: ∀x∈looks ops C,X x=σ x:=λx m=>hσ x λp g D=>(q p g).2 x D m
  have t: ∀(v:Value) (w':Wd) (a':Act),Rep n (rY X o.dst v) a'->jK P ops (rY σ o.dst v) w' pd'->Real P n ops (lv.set C true) pd' (rY σ o.dst v) w' sub (lr.setIfInBounds C true) a':=by
    intro v w' a' ha' hst
    have L: ∀p∈sub,p∈pd':=λp g=>by
      rw[<-hpd,zca];refine⟨b.mem p g,?_⟩;cases s:(above ops C).contains p.1
      . rfl
      have:=FE b F p.1 (zcp.1 s);rw[b.CZ g]at this;cases this
    refine⟨L,b.nd,b.pw,λp g k R=>⟨rO (b.pr p g k R).1,(b.pr p g k R).2⟩,λp g=>rO (b.lvl p g),λk R=>?_,by simpa using b.sz,by simpa using b.lsz,λk R j hj=>?_,⟨_,ha',by simpa[EP]using hds,λx m=>?_⟩,
      λp g=>?_,b.own,b.apart⟩
    . by_cases u:C=k
      . subst u
        have M:(lr.setIfInBounds C true).getD C true=true:=by
          simp[zbq,zbz]
          split<;>rfl
        rw[M,vI _ (by rw[b.lsz];exact yL)];cases s:(sub.map (·.1)).contains C
        . rfl
        obtain⟨p,g,Z⟩:=zav.1 (zcp.1 s);have:=b.lvl p g;rw[Z,h0']at this;cases this
      rw[getD_set_ne true u,Ah u,b.lrv k R]
    . by_cases u:C=k
      . subst u;exact getD_set_true (F j hj)
      rw[getD_set_ne false u]at R;exact getD_set_true (b.cl k R j hj)
    . by_cases D:o.dst=some x
      . rw[D];show upd X x v x=upd σ x v x;rw[upd_same,upd_same]
      rw[jf D,jf D];exact hσ x m
    cases hf:p.2 with
    | false=>
      obtain⟨o',v',H,V,W⟩:=hst.get p (L p g) hf;refine⟨o',v',H,V,λK l=>?_⟩
      rcases l with l | l
      . cases l
      rw[l];exact W
    | true=>
      obtain⟨o',v',H,V,W⟩:=b.yl p g;refine⟨o',v',H,λd D=>?_,λK _=>(W K (.inl hf)).congr H (sP G H).2 λx m=>(jf λZ=>((q p g).1 x Z).2 m).symm⟩;rw[jf (λZ=>((q p g).1 d Z).1 (by rw[za H,D]))];exact V d D
  unfold wpOpIn;simp only[Y]
  have hww:Region.wanted o (yielded ops a.tmps)=true:=by
    rw[i.yielded ops (Jf G),uD Y E];exact hw
  rw[zac hww];refine⟨λ_ _=>trivial,?_⟩;unfold MU at h
  have anP:(o.semAt (fen r).round a.eval)=execOp (evF σ) o:=by
    rw[Oper.semAt_eq _ _ _ λc s=>?_,i.eval,Ag Y A E]
    have hne: ∀x w',(execOp (evF σ) o).run P w=.ok x w'->∃d,x=.defer d:=λx w' m=>by
      unfold execOp at m;rw[s]at m;simp only[zbj]at m;cases b:(resolve (evF σ) c o.type).run P w<;>rw[b]at m<;>simp[Result.andThen]at m
      exact⟨_,m.1.symm⟩
    cases m:(execOp (evF σ) o).run P w with
    | halt x w'=>rw[m]at h;exact h
    | ok x w'=>
      obtain⟨d,rfl⟩:=hne x w' m;rw[m]at h;exact h
  rw[anP]
  generalize (execOp (evF σ) o).run P w=res at h |-
  cases res with
  | halt x w'=>exact h.elim
  | ok nx w'=>
    cases nx with
    | value v=>exact h.2 _ _ _ (t v w' _ (i.Oo T v) h.1)
    | skip=>exact h.2 _ _ _ (t undef w' _ (i.Oo T undef) h.1)
    | enter f args=>
      refine⟨(λh=>by cases h),rC r (Calls.mono h λen K O=>?_)⟩;cases en with
      | returned v=>exact O.2 _ _ _ (t v K _ (i.Oo T v) O.1)
      | _=>exact O.elim
    | _=>exact h.elim

def ahG {id:Nat} {l:LO} (f:P.follows .mixedOrders=true) (b:eY n l.toArray=true) (h: ∀w',aS noB w w'->FG P r n l.toArray Q (List.replicate l.length false) [] σ w'):FW P r n (.region id l.toArray true) Q σ w:=by
  intro a e;refine wpIn_region_any f ?_
  have c:=h {w with drawn:=w.drawn+1} ⟨rfl,rfl,rfl,zbk _,λ_ _ _=>rfl⟩ [] (Array.replicate l.length false) a
    ⟨(λ_ k=>by cases k),List.nodup_nil,List.Pairwise.nil,(λ_ k=>by cases k),(λ_ k=>by cases k),λi hi=>?_,sM,sM,λi hi=>?_,⟨σ,e,rfl,λ_ _=>rfl⟩,(λ_ k=>by cases k),(λ_ k=>by cases k),(λ_ k=>by cases k)⟩
  . have :left l.toArray (Array.replicate l.length false)=l.toArray.size:=by
      unfold left;rw[zeu.2]
      . simp
      intro i hi;simp at hi;simp[zbq,hi]
    rw[this]at c;simpa using c
  . simp at hi
    simp[zbq,zao,hi]
  exfalso;simp[zbq,Array.getElem?_replicate]at hi
  split at hi<;>simp at hi
variable {pd':LNB} {op:Op} {ty:Td} {pos:String} {after:Array Edge} {guard:Option (Nat×Bool)}
def FGp (a:eY n ops=true) (i:Nat) {v:Value} (c:ops[i]? =some ⟨some d,op,ty,pos,after,guard⟩)
    (e:Region.wanted ⟨some d,op,ty,pos,after,guard⟩ (dG ops σ)=true) (b: ∀w,ah P (evF σ) op ty w v w) (k:lU ops lv (pd.map (·.1)) i=true)
    (h:FG P r n ops Q (lv.set i true) ((i,true)::pd) (upd σ d v) w):FG P r n ops Q lv pd σ w:=
  MS a true c k (λw' _=>.inl ⟨e,b w' _ _ _ _⟩) h
def FGl (a:eY n ops=true) (i:Nat) {v:Value} (f:ops[i]? =some ⟨some d,op,ty,pos,after,guard⟩)
    (g:Region.wanted ⟨some d,op,ty,pos,after,guard⟩ (dG ops σ)=true) (e:ah P (evF σ) op ty w v w) (k:lU ops lv (pd.map (·.1)) i=true)
    (h:FG P r n ops Q (lv.set i true) ((i,false)::pd) (upd σ d v) w):FG P r n ops Q lv pd σ w:=
  MS a false f k (λw' b=>by
    rcases b with c | rfl
    . cases c
    exact .inl ⟨g,e _ _ _ _⟩) h
def Qe (a:eY n ops=true) (i:Nat) (b:ops[i]? =some ⟨some d,op,ty,pos,after,guard⟩)
    (c:Region.wanted ⟨some d,op,ty,pos,after,guard⟩ (dG ops σ)=false) (k:lU ops lv (pd.map (·.1)) i=true)
    (h:FG P r n ops Q (lv.set i true) ((i,true)::pd) (upd σ d undef) w):FG P r n ops Q lv pd σ w:=
  MS a true b k (λ_ _=>.inr ⟨c,rfl⟩) h
def Ww (b:eY n ops=true) (e:Nat) (pd':LNB) {C:Wd->Prop} (f:ops[e]? =some ⟨none,op,ty,pos,after,guard⟩)
    (g:Region.wanted ⟨none,op,ty,pos,after,guard⟩ (dG ops σ)=true) (a: ∃w',Oq P (evF σ) op ty w w'/\C w') (k:gy ops lv (pd.map (·.1)) e=true)
    (c:pd.filter (λp=> !((above ops e).contains p.1))=pd') (h: ∀w',C w'->jK P ops σ w' pd'/\FG P r n ops Q (lv.set e true) pd' σ w'):FG P r n ops Q lv pd σ w:=by
  obtain⟨w',a,d⟩:=a;refine C8 b f k g pd' c ?_;unfold MU;rw[a];exact h w' d
def vJ (b:eY n ops=true) (e:Nat) (pd':LNB) {C:Value->Wd->Prop} (g:ops[e]? =some ⟨some d,op,ty,pos,after,guard⟩)
    (i:Region.wanted ⟨some d,op,ty,pos,after,guard⟩ (dG ops σ)=true) (a: ∃v w',ah P (evF σ) op ty w v w'/\C v w') (k:gy ops lv (pd.map (·.1)) e=true)
    (c:pd.filter (λp=> !((above ops e).contains p.1))=pd') (h: ∀v w',C v w'->jK P ops (upd σ d v) w' pd'/\FG P r n ops Q (lv.set e true) pd' (upd σ d v) w'):FG P r n ops Q lv pd σ w:=by
  obtain⟨v,w',a,f⟩:=a;refine C8 b g k i pd' c ?_;unfold MU;rw[a];exact h v w' f
def p8 (a:eY n ops=true) (e:Nat) (pd':LNB) {u:Option Nat} {f:FuncId} {xs:List Od} {H:Array Td} {vals:LV} {R:Value->Wd->Prop}
    (o:ops[e]? =some ⟨u,.call {callee:=.value (.func f),args:=xs.toArray,argTypes:=H},ty,pos,after,guard⟩)
    (t:Region.wanted ⟨u,.call {callee:=.value (.func f),args:=xs.toArray,argTypes:=H},ty,pos,after,guard⟩ (dG ops σ)=true) (l:aX P f vals w R) (q:xs.map (evF σ)=vals) (k:gy ops lv (pd.map (·.1)) e=true)
    (b:pd.filter (λp=> !((above ops e).contains p.1))=pd') (h: ∀v w',R v w'->jK P ops (rY σ u v) w' pd'/\FG P r n ops Q (lv.set e true) pd' (rY σ u v) w') (m:qB P f:=by exact eT):FG P r n ops Q lv pd σ w:=by
  refine C8 a o k t pd' b ?_;unfold MU;have g:execOp (evF σ) ⟨u,.call {callee:=.value (.func f),args:=xs.toArray,argTypes:=H},ty,pos,after,guard⟩=callFunc f (#[]++xs.toArray.map (evF σ)++ #[]):=rfl;have i:(#[]++xs.toArray.map (evF σ)++ #[]:Array Value)=vals.toArray:=by simp[q]
  rw[g,m.run,i];refine Calls.mono l λj c d=>?_;cases j with
  | returned v=>exact h v c d
  | _=>exact d.elim
def dw:jK P ops σ w []:=trivial
def av {i:Nat} {l:LNB} (h:jK P ops σ w l):jK P ops σ w ((i,true)::l):=h
def bE {i:Nat} {l:LNB} (b:ops[i]? =some ⟨some d,op,ty,pos,after,guard⟩)
    (e:Region.wanted ⟨some d,op,ty,pos,after,guard⟩ (dG ops σ)=true) (a:ah P (evF σ) op ty w v w) (c:σ d=v) (h:jK P ops σ w l):jK P ops σ w ((i,false)::l):=
  ⟨⟨_,v,b,λf k=>by injection k with k;rw[<-k];exact c,.inl ⟨e,a _ _ _ _⟩⟩,h⟩
section acts
variable {P:Program} {ρ:Od->Value} {w w0:Wd} {S:NP} {rs:List HP} {put:HP->List HP} {ty:Td} {x y:Od}
def YU {o:Nat} [i:OneCell P T] (c:LV) (H:Sep w0 S rs w) (p:ρ x=.pointer (some ⟨b,o,none⟩))
    (q:ρ y=v) (g:v.oneCell'=true) (h:At rs (blk b cs E) put) (l:Nat.blt o cs.length=true) (m:cs.set o v=c):
    ∃w',Oq P ρ (.store T x y) ty w w'/\Sep w0 S (put (blk b c E)) w':=by
  have k:o<cs.length:=zbd l;have a:=H.obj h;obtain⟨j,e⟩:=Ae (v:=v) a k;refine⟨w.setCell ⟨b,o,none⟩ v,λ_ _ _ _=>?_,by subst m;exact H.setObj h j e⟩
  have f:(store (⟨b,o,none⟩:Addr) v).run P w=.ok () (w.setCell ⟨b,o,none⟩ v):=by
    rw[run_store P w _ v _ g,lu a,zaa k];simp[World.frozen?,a]
  have d:v.cells= #[v]:=by cases v<;>first | rfl | cases g
  simp[execOp,p,q,Instr.storeAt,Instr.sureAddr,storeVar,i.size,d,storeCells,f,Addr.add_zero']
def Ai {t e:Td} [J:dR P t e] {size:Nat} [G:Cells P e size bytes] [K:Zero P e z] {k:Nat} {n:LV}
    (H:Sep w0 S rs w) (D:ρ x=v) (E:ρ y=.slice A m c) (a:At rs (vE e size v k xs) put) (C:iU w A m size n) (l: ∀u∈n,u.oneCell'=true)
    (i:0<size) (j:z.cells.size=size) (g:k+m<=maxLen) (h:(k+m)*bytes<=140737488355328):
    ∃f w',ah P ρ (.call {callee:=.builtin .append,args:= #[x,y],argTypes:= #[t,t]}) ty w f w'/\Sep w0 S (put (vE e size f (k+m) (xs++n))) w':=by
  obtain⟨F,q,_,_⟩:=H.bG a;obtain⟨f,w',d,b,p,o⟩:=vF (P:=P) (ty:=ty) t e i j v k xs q.1 A m c n C l g h;refine⟨f,w',λ_ _ _ _=>?_,H.CY a p b (by rcases o with e | e<;>simp[e])⟩;simp only[execOp,resolve,invoke,builtin,zbj,zbl,zar,zch,zbc,zcn,D,E,d]
end acts
def pz (k:Int) (e:MapEntry):Bool:=match e.key with
 | .int .i64 a=>a==k
 | _=>false
def Ei (es:List MapEntry) (k:Int):Option Value:=(es.find? (pz k)).map (·.val)
def intKeys (es:List MapEntry):Prop:=∀e∈es,∃a,e.key=.int .i64 a
section
variable {w0 w w':Wd} {S:NP} {rs:List HP} {put:HP->List HP} {P:Program}
def Bo (k:Int): ∀(d:List MapEntry) (i:Nat),intKeys d->∃r,Instr.findNow (.int .i64) (.int .i64 k) d i=some r/\r.map (·.2)=Ei d k/\
    (∀j v,r=some (j,v)->∃m,j=i+m/\∃e,d[m]? =some e/\pz k e=true/\d.find? (pz k)=some e/\∀o q,o<m->d[o]? =some q->pz k q=false):=by
  intro d
  induction d with
  | nil=>intro i _;exact⟨none,rfl,rfl,λ_ _ h=>by cases h⟩
  | cons e d R=>
    intro i F;obtain⟨a,E⟩:=F e zak;obtain⟨r,J,K,L⟩:=R (i+1) λx O=>F x (zap _ O);have G:Instr.sameNow (.int .i64) (.int .i64 k) e.key=some (k==a):=by rw[E];simp[Instr.sameNow]
    have p:pz k e=(a==k):=by unfold pz;rw[E]
    by_cases f:k=a
    . subst f
      have l:pz k e=true:=by rw[p];simp
      refine⟨some (i,e.val),?_,?_,?_⟩
      . unfold Instr.findNow;rw[G];simp
      . simp[Ei,l]
      rintro j v c;injection c with c
      injection c with T V
      exact⟨0,oM,e,rfl,l,by simp[l],λo _ M=>oM⟩
    have g:pz k e=false:=by rw[p];simpa using λh:a=k=>f h.symm
    refine⟨r,?_,?_,?_⟩
    . unfold Instr.findNow;rw[G,J]
      have :(k==a)=false:=by simpa using f
      rw[this]
    . rw[K];simp[Ei,g]
    rintro j v c;obtain⟨m,M,q,u,C,H,D⟩:=L j v c;refine⟨m+1,oM,q,by simpa using u,C,by simp[g,H],λo t N b=>?_⟩;cases o with
    | zero=>simp at b;rw[<-b];exact g
    | succ o=>exact D o t oM (by simpa using b)
def tJ {u:Td} (q:P.underlying u=some (.int .i64)) (k:Int) (h:List MapEntry) (p:intKeys h):
    ∃r,(Instr.findKey u (.int .i64 k) h).run P w=.ok r w/\r.map (·.2)=Ei h k/\
    (∀j v,r=some (j,v)->∃e,h[j]? =some e/\pz k e=true/\∀f d,f<j->h[f]? =some d->pz k d=false):=by
  obtain⟨r,g,i,l⟩:=Bo k h 0 p;refine⟨r,by simp[Instr.findKey,run_underlying q,g],i,λj v a=>?_⟩;obtain⟨m,t,e,o,b,_,c⟩:=l j v a;have :j=m:=by omega
  subst this;exact⟨e,o,b,c⟩
def rE {f:Td} (h:P.underlying f=some (.int .i64)) (b:Bool) (k:Int) (d:Nat):(Instr.checkKey b (d+1) f (.int .i64 k)).run P w=.ok () w:=by
 simp[Instr.checkKey,run_underlying h]
def run_getObj_map {e:Array MapEntry} (h:w.heap[b]? =some (.map e c)):(getObj b).run P w=.ok (.map e c) w:=by
 simp[getObj,Sem.run,h]
end
end Go.Proofs.Mw
