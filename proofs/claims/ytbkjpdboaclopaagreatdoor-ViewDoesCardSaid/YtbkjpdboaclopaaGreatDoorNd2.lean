/-
 Rules of the walk for memory:variables,rows behind slices,append,make. Nothing of a given program stands here.
-/
import Derived.Test.YtbkjpdboaclopaaGreatDoorNd1
import Derived.Maps.AppendAt
set_option linter.all false
namespace Go.Proofs.Mw
open Go.RowKit
structure gZ (w:Wd) (A:OA) (n s:Nat) (xs:LV):Prop where
 len:xs.length=n*s
 at_:0<n->∃ad,A=some ad/\∀(j:Nat) u,xs[j]? =some u->w.cell? (ad.add j)=some u
def add_add (a:Addr) (i j:Nat):(a.add i).add j=a.add (i+j):=by
 unfold Addr.add
 by_cases hi:i=0<;>by_cases hj:j=0<;>simp[hi,hj,Nat.add_assoc]
def add_block (a:Addr) (n:Nat):(a.add n).block=a.block:=by unfold Addr.add;split<;>rfl
variable {a:Addr} {v:Value}
def acp {w:Wd} (h:w.cell? a=some v):a.block<w.heap.size:=block_lt_of_cell h
def Kept.cell {S:NP} {w w':Wd} (h:Kept S w w') {v:Value} (hc:w.cell? a=some v) (hS: ¬S a.block):w'.cell? a=some v:=
 (World.cell?_of_block (h.block _ (acp hc) hS)).trans hc
variable {w w':Wd} {A:OA} {n s:Nat} {xs:LV}
def gZ.nil (w:Wd) (A:OA) (s:Nat):gZ w A 0 s []:=⟨sM,λh=>zas h (Nat.lt_irrefl 0)⟩
def Off (A:OA) (n:Nat) (F:NP):Prop:=0<n->∀ad,A=some ad->¬F ad.block
def gZ.aoV {S:NP} (h:gZ w A n s xs) (hk:Kept S w w') (afS:Off A n S):gZ w' A n s xs:=
 ⟨h.len,λhn=>by
  obtain⟨ad,hA,hc⟩:=h.at_ hn;exact⟨ad,hA,λj u hj=>hk.cell (hc j u hj) (by rw[add_block];exact afS hn ad hA)⟩⟩
def gZ.keep (h:gZ w A n s xs) (hk:Kept noB w w'):gZ w' A n s xs:=h.aoV hk λ_ _ _=>id
def Off.of {S F:NP} (hO:Off A n S) (h:gZ w A n s xs) (hF: ∀b,F b->S b\/w.heap.size<=b) (hs:0<s):Off A n F:=λhn ad hA hb=>by
 obtain⟨ad',h1,h2⟩:=h.at_ hn;rw[hA]at h1;injection h1 with h1
 subst h1;have hl:0<xs.length:=by rw[h.len];exact Nat.mul_pos hn hs
 have hc:=h2 0 xs[0] (by simp[hl]);have aX:=acp hc;rw[add_block]at aX
 rcases hF _ hb with h3 | h3
 .exact hO hn ad hA h3
 omega
def gZ.cut (h:gZ w A n s xs) {k cap:Nat} (hk:k<=n) (hc:n<=cap):
    gZ w (if cap=k then A else A.map (·.add (k*s))) (n-k) s (xs.drop (k*s)):=by
  refine⟨by rw[zbo,h.len,Nat.sub_mul],λhn=>?_⟩;obtain⟨ad,rfl,Pm⟩:=h.at_ oM;rw[zaa oM];exact⟨ad.add (k*s),rfl,λj u hu=>by rw[add_add];exact Pm _ u (by rw[<-hu,zcj])⟩
def gZ.take (h:gZ w A n s xs) {k:Nat} (hk:k<=n):gZ w A k s (xs.take (k*s)):=by
 refine⟨by rw[zah,h.len];exact zcp (zex s hk),λhn=>?_⟩;obtain⟨ad,hA,Pm⟩:=h.at_ oM;refine⟨ad,hA,λj u hu=>Pm j u ?_⟩;rw[zcu]at hu
 split at hu
 .exact hu
 cases hu
def vF (E s:Nat) (v:Value) (n:Nat) (xs:LV):HP where
 ok F w:=w.ownsRow 0 E s v n xs/\∀b,F b↔v.ownBlock=some b
 loc _ h fB:=by
  obtain⟨⟨h1,h2⟩,hF⟩:=fB;refine⟨⟨h1,?_⟩,hF⟩
  rcases h2 with h2 | ⟨g,cap,cur,hv,hg,hh,r⟩
  .exact .inl h2
  refine .inr ⟨g,cap,cur,hv,hg,?_,r⟩;rw[h g ((hF g).2 (by rw[hv];rfl))];exact hh
 low fB b hb:=(fB.1.lt b ((fB.2 b).1 hb)).2
variable {c:Nat} {cs:LV}
def Uo {B E:Nat} (h:w.ownsRow B E s (.slice A n c) n xs):gZ w A n s xs:=by
 refine⟨h.1,λhn=>?_⟩
 rcases h.2 with⟨hv,h0⟩ | ⟨g,cap,cur,hv,_,hh,r⟩
 .omega
 injection hv with hA
 subst hA;exact⟨_,rfl,h.cells (g:=g) rfl⟩
section
variable {w0 w w':Wd} {S:NP} {rs:List HP} {put:HP->List HP}
def Sep.rowAt {E:Nat} (h:Sep w0 S rs w) (hat:At rs (vF E s (.slice A n c) n xs) put):gZ w A n s xs:=by
 obtain⟨F,hp,_,_⟩:=h.focus hat;exact Uo hp.1
def Sep.xQ {E:Nat} (h:Sep w0 S rs w) (hat:At rs (vF E s v n xs) put): ∃A c,v=.slice A n c/\n<=c/\xs.length=n*s/\(A=none->n=0/\c=0):=by
 obtain⟨F,hp,_,_⟩:=h.focus hat
 rcases hp.1.2 with⟨hv,h0⟩ | ⟨g,cap,cur,hv,_,hh,rW,r⟩
 .exact⟨none,0,by rw[hv,h0],oM,hp.1.1,λ_=>⟨h0,rfl⟩⟩
 exact⟨_,cap,hv,rW,hp.1.1,λe=>by cases e⟩
def Sep.gy (h:Sep w0 S rs w) (E s:Nat):Sep w0 S (vF E s (.slice none 0 0) 0 []::rs) w:=
 h.new (F':=λ_=>False) (Kept.refl _ _) ⟨World.ownsRow_nil _ _ _ _,λb=>by simp[Value.ownBlock]⟩ λ_ hb=>hb.elim
def Sep.nU {b E s n:Nat} (h:Sep w0 S rs w) (hat:At rs (blk b cs E) put) (hl:cs.length=n*s) (hm:n<=maxLen):Sep w0 S (put (vF E s (.slice (some ⟨b,0,none⟩) n n) n cs)) w:=
 h.imp hat λF hF=>⟨⟨hl,.inr ⟨b,n,cs.toArray,rfl,zai _,hF.2,zbi _,hm,by simpa using hl,by rw[<-hl];simp⟩⟩,λx=>by rw[hF.1 x];simp[Value.ownBlock,eq_comm]⟩
def Sep.Dp {E n':Nat} {v':Value} {xs':LV} (h:Sep w0 S rs w) (hat:At rs (vF E s v n xs) put) (hg:w.grownBy w' v.ownBlock) (oI:w'.ownsRow 0 E s v' n' xs') (hb:v'.ownBlock=v.ownBlock\/v'.ownBlock=some w.heap.size\/v'.ownBlock=none):Sep w0 S (put (vF E s v' n' xs')) w':=by
 obtain⟨F,hp,hS,lG⟩:=h.focus hat;refine lG w' (λb=>v'.ownBlock=some b) _ ⟨hg.os,hg.tape,hg.output,hg.size,λk hk hF=>hg.block k hk λe=>hF ((hp.2 k).2 e.symm)⟩ ⟨oI,λb=>Iff.rfl⟩ λb YZ=>?_
 rcases hb with e | e | e
 .exact .inl ((hp.2 b).2 (by rw[<-e];exact YZ))
 .rw[e]at YZ;injection YZ with YZ;exact .inr oM
 rw[e]at YZ;cases YZ
end

def run_append_nil {P:Program} (base t ty e:Nat) (i:TypeInfo) (size:Nat) (ht:P.underlying t=some (.slice e)) (hi:P.info? e=some i)
    (v:Value) (n:Nat) (xs:LV) (oI:w.ownsRow base e size v n xs) (A:OA) (hA:A=none) (c:Nat):(Builtin.append_ #[t,t] ty #[v,.slice A 0 c]).run P w=.ok v w:=by
  subst hA
  rcases oI.2 with⟨rfl,rfl⟩ | ⟨g,cap,cur,rfl,_,_,hnc,_⟩
  . simp[Builtin.append_,run_underlying ht,sizeOf,typeInfo,hi,Builtin.lenOf,Builtin.firstCells]
  simp[Builtin.append_,run_underlying ht,sizeOf,typeInfo,hi,Builtin.lenOf,Builtin.firstCells,hnc,storeCells]
variable {E T e t:Td} {b bytes d:Nat} {x y:Od} {z:Value}
def vG {P:Program} (t ty e:Nat) [hs:dn P t e] {size:Nat} [hc:Cells P e size bytes] {z:Value} [hz:Zero P e z] (Ph:0<size) (Es:z.cells.size=size)
    (v:Value) (n:Nat) (xs:LV) (oI:w.ownsRow 0 e size v n xs) (A:OA) (m c:Nat) (news:LV) (hr:gZ w A m size news) (h1: ∀u∈news,u.oneCell'=true)
    (h63:n+m<=maxLen) (hbytes:(n+m)*bytes<=140737488355328):
    ∃v' w',(Builtin.append_ #[t,t] ty #[v,.slice A m c]).run P w=.ok v' w'/\w'.ownsRow 0 e size v' (n+m) (xs++news)/\w.grownBy w' v.ownBlock/\
      (v'.ownBlock=v.ownBlock\/v'.ownBlock=some w.heap.size):=by
  obtain⟨i,hi,qE⟩:=zbc.1 hc.size;simp only[Prod.mk.injEq]at qE
  have xq:i.zero=some z:=by
    have:=hz.run w;simp[zeroValue,typeInfo,hi]at this;cases hq:i.zero with
    | none=>simp[hq]at this
    | some u=>simp[hq]at this;rw[this]
  rcases A with _ | ad
  . have hm:m=0:=by
      rcases zef m with h0 | h0
      . exact h0
      obtain⟨ad,h,_⟩:=hr.at_ h0;cases h
    subst hm;have hn:news=[]:=zbg (by simpa using hr.len);subst hn;exact⟨v,w,run_append_nil 0 t ty e i size hs.und hi v n xs oI none rfl c,by simpa using oI,World.grownBy.refl w _,.inl rfl⟩
  have hcells: ∀j u,news[j]? =some u->w.cell? (ad.add j)=some u:=by
    intro j u hu
    rcases zef m with h0 | h0
    . subst h0
      have hn:news=[]:=zbg (by simpa using hr.len);subst hn;simp at hu
    obtain⟨ad',h,Pg⟩:=hr.at_ h0;injection h with h
    subst h;exact Pg j u hu
  obtain⟨v',w',iw,h2,h3,_,h5⟩:=run_append_own_at (P:=P) w 0 t ty e i z size bytes hs.und hi xq qE.1 qE.2 Es Ph v n xs oI ad m c news hr.len hcells h1 h63 hbytes (zai _);exact⟨v',w',iw,h2,h3,h5⟩

section rules
variable {P:Program} {r:Option Nat} {n:Nat} {ops:AO} {Q:Post} {rest:LO} {σ:St} {w w' w0:Wd} {S:NP} {rs:List HP} {put:HP->List HP} {ty:Td} {pos:String} {after:Array Edge}
def akf (hv:evF σ x=v:=by exact eV) (hd:Nat.blt d n=true:=by exact rfl) (h:FL P r n ops Q rest (upd σ d v) w):
    FL P r n ops Q (⟨some d,.move x,ty,pos,after,none⟩::rest) σ w:=dD (Gives.move hv) hd h
def aex (hv:evF σ x=v:=by exact eV) (hd:Nat.blt d n=true:=by exact rfl) (h:FL P r n ops Q rest (upd σ d v) w):
    FL P r n ops Q (⟨some d,.assign x,ty,pos,after,none⟩::rest) σ w:=dD (Gives.assign hv) hd h
def ahi {z:Od} (hc:evF σ z=.bool false:=by exact rfl) (hv:evF σ y=v:=by exact eV) (hd:Nat.blt d n=true:=by exact rfl) (h:FL P r n ops Q rest (upd σ d v) w):
    FL P r n ops Q (⟨some d,.pick z x y,ty,pos,after,none⟩::rest) σ w:=dD (Gives.alJ hc hv) hd h
def Me {o:Nat} [OneCell P T] (H:Sep w0 S rs w) (hx:evF σ x=.pointer (some ⟨b,o,none⟩):=by exact rfl)
    (hat:At rs (blk b cs E) put:=by exact aT) (hv:cs[o]? =some v:=by exact rfl) (hd:Nat.blt d n=true:=by exact rfl) (h:FL P r n ops Q rest (upd σ d v) w):
    FL P r n ops Q (⟨some d,.load T x,ty,pos,after,none⟩::rest) σ w:=dD (Gives.nu hx (H.obj hat) hv) hd h
def Gi {d b o k:Nat} [Agg P T k] {us:LV} (H:Sep w0 S rs w) (hx:evF σ x=.pointer (some ⟨b,o,none⟩):=by exact rfl)
    (hat:At rs (blk b cs E) put:=by exact aT) (hu:(cs.drop o).take k=us) (hk:us.length=k) (hd:Nat.blt d n=true:=by exact rfl) (h:FL P r n ops Q rest (upd σ d (.agg us.toArray)) w):
    FL P r n ops Q (⟨some d,.load T x,ty,pos,after,none⟩::rest) σ w:=dD (Gives.Ky hx (H.obj hat) hu hk) hd h
def ahj [h1:OneCell P T] (hc:w.cell? a=some v) (hx:evF σ x=.pointer (some a):=by exact rfl) (hd:Nat.blt d n=true:=by exact rfl) (h:FL P r n ops Q rest (upd σ d v) w):
    FL P r n ops Q (⟨some d,.load T x,ty,pos,after,none⟩::rest) σ w:=
  dD (w':=w) (λ_ _ _ _=>by simp[execOp,hx,Instr.loadAt,Instr.sureAddr,loadVar,h1.agg,hc]) hd h
def aey {k:Nat} [h1:Agg P T k] {us:LV} (hc: ∀j u,us[j]? =some u->w.cell? (a.add j)=some u) (hk:us.length=k) (hx:evF σ x=.pointer (some a):=by exact rfl) (hd:Nat.blt d n=true:=by exact rfl) (h:FL P r n ops Q rest (upd σ d (.agg us.toArray)) w):
    FL P r n ops Q (⟨some d,.load T x,ty,pos,after,none⟩::rest) σ w:=
  dD (w':=w) (λ_ _ _ _=>by have:=run_loadCells_list (P:=P) w a us hc;rw[hk]at this;simp[execOp,hx,Instr.loadAt,Instr.sureAddr,loadVar,h1.agg,h1.size,this]) hd h
def Ai {o:Nat} {v:Value} (hb:w.heap[b]? =some (.cells cs.toArray E (0,0))) (_ho:o<cs.length):
    Kept (λx=>x=b) w (w.setCell ⟨b,o,none⟩ v)/\(w.setCell ⟨b,o,none⟩ v).heap[b]? =some (.cells (cs.set o v).toArray E (0,0)):=by
  refine⟨⟨rfl,rfl,rfl,by simp[World.setCell],λk hk hS=>Below.heap_setCell w _ v k hS⟩,?_⟩;simp only[World.setCell,zdm,if_true,hb,zdv];simp
def sK {o:Nat} [h1:OneCell P T] {cs cs':LV} {v:Value} (H:Sep w0 S rs w) (hx:evF σ x=.pointer (some ⟨b,o,none⟩):=by exact rfl)
    (hy:evF σ y=v:=by exact eV) (hv:v.oneCell'=true:=by exact rfl)
    (hat:At rs (blk b cs E) put:=by exact aT) (ho:Nat.blt o cs.length=true:=by exact rfl)
    (hs:cs.set o v=cs':=by first | (simp only[zdf,zfq];rfl) | exact rfl) (h: ∀w',Sep w0 S (put (blk b cs' E)) w'->FL P r n ops Q rest σ w'):
    FL P r n ops Q (⟨none,.store T x y,ty,pos,after,none⟩::rest) σ w:=by
  have aX:o<cs.length:=zbe ho;have hb:=H.obj hat;obtain⟨hk,Ll⟩:=Ai (v:=v) hb aX;refine Ey (w':=w.setCell ⟨b,o,none⟩ v) (λ_ _ _ _=>?_) rfl (h _ (by subst hs;exact H.setObj hat hk Ll))
  have dK:(store (⟨b,o,none⟩:Addr) v).run P w=.ok () (w.setCell ⟨b,o,none⟩ v):=by
    rw[run_store P w _ v _ hv,jW hb,zab aX];simp[World.frozen?,hb]
  have hcs:v.cells= #[v]:=by cases v<;>first | rfl | cases hv
  simp[execOp,hx,hy,Instr.storeAt,Instr.sureAddr,storeVar,h1.size,hcs,storeCells,dK,Addr.add_zero']
def Rh {o k:Nat} [h1:Agg P T k] {cs us cs':LV} (H:Sep w0 S rs w) (hx:evF σ x=.pointer (some ⟨b,o,none⟩):=by exact rfl)
    (hy:evF σ y=.agg us.toArray:=by exact rfl) (hk:us.length=k) (hv: ∀u∈us,u.oneCell'=true)
    (hat:At rs (blk b cs E) put:=by exact aT) (ho:o+us.length<=cs.length)
    (hs:cs.take o++us++cs.drop (o+us.length)=cs') (h: ∀w',Sep w0 S (put (blk b cs' E)) w'->FL P r n ops Q rest σ w'):
    FL P r n ops Q (⟨none,.store T x y,ty,pos,after,none⟩::rest) σ w:=by
  have hb:=H.obj hat;have dK:=run_storeCells_at P b o E us 0 cs.toArray w hb (by simpa using ho) hv
  refine Ey (w':=w.setRow b (cs.take o++us++cs.drop (o+us.length)).toArray) (λ_ _ _ _=>?_) rfl (h _ (by
    subst hs;refine H.setObj hat ⟨rfl,rfl,rfl,sM,λj hj hS=>?_⟩ ?_
    . simp only[World.setRow,zdm];rw[zaa (λe=>hS e.symm)]
    simp only[World.setRow,zdm,if_true,hb,zdv]))
  simp only[zfb]at dK;simp[execOp,hx,hy,Instr.storeAt,Instr.sureAddr,storeVar,h1.size,Value.cells,hk];simp[hk]at dK;rw[dK];simp
def Ny [hz:Zero P T z] {cs:LV} (H:Sep w0 S rs w) (hcs:z.cells=cs.toArray:=by exact rfl) (hd:Nat.blt d n=true:=by exact rfl)
    (h: ∀b w',Sep w0 S (blk b cs T::rs) w'->Kept noB w w'->FL P r n ops Q rest (upd σ d (.pointer (some ⟨b,0,none⟩))) w'):
    FL P r n ops Q (⟨some d,.alloc T,ty,pos,after,none⟩::rest) σ w:=
  dD (w':=w.alloc (.cells cs.toArray T)) (v:=.pointer (some ⟨w.heap.size,0,none⟩)) (λ_ _ _ _=>by simp[execOp,Instr.alloc,hz.run,newVar,newRow,hcs]) hd (h _ _ (H.alloc _) (Kept.alloc _ _))
def bB {cs:LV} (H:Sep w0 S rs w) (hx:evF σ x=v:=by exact eV) (hcs:v.cells=cs.toArray:=by exact rfl) (hd:Nat.blt d n=true:=by exact rfl)
    (h: ∀b w',Sep w0 S (blk b cs T::rs) w'->Kept noB w w'->FL P r n ops Q rest (upd σ d (.pointer (some ⟨b,0,none⟩))) w'):
    FL P r n ops Q (⟨some d,.box T x,ty,pos,after,none⟩::rest) σ w:=
  dD (w':=w.alloc (.cells cs.toArray T)) (v:=.pointer (some ⟨w.heap.size,0,none⟩)) (λ_ _ _ _=>by simp[execOp,Instr.box,hx,newVar,newRow,hcs]) hd (h _ _ (H.alloc _) (Kept.alloc _ _))
def vH (H:Sep w0 S rs w) (hd:Nat.blt d n=true:=by exact rfl)
    (h: ∀b w',Sep w0 S (obj b (.map #[] 0)::rs) w'->Kept noB w w'->FL P r n ops Q rest (upd σ d (.map (some b))) w'):
    FL P r n ops Q (⟨some d,.makeMap T none,ty,pos,after,none⟩::rest) σ w:=
  dD (w':=w.alloc (.map #[] 0)) (v:=.map (some w.heap.size)) (λ_ _ _ _=>by simp[execOp,Instr.makeMap]) hd (h _ _ (H.alloc _) (Kept.alloc _ _))
def XK {f:FuncId} {xs:List Od} {ats:Array Td} {vals:LV} (H:Sep w0 S rs w) (hc:Rk P f vals w v) (hv:xs.map (evF σ)=vals:=by exact rfl) (hd:Nat.blt d n=true:=by exact rfl)
    (h: ∀w',Sep w0 S rs w'->Kept noB w w'->FL P r n ops Q rest (upd σ d v) w') (he:qz P f:=by exact eT):
    FL P r n ops Q (⟨some d,.call {callee:=.value (.func f),args:=xs.toArray,argTypes:=ats},ty,pos,after,none⟩::rest) σ w:=
  aL hc hv hd λv' w' ⟨e,hk⟩=>by subst e;exact h w' (H.keep hk) hk
def Ri [hs:dn P t e] {size:Nat} [hc:Cells P e size bytes] [hz:Zero P e z] {v:Value} {k m c:Nat} {xs news:LV} {A:OA}
    (H:Sep w0 S rs w) (hx:evF σ x=v) (hy:evF σ y=.slice A m c) (hat:At rs (vF e size v k xs) put) (hr:gZ w A m size news) (h1: ∀u∈news,u.oneCell'=true)
    (Ph:0<size:=by decide) (Es:z.cells.size=size:=by exact rfl) (h63:k+m<=maxLen) (hbytes:(k+m)*bytes<=140737488355328) (hd:Nat.blt d n=true:=by exact rfl)
    (h: ∀v' w',Sep w0 S (put (vF e size v' (k+m) (xs++news))) w'->FL P r n ops Q rest (upd σ d v') w'):
    FL P r n ops Q (⟨some d,.call {callee:=.builtin .append,args:= #[x,y],argTypes:= #[t,t]},ty,pos,after,none⟩::rest) σ w:=by
  obtain⟨F,hp,_,_⟩:=H.focus hat;obtain⟨v',w',iw,oI,hg,hb⟩:=vG (P:=P) (ty:=ty) t e Ph Es v k xs hp.1 A m c news hr h1 h63 hbytes;refine dD (v:=v') (w':=w') (λ_ _ _ _=>?_) hd (h v' w' (H.Dp hat hg oI (by rcases hb with e | e<;>simp[e])));simp only[execOp,resolve,invoke,builtin,zbj,zbl,zan,zce,zav,zci,hx,hy,iw]
end rules

variable {k:IntKind} {m:Nat}
section gives
variable {P:Program} {ρ:Od->Value} {ty:Td} {w w':Wd} {x y z:Od}
def Gives.ahk [h:dn P t e] (hx:ρ x=.slice A m c):Gives P ρ (.call {callee:=.builtin .len,args:= #[x],argTypes:= #[t]}) ty w (.int .i64 m) w:=λ_ _ _ _=>by
 simp[execOp,resolve,invoke,builtin,hx,Builtin.len_,run_underlying h.und,goInt]
def Gives.lenStr {t:Td} [h:lX P t] {s:ByteArray} (hx:ρ x=.string s):Gives P ρ (.call {callee:=.builtin .len,args:= #[x],argTypes:= #[t]}) ty w (.int .i64 s.size) w:=λ_ _ _ _=>by
 simp[execOp,resolve,invoke,builtin,hx,Builtin.len_,run_underlying h.und,goInt]
def Gives.min {a b:Int} {ts:Array Td} (hx:ρ x=.int k a) (hy:ρ y=.int k b):Gives P ρ (.call {callee:=.builtin .min,args:= #[x,y],argTypes:=ts}) ty w (.int k (min a b)) w:=λ_ _ _ _=>by
 have:=run_min_int2 (P:=P) w ts ty k k a b;simp only[execOp,resolve,invoke,builtin,zbj,zbl,zan,zce,zav,zci,hx,hy,this];rw[Int.min_def]
 split<;>split<;>first | rfl | (congr 3;omega)
def Gives.max {a b:Int} {ts:Array Td} (hx:ρ x=.int k a) (hy:ρ y=.int k b):Gives P ρ (.call {callee:=.builtin .max,args:= #[x,y],argTypes:=ts}) ty w (.int k (max a b)) w:=λ_ _ _ _=>by
 have:=run_max_int2 (P:=P) w ts ty k k a b;simp only[execOp,resolve,invoke,builtin,zbj,zbl,zan,zce,zav,zci,hx,hy,this];rw[Int.max_def]
 split<;>split<;>first | rfl | (congr 3;omega)
def Gives.sliceTo [ht:dn P t e] {size:Nat} [hc:Cells P e size bytes] {m c h:Nat} (hx:ρ x=.slice A m c) (hy:ρ y=.int k h) (rW:h<=c):Gives P ρ (.slice t x none (some y) none) ty w (.slice A h c) w:=λ_ _ _ _=>by
 obtain⟨i,hi,qE⟩:=zbc.1 hc.size;have e1:(0:Int)<=(h:Int)/\(h:Int)<=(c:Int):=oM;have e2:A.map (λx:Addr=>x.add 0)=A:=by cases A<;>simp[Addr.add_zero']
 simp[execOp,hx,hy,Instr.sliceAt,run_underlying ht.und,Instr.slice,Instr.sliceBounds,Instr.sliceBound,asIntOf,e1,sizeOf,typeInfo,hi,e2];omega
def Gives.sliceFrom {t e:Td} [ht:dn P t e] {size:Nat} [hc:Cells P e size bytes] {A:OA} {m c l:Nat} (hx:ρ x=.slice A m c) (hy:ρ y=.int k l) (rW:l<=m):Gives P ρ (.slice t x (some y) none none) ty w (.slice (if c=l then A else A.map (·.add (l*size))) (m-l) (c-l)) w:=λ_ _ _ _=>by
 obtain⟨i,hi,qE⟩:=zbc.1 hc.size;simp only[Prod.mk.injEq]at qE;have e1:(0:Int)<=(l:Int)/\(l:Int)<=(m:Int):=oM;simp[execOp,hx,hy,Instr.sliceAt,run_underlying ht.und,Instr.slice,Instr.sliceBounds,Instr.sliceBound,asIntOf,e1,sizeOf,typeInfo,hi,qE.1];omega
def Gives.aez [ht:dn P t e] {size:Nat} [hc:Cells P e size bytes] {l h:Nat} {j:IntKind} (hx:ρ x=.slice A m c) (hy:ρ y=.int k l) (hz:ρ z=.int j h) (rW:l<=h) (YU:h<=c):Gives P ρ (.slice t x (some y) (some z) none) ty w (.slice (if c=l then A else A.map (·.add (l*size))) (h-l) (c-l)) w:=λ_ _ _ _=>by
 obtain⟨i,hi,qE⟩:=zbc.1 hc.size;simp only[Prod.mk.injEq]at qE;have e1:(0:Int)<=(l:Int)/\(l:Int)<=(h:Int):=oM;have e2:(0:Int)<=(h:Int)/\(h:Int)<=(c:Int):=oM;simp[execOp,hx,hy,hz,Instr.sliceAt,run_underlying ht.und,Instr.slice,Instr.sliceBounds,Instr.sliceBound,asIntOf,e1,e2,sizeOf,typeInfo,hi,qE.1,rW,YU]
def Gives.ahl {m:Td} [ht:zM P t m e] {size:Nat} [hc:Cells P e size bytes] (hx:ρ x=.pointer (some a)):Gives P ρ (.slice t x none none none) ty w (.slice (some a) m m) w:=λ_ _ _ _=>by
 obtain⟨i,hi,qE⟩:=zbc.1 hc.size;simp[execOp,hx,Instr.sliceAt,run_underlying ht.und,Instr.sliceBounds,Instr.sureAddr,sizeOf,typeInfo,hi];intro _;simp[Addr.add_zero']
def Gives.idx [ht:dn P t e] {size:Nat} [hc:Cells P e size bytes] {ad:Addr} {m c i:Nat} (hx:ρ x=.slice (some ad) m c) (hy:ρ y=.int k i) (aX:i<m):Gives P ρ (.indexAddr t x y) ty w (.pointer (some (ad.add (i*size)))) w:=λ_ _ _ _=>by
 obtain⟨j,hj,qE⟩:=zbc.1 hc.size;simp only[Prod.mk.injEq]at qE;have e1:(0:Int)<=(i:Int)/\(i:Int)<(m:Int):=oM;simp[execOp,hx,hy,Instr.indexAt,run_underlying ht.und,asIntOf,e1,sizeOf,typeInfo,hj,qE.1,aX]
def Gives.BO {t e m:Td} [ht:zM P t m e] {size:Nat} [hc:Cells P e size bytes] {ad:Addr} {i:Nat} (hx:ρ x=.pointer (some ad)) (hy:ρ y=.int k i) (aX:i<m):Gives P ρ (.indexAddr t x y) ty w (.pointer (some (ad.add (i*size)))) w:=λ_ _ _ _=>by
 obtain⟨j,hj,qE⟩:=zbc.1 hc.size;simp only[Prod.mk.injEq]at qE;have e1:(0:Int)<=(i:Int)/\(i:Int)<(m:Int):=oM;simp[execOp,hx,hy,Instr.indexAt,run_underlying ht.und,asIntOf,Instr.sureAddr,e1,sizeOf,typeInfo,hj,qE.1,aX]
end gives
section
variable (ops:AO)
def nC (i:Nat):List Nat:=match ops[i]? with
 | some o=>o.after.toList.filterMap λe=>if Region.binds .any e then some e.on else none
 | none=>[]
def jr (i:Nat):Option Nat:=(ops[i]?).bind (λo:Oper=>o.dst)
def looks (i:Nat):List Nat:=match ops[i]? with
 | some o=>o.looksAt ops
 | none=>[]
def Mf:Op->Bool
 | .select .. =>false
 | _=>true
def lN (lv:List Bool) (ids:List Nat) (i:Nat):Bool:=
 !(lv.getD i true)&&(nC ops i).all (λe=>lv.getD e false)&&(match jr ops i with | some d=> !(looks ops i).contains d | none=>true)&&
 ids.all λk=>(match jr ops i with | some d=>jr ops k !=some d&& !(looks ops k).contains d | none=>true)&&
  (match jr ops k with | some d=> !(looks ops i).contains d||(nC ops i).contains k | none=>true)
def vI (lv:List Bool):List Nat:=(List.range ops.size).filter λi=> !(lv.getD i true)&&(nC ops i).all λe=>lv.getD e false
def fE (lv:List Bool) (ids:List Nat) (e:Nat):Bool:=
 vI ops lv==[e]&&
 ids.all λk=>(nC ops e).contains k||((match jr ops e with | some d=>jr ops k !=some d&& !(looks ops k).contains d | none=>true)&&
  (match jr ops k with | some d=> !(looks ops e).contains d | none=>true))
def JH (S:List Nat) (k:Nat):List Nat:=if S.contains k then S++(nC ops k).filter (λj=> !(S.contains j))else S
def above (i:Nat):List Nat:=(List.range ops.size).reverse.foldl (JH ops) (nC ops i)
end

def BP (P:Program) (ops:AO) (σ:St) (w:Wd) (o:Oper) (v:Value):Prop:=
 (Region.wanted o (bY ops σ)=true/\(execOp (evF σ) o).run P w=.ok (.value v) w)\/(Region.wanted o (bY ops σ)=false/\v=undef)
def dX (n:Nat) (ops:AO):Bool:=ops.all λo=>Qr n o.dst&&Mf o.op

structure Real (P:Program) (n:Nat) (ops:AO) (lv:List Bool) (pd:LNB) (σ:St) (w:Wd) (sub:LNB) (lr:Array Bool) (a:Act):Prop where
 mem: ∀p∈sub,p∈pd
 nd:(sub.map (·.1)).Nodup
 pw:sub.Pairwise λx y=>x.1∉nC ops y.1
 pr: ∀p∈sub,∀e∈nC ops p.1,lv.getD e false=true/\e≠p.1
 lvl: ∀p∈sub,lv.getD p.1 false=true
 lrv: ∀i,i<ops.size->lr.getD i true=(lv.getD i true&& !((sub.map (·.1)).contains i))
 sz:lr.size=ops.size
 lsz:lv.length=ops.size
 cl: ∀i,lr.getD i false=true->∀e∈nC ops i,lr.getD e false=true
 rep: ∃σr,Rep n σr a/\σr.ds=σ.ds/\∀x,(∀p∈sub,jr ops p.1≠some x)->σr x=σ x
 yl: ∀p∈sub,∃o v,ops[p.1]? =some o/\(∀d,o.dst=some d->σ d=v)/\∀w',(p.2=true\/w'=w)->BP P ops σ w' o v
 own: ∀p∈sub,∀d,jr ops p.1=some d->d∉looks ops p.1
 apart: ∀p∈sub,∀q∈sub,p.1≠q.1->∀d,jr ops p.1=some d->jr ops q.1≠some d/\(d∈looks ops q.1->p.1∈nC ops q.1)

def left (ops:AO) (lr:Array Bool):Nat:=((List.range ops.size).filter λi=> !(lr.getD i true)).length

def FG (P:Program) (r:Option Nat) (n:Nat) (ops:AO) (Q:Post) (lv:List Bool) (pd:LNB) (σ:St) (w:Wd):Prop:=
 ∀sub lr a,Real P n ops lv pd σ w sub lr a->wpAnyIn (fen r) 0 P .any ops (lift n Q) (left ops lr) lr a w

variable {P:Program} {r:Option Nat} {ops:AO} {Q:Post} {lv:List Bool} {pd:LNB} {σ:St}
variable {o:Oper} {i:Nat}
def Rj {e:Nat} (ho:ops[i]? =some o):e∈nC ops i↔∃x∈o.after,Region.binds .any x=true/\x.on=e:=by
 unfold nC;simp only[ho,List.mem_filterMap];constructor
 .rintro⟨x,hx,h⟩
  split at h
  .rename_i hb;injection h with h;exact⟨x,by simpa using hx,hb,h⟩
  cases h
 rintro⟨x,hx,hb,h⟩;exact⟨x,by simpa using hx,by rw[zac hb,h]⟩
variable {j:Nat} {lr:Array Bool}
def za:j∈Region.ready .any ops lr↔lr.getD j true=false/\j<ops.size/\∀e∈nC ops j,lr.getD e false=true:=by
 rw[mem_ready];constructor
 .rintro⟨h0,o,ho,h⟩
  refine⟨h0,(zct.1 ho).1,λe he=>?_⟩;obtain⟨x,hx,hb,rfl⟩:=(Rj ho).1 he;exact h x hx hb
 rintro⟨h0,aX,h⟩;refine⟨h0,ops[j],zew aX,λe he hb=>h _ ((Rj (zew aX)).2 ⟨e,he,hb,rfl⟩)⟩
def Aj:j∈vI ops lv↔lv.getD j true=false/\j<ops.size/\∀e∈nC ops j,lv.getD e false=true:=by
 unfold vI;simp only[zcf,zeo,zbr,zdi,zba];constructor
 .rintro⟨h1,h2,h3⟩;exact⟨h2,h1,h3⟩
 rintro⟨h1,h2,h3⟩;exact⟨h2,h1,h3⟩
def ahm (hi:i<ops.size) (hs:lr.size=ops.size) (h:lr.getD i true=false):left ops lr=left ops (lr.setIfInBounds i true)+1:=by
 unfold left
 have key: ∀m,m<=ops.size->((List.range m).filter λk=> !(lr.getD k true)).length=((List.range m).filter λk=> !((lr.setIfInBounds i true).getD k true)).length+(if i<m then 1 else 0):=by
  intro m
  induction m with
  | zero=>intro _;simp
  | succ m ih=>
   intro hm;rw[List.range_succ,zfr,zfr,zad,zad,ih oM]
   by_cases him:i=m
   .subst him
    have h2:(lr.setIfInBounds i true).getD i true=true:=by
     simp[zbp,zbx]
     split<;>rfl
    simp only[zeh,List.filter_nil,h,h2];simp
   simp only[zeh,List.filter_nil];rw[show(lr.setIfInBounds i true).getD m true=lr.getD m true from getD_set_ne true him]
   by_cases h1:i<m
   .have h2:i<m+1:=oM
    simp only[h1,h2,if_true];omega
   have h2: ¬i<m+1:=oM;simp only[h1,h2,if_false];omega
 rw[key ops.size (zbi _),zac hi]
def aeA (h:left ops lr=0): ∀i,i<ops.size->lr.getD i true=true:=by
 intro i hi;unfold left at h;have h0:=zbg h;rw[List.filter_eq_nil_iff]at h0;have:=h0 i (zeo.2 hi);simpa using this
def nD (hs:lr.size=ops.size) (hi:i<ops.size) (b:Bool):lr.getD i b=lr.getD i true:=by
 simp[zbp,hs,hi]
def xR (hs:lv.length=ops.size) (hi:i<ops.size) (b:Bool):lv.getD i b=lv.getD i true:=by
 simp[zaz,hs,hi]

def Real.amR {sub lr a} (h:Real P n ops lv pd σ w sub lr a) (hi:lr.getD i false=true):lv.getD i false=true:=by
 have aX:i<ops.size:=by
  rcases zdo i lr.size with h1 | h1
  .rw[<-h.sz];exact h1
  simp[zbp,zdk h1]at hi
 have:=h.lrv i aX;rw[nD h.sz aX]at hi;rw[xR h.lsz aX];rw[hi]at this
 revert this
 cases lv.getD i true<;>simp
def Real.Dq {sub lr a} (h:Real P n ops lv pd σ w sub lr a) {p:Nat×Bool} (hp:p∈sub):lr.getD p.1 false=false:=by
 obtain⟨o,_,ho,_⟩:=h.yl p hp;have aX:=(zct.1 ho).1;rw[nD h.sz aX,h.lrv _ aX];have :(sub.map (·.1)).contains p.1=true:=zcn.2 (zar.2 ⟨p,hp,rfl⟩);rw[this];simp

def uE {σ':St} (ho:ops[i]? =some o) (h: ∀x∈looks ops i,σ x=σ' x):Region.wanted o (bY ops σ)=Region.wanted o (bY ops σ'):=by
 unfold Region.wanted;cases hg:o.guard with
 | none=>rfl
 | some gw=>
  obtain⟨g,want⟩:=gw
  have :bY ops σ g=bY ops σ' g:=by
   unfold bY;cases hd:(ops[g]?).bind (λo:Oper=>o.dst)with
   | none=>rfl
   | some d=>
    have :d∈looks ops i:=by
     unfold looks;simp only[ho,Oper.looksAt,hg,zbk]
     right
     have hd':(ops[g]?).bind (·.dst)=some d:=hd;simp[hd']
    simp only[h d this]
  simp only[this]
def Ak {σ':St} (ho:ops[i]? =some o) (Ql:Mf o.op=true) (h: ∀x∈looks ops i,σ x=σ' x):execOp (evF σ) o=execOp (evF σ') o:=by
 refine execOp_congr o (λcs b hs=>by rw[hs]at Ql;cases Ql) λx hx=>?_;cases x with
 | tmp t=>
  refine h t ?_;unfold looks;simp only[ho,Oper.looksAt,zbk,List.mem_filterMap];exact .inl ⟨.tmp t,by simpa using hx,rfl⟩
 | _=>rfl
def sN (fB:dX n ops=true) (ho:ops[i]? =some o):Qr n o.dst=true/\Mf o.op=true:=by
 unfold dX at fB;rw[Array.all_eq_true_iff_forall_mem]at fB;have:=fB o (Array.mem_of_getElem? ho);simpa using this
def JI (fB:dX n ops=true) (j d:Nat) (h:(ops[j]?).bind (λo:Oper=>o.dst)=some d):d<n:=by
 cases ho:ops[j]? with
 | none=>simp[ho]at h
 | some o=>
  simp[ho]at h;have:=(sN fB ho).1;rw[h]at this;exact zbe this

def Real.pop {sub lr a} (fB:dX n ops=true) (h:Real P n ops lv pd σ w sub lr a) {p:Nat×Bool} (hp:p∈sub) (jI: ∀e∈nC ops p.1,lr.getD e false=true)
    {K:Act->Wd->Prop} {Q':Exit->Act->Wd->Prop}
    (hK: ∀a',Real P n ops lv pd σ w (sub.filter (λq=>q.1 !=p.1)) (lr.setIfInBounds p.1 true) a'->K a' w):wpOpIn (fen r) 0 P ops Q' p.1 K a w:=by
  obtain⟨o,v,ho,hv,hy0⟩:=h.yl p hp;have hy:=hy0 w (.inr rfl);have aX:=(zct.1 ho).1;obtain⟨Vt,abH⟩:=sN fB ho;obtain⟨σr,hr,Zf,hσ⟩:=h.rep
  have Ev: ∀x∈looks ops p.1,σr x=σ x:=λx hx=>hσ x λq hq hd=>by
    by_cases hqp:q.1=p.1
    . exact h.own p hp x (by rw[<-hqp];exact hd) hx
    have:=(h.apart q hq p hp hqp x hd).2 hx;have h1:=jI _ this;rw[h.Dq hq]at h1;cases h1
  have Pn:jr ops p.1=o.dst:=by unfold jr;simp[ho]
  have al5: ∀a',Rep n (sj σr o.dst v) a'->Real P n ops lv pd σ w (sub.filter (λq=>q.1 !=p.1)) (lr.setIfInBounds p.1 true) a':=by
    intro a' Zj;have uK: ∀q,q∈sub.filter (λq=>q.1 !=p.1)->q∈sub/\q.1≠p.1:=λq hq=>by simpa using hq
    refine⟨λq hq=>h.mem q (uK q hq).1,?_,h.pw.filter _,λq hq=>h.pr q (uK q hq).1,λq hq=>h.lvl q (uK q hq).1,λi hi=>?_,by simpa using h.sz,h.lsz,λi hi e he=>?_,⟨_,Zj,by simpa[Fz]using Zf,λx hx=>?_⟩,
      λq hq=>h.yl q (uK q hq).1,λq hq=>h.own q (uK q hq).1,λq hq r hr=>h.apart q (uK q hq).1 r (uK r hr).1⟩
    . exact List.Nodup.sublist (List.Sublist.map _ zea) h.nd
    . by_cases hip:p.1=i
      . subst hip
        have h1:(lr.setIfInBounds p.1 true).getD p.1 true=true:=by
          simp[zbp,zbx]
          split<;>rfl
        have h2:lv.getD p.1 true=true:=by
          have:=h.lvl p hp;rw[xR h.lsz aX]at this;exact this
        rw[h1,h2];simp
      rw[getD_set_ne true hip,h.lrv i hi]
      congr 2
      rw[zdu];simp only[zcn,zar,zcf];constructor
      . rintro⟨q,hq,rfl⟩;exact⟨q,⟨hq,by simpa using λe=>hip e.symm⟩,rfl⟩
      rintro⟨q,⟨hq,_⟩,rfl⟩;exact⟨q,hq,rfl⟩
    . by_cases hip:p.1=i
      . subst hip;exact getD_set_true (jI e he)
      rw[getD_set_ne false hip]at hi;exact getD_set_true (h.cl i hi e he)
    cases hd:o.dst with
    | none=>
      refine hσ x λq hq hqd=>?_
      by_cases hqp:q.1=p.1
      . rw[hqp,Pn,hd]at hqd;cases hqd
      exact hx q (by simp[hq,hqp]) hqd
    | some d=>
      by_cases VG:x=d
      . subst VG
        show upd σr x v x=σ x
        rw[upd_same,hv x hd]
      show upd σr d v x=σ x
      rw[upd_ne _ _ _ _ VG];refine hσ x λq hq hqd=>?_
      by_cases hqp:q.1=p.1
      . rw[hqp,Pn,hd]at hqd;injection hqd with hqd;exact VG hqd.symm
      exact hx q (by simp[hq,hqp]) hqd
  unfold wpOpIn;simp only[ho]
  have hw:Region.wanted o (yielded ops a.tmps)=Region.wanted o (bY ops σ):=by
    rw[hr.yielded ops (JI fB)];exact uE ho Ev
  rw[hw]
  rcases hy with⟨h1,h2⟩ | ⟨h1,h2⟩
  . rw[zac h1]
    refine⟨λ_ _=>trivial,?_⟩;rw[hr.eval,Jh (by rw[Ak ho abH Ev];exact h2)];exact hK _ (al5 _ (hr.PD Vt _))
  rw[zaa (by simp[h1])];rw[<-h2];exact⟨λ_ _=>trivial,hK _ (al5 _ (hr.PD Vt _))⟩

def Real.aaq {sub lr a} (h:Real P n ops lv pd σ w sub lr a) (iJ:sub≠[]):Region.ready .any ops lr≠[]:=by
 have hl:sub.getLast iJ∈sub:=List.getLast_mem iJ;have anN:=h.Dq hl;obtain⟨o,_,ho,_⟩:=h.yl _ hl;have aX:=(zct.1 ho).1
 have :(sub.getLast iJ).1∈Region.ready .any ops lr:=by
  rw[za];refine⟨by rw[<-nD h.sz aX false];exact anN,aX,λe he=>?_⟩;have h1:=h.pr _ hl e he
  have abI:e<ops.size:=by
   rcases zdo e ops.size with h2 | h2
   .exact h2
   have:=h1.1;rw[zaz,zdn (by rw[h.lsz];exact h2)]at this;cases this
  rw[nD h.sz abI,h.lrv e abI,<-xR h.lsz abI false,h1.1];simp only[zen,zdi];cases hc:(sub.map (·.1)).contains e
  .rfl
  exfalso;simp only[zcn,zar]at hc;obtain⟨q,hq,rfl⟩:=hc

  have iC:sub=sub.dropLast++[sub.getLast iJ]:=(List.dropLast_concat_getLast iJ).symm;have hpw:=h.pw;rw[iC,List.pairwise_append]at hpw;rw[iC,zbk,zaw]at hq
  rcases hq with hq | hq
  .exact hpw.2.2 q hq _ (zaw.2 rfl) he
  rw[hq]at h1;exact h1.2 rfl
 intro h0;rw[h0]at this;cases this

def Uq (fB:dX n ops=true) (hQ:vI ops lv=[]->Q .normal σ w)
    (hE: ∀e∈vI ops lv,∀sub lr a,Real P n ops lv pd σ w sub lr a->(∀k∈nC ops e,lr.getD k false=true)->wpOpIn (fen r) 0 P ops (lift n Q) e (wpAnyIn (fen r) 0 P .any ops (lift n Q) (left ops (lr.setIfInBounds e true)) (lr.setIfInBounds e true)) a w):
    FG P r n ops Q lv pd σ w:=by
  have key: ∀m sub lr a,sub.length=m->Real P n ops lv pd σ w sub lr a->wpAnyIn (fen r) 0 P .any ops (lift n Q) (left ops lr) lr a w:=by
    intro m
    induction m using Nat.strongRecOn with
    | _ m ih=>
      intro sub lr a hm h
      have afT:Region.ready .any ops lr=[]->lift n Q .normal a w:=λh0=>by
        have hs:sub=[]:=Classical.byContradiction λiJ=>h.aaq iJ h0;obtain⟨σr,hr,Zf,hσ⟩:=h.rep;have :σr=σ:=St.abP (λx=>hσ x λp hp=>by rw[hs]at hp;cases hp) Zf;subst this;refine⟨_,hr,hQ ?_⟩;rw[List.eq_nil_iff_forall_not_mem];intro j hj;rw[Aj]at hj
        have :j∈Region.ready .any ops lr:=by
          rw[za];refine⟨by rw[h.lrv j hj.2.1,hs];simpa using hj.1,hj.2.1,λe he=>?_⟩;have h1:=hj.2.2 e he
          have abI:e<ops.size:=by
            rcases zdo e ops.size with h2 | h2
            . exact h2
            rw[zaz,zdn (by rw[h.lsz];exact h2)]at h1;cases h1
          rw[nD h.sz abI,h.lrv e abI,hs,<-xR h.lsz abI false,h1];simp
        rw[h0]at this;cases this
      have tu: ∀i∈Region.ready .any ops lr,wpOpIn (fen r) 0 P ops (lift n Q) i (wpAnyIn (fen r) 0 P .any ops (lift n Q) (left ops (lr.setIfInBounds i true)) (lr.setIfInBounds i true)) a w:=λi hi=>by
        obtain⟨h0,aX,jI⟩:=za.1 hi
        by_cases hs:i∈sub.map (·.1)
        . obtain⟨p,hp,rfl⟩:=zar.1 hs
          refine h.pop fB hp jI λa' Zj=>ih _ ?_ _ _ a' rfl Zj;rw[<-hm];exact List.length_filter_lt_length_iff_exists.2 ⟨p,hp,sM⟩
        refine hE i ?_ sub lr a h jI;rw[Aj];refine⟨?_,aX,λe he=>h.amR (jI e he)⟩;have h1:=h.lrv i aX;rw[h0]at h1
        have hc:(sub.map (·.1)).contains i=false:=by
          cases hc:(sub.map (·.1)).contains i
          . rfl
          exact zas (zcn.1 hc) hs
        rw[hc]at h1;simpa using h1.symm
      cases hl:left ops lr with
      | zero=>
        have h0:Region.ready .any ops lr=[]:=by
          rw[List.eq_nil_iff_forall_not_mem];intro j hj;obtain⟨h1,h2,_⟩:=za.1 hj;rw[aeA hl j h2]at h1;cases h1
        exact⟨h0,afT h0⟩
      | succ k=>
        refine⟨afT,λi hi=>?_⟩;obtain⟨h0,aX,jI⟩:=za.1 hi;have:=tu i hi;have e:=ahm aX h.sz h0;rw[hl]at e;have ek:k=left ops (lr.setIfInBounds i true):=oM;rw[ek];exact this
  exact λsub lr a h=>key _ sub lr a rfl h

def rQ (h:lv.getD j false=true):(lv.set i true).getD j false=true:=by
 by_cases hij:i=j
 .subst hij
  have :i<lv.length:=by
   rcases zdo i lv.length with h1 | h1
   .exact h1
   rw[zaz,zdn h1]at h;cases h
  simp[zaz,this]
 simp only[zaz,List.getElem?_set_ne hij]at h ⊢;exact h
def Al (h:i≠j) (b:Bool):(lv.set i true).getD j b=lv.getD j b:=by
 simp only[zaz,List.getElem?_set_ne h]
def vJ (b:Bool) (h:i<lv.length):(lv.set i true).getD i b=true:=by
 simp[zaz,h]
def BQ (h:lv.getD i true=false):lv.getD i false=false:=by
 rw[zaz]at h ⊢;cases hq:lv[i]? with
 | none=>rfl
 | some b=>rw[hq]at h;simpa using h
def BP.congr {σ':St} {o:Oper} (ho:ops[i]? =some o) (Ql:Mf o.op=true) (h: ∀x∈looks ops i,σ x=σ' x) (hy:BP P ops σ w o v):BP P ops σ' w o v:=by
 unfold BP at *;rw[<-uE ho h,<-Ak ho Ql h];exact hy
def iT {o:Option Nat} {x:Nat} (h:o≠some x):sj σ o v x=σ x:=by
 cases o with
 | none=>rfl
 | some d=>exact upd_ne _ _ _ _ λe=>h (by rw[e])
def ze (ho:ops[i]? =some o):jr ops i=o.dst:=by unfold jr;simp[ho]

def fO (fB:dX n ops=true) (hr:(vI ops lv).isEmpty=true) (h:Q .normal σ w):FG P r n ops Q lv pd σ w:=
 Uq fB (λ_=>h) λe he=>by rw[List.isEmpty_iff.1 hr]at he;cases he

def NA (fB:dX n ops=true) (f:Bool) (ho:ops[i]? =some o) (dN:lN ops lv (pd.map (·.1)) i=true) (hy: ∀w',(f=true\/w'=w)->BP P ops σ w' o v)
    (h:FG P r n ops Q (lv.set i true) ((i,f)::pd) (sj σ o.dst v) w):FG P r n ops Q lv pd σ w:=by
  intro sub lr a hr;have aX:=(zct.1 ho).1;have Pn:=ze ho;obtain⟨Vt,abH⟩:=sN fB ho;unfold lN at dN;simp only[zbr,zdi,zba]at dN;obtain⟨⟨⟨h0,jI⟩,oI⟩,aje⟩:=dN;have h0':=BQ h0
  have hown': ∀d,o.dst=some d->d∉looks ops i:=λd hd=>by
    rw[Pn,hd]at oI;simpa using oI
  have hid: ∀p∈sub,p.1≠i:=λp hp e=>by
    have:=hr.lvl p hp;rw[e,h0']at this;cases this
  have zH: ∀p∈sub,(∀d,o.dst=some d->jr ops p.1≠some d/\d∉looks ops p.1)/\∀d,jr ops p.1=some d->d∈looks ops i->p.1∈nC ops i:=λp hp=>by
    have:=aje p.1 (zar.2 ⟨p,hr.mem p hp,rfl⟩);rw[Pn]at this;refine⟨λd hd=>?_,λd hd hx=>?_⟩
    . have h1:=this.1
      rw[hd]at h1;simpa using h1
    have h1:=this.2;rw[hd]at h1;simp at h1
    rcases h1 with h1 | h1
    . exact zas hx h1
    exact h1
  refine h ((i,f)::sub) lr a ⟨?_,?_,?_,?_,?_,?_,hr.sz,by simpa using hr.lsz,hr.cl,?_,?_,?_,?_⟩
  . rintro p hp
    rcases zbb.1 hp with rfl | hp
    . exact zao
    exact zau _ (hr.mem p hp)
  . rw[zav,zfa]
    exact⟨λhm=>by obtain⟨p,hp,e⟩:=zar.1 hm;exact hid p hp e,hr.nd⟩
  . rw[zdt]
    refine⟨λp hp hm=>?_,hr.pw⟩;have:=(hr.pr p hp _ hm).1;rw[h0']at this;cases this
  . rintro p hp e he
    rcases zbb.1 hp with rfl | hp
    . exact⟨rQ (jI e he),λe2=>by have:=jI e he;rw[e2,h0']at this;cases this⟩
    exact⟨rQ (hr.pr p hp e he).1,(hr.pr p hp e he).2⟩
  . rintro p hp
    rcases zbb.1 hp with rfl | hp
    . exact vJ _ (by rw[hr.lsz];exact aX)
    exact rQ (hr.lvl p hp)
  . intro k hk
    rw[hr.lrv k hk]
    by_cases LX:i=k
    . subst LX
      rw[h0];simp
    rw[Al LX]
    congr 2
    have :(k==i)=false:=by simpa using λe:k=i=>LX e.symm
    rw[zav,List.contains_cons,this,Bool.false_or]
  . obtain⟨σr,Fp,Zf,hσ⟩:=hr.rep
    refine⟨σr,Fp,by simpa[Fz]using Zf,λx hx=>?_⟩;rw[iT (λe=>hx (i,f) zao (by rw[Pn,e]))];exact hσ x λp hp=>hx p (zau _ hp)
  . rintro p hp
    rcases zbb.1 hp with rfl | hp
    . exact⟨o,v,ho,λd hd=>by rw[hd];exact upd_same _ _ _,λw' hw'=>(hy w' hw').congr ho abH λx hx=>(iT λe=>hown' x e hx).symm⟩
    obtain⟨o',v',Ll,LZ,Fy⟩:=hr.yl p hp;refine⟨o',v',Ll,λd hd=>?_,λw' hw'=>?_⟩
    . rw[iT (λe=>((zH p hp).1 d e).1 (by rw[ze Ll,hd]))];exact LZ d hd
    exact(Fy w' hw').congr Ll (sN fB Ll).2 λx hx=>(iT λe=>((zH p hp).1 x e).2 hx).symm
  . rintro p hp d hd
    rcases zbb.1 hp with rfl | hp
    . exact hown' d (by rw[<-Pn];exact hd)
    exact hr.own p hp d hd
  rintro p hp q hq iJ d hd
  rcases zbb.1 hp with rfl | hp
  . rcases zbb.1 hq with rfl | hq
    . exact zas rfl iJ
    have:=(zH q hq).1 d (by rw[<-Pn];exact hd);exact⟨this.1,λhx=>zas hx this.2⟩
  rcases zbb.1 hq with rfl | hq
  . refine⟨λe=>?_,λhx=>(zH p hp).2 d hd hx⟩
    exact((zH p hp).1 d (by rw[<-Pn];exact e)).1 hd
  exact hr.apart p hp q hq iJ d hd

def NC (P:Program) (σ:St) (w:Wd) (o:Oper) (K:St->Wd->Prop):Prop:=
 match(execOp (evF σ) o).run P w with
 | .ok (.value v) w'=>K (sj σ o.dst v) w'
 | .ok .skip w'=>K (sj σ o.dst undef) w'
 | .ok (.enter f args) w'=>Calls P f args w' (Ret λv w''=>K (sj σ o.dst v) w'')
 | _=>False

def Gj {sub lr a} (hr:Real P n ops lv pd σ w sub lr a) {e:Nat} (he: ∀k∈nC ops e,lr.getD k false=true): ∀k∈above ops e,lr.getD k false=true:=by
 have key: ∀(l:List Nat) (S:List Nat),(∀k∈S,lr.getD k false=true)->∀k∈l.foldl (JH ops) S,lr.getD k false=true:=by
  intro l
  induction l with
  | nil=>intro S hS;exact hS
  | cons m l ih=>
   intro S hS;refine ih _ λk hk=>?_;unfold JH at hk
   split at hk
   .rename_i hm
    rcases zbk.1 hk with h1 | h1
    .exact hS k h1
    exact hr.cl m (hS m (zcn.1 hm)) k (zcf.1 h1).1
   exact hS k hk
 exact key _ _ he

def jo (P:Program) (ops:AO) (σ:St) (w:Wd):LNB->Prop
 | []=>True
 | (i,false)::l=>(∃o v,ops[i]? =some o/\(∀d,o.dst=some d->σ d=v)/\BP P ops σ w o v)/\jo P ops σ w l
 | (_,true)::l=>jo P ops σ w l
def jo.get: ∀{l:LNB},jo P ops σ w l->∀p∈l,p.2=false->∃o v,ops[p.1]? =some o/\(∀d,o.dst=some d->σ d=v)/\BP P ops σ w o v
 | [],_,p,hp,_=>by cases hp
 | (i,false)::l,h,p,hp,hf=>by
  rcases zbb.1 hp with rfl | hp
  .exact h.1
  exact jo.get h.2 p hp hf
 | (i,true)::l,h,p,hp,hf=>by
  rcases zbb.1 hp with rfl | hp
  .cases hf
  exact jo.get (l:=l) h p hp hf

theorem Dr (fB:dX n ops=true) {e:Nat} (ho:ops[e]? =some o) (dN:fE ops lv (pd.map (·.1)) e=true) (hw:Region.wanted o (bY ops σ)=true) (pd':LNB) (oH:pd.filter (λp=> !((above ops e).contains p.1))=pd')
    (h:NC P σ w o λσ' w'=>jo P ops σ' w' pd'/\FG P r n ops Q (lv.set e true) pd' σ' w'):FG P r n ops Q lv pd σ w:=by
  unfold fE at dN;simp only[zbr,beq_iff_eq,zba]at dN;obtain⟨hre,aje⟩:=dN;refine Uq fB (λh0=>by rw[h0]at hre;cases hre) λe' he' sub lr a hr jI=>?_;rw[hre,zaw]at he';subst he';have aX:=(zct.1 ho).1;have Pn:=ze ho;obtain⟨Vt,abH⟩:=sN fB ho;have hrd:=Aj.1 (show e'∈vI ops lv by rw[hre];exact zaw.2 rfl);have h0':=BQ hrd.1;obtain⟨σr,Fp,Zf,hσ⟩:=hr.rep;have hnp: ∀p∈sub,p.1∉nC ops e':=λp hp hm=>by have:=jI _ hm;rw[hr.Dq hp]at this;cases this
  have zH: ∀p∈sub,(∀d,o.dst=some d->jr ops p.1≠some d/\d∉looks ops p.1)/\∀d,jr ops p.1=some d->d∉looks ops e':=λp hp=>by
    have:=aje p.1 (zar.2 ⟨p,hr.mem p hp,rfl⟩);rw[Bool.or_eq_true]at this
    rcases this with h1 | h1
    . exact zas (zcn.1 h1) (hnp p hp)
    rw[zbr,Pn]at h1;refine⟨λd hd=>?_,λd hd=>?_⟩
    . have h2:=h1.1
      rw[hd]at h2;simpa using h2
    have h2:=h1.2;rw[hd]at h2;simpa using h2
  have Ev: ∀x∈looks ops e',σr x=σ x:=λx hx=>hσ x λp hp hd=>(zH p hp).2 x hd hx
  have Po: ∀(v:Value) (w':Wd) (a':Act),Rep n (sj σr o.dst v) a'->jo P ops (sj σ o.dst v) w' pd'->Real P n ops (lv.set e' true) pd' (sj σ o.dst v) w' sub (lr.setIfInBounds e' true) a':=by
    intro v w' a' Zj dK
    have uK: ∀p∈sub,p∈pd':=λp hp=>by
      rw[<-oH,zcf];refine⟨hr.mem p hp,?_⟩;cases hc:(above ops e').contains p.1
      . rfl
      have:=Gj hr jI p.1 (zcn.1 hc);rw[hr.Dq hp]at this;cases this
    refine⟨uK,hr.nd,hr.pw,λp hp k hk=>⟨rQ (hr.pr p hp k hk).1,(hr.pr p hp k hk).2⟩,λp hp=>rQ (hr.lvl p hp),λk hk=>?_,by simpa using hr.sz,by simpa using hr.lsz,λk hk j hj=>?_,⟨_,Zj,by simpa[Fz]using Zf,λx hx=>?_⟩,
      λp hp=>?_,hr.own,hr.apart⟩
    . by_cases nW:e'=k
      . subst nW
        have h1:(lr.setIfInBounds e' true).getD e' true=true:=by
          simp[zbp,zbx]
          split<;>rfl
        rw[h1,vJ _ (by rw[hr.lsz];exact aX)];cases hc:(sub.map (·.1)).contains e'
        . rfl
        obtain⟨p,hp,e1⟩:=zar.1 (zcn.1 hc);have:=hr.lvl p hp;rw[e1,h0']at this;cases this
      rw[getD_set_ne true nW,Al nW,hr.lrv k hk]
    . by_cases nW:e'=k
      . subst nW;exact getD_set_true (jI j hj)
      rw[getD_set_ne false nW]at hk;exact getD_set_true (hr.cl k hk j hj)
    . by_cases hd:o.dst=some x
      . rw[hd];show upd σr x v x=upd σ x v x;rw[upd_same,upd_same]
      rw[iT hd,iT hd];exact hσ x hx
    cases hf:p.2 with
    | false=>
      obtain⟨o',v',Ll,LZ,Fy⟩:=dK.get p (uK p hp) hf;refine⟨o',v',Ll,LZ,λw'' hw''=>?_⟩
      rcases hw'' with hw'' | hw''
      . cases hw''
      rw[hw''];exact Fy
    | true=>
      obtain⟨o',v',Ll,LZ,Fy⟩:=hr.yl p hp;refine⟨o',v',Ll,λd hd=>?_,λw'' _=>(Fy w'' (.inl hf)).congr Ll (sN fB Ll).2 λx hx=>(iT λe1=>((zH p hp).1 x e1).2 hx).symm⟩;rw[iT (λe1=>((zH p hp).1 d e1).1 (by rw[ze Ll,hd]))];exact LZ d hd
  unfold wpOpIn;simp only[ho]
  have hww:Region.wanted o (yielded ops a.tmps)=true:=by
    rw[Fp.yielded ops (JI fB),uE ho Ev];exact hw
  rw[zac hww];refine⟨λ_ _=>trivial,?_⟩;unfold NC at h
  have anQ:(o.semAt (fen r).round a.eval)=execOp (evF σ) o:=by
    rw[Oper.semAt_eq _ _ _ λc hc=>?_,Fp.eval,Ak ho abH Ev]
    have iJ: ∀x w',(execOp (evF σ) o).run P w=.ok x w'->∃d,x=.defer d:=λx w' hx=>by
      unfold execOp at hx;rw[hc]at hx;simp only[zbj]at hx;cases hr:(resolve (evF σ) c o.type).run P w<;>rw[hr]at hx<;>simp[Result.andThen]at hx
      exact⟨_,hx.1.symm⟩
    cases hx:(execOp (evF σ) o).run P w with
    | halt x w'=>rw[hx]at h;exact h
    | ok x w'=>
      obtain⟨d,rfl⟩:=iJ x w' hx;rw[hx]at h;exact h
  rw[anQ]
  generalize (execOp (evF σ) o).run P w=res at h |-
  cases res with
  | halt x w'=>exact h.elim
  | ok nx w'=>
    cases nx with
    | value v=>exact h.2 _ _ _ (Po v w' _ (Fp.PD Vt v) h.1)
    | skip=>exact h.2 _ _ _ (Po undef w' _ (Fp.PD Vt undef) h.1)
    | enter f args=>
      refine⟨(λh=>by cases h),rD r (Calls.mono h λen w'' Fe=>?_)⟩;cases en with
      | returned v=>exact Fe.2 _ _ _ (Po v w'' _ (Fp.PD Vt v) Fe.1)
      | _=>exact Fe.elim
    | _=>exact h.elim

def akg {id:Nat} {l:LO} (hm:P.follows .mixedOrders=true) (_hok:dX n l.toArray=true) (h: ∀w',Kept noB w w'->FG P r n l.toArray Q (List.replicate l.length false) [] σ w'):FW P r n (.region id l.toArray true) Q σ w:=by
  intro a ha;refine wpIn_region_any hm ?_
  have h1:=h {w with drawn:=w.drawn+1} ⟨rfl,rfl,rfl,zbi _,λ_ _ _=>rfl⟩ [] (Array.replicate l.length false) a
    ⟨(λ_ hp=>by cases hp),List.nodup_nil,List.Pairwise.nil,(λ_ hp=>by cases hp),(λ_ hp=>by cases hp),λi hi=>?_,sM,sM,λi hi=>?_,⟨σ,ha,rfl,λ_ _=>rfl⟩,(λ_ hp=>by cases hp),(λ_ hp=>by cases hp),(λ_ hp=>by cases hp)⟩
  . have :left l.toArray (Array.replicate l.length false)=l.toArray.size:=by
      unfold left;rw[zeq.2]
      . simp
      intro i hi;simp at hi;simp[zbp,hi]
    rw[this]at h1;simpa using h1
  . simp at hi
    simp[zbp,zaz,hi]
  exfalso;simp[zbp,Array.getElem?_replicate]at hi
  split at hi<;>simp at hi
variable {pd':LNB} {op:Op} {ty:Td} {pos:String} {after:Array Edge} {guard:Option (Nat×Bool)}
def FGp (fB:dX n ops=true) (i:Nat) {v:Value} (ho:ops[i]? =some ⟨some d,op,ty,pos,after,guard⟩)
    (hw:Region.wanted ⟨some d,op,ty,pos,after,guard⟩ (bY ops σ)=true) (hg: ∀w,Gives P (evF σ) op ty w v w) (dN:lN ops lv (pd.map (·.1)) i=true)
    (h:FG P r n ops Q (lv.set i true) ((i,true)::pd) (upd σ d v) w):FG P r n ops Q lv pd σ w:=
  NA fB true ho dN (λw' _=>.inl ⟨hw,hg w' _ _ _ _⟩) h
def FGl (fB:dX n ops=true) (i:Nat) {v:Value} (ho:ops[i]? =some ⟨some d,op,ty,pos,after,guard⟩)
    (hw:Region.wanted ⟨some d,op,ty,pos,after,guard⟩ (bY ops σ)=true) (hg:Gives P (evF σ) op ty w v w) (dN:lN ops lv (pd.map (·.1)) i=true)
    (h:FG P r n ops Q (lv.set i true) ((i,false)::pd) (upd σ d v) w):FG P r n ops Q lv pd σ w:=
  NA fB false ho dN (λw' hw'=>by
    rcases hw' with h1 | rfl
    . cases h1
    exact .inl ⟨hw,hg _ _ _ _⟩) h
def Rl (fB:dX n ops=true) (i:Nat) (ho:ops[i]? =some ⟨some d,op,ty,pos,after,guard⟩)
    (hw:Region.wanted ⟨some d,op,ty,pos,after,guard⟩ (bY ops σ)=false) (dN:lN ops lv (pd.map (·.1)) i=true)
    (h:FG P r n ops Q (lv.set i true) ((i,true)::pd) (upd σ d undef) w):FG P r n ops Q lv pd σ w:=
  NA fB true ho dN (λ_ _=>.inr ⟨hw,rfl⟩) h
def XL (fB:dX n ops=true) (e:Nat) (pd':LNB) {C:Wd->Prop} (ho:ops[e]? =some ⟨none,op,ty,pos,after,guard⟩)
    (hw:Region.wanted ⟨none,op,ty,pos,after,guard⟩ (bY ops σ)=true) (hg: ∃w',PE P (evF σ) op ty w w'/\C w') (dN:fE ops lv (pd.map (·.1)) e=true)
    (oH:pd.filter (λp=> !((above ops e).contains p.1))=pd') (h: ∀w',C w'->jo P ops σ w' pd'/\FG P r n ops Q (lv.set e true) pd' σ w'):FG P r n ops Q lv pd σ w:=by
  obtain⟨w',hg,hC⟩:=hg;refine Dr fB ho dN hw pd' oH ?_;unfold NC;rw[hg];exact h w' hC
def vK (fB:dX n ops=true) (e:Nat) (pd':LNB) {C:Value->Wd->Prop} (ho:ops[e]? =some ⟨some d,op,ty,pos,after,guard⟩)
    (hw:Region.wanted ⟨some d,op,ty,pos,after,guard⟩ (bY ops σ)=true) (hg: ∃v w',Gives P (evF σ) op ty w v w'/\C v w') (dN:fE ops lv (pd.map (·.1)) e=true)
    (oH:pd.filter (λp=> !((above ops e).contains p.1))=pd') (h: ∀v w',C v w'->jo P ops (upd σ d v) w' pd'/\FG P r n ops Q (lv.set e true) pd' (upd σ d v) w'):FG P r n ops Q lv pd σ w:=by
  obtain⟨v,w',hg,hC⟩:=hg;refine Dr fB ho dN hw pd' oH ?_;unfold NC;rw[hg];exact h v w' hC
def p8 (fB:dX n ops=true) (e:Nat) (pd':LNB) {dst:Option Nat} {f:FuncId} {xs:List Od} {ats:Array Td} {vals:LV} {R:Value->Wd->Prop}
    (ho:ops[e]? =some ⟨dst,.call {callee:=.value (.func f),args:=xs.toArray,argTypes:=ats},ty,pos,after,guard⟩)
    (hw:Region.wanted ⟨dst,.call {callee:=.value (.func f),args:=xs.toArray,argTypes:=ats},ty,pos,after,guard⟩ (bY ops σ)=true) (hc:aQ P f vals w R) (hv:xs.map (evF σ)=vals) (dN:fE ops lv (pd.map (·.1)) e=true)
    (oH:pd.filter (λp=> !((above ops e).contains p.1))=pd') (h: ∀v w',R v w'->jo P ops (sj σ dst v) w' pd'/\FG P r n ops Q (lv.set e true) pd' (sj σ dst v) w') (he:qz P f:=by exact eT):FG P r n ops Q lv pd σ w:=by
  refine Dr fB ho dN hw pd' oH ?_;unfold NC;have e1:execOp (evF σ) ⟨dst,.call {callee:=.value (.func f),args:=xs.toArray,argTypes:=ats},ty,pos,after,guard⟩=callFunc f (#[]++xs.toArray.map (evF σ)++ #[]):=rfl;have e2:(#[]++xs.toArray.map (evF σ)++ #[]:Array Value)=vals.toArray:=by simp[hv]
  rw[e1,he.run,e2];refine Calls.mono hc λen w'' hr=>?_;cases en with
  | returned v=>exact h v w'' hr
  | _=>exact hr.elim
def eF:jo P ops σ w []:=trivial
def ay {i:Nat} {l:LNB} (h:jo P ops σ w l):jo P ops σ w ((i,true)::l):=h
def bQ {i:Nat} {l:LNB} (ho:ops[i]? =some ⟨some d,op,ty,pos,after,guard⟩)
    (hw:Region.wanted ⟨some d,op,ty,pos,after,guard⟩ (bY ops σ)=true) (hg:Gives P (evF σ) op ty w v w) (hv:σ d=v) (h:jo P ops σ w l):jo P ops σ w ((i,false)::l):=
  ⟨⟨_,v,ho,λd' hd'=>by injection hd' with hd';rw[<-hd'];exact hv,.inl ⟨hw,hg _ _ _ _⟩⟩,h⟩
section acts
variable {P:Program} {ρ:Od->Value} {w w0:Wd} {S:NP} {rs:List HP} {put:HP->List HP} {ty:Td} {x y:Od}
def aar {o:Nat} [h1:OneCell P T] (cs':LV) (H:Sep w0 S rs w) (hx:ρ x=.pointer (some ⟨b,o,none⟩))
    (hy:ρ y=v) (hv:v.oneCell'=true) (hat:At rs (blk b cs E) put) (ho:Nat.blt o cs.length=true) (hs:cs.set o v=cs'):
    ∃w',PE P ρ (.store T x y) ty w w'/\Sep w0 S (put (blk b cs' E)) w':=by
  have aX:o<cs.length:=zbe ho;have hb:=H.obj hat;obtain⟨hk,Ll⟩:=Ai (v:=v) hb aX;refine⟨w.setCell ⟨b,o,none⟩ v,λ_ _ _ _=>?_,by subst hs;exact H.setObj hat hk Ll⟩
  have dK:(store (⟨b,o,none⟩:Addr) v).run P w=.ok () (w.setCell ⟨b,o,none⟩ v):=by
    rw[run_store P w _ v _ hv,jW hb,zab aX];simp[World.frozen?,hb]
  have hcs:v.cells= #[v]:=by cases v<;>first | rfl | cases hv
  simp[execOp,hx,hy,Instr.storeAt,Instr.sureAddr,storeVar,h1.size,hcs,storeCells,dK,Addr.add_zero']
def Ap {t e:Td} [hs:dn P t e] {size:Nat} [hc:Cells P e size bytes] [hz:Zero P e z] {k:Nat} {news:LV}
    (H:Sep w0 S rs w) (hx:ρ x=v) (hy:ρ y=.slice A m c) (hat:At rs (vF e size v k xs) put) (hr:gZ w A m size news) (h1: ∀u∈news,u.oneCell'=true)
    (Ph:0<size) (Es:z.cells.size=size) (h63:k+m<=maxLen) (hbytes:(k+m)*bytes<=140737488355328):
    ∃v' w',Gives P ρ (.call {callee:=.builtin .append,args:= #[x,y],argTypes:= #[t,t]}) ty w v' w'/\Sep w0 S (put (vF e size v' (k+m) (xs++news))) w':=by
  obtain⟨F,hp,_,_⟩:=H.focus hat;obtain⟨v',w',iw,oI,hg,hb⟩:=vG (P:=P) (ty:=ty) t e Ph Es v k xs hp.1 A m c news hr h1 h63 hbytes;refine⟨v',w',λ_ _ _ _=>?_,H.Dp hat hg oI (by rcases hb with e | e<;>simp[e])⟩;simp only[execOp,resolve,invoke,builtin,zbj,zbl,zan,zce,zav,zci,hx,hy,iw]
end acts
def o7 (k:Int) (e:MapEntry):Bool:=match e.key with
 | .int .i64 a=>a==k
 | _=>false
def EB (es:List MapEntry) (k:Int):Option Value:=(es.find? (o7 k)).map (·.val)
def intKeys (es:List MapEntry):Prop:=∀e∈es,∃a,e.key=.int .i64 a
section
variable {w0 w w':Wd} {S:NP} {rs:List HP} {put:HP->List HP} {P:Program}
def BD (k:Int): ∀(es:List MapEntry) (i:Nat),intKeys es->∃r,Instr.findNow (.int .i64) (.int .i64 k) es i=some r/\r.map (·.2)=EB es k/\
    (∀j v,r=some (j,v)->∃m,j=i+m/\∃e,es[m]? =some e/\o7 k e=true/\es.find? (o7 k)=some e/\∀m' e',m'<m->es[m']? =some e'->o7 k e'=false):=by
  intro es
  induction es with
  | nil=>intro i _;exact⟨none,rfl,rfl,λ_ _ h=>by cases h⟩
  | cons e es ih=>
    intro i hk;obtain⟨a,ha⟩:=hk e zao;obtain⟨r,h1,h2,h3⟩:=ih (i+1) λx hx=>hk x (zau _ hx);have hs:Instr.sameNow (.int .i64) (.int .i64 k) e.key=some (k==a):=by rw[ha];simp[Instr.sameNow]
    have LX:o7 k e=(a==k):=by unfold o7;rw[ha]
    by_cases hka:k=a
    . subst hka
      have hkt:o7 k e=true:=by rw[LX];simp
      refine⟨some (i,e.val),?_,?_,?_⟩
      . unfold Instr.findNow;rw[hs];simp
      . simp[EB,hkt]
      rintro j v Pj;injection Pj with Pj
      injection Pj with h4 h5
      exact⟨0,oM,e,rfl,hkt,by simp[hkt],λm' _ hm=>oM⟩
    have hkf:o7 k e=false:=by rw[LX];simpa using λh:a=k=>hka h.symm
    refine⟨r,?_,?_,?_⟩
    . unfold Instr.findNow;rw[hs,h1]
      have :(k==a)=false:=by simpa using hka
      rw[this]
    . rw[h2];simp[EB,hkf]
    rintro j v Pj;obtain⟨m,hm,e',he',Pe,hf',aX⟩:=h3 j v Pj;refine⟨m+1,oM,e',by simpa using he',Pe,by simp[hkf,hf'],λm' e'' nX Pk=>?_⟩;cases m' with
    | zero=>simp at Pk;rw[<-Pk];exact hkf
    | succ m'=>exact aX m' e'' oM (by simpa using Pk)
def tF {kt:Td} (hu:P.underlying kt=some (.int .i64)) (k:Int) (es:List MapEntry) (hk:intKeys es):
    ∃r,(Instr.findKey kt (.int .i64 k) es).run P w=.ok r w/\r.map (·.2)=EB es k/\
    (∀j v,r=some (j,v)->∃e,es[j]? =some e/\o7 k e=true/\∀m' e',m'<j->es[m']? =some e'->o7 k e'=false):=by
  obtain⟨r,h1,h2,h3⟩:=BD k es 0 hk;refine⟨r,by simp[Instr.findKey,run_underlying hu,h1],h2,λj v Pj=>?_⟩;obtain⟨m,hm,e,he,nW,_,aX⟩:=h3 j v Pj;have :j=m:=by omega
  subst this;exact⟨e,he,nW,aX⟩
def rF {kt:Td} (hu:P.underlying kt=some (.int .i64)) (b:Bool) (k:Int) (d:Nat):(Instr.checkKey b (d+1) kt (.int .i64 k)).run P w=.ok () w:=by
 simp[Instr.checkKey,run_underlying hu]
def run_getObj_map {es:Array MapEntry} (h:w.heap[b]? =some (.map es c)):(getObj b).run P w=.ok (.map es c) w:=by
 simp[getObj,Sem.run,h]
end
end Go.Proofs.Mw
