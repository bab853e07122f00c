/-
 Rules of the walk for memory:variables,rows behind slices,append,make. Nothing of a given program stands here.
-/
import Derived.Test.YtkfpleidaoaonaaGreatDoorNw1
import Derived.Maps.AppendAt
import Derived.Laws.CopyRow
import Derived.Laws.IdiomStrings
import Derived.Laws.BytesArg
import Derived.KernelRfl
import Derived.Laws.Externs
import Derived.MapKept
import Derived.RangeFuncIn
set_option linter.unusedVariables false
set_option linter.unusedSimpArgs false
namespace Go.Mw
open Go.RowKit
structure gV (w:Wd) (A:OA) (n s:Nat) (xs:LV):Prop where
 len:xs.length=n*s
 at_:0<n->∃ad,A=some ad/\∀(j:Nat) u,xs[j]? =some u->w.cell? (ad.add j)=some u
theorem add_add (a:Addr) (i j:Nat):(a.add i).add j=a.add (i+j):=by
 unfold Addr.add
 by_cases hi:i=0<;>by_cases hj:j=0<;>simp[hi,hj,Nat.add_assoc]
theorem add_block (a:Addr) (n:Nat):(a.add n).block=a.block:=by unfold Addr.add;split<;>rfl
theorem Y5 {w:Wd} {a:Addr} {v:Value} (h:w.cell? a=some v):a.block<w.heap.size:=block_lt_of_cell h
theorem Kept.cell {S:NP} {w w':Wd} (h:Kept S w w') {a:Addr} {v:Value} (hc:w.cell? a=some v) (hS: ¬S a.block):w'.cell? a=some v:=
 (World.cell?_of_block (h.block _ (Y5 hc) hS)).trans hc
section
variable {w w':Wd} {A:OA} {n s:Nat} {xs:LV}
theorem gV.nil (w:Wd) (A:OA) (s:Nat):gV w A 0 s []:=⟨sM,λh=>zap h (Nat.lt_irrefl 0)⟩
def Off (A:OA) (n:Nat) (F:NP):Prop:=0<n->∀ad,A=some ad->¬F ad.block
theorem gV.alb {S:NP} (h:gV w A n s xs) (hk:Kept S w w') (acj:Off A n S):gV w' A n s xs:=
 ⟨h.len,λhn=>by
  obtain⟨ad,hA,hc⟩:=h.at_ hn;exact⟨ad,hA,λj u hj=>hk.cell (hc j u hj) (by rw[add_block];exact acj hn ad hA)⟩⟩
theorem gV.keep (h:gV w A n s xs) (hk:Kept noB w w'):gV w' A n s xs:=h.alb hk λ_ _ _=>id
theorem Off.of {S F:NP} (hO:Off A n S) (h:gV w A n s xs) (hF: ∀b,F b->S b\/w.heap.size<=b) (hs:0<s):Off A n F:=λhn ad hA hb=>by
 obtain⟨ad',h1,h2⟩:=h.at_ hn;rw[hA]at h1;injection h1 with h1
 subst h1;have hl:0<xs.length:=by rw[h.len];exact Nat.mul_pos hn hs
 have hc:=h2 0 xs[0] (by simp[hl]);have bH:=Y5 hc;rw[add_block]at bH
 rcases hF _ hb with h3 | h3
 .exact hO hn ad hA h3
 omega
theorem gV.cut (h:gV w A n s xs) {k cap:Nat} (hk:k<=n) (hc:n<=cap):
    gV w (if cap=k then A else A.map (·.add (k*s))) (n-k) s (xs.drop (k*s)):=by
  refine⟨by rw[zbq,h.len,Nat.sub_mul],λhn=>?_⟩;obtain⟨ad,rfl,EB⟩:=h.at_ oM;rw[zab oM];exact⟨ad.add (k*s),rfl,λj u hu=>by rw[add_add];exact EB _ u (by rw[<-hu,zco])⟩
theorem gV.take (h:gV w A n s xs) {k:Nat} (hk:k<=n):gV w A k s (xs.take (k*s)):=by
 refine⟨by rw[zaj,h.len];exact zcv (Nat.mul_le_mul_right s hk),λhn=>?_⟩;obtain⟨ad,hA,EB⟩:=h.at_ oM;refine⟨ad,hA,λj u hu=>EB j u ?_⟩;rw[zck]at hu
 split at hu
 .exact hu
 cases hu
end

def yU (E s:Nat) (v:Value) (n:Nat) (xs:LV):HP where
 ok F w:=w.ownsRow 0 E s v n xs/\∀b,F b↔v.ownBlock=some b
 loc _ h eH:=by
  obtain⟨⟨h1,h2⟩,hF⟩:=eH;refine⟨⟨h1,?_⟩,hF⟩
  rcases h2 with h2 | ⟨g,cap,cur,hv,hg,hh,r⟩
  .exact .inl h2
  refine .inr ⟨g,cap,cur,hv,hg,?_,r⟩;rw[h g ((hF g).2 (by rw[hv];rfl))];exact hh
 low eH b hb:=(eH.1.lt b ((eH.2 b).1 hb)).2
theorem D6 {w:Wd} {B E s n c:Nat} {A:OA} {xs:LV} (h:w.ownsRow B E s (.slice A n c) n xs):gV w A n s xs:=by
 refine⟨h.1,λhn=>?_⟩
 rcases h.2 with⟨hv,h0⟩ | ⟨g,cap,cur,hv,_,hh,r⟩
 .omega
 injection hv with hA
 subst hA;exact⟨_,rfl,h.cells (g:=g) rfl⟩
section
variable {w0 w w':Wd} {S:NP} {rs:List HP} {put:HP->List HP}
theorem Sep.rowAt {E s n c:Nat} {A:OA} {xs:LV} (h:Sep w0 S rs w) (hat:At rs (yU E s (.slice A n c) n xs) put):gV w A n s xs:=by
 obtain⟨F,hp,_,_⟩:=h.focus hat;exact D6 hp.1
theorem Sep.uI {E s n:Nat} {v:Value} {xs:LV} (h:Sep w0 S rs w) (hat:At rs (yU E s v n xs) put): ∃A c,v=.slice A n c/\n<=c/\xs.length=n*s/\(A=none->n=0/\c=0):=by
 obtain⟨F,hp,_,_⟩:=h.focus hat
 rcases hp.1.2 with⟨hv,h0⟩ | ⟨g,cap,cur,hv,_,hh,q9,r⟩
 .exact⟨none,0,by rw[hv,h0],oM,hp.1.1,λ_=>⟨h0,rfl⟩⟩
 exact⟨_,cap,hv,q9,hp.1.1,λe=>by cases e⟩
theorem Sep.jM (h:Sep w0 S rs w) (E s:Nat):Sep w0 S (yU E s (.slice none 0 0) 0 []::rs) w:=
 h.new (F':=λ_=>False) (Kept.refl _ _) ⟨World.ownsRow_nil _ _ _ _,λb=>by simp[Value.ownBlock]⟩ λ_ hb=>hb.elim
theorem Sep.o7 {b E s n:Nat} {cs:LV} (h:Sep w0 S rs w) (hat:At rs (blk b cs E) put) (hl:cs.length=n*s) (hm:n<=maxLen):Sep w0 S (put (yU E s (.slice (some ⟨b,0,none⟩) n n) n cs)) w:=
 h.imp hat λF hF=>⟨⟨hl,.inr ⟨b,n,cs.toArray,rfl,zaq _,hF.2,zbk _,hm,by simpa using hl,by rw[<-hl];simp⟩⟩,λx=>by rw[hF.1 x];simp[Value.ownBlock,eq_comm]⟩
theorem Sep.D7 {E s n n':Nat} {v v':Value} {xs xs':LV} (h:Sep w0 S rs w) (hat:At rs (yU E s v n xs) put) (hg:w.grownBy w' v.ownBlock) (mR:w'.ownsRow 0 E s v' n' xs') (hb:v'.ownBlock=v.ownBlock\/v'.ownBlock=some w.heap.size\/v'.ownBlock=none):Sep w0 S (put (yU E s v' n' xs')) w':=by
 obtain⟨F,hp,hS,jO⟩:=h.focus hat;refine jO w' (λb=>v'.ownBlock=some b) _ ⟨hg.os,hg.tape,hg.output,hg.size,λk hk hF=>hg.block k hk λe=>hF ((hp.2 k).2 e.symm)⟩ ⟨mR,λb=>Iff.rfl⟩ λb VQ=>?_
 rcases hb with e | e | e
 .exact .inl ((hp.2 b).2 (by rw[<-e];exact VQ))
 .rw[e]at VQ;injection VQ with VQ;exact .inr oM
 rw[e]at VQ;cases VQ
end

theorem run_append_nil {P:Program} {w:Wd} (base t ty e:Nat) (i:TypeInfo) (size:Nat) (ht:P.underlying t=some (.slice e)) (hi:P.info? e=some i)
    (v:Value) (n:Nat) (xs:LV) (mR:w.ownsRow base e size v n xs) (A:OA) (hA:A=none) (c:Nat):(Builtin.append_ #[t,t] ty #[v,.slice A 0 c]).run P w=.ok v w:=by
  subst hA
  rcases mR.2 with⟨rfl,rfl⟩ | ⟨g,cap,cur,rfl,_,_,hnc,_⟩
  . simp[Builtin.append_,run_underlying ht,sizeOf,typeInfo,hi,Builtin.lenOf,Builtin.firstCells]
  simp[Builtin.append_,run_underlying ht,sizeOf,typeInfo,hi,Builtin.lenOf,Builtin.firstCells,hnc,storeCells]
theorem yh {P:Program} {w:Wd} (t ty e:Nat) [hs:dh P t e] {size bytes:Nat} [hc:Cells P e size bytes] {z:Value} [hz:Zero P e z] (hsz:0<size) (JW:z.cells.size=size)
    (v:Value) (n:Nat) (xs:LV) (mR:w.ownsRow 0 e size v n xs) (A:OA) (m c:Nat) (news:LV) (hr:gV w A m size news) (h1: ∀u∈news,u.oneCell'=true)
    (h63:n+m<=maxLen) (hbytes:(n+m)*bytes<=140737488355328):
    ∃v' w',(Builtin.append_ #[t,t] ty #[v,.slice A m c]).run P w=.ok v' w'/\w'.ownsRow 0 e size v' (n+m) (xs++news)/\w.grownBy w' v.ownBlock/\
      (v'.ownBlock=v.ownBlock\/v'.ownBlock=some w.heap.size):=by
  obtain⟨i,hi,p9⟩:=zav.1 hc.size;simp only[Prod.mk.injEq]at p9
  have uf:i.zero=some z:=by
    have:=hz.run w;simp[zeroValue,typeInfo,hi]at this;cases hq:i.zero with
    | none=>simp[hq]at this
    | some u=>simp[hq]at this;rw[this]
  rcases A with _ | ad
  . have hm:m=0:=by
      rcases zeb m with h0 | h0
      . exact h0
      obtain⟨ad,h,_⟩:=hr.at_ h0;cases h
    subst hm;have hn:news=[]:=zbe (by simpa using hr.len);subst hn;exact⟨v,w,run_append_nil 0 t ty e i size hs.und hi v n xs mR none rfl c,by simpa using mR,World.grownBy.refl w _,.inl rfl⟩
  have hcells: ∀j u,news[j]? =some u->w.cell? (ad.add j)=some u:=by
    intro j u hu
    rcases zeb m with h0 | h0
    . subst h0
      have hn:news=[]:=zbe (by simpa using hr.len);subst hn;simp at hu
    obtain⟨ad',h,ZK⟩:=hr.at_ h0;injection h with h
    subst h;exact ZK j u hu
  obtain⟨v',w',iw,h2,h3,_,h5⟩:=run_append_own_at (P:=P) w 0 t ty e i z size bytes hs.und hi uf p9.1 p9.2 JW hsz v n xs mR ad m c news hr.len hcells h1 h63 hbytes (zaq _);exact⟨v',w',iw,h2,h3,h5⟩

section rules
variable {P:Program} {r:Option Nat} {n:Nat} {ops:AO} {Q:Post} {rest:LO} {σ:St} {w w' w0:Wd} {S:NP} {rs:List HP} {put:HP->List HP} {ty:Td} {pos:String} {after:Array Edge}
theorem agT {d:Nat} {x:Od} {v:Value} (hv:evF σ x=v:=by exact eV) (hd:Nat.blt d n=true:=by exact rfl) (h:FL P r n ops Q rest (upd σ d v) w):
    FL P r n ops Q (⟨some d,.move x,ty,pos,after,none⟩::rest) σ w:=dG (Gives.move hv) hd h
theorem aaU {d:Nat} {x:Od} {v:Value} (hv:evF σ x=v:=by exact eV) (hd:Nat.blt d n=true:=by exact rfl) (h:FL P r n ops Q rest (upd σ d v) w):
    FL P r n ops Q (⟨some d,.assign x,ty,pos,after,none⟩::rest) σ w:=dG (Gives.assign hv) hd h
theorem ad6 {d:Nat} {x y z:Od} {v:Value} (hc:evF σ z=.bool false:=by exact rfl) (hv:evF σ y=v:=by exact eV) (hd:Nat.blt d n=true:=by exact rfl) (h:FL P r n ops Q rest (upd σ d v) w):
    FL P r n ops Q (⟨some d,.pick z x y,ty,pos,after,none⟩::rest) σ w:=dG (Gives.ah5 hc hv) hd h
theorem agU {d b o:Nat} {x:Od} {T:Td} [OneCell P T] {cs:LV} {E:Td} {v:Value} (H:Sep w0 S rs w) (hx:evF σ x=.pointer (some ⟨b,o,none⟩):=by exact rfl)
    (hat:At rs (blk b cs E) put:=by exact aT) (hv:cs[o]? =some v:=by exact rfl) (hd:Nat.blt d n=true:=by exact rfl) (h:FL P r n ops Q rest (upd σ d v) w):
    FL P r n ops Q (⟨some d,.load T x,ty,pos,after,none⟩::rest) σ w:=dG (Gives.sJ hx (H.obj hat) hv) hd h
theorem D8 {d b o k:Nat} {x:Od} {T:Td} [Agg P T k] {cs:LV} {E:Td} {us:LV} (H:Sep w0 S rs w) (hx:evF σ x=.pointer (some ⟨b,o,none⟩):=by exact rfl)
    (hat:At rs (blk b cs E) put:=by exact aT) (hu:(cs.drop o).take k=us) (hk:us.length=k) (hd:Nat.blt d n=true:=by exact rfl) (h:FL P r n ops Q rest (upd σ d (.agg us.toArray)) w):
    FL P r n ops Q (⟨some d,.load T x,ty,pos,after,none⟩::rest) σ w:=dG (Gives.JZ hx (H.obj hat) hu hk) hd h
theorem ad7 {d:Nat} {a:Addr} {x:Od} {T:Td} [h1:OneCell P T] {v:Value} (hc:w.cell? a=some v) (hx:evF σ x=.pointer (some a):=by exact rfl) (hd:Nat.blt d n=true:=by exact rfl) (h:FL P r n ops Q rest (upd σ d v) w):
    FL P r n ops Q (⟨some d,.load T x,ty,pos,after,none⟩::rest) σ w:=
  dG (w':=w) (λ_ _ _ _=>by simp[execOp,hx,Instr.loadAt,Instr.sureAddr,loadVar,h1.agg,hc]) hd h
theorem aaV {d k:Nat} {a:Addr} {x:Od} {T:Td} [h1:Agg P T k] {us:LV} (hc: ∀j u,us[j]? =some u->w.cell? (a.add j)=some u) (hk:us.length=k) (hx:evF σ x=.pointer (some a):=by exact rfl) (hd:Nat.blt d n=true:=by exact rfl) (h:FL P r n ops Q rest (upd σ d (.agg us.toArray)) w):
    FL P r n ops Q (⟨some d,.load T x,ty,pos,after,none⟩::rest) σ w:=
  dG (w':=w) (λ_ _ _ _=>by have:=run_loadCells_list (P:=P) w a us hc;rw[hk]at this;simp[execOp,hx,Instr.loadAt,Instr.sureAddr,loadVar,h1.agg,h1.size,this]) hd h
theorem yj {b o:Nat} {cs:LV} {E:Td} {v:Value} (hb:w.heap[b]? =some (.cells cs.toArray E (0,0))) (_ho:o<cs.length):
    Kept (λx=>x=b) w (w.setCell ⟨b,o,none⟩ v)/\(w.setCell ⟨b,o,none⟩ v).heap[b]? =some (.cells (cs.set o v).toArray E (0,0)):=by
  refine⟨⟨rfl,rfl,rfl,by simp[World.setCell],λk hk hS=>Below.heap_setCell w _ v k hS⟩,?_⟩;simp only[World.setCell,zcs,if_true,hb,zda];simp
theorem bB {b o:Nat} {x y:Od} {T:Td} [h1:OneCell P T] {cs cs':LV} {E:Td} {v:Value} (H:Sep w0 S rs w) (hx:evF σ x=.pointer (some ⟨b,o,none⟩):=by exact rfl)
    (hy:evF σ y=v:=by exact eV) (hv:v.oneCell'=true:=by exact rfl)
    (hat:At rs (blk b cs E) put:=by exact aT) (ho:Nat.blt o cs.length=true:=by exact rfl)
    (hs:cs.set o v=cs':=by first | (simp only[zea,zgb];rfl) | exact rfl) (h: ∀w',Sep w0 S (put (blk b cs' E)) w'->FL P r n ops Q rest σ w'):
    FL P r n ops Q (⟨none,.store T x y,ty,pos,after,none⟩::rest) σ w:=by
  have bH:o<cs.length:=zaw ho;have hb:=H.obj hat;obtain⟨hk,Ji⟩:=yj (v:=v) hb bH;refine EI (w':=w.setCell ⟨b,o,none⟩ v) (λ_ _ _ _=>?_) rfl (h _ (by subst hs;exact H.setObj hat hk Ji))
  have fU:(store (⟨b,o,none⟩:Addr) v).run P w=.ok () (w.setCell ⟨b,o,none⟩ v):=by
    rw[run_store P w _ v _ hv,jD hb,zaa bH];simp[World.frozen?,hb]
  have hcs:v.cells= #[v]:=by cases v<;>first | rfl | cases hv
  simp[execOp,hx,hy,Instr.storeAt,Instr.sureAddr,storeVar,h1.size,hcs,storeCells,fU,Addr.add_zero']
theorem Oh {b o k:Nat} {x y:Od} {T:Td} [h1:Agg P T k] {cs us cs':LV} {E:Td} (H:Sep w0 S rs w) (hx:evF σ x=.pointer (some ⟨b,o,none⟩):=by exact rfl)
    (hy:evF σ y=.agg us.toArray:=by exact rfl) (hk:us.length=k) (hv: ∀u∈us,u.oneCell'=true)
    (hat:At rs (blk b cs E) put:=by exact aT) (ho:o+us.length<=cs.length)
    (hs:cs.take o++us++cs.drop (o+us.length)=cs') (h: ∀w',Sep w0 S (put (blk b cs' E)) w'->FL P r n ops Q rest σ w'):
    FL P r n ops Q (⟨none,.store T x y,ty,pos,after,none⟩::rest) σ w:=by
  have hb:=H.obj hat;have fU:=run_storeCells_at P b o E us 0 cs.toArray w hb (by simpa using ho) hv
  refine EI (w':=w.setRow b (cs.take o++us++cs.drop (o+us.length)).toArray) (λ_ _ _ _=>?_) rfl (h _ (by
    subst hs;refine H.setObj hat ⟨rfl,rfl,rfl,sM,λj hj hS=>?_⟩ ?_
    . simp only[World.setRow,zcs];rw[zab (λe=>hS e.symm)]
    simp only[World.setRow,zcs,if_true,hb,zda]))
  simp only[zff]at fU;simp[execOp,hx,hy,Instr.storeAt,Instr.sureAddr,storeVar,h1.size,Value.cells,hk];simp[hk]at fU;rw[fU];simp
theorem aO {d:Nat} {T:Td} {z:Value} [hz:Zero P T z] {cs:LV} (H:Sep w0 S rs w) (hcs:z.cells=cs.toArray:=by exact rfl) (hd:Nat.blt d n=true:=by exact rfl)
    (h: ∀b w',Sep w0 S (blk b cs T::rs) w'->Kept noB w w'->FL P r n ops Q rest (upd σ d (.pointer (some ⟨b,0,none⟩))) w'):
    FL P r n ops Q (⟨some d,.alloc T,ty,pos,after,none⟩::rest) σ w:=
  dG (w':=w.alloc (.cells cs.toArray T)) (v:=.pointer (some ⟨w.heap.size,0,none⟩)) (λ_ _ _ _=>by simp[execOp,Instr.alloc,hz.run,newVar,newRow,hcs]) hd (h _ _ (H.alloc _) (Kept.alloc _ _))
theorem cB {d:Nat} {T:Td} {x:Od} {v:Value} {cs:LV} (H:Sep w0 S rs w) (hx:evF σ x=v:=by exact eV) (hcs:v.cells=cs.toArray:=by exact rfl) (hd:Nat.blt d n=true:=by exact rfl)
    (h: ∀b w',Sep w0 S (blk b cs T::rs) w'->Kept noB w w'->FL P r n ops Q rest (upd σ d (.pointer (some ⟨b,0,none⟩))) w'):
    FL P r n ops Q (⟨some d,.box T x,ty,pos,after,none⟩::rest) σ w:=
  dG (w':=w.alloc (.cells cs.toArray T)) (v:=.pointer (some ⟨w.heap.size,0,none⟩)) (λ_ _ _ _=>by simp[execOp,Instr.box,hx,newVar,newRow,hcs]) hd (h _ _ (H.alloc _) (Kept.alloc _ _))
theorem tu {d:Nat} {T:Td} (H:Sep w0 S rs w) (hd:Nat.blt d n=true:=by exact rfl)
    (h: ∀b w',Sep w0 S (obj b (.map #[] 0)::rs) w'->Kept noB w w'->FL P r n ops Q rest (upd σ d (.map (some b))) w'):
    FL P r n ops Q (⟨some d,.makeMap T none,ty,pos,after,none⟩::rest) σ w:=
  dG (w':=w.alloc (.map #[] 0)) (v:=.map (some w.heap.size)) (λ_ _ _ _=>by simp[execOp,Instr.makeMap]) hd (h _ _ (H.alloc _) (Kept.alloc _ _))
theorem aD {d:Nat} {f:FuncId} {xs:List Od} {ats:Array Td} {vals:LV} {v:Value} [he:qb P f] (H:Sep w0 S rs w) (hc:Rk P f vals w v) (hv:xs.map (evF σ)=vals:=by exact rfl) (hd:Nat.blt d n=true:=by exact rfl)
    (h: ∀w',Sep w0 S rs w'->Kept noB w w'->FL P r n ops Q rest (upd σ d v) w'):
    FL P r n ops Q (⟨some d,.call {callee:=.value (.func f),args:=xs.toArray,argTypes:=ats},ty,pos,after,none⟩::rest) σ w:=
  aK hc hv hd λv' w' ⟨e,hk⟩=>by subst e;exact h w' (H.keep hk) hk
end rules

section gives
variable {P:Program} {ρ:Od->Value} {ty:Td} {w w':Wd} {x y z:Od}
theorem Gives.ad8 {t e:Td} [h:dh P t e] {A:OA} {m c:Nat} (hx:ρ x=.slice A m c):Gives P ρ (.call {callee:=.builtin .len,args:= #[x],argTypes:= #[t]}) ty w (.int .i64 m) w:=λ_ _ _ _=>by
 simp[execOp,resolve,invoke,builtin,hx,Builtin.len_,run_underlying h.und,goInt]
theorem Gives.lenStr {t:Td} [h:j3 P t] {s:ByteArray} (hx:ρ x=.string s):Gives P ρ (.call {callee:=.builtin .len,args:= #[x],argTypes:= #[t]}) ty w (.int .i64 s.size) w:=λ_ _ _ _=>by
 simp[execOp,resolve,invoke,builtin,hx,Builtin.len_,run_underlying h.und,goInt]
theorem Gives.min {k:IntKind} {a b:Int} {ts:Array Td} (hx:ρ x=.int k a) (hy:ρ y=.int k b):Gives P ρ (.call {callee:=.builtin .min,args:= #[x,y],argTypes:=ts}) ty w (.int k (min a b)) w:=λ_ _ _ _=>by
 have:=run_min_int2 (P:=P) w ts ty k k a b;simp only[execOp,resolve,invoke,builtin,zbh,zbm,zai,zcg,zay,zcm,hx,hy,this];rw[Int.min_def]
 split<;>split<;>first | rfl | (congr 3;omega)
theorem Gives.max {k:IntKind} {a b:Int} {ts:Array Td} (hx:ρ x=.int k a) (hy:ρ y=.int k b):Gives P ρ (.call {callee:=.builtin .max,args:= #[x,y],argTypes:=ts}) ty w (.int k (max a b)) w:=λ_ _ _ _=>by
 have:=run_max_int2 (P:=P) w ts ty k k a b;simp only[execOp,resolve,invoke,builtin,zbh,zbm,zai,zcg,zay,zcm,hx,hy,this];rw[Int.max_def]
 split<;>split<;>first | rfl | (congr 3;omega)
theorem Gives.sliceTo {t e:Td} [ht:dh P t e] {size bytes:Nat} [hc:Cells P e size bytes] {A:OA} {m c h:Nat} {k:IntKind} (hx:ρ x=.slice A m c) (hy:ρ y=.int k h) (q9:h<=c):Gives P ρ (.slice t x none (some y) none) ty w (.slice A h c) w:=λ_ _ _ _=>by
 obtain⟨i,hi,p9⟩:=zav.1 hc.size;have e1:(0:Int)<=(h:Int)/\(h:Int)<=(c:Int):=oM;have e2:A.map (λx:Addr=>x.add 0)=A:=by cases A<;>simp[Addr.add_zero']
 simp[execOp,hx,hy,Instr.sliceAt,run_underlying ht.und,Instr.slice,Instr.sliceBounds,Instr.sliceBound,asIntOf,e1,sizeOf,typeInfo,hi,e2];omega
theorem Gives.sliceFrom {t e:Td} [ht:dh P t e] {size bytes:Nat} [hc:Cells P e size bytes] {A:OA} {m c l:Nat} {k:IntKind} (hx:ρ x=.slice A m c) (hy:ρ y=.int k l) (q9:l<=m):Gives P ρ (.slice t x (some y) none none) ty w (.slice (if c=l then A else A.map (·.add (l*size))) (m-l) (c-l)) w:=λ_ _ _ _=>by
 obtain⟨i,hi,p9⟩:=zav.1 hc.size;simp only[Prod.mk.injEq]at p9;have e1:(0:Int)<=(l:Int)/\(l:Int)<=(m:Int):=oM;simp[execOp,hx,hy,Instr.sliceAt,run_underlying ht.und,Instr.slice,Instr.sliceBounds,Instr.sliceBound,asIntOf,e1,sizeOf,typeInfo,hi,p9.1];omega
theorem Gives.aaW {t e:Td} [ht:dh P t e] {size bytes:Nat} [hc:Cells P e size bytes] {A:OA} {m c l h:Nat} {k j:IntKind} (hx:ρ x=.slice A m c) (hy:ρ y=.int k l) (hz:ρ z=.int j h) (q9:l<=h) (VP:h<=c):Gives P ρ (.slice t x (some y) (some z) none) ty w (.slice (if c=l then A else A.map (·.add (l*size))) (h-l) (c-l)) w:=λ_ _ _ _=>by
 obtain⟨i,hi,p9⟩:=zav.1 hc.size;simp only[Prod.mk.injEq]at p9;have e1:(0:Int)<=(l:Int)/\(l:Int)<=(h:Int):=oM;have e2:(0:Int)<=(h:Int)/\(h:Int)<=(c:Int):=oM;simp[execOp,hx,hy,hz,Instr.sliceAt,run_underlying ht.und,Instr.slice,Instr.sliceBounds,Instr.sliceBound,asIntOf,e1,e2,sizeOf,typeInfo,hi,p9.1,q9,VP]
theorem Gives.ad9 {t e m:Td} [ht:Ar P t m e] {size bytes:Nat} [hc:Cells P e size bytes] {a:Addr} (hx:ρ x=.pointer (some a)):Gives P ρ (.slice t x none none none) ty w (.slice (some a) m m) w:=λ_ _ _ _=>by
 obtain⟨i,hi,p9⟩:=zav.1 hc.size;simp[execOp,hx,Instr.sliceAt,run_underlying ht.und,Instr.sliceBounds,Instr.sureAddr,sizeOf,typeInfo,hi];intro _;simp[Addr.add_zero']
theorem Gives.idx {t e:Td} [ht:dh P t e] {size bytes:Nat} [hc:Cells P e size bytes] {ad:Addr} {m c i:Nat} {k:IntKind} (hx:ρ x=.slice (some ad) m c) (hy:ρ y=.int k i) (bH:i<m):Gives P ρ (.indexAddr t x y) ty w (.pointer (some (ad.add (i*size)))) w:=λ_ _ _ _=>by
 obtain⟨j,hj,p9⟩:=zav.1 hc.size;simp only[Prod.mk.injEq]at p9;have e1:(0:Int)<=(i:Int)/\(i:Int)<(m:Int):=oM;simp[execOp,hx,hy,Instr.indexAt,run_underlying ht.und,asIntOf,e1,sizeOf,typeInfo,hj,p9.1,bH]
theorem Gives.Fh {t e m:Td} [ht:Ar P t m e] {size bytes:Nat} [hc:Cells P e size bytes] {ad:Addr} {i:Nat} {k:IntKind} (hx:ρ x=.pointer (some ad)) (hy:ρ y=.int k i) (bH:i<m):Gives P ρ (.indexAddr t x y) ty w (.pointer (some (ad.add (i*size)))) w:=λ_ _ _ _=>by
 obtain⟨j,hj,p9⟩:=zav.1 hc.size;simp only[Prod.mk.injEq]at p9;have e1:(0:Int)<=(i:Int)/\(i:Int)<(m:Int):=oM;simp[execOp,hx,hy,Instr.indexAt,run_underlying ht.und,asIntOf,Instr.sureAddr,e1,sizeOf,typeInfo,hj,p9.1,bH]
end gives
section
variable (ops:AO)
def l6 (i:Nat):List Nat:=match ops[i]? with
 | some o=>o.after.toList.filterMap λe=>if Region.binds .any e then some e.on else none
 | none=>[]
def jd (i:Nat):Option Nat:=(ops[i]?).bind (λo:Oper=>o.dst)
def looks (i:Nat):List Nat:=match ops[i]? with
 | some o=>o.looksAt ops
 | none=>[]
def JM:Op->Bool
 | .select .. =>false
 | _=>true
def jW (lv:List Bool) (ids:List Nat) (i:Nat):Bool:=
 !(lv.getD i true)&&(l6 ops i).all (λe=>lv.getD e false)&&(match jd ops i with | some d=> !(looks ops i).contains d | none=>true)&&
 ids.all λk=>(match jd ops i with | some d=>jd ops k !=some d&& !(looks ops k).contains d | none=>true)&&
  (match jd ops k with | some d=> !(looks ops i).contains d||(l6 ops i).contains k | none=>true)
def tC (lv:List Bool):List Nat:=(List.range ops.size).filter λi=> !(lv.getD i true)&&(l6 ops i).all λe=>lv.getD e false
def eX (lv:List Bool) (ids:List Nat) (e:Nat):Bool:=
 tC ops lv==[e]&&
 ids.all λk=>(l6 ops e).contains k||((match jd ops e with | some d=>jd ops k !=some d&& !(looks ops k).contains d | none=>true)&&
  (match jd ops k with | some d=> !(looks ops e).contains d | none=>true))
def Fj (S:List Nat) (k:Nat):List Nat:=if S.contains k then S++(l6 ops k).filter (λj=> !(S.contains j))else S
def above (i:Nat):List Nat:=(List.range ops.size).reverse.foldl (Fj ops) (l6 ops i)
end

def zB (P:Program) (ops:AO) (σ:St) (w:Wd) (o:Oper) (v:Value):Prop:=
 (Region.wanted o (bX ops σ)=true/\(execOp (evF σ) o).run P w=.ok (.value v) w)\/(Region.wanted o (bX ops σ)=false/\v=undef)
def dJ (n:Nat) (ops:AO):Bool:=ops.all λo=>Nh n o.dst&&JM o.op

structure Real (P:Program) (n:Nat) (ops:AO) (lv:List Bool) (pd:LNB) (σ:St) (w:Wd) (sub:LNB) (lr:Array Bool) (a:Act):Prop where
 mem: ∀p∈sub,p∈pd
 nd:(sub.map (·.1)).Nodup
 pw:sub.Pairwise λx y=>x.1∉l6 ops y.1
 pr: ∀p∈sub,∀e∈l6 ops p.1,lv.getD e false=true/\e≠p.1
 lvl: ∀p∈sub,lv.getD p.1 false=true
 lrv: ∀i,i<ops.size->lr.getD i true=(lv.getD i true&& !((sub.map (·.1)).contains i))
 sz:lr.size=ops.size
 lsz:lv.length=ops.size
 cl: ∀i,lr.getD i false=true->∀e∈l6 ops i,lr.getD e false=true
 rep: ∃σr,Rep n σr a/\σr.ds=σ.ds/\∀x,(∀p∈sub,jd ops p.1≠some x)->σr x=σ x
 yl: ∀p∈sub,∃o v,ops[p.1]? =some o/\(∀d,o.dst=some d->σ d=v)/\∀w',(p.2=true\/w'=w)->zB P ops σ w' o v
 own: ∀p∈sub,∀d,jd ops p.1=some d->d∉looks ops p.1
 apart: ∀p∈sub,∀q∈sub,p.1≠q.1->∀d,jd ops p.1=some d->jd ops q.1≠some d/\(d∈looks ops q.1->p.1∈l6 ops q.1)

def left (ops:AO) (lr:Array Bool):Nat:=((List.range ops.size).filter λi=> !(lr.getD i true)).length

def FG (P:Program) (r:Option Nat) (n:Nat) (ops:AO) (Q:Post) (lv:List Bool) (pd:LNB) (σ:St) (w:Wd):Prop:=
 ∀sub lr a,Real P n ops lv pd σ w sub lr a->wpAnyIn (fen r) 0 P .any ops (lift n Q) (left ops lr) lr a w

section
variable {P:Program} {r:Option Nat} {n:Nat} {ops:AO} {Q:Post} {lv:List Bool} {pd:LNB} {σ:St} {w:Wd}

theorem Oi {i e:Nat} {o:Oper} (ho:ops[i]? =some o):e∈l6 ops i↔∃x∈o.after,Region.binds .any x=true/\x.on=e:=by
 unfold l6;simp only[ho,List.mem_filterMap];constructor
 .rintro⟨x,hx,h⟩
  split at h
  .rename_i hb;injection h with h;exact⟨x,by simpa using hx,hb,h⟩
  cases h
 rintro⟨x,hx,hb,h⟩;exact⟨x,by simpa using hx,by rw[zac hb,h]⟩
theorem vU {lr:Array Bool} {j:Nat}:j∈Region.ready .any ops lr↔lr.getD j true=false/\j<ops.size/\∀e∈l6 ops j,lr.getD e false=true:=by
 rw[mem_ready];constructor
 .rintro⟨h0,o,ho,h⟩
  refine⟨h0,(zcq.1 ho).1,λe he=>?_⟩;obtain⟨x,hx,hb,rfl⟩:=(Oi ho).1 he;exact h x hx hb
 rintro⟨h0,bH,h⟩;refine⟨h0,ops[j],zdj bH,λe he hb=>h _ ((Oi (zdj bH)).2 ⟨e,he,hb,rfl⟩)⟩
theorem yt {j:Nat}:j∈tC ops lv↔lv.getD j true=false/\j<ops.size/\∀e∈l6 ops j,lv.getD e false=true:=by
 unfold tC;simp only[zbw,zdp,zbr,zdh,zbf];constructor
 .rintro⟨h1,h2,h3⟩;exact⟨h2,h1,h3⟩
 rintro⟨h1,h2,h3⟩;exact⟨h2,h1,h3⟩
theorem aea {lr:Array Bool} {i:Nat} (hi:i<ops.size) (hs:lr.size=ops.size) (h:lr.getD i true=false):left ops lr=left ops (lr.setIfInBounds i true)+1:=by
 unfold left
 have key: ∀m,m<=ops.size->((List.range m).filter λk=> !(lr.getD k true)).length=((List.range m).filter λk=> !((lr.setIfInBounds i true).getD k true)).length+(if i<m then 1 else 0):=by
  intro m
  induction m with
  | zero=>intro _;simp
  | succ m ih=>
   intro hm;rw[List.range_succ,zga,zga,zad,zad,ih oM]
   by_cases him:i=m
   .subst him
    have h2:(lr.setIfInBounds i true).getD i true=true:=by
     simp[zbl,zbt]
     split<;>rfl
    simp only[zel,List.filter_nil,h,h2];simp
   simp only[zel,List.filter_nil];rw[show(lr.setIfInBounds i true).getD m true=lr.getD m true from getD_set_ne true him]
   by_cases h1:i<m
   .have h2:i<m+1:=oM
    simp only[h1,h2,if_true];omega
   have h2: ¬i<m+1:=oM;simp only[h1,h2,if_false];omega
 rw[key ops.size (zbk _),zac hi]
theorem aaX {lr:Array Bool} (h:left ops lr=0): ∀i,i<ops.size->lr.getD i true=true:=by
 intro i hi;unfold left at h;have h0:=zbe h;rw[List.filter_eq_nil_iff]at h0;have:=h0 i (zdp.2 hi);simpa using this
theorem l7 {lr:Array Bool} (hs:lr.size=ops.size) {i:Nat} (hi:i<ops.size) (b:Bool):lr.getD i b=lr.getD i true:=by
 simp[zbl,hs,hi]
theorem uJ (hs:lv.length=ops.size) {i:Nat} (hi:i<ops.size) (b:Bool):lv.getD i b=lv.getD i true:=by
 simp[zak,hs,hi]

theorem Real.ajf {sub lr a} (h:Real P n ops lv pd σ w sub lr a) {i:Nat} (hi:lr.getD i false=true):lv.getD i false=true:=by
 have bH:i<ops.size:=by
  rcases zdr i lr.size with h1 | h1
  .rw[<-h.sz];exact h1
  simp[zbl,zdd h1]at hi
 have:=h.lrv i bH;rw[l7 h.sz bH]at hi;rw[uJ h.lsz bH];rw[hi]at this
 revert this
 cases lv.getD i true<;>simp
theorem Real.AY {sub lr a} (h:Real P n ops lv pd σ w sub lr a) {p:Nat×Bool} (hp:p∈sub):lr.getD p.1 false=false:=by
 obtain⟨o,_,ho,_⟩:=h.yl p hp;have bH:=(zcq.1 ho).1;rw[l7 h.sz bH,h.lrv _ bH];have :(sub.map (·.1)).contains p.1=true:=zcj.2 (zat.2 ⟨p,hp,rfl⟩);rw[this];simp

theorem rX {σ σ':St} {o:Oper} {i:Nat} (ho:ops[i]? =some o) (h: ∀x∈looks ops i,σ x=σ' x):Region.wanted o (bX ops σ)=Region.wanted o (bX ops σ'):=by
 unfold Region.wanted;cases hg:o.guard with
 | none=>rfl
 | some gw=>
  obtain⟨g,want⟩:=gw
  have :bX ops σ g=bX ops σ' g:=by
   unfold bX;cases hd:(ops[g]?).bind (λo:Oper=>o.dst)with
   | none=>rfl
   | some d=>
    have :d∈looks ops i:=by
     unfold looks;simp only[ho,Oper.looksAt,hg,zbi]
     right
     have hd':(ops[g]?).bind (·.dst)=some d:=hd;simp[hd']
    simp only[h d this]
  simp only[this]
theorem yu {σ σ':St} {o:Oper} {i:Nat} (ho:ops[i]? =some o) (Yu:JM o.op=true) (h: ∀x∈looks ops i,σ x=σ' x):execOp (evF σ) o=execOp (evF σ') o:=by
 refine execOp_congr o (λcs b hs=>by rw[hs]at Yu;cases Yu) λx hx=>?_;cases x with
 | tmp t=>
  refine h t ?_;unfold looks;simp only[ho,Oper.looksAt,zbi,List.mem_filterMap];exact .inl ⟨.tmp t,by simpa using hx,rfl⟩
 | _=>rfl
theorem qH (eH:dJ n ops=true) {i:Nat} {o:Oper} (ho:ops[i]? =some o):Nh n o.dst=true/\JM o.op=true:=by
 unfold dJ at eH;rw[Array.all_eq_true_iff_forall_mem]at eH;have:=eH o (Array.mem_of_getElem? ho);simpa using this
theorem Fp (eH:dJ n ops=true) (j d:Nat) (h:(ops[j]?).bind (λo:Oper=>o.dst)=some d):d<n:=by
 cases ho:ops[j]? with
 | none=>simp[ho]at h
 | some o=>
  simp[ho]at h;have:=(qH eH ho).1;rw[h]at this;exact zaw this

theorem Real.pop {sub lr a} (eH:dJ n ops=true) (h:Real P n ops lv pd σ w sub lr a) {p:Nat×Bool} (hp:p∈sub) (jm: ∀e∈l6 ops p.1,lr.getD e false=true)
    {K:Act->Wd->Prop} {Q':Exit->Act->Wd->Prop}
    (hK: ∀a',Real P n ops lv pd σ w (sub.filter (λq=>q.1 !=p.1)) (lr.setIfInBounds p.1 true) a'->K a' w):wpOpIn (fen r) 0 P ops Q' p.1 K a w:=by
  obtain⟨o,v,ho,hv,hy0⟩:=h.yl p hp;have hy:=hy0 w (.inr rfl);have bH:=(zcq.1 ho).1;obtain⟨hod,YF⟩:=qH eH ho;obtain⟨σr,hr,VU,hσ⟩:=h.rep
  have CB: ∀x∈looks ops p.1,σr x=σ x:=λx hx=>hσ x λq hq hd=>by
    by_cases hqp:q.1=p.1
    . exact h.own p hp x (by rw[<-hqp];exact hd) hx
    have:=(h.apart q hq p hp hqp x hd).2 hx;have h1:=jm _ this;rw[h.AY hq]at h1;cases h1
  have Mr:jd ops p.1=o.dst:=by unfold jd;simp[ho]
  have aiE: ∀a',Rep n (qC σr o.dst v) a'->Real P n ops lv pd σ w (sub.filter (λq=>q.1 !=p.1)) (lr.setIfInBounds p.1 true) a':=by
    intro a' ha';have qZ: ∀q,q∈sub.filter (λq=>q.1 !=p.1)->q∈sub/\q.1≠p.1:=λq hq=>by simpa using hq
    refine⟨λq hq=>h.mem q (qZ q hq).1,?_,h.pw.filter _,λq hq=>h.pr q (qZ q hq).1,λq hq=>h.lvl q (qZ q hq).1,λi hi=>?_,by simpa using h.sz,h.lsz,λi hi e he=>?_,⟨_,ha',by simpa[Dt]using VU,λx hx=>?_⟩,
      λq hq=>h.yl q (qZ q hq).1,λq hq=>h.own q (qZ q hq).1,λq hq r hr=>h.apart q (qZ q hq).1 r (qZ r hr).1⟩
    . exact List.Nodup.sublist (List.Sublist.map _ zdl) h.nd
    . by_cases hip:p.1=i
      . subst hip
        have h1:(lr.setIfInBounds p.1 true).getD p.1 true=true:=by
          simp[zbl,zbt]
          split<;>rfl
        have h2:lv.getD p.1 true=true:=by
          have:=h.lvl p hp;rw[uJ h.lsz bH]at this;exact this
        rw[h1,h2];simp
      rw[getD_set_ne true hip,h.lrv i hi]
      congr 2
      rw[zdx];simp only[zcj,zat,zbw];constructor
      . rintro⟨q,hq,rfl⟩;exact⟨q,⟨hq,by simpa using λe=>hip e.symm⟩,rfl⟩
      rintro⟨q,⟨hq,_⟩,rfl⟩;exact⟨q,hq,rfl⟩
    . by_cases hip:p.1=i
      . subst hip;exact getD_set_true (jm e he)
      rw[getD_set_ne false hip]at hi;exact getD_set_true (h.cl i hi e he)
    cases hd:o.dst with
    | none=>
      refine hσ x λq hq hqd=>?_
      by_cases hqp:q.1=p.1
      . rw[hqp,Mr,hd]at hqd;cases hqd
      exact hx q (by simp[hq,hqp]) hqd
    | some d=>
      by_cases RD:x=d
      . subst RD
        show upd σr x v x=σ x
        rw[upd_same,hv x hd]
      show upd σr d v x=σ x
      rw[upd_ne _ _ _ _ RD];refine hσ x λq hq hqd=>?_
      by_cases hqp:q.1=p.1
      . rw[hqp,Mr,hd]at hqd;injection hqd with hqd;exact RD hqd.symm
      exact hx q (by simp[hq,hqp]) hqd
  unfold wpOpIn;simp only[ho]
  have hw:Region.wanted o (yielded ops a.tmps)=Region.wanted o (bX ops σ):=by
    rw[hr.yielded ops (Fp eH)];exact rX ho CB
  rw[hw]
  rcases hy with⟨h1,h2⟩ | ⟨h1,h2⟩
  . rw[zac h1]
    refine⟨λ_ _=>trivial,?_⟩;rw[hr.eval,EH (by rw[yu ho YF CB];exact h2)];exact hK _ (aiE _ (hr.MB hod _))
  rw[zab (by simp[h1])];rw[<-h2];exact⟨λ_ _=>trivial,hK _ (aiE _ (hr.MB hod _))⟩

theorem Real.Xj {sub lr a} (h:Real P n ops lv pd σ w sub lr a) (iC:sub≠[]):Region.ready .any ops lr≠[]:=by
 have hl:sub.getLast iC∈sub:=List.getLast_mem iC;have aj8:=h.AY hl;obtain⟨o,_,ho,_⟩:=h.yl _ hl;have bH:=(zcq.1 ho).1
 have :(sub.getLast iC).1∈Region.ready .any ops lr:=by
  rw[vU];refine⟨by rw[<-l7 h.sz bH false];exact aj8,bH,λe he=>?_⟩;have h1:=h.pr _ hl e he
  have YG:e<ops.size:=by
   rcases zdr e ops.size with h2 | h2
   .exact h2
   have:=h1.1;rw[zak,zcn (by rw[h.lsz];exact h2)]at this;cases this
  rw[l7 h.sz YG,h.lrv e YG,<-uJ h.lsz YG false,h1.1];simp only[zeg,zdh];cases hc:(sub.map (·.1)).contains e
  .rfl
  exfalso;simp only[zcj,zat]at hc;obtain⟨q,hq,rfl⟩:=hc

  have gT:sub=sub.dropLast++[sub.getLast iC]:=(List.dropLast_concat_getLast iC).symm;have hpw:=h.pw;rw[gT,List.pairwise_append]at hpw;rw[gT,zbi,zar]at hq
  rcases hq with hq | hq
  .exact hpw.2.2 q hq _ (zar.2 rfl) he
  rw[hq]at h1;exact h1.2 rfl
 intro h0;rw[h0]at this;cases this

theorem QK (eH:dJ n ops=true) (hQ:tC ops lv=[]->Q .normal σ w)
    (hE: ∀e∈tC ops lv,∀sub lr a,Real P n ops lv pd σ w sub lr a->(∀k∈l6 ops e,lr.getD k false=true)->wpOpIn (fen r) 0 P ops (lift n Q) e (wpAnyIn (fen r) 0 P .any ops (lift n Q) (left ops (lr.setIfInBounds e true)) (lr.setIfInBounds e true)) a w):
    FG P r n ops Q lv pd σ w:=by
  have key: ∀m sub lr a,sub.length=m->Real P n ops lv pd σ w sub lr a->wpAnyIn (fen r) 0 P .any ops (lift n Q) (left ops lr) lr a w:=by
    intro m
    induction m using Nat.strongRecOn with
    | _ m ih=>
      intro sub lr a hm h
      have acC:Region.ready .any ops lr=[]->lift n Q .normal a w:=λh0=>by
        have hs:sub=[]:=Classical.byContradiction λiC=>h.Xj iC h0;obtain⟨σr,hr,VU,hσ⟩:=h.rep;have :σr=σ:=St.YJ (λx=>hσ x λp hp=>by rw[hs]at hp;cases hp) VU;subst this;refine⟨_,hr,hQ ?_⟩;rw[List.eq_nil_iff_forall_not_mem];intro j hj;rw[yt]at hj
        have :j∈Region.ready .any ops lr:=by
          rw[vU];refine⟨by rw[h.lrv j hj.2.1,hs];simpa using hj.1,hj.2.1,λe he=>?_⟩;have h1:=hj.2.2 e he
          have YG:e<ops.size:=by
            rcases zdr e ops.size with h2 | h2
            . exact h2
            rw[zak,zcn (by rw[h.lsz];exact h2)]at h1;cases h1
          rw[l7 h.sz YG,h.lrv e YG,hs,<-uJ h.lsz YG false,h1];simp
        rw[h0]at this;cases this
      have xH: ∀i∈Region.ready .any ops lr,wpOpIn (fen r) 0 P ops (lift n Q) i (wpAnyIn (fen r) 0 P .any ops (lift n Q) (left ops (lr.setIfInBounds i true)) (lr.setIfInBounds i true)) a w:=λi hi=>by
        obtain⟨h0,bH,jm⟩:=vU.1 hi
        by_cases hs:i∈sub.map (·.1)
        . obtain⟨p,hp,rfl⟩:=zat.1 hs
          refine h.pop eH hp jm λa' ha'=>ih _ ?_ _ _ a' rfl ha';rw[<-hm];exact List.length_filter_lt_length_iff_exists.2 ⟨p,hp,sM⟩
        refine hE i ?_ sub lr a h jm;rw[yt];refine⟨?_,bH,λe he=>h.ajf (jm e he)⟩;have h1:=h.lrv i bH;rw[h0]at h1
        have hc:(sub.map (·.1)).contains i=false:=by
          cases hc:(sub.map (·.1)).contains i
          . rfl
          exact zap (zcj.1 hc) hs
        rw[hc]at h1;simpa using h1.symm
      cases hl:left ops lr with
      | zero=>
        have h0:Region.ready .any ops lr=[]:=by
          rw[List.eq_nil_iff_forall_not_mem];intro j hj;obtain⟨h1,h2,_⟩:=vU.1 hj;rw[aaX hl j h2]at h1;cases h1
        exact⟨h0,acC h0⟩
      | succ k=>
        refine⟨acC,λi hi=>?_⟩;obtain⟨h0,bH,jm⟩:=vU.1 hi;have:=xH i hi;have e:=aea bH h.sz h0;rw[hl]at e;have ek:k=left ops (lr.setIfInBounds i true):=oM;rw[ek];exact this
  exact λsub lr a h=>key _ sub lr a rfl h

theorem qx {i j:Nat} (h:lv.getD j false=true):(lv.set i true).getD j false=true:=by
 by_cases Yy:i=j
 .subst Yy
  have :i<lv.length:=by
   rcases zdr i lv.length with h1 | h1
   .exact h1
   rw[zak,zcn h1]at h;cases h
  simp[zak,this]
 simp only[zak,List.getElem?_set_ne Yy]at h ⊢;exact h
theorem yw {i j:Nat} (h:i≠j) (b:Bool):(lv.set i true).getD j b=lv.getD j b:=by
 simp only[zak,List.getElem?_set_ne h]
theorem tF {i:Nat} (b:Bool) (h:i<lv.length):(lv.set i true).getD i b=true:=by
 simp[zak,h]
theorem zC {i:Nat} (h:lv.getD i true=false):lv.getD i false=false:=by
 rw[zak]at h ⊢;cases hq:lv[i]? with
 | none=>rfl
 | some b=>rw[hq]at h;simpa using h
theorem zB.congr {σ σ':St} {o:Oper} {v:Value} {i:Nat} (ho:ops[i]? =some o) (Yu:JM o.op=true) (h: ∀x∈looks ops i,σ x=σ' x) (hy:zB P ops σ w o v):zB P ops σ' w o v:=by
 unfold zB at *;rw[<-rX ho h,<-yu ho Yu h];exact hy
theorem iJ {σ:St} {o:Option Nat} {v:Value} {x:Nat} (h:o≠some x):qC σ o v x=σ x:=by
 cases o with
 | none=>rfl
 | some d=>exact upd_ne _ _ _ _ λe=>h (by rw[e])
theorem vV {i:Nat} {o:Oper} (ho:ops[i]? =some o):jd ops i=o.dst:=by unfold jd;simp[ho]

theorem fF (eH:dJ n ops=true) (hr:(tC ops lv).isEmpty=true) (h:Q .normal σ w):FG P r n ops Q lv pd σ w:=
 QK eH (λ_=>h) λe he=>by rw[List.isEmpty_iff.1 hr]at he;cases he

theorem KU (eH:dJ n ops=true) {i:Nat} {o:Oper} {v:Value} (f:Bool) (ho:ops[i]? =some o) (d9:jW ops lv (pd.map (·.1)) i=true) (hy: ∀w',(f=true\/w'=w)->zB P ops σ w' o v)
    (h:FG P r n ops Q (lv.set i true) ((i,f)::pd) (qC σ o.dst v) w):FG P r n ops Q lv pd σ w:=by
  intro sub lr a hr;have bH:=(zcq.1 ho).1;have Mr:=vV ho;obtain⟨hod,YF⟩:=qH eH ho;unfold jW at d9;simp only[zbr,zdh,zbf]at d9;obtain⟨⟨⟨h0,jm⟩,mR⟩,af2⟩:=d9;have h0':=zC h0
  have hown': ∀d,o.dst=some d->d∉looks ops i:=λd hd=>by
    rw[Mr,hd]at mR;simpa using mR
  have hid: ∀p∈sub,p.1≠i:=λp hp e=>by
    have:=hr.lvl p hp;rw[e,h0']at this;cases this
  have xI: ∀p∈sub,(∀d,o.dst=some d->jd ops p.1≠some d/\d∉looks ops p.1)/\∀d,jd ops p.1=some d->d∈looks ops i->p.1∈l6 ops i:=λp hp=>by
    have:=af2 p.1 (zat.2 ⟨p,hr.mem p hp,rfl⟩);rw[Mr]at this;refine⟨λd hd=>?_,λd hd hx=>?_⟩
    . have h1:=this.1
      rw[hd]at h1;simpa using h1
    have h1:=this.2;rw[hd]at h1;simp at h1
    rcases h1 with h1 | h1
    . exact zap hx h1
    exact h1
  refine h ((i,f)::sub) lr a ⟨?_,?_,?_,?_,?_,?_,hr.sz,by simpa using hr.lsz,hr.cl,?_,?_,?_,?_⟩
  . rintro p hp
    rcases zan.1 hp with rfl | hp
    . exact zae
    exact zag _ (hr.mem p hp)
  . rw[zay,zer]
    exact⟨λhm=>by obtain⟨p,hp,e⟩:=zat.1 hm;exact hid p hp e,hr.nd⟩
  . rw[zcp]
    refine⟨λp hp hm=>?_,hr.pw⟩;have:=(hr.pr p hp _ hm).1;rw[h0']at this;cases this
  . rintro p hp e he
    rcases zan.1 hp with rfl | hp
    . exact⟨qx (jm e he),λe2=>by have:=jm e he;rw[e2,h0']at this;cases this⟩
    exact⟨qx (hr.pr p hp e he).1,(hr.pr p hp e he).2⟩
  . rintro p hp
    rcases zan.1 hp with rfl | hp
    . exact tF _ (by rw[hr.lsz];exact bH)
    exact qx (hr.lvl p hp)
  . intro k hk
    rw[hr.lrv k hk]
    by_cases Mi:i=k
    . subst Mi
      rw[h0];simp
    rw[yw Mi]
    congr 2
    have :(k==i)=false:=by simpa using λe:k=i=>Mi e.symm
    rw[zay,List.contains_cons,this,Bool.false_or]
  . obtain⟨σr,Dq,VU,hσ⟩:=hr.rep
    refine⟨σr,Dq,by simpa[Dt]using VU,λx hx=>?_⟩;rw[iJ (λe=>hx (i,f) zae (by rw[Mr,e]))];exact hσ x λp hp=>hx p (zag _ hp)
  . rintro p hp
    rcases zan.1 hp with rfl | hp
    . exact⟨o,v,ho,λd hd=>by rw[hd];exact upd_same _ _ _,λw' hw'=>(hy w' hw').congr ho YF λx hx=>(iJ λe=>hown' x e hx).symm⟩
    obtain⟨o',v',Ji,Ms,YD⟩:=hr.yl p hp;refine⟨o',v',Ji,λd hd=>?_,λw' hw'=>?_⟩
    . rw[iJ (λe=>((xI p hp).1 d e).1 (by rw[vV Ji,hd]))];exact Ms d hd
    exact(YD w' hw').congr Ji (qH eH Ji).2 λx hx=>(iJ λe=>((xI p hp).1 x e).2 hx).symm
  . rintro p hp d hd
    rcases zan.1 hp with rfl | hp
    . exact hown' d (by rw[<-Mr];exact hd)
    exact hr.own p hp d hd
  rintro p hp q hq iC d hd
  rcases zan.1 hp with rfl | hp
  . rcases zan.1 hq with rfl | hq
    . exact zap rfl iC
    have:=(xI q hq).1 d (by rw[<-Mr];exact hd);exact⟨this.1,λhx=>zap hx this.2⟩
  rcases zan.1 hq with rfl | hq
  . refine⟨λe=>?_,λhx=>(xI p hp).2 d hd hx⟩
    exact((xI p hp).1 d (by rw[<-Mr];exact e)).1 hd
  exact hr.apart p hp q hq iC d hd

def KV (P:Program) (σ:St) (w:Wd) (o:Oper) (K:St->Wd->Prop):Prop:=
 match(execOp (evF σ) o).run P w with
 | .ok (.value v) w'=>K (qC σ o.dst v) w'
 | .ok .skip w'=>K (qC σ o.dst undef) w'
 | .ok (.enter f args) w'=>Calls P f args w' (Ret λv w''=>K (qC σ o.dst v) w'')
 | _=>False

theorem D9 {sub lr a} (hr:Real P n ops lv pd σ w sub lr a) {e:Nat} (he: ∀k∈l6 ops e,lr.getD k false=true): ∀k∈above ops e,lr.getD k false=true:=by
 have key: ∀(l:List Nat) (S:List Nat),(∀k∈S,lr.getD k false=true)->∀k∈l.foldl (Fj ops) S,lr.getD k false=true:=by
  intro l
  induction l with
  | nil=>intro S hS;exact hS
  | cons m l ih=>
   intro S hS;refine ih _ λk hk=>?_;unfold Fj at hk
   split at hk
   .rename_i hm
    rcases zbi.1 hk with h1 | h1
    .exact hS k h1
    exact hr.cl m (hS m (zcj.1 hm)) k (zbw.1 h1).1
   exact hS k hk
 exact key _ _ he

def jk (P:Program) (ops:AO) (σ:St) (w:Wd):LNB->Prop
 | []=>True
 | (i,false)::l=>(∃o v,ops[i]? =some o/\(∀d,o.dst=some d->σ d=v)/\zB P ops σ w o v)/\jk P ops σ w l
 | (_,true)::l=>jk P ops σ w l
theorem jk.get {σ:St} {w:Wd}: ∀{l:LNB},jk P ops σ w l->∀p∈l,p.2=false->∃o v,ops[p.1]? =some o/\(∀d,o.dst=some d->σ d=v)/\zB P ops σ w o v
 | [],_,p,hp,_=>by cases hp
 | (i,false)::l,h,p,hp,hf=>by
  rcases zan.1 hp with rfl | hp
  .exact h.1
  exact jk.get h.2 p hp hf
 | (i,true)::l,h,p,hp,hf=>by
  rcases zan.1 hp with rfl | hp
  .cases hf
  exact jk.get (l:=l) h p hp hf

theorem AZ (eH:dJ n ops=true) {e:Nat} {o:Oper} (ho:ops[e]? =some o) (d9:eX ops lv (pd.map (·.1)) e=true) (hw:Region.wanted o (bX ops σ)=true) (pd':LNB) (oo:pd.filter (λp=> !((above ops e).contains p.1))=pd')
    (h:KV P σ w o λσ' w'=>jk P ops σ' w' pd'/\FG P r n ops Q (lv.set e true) pd' σ' w'):FG P r n ops Q lv pd σ w:=by
  unfold eX at d9;simp only[zbr,beq_iff_eq,zbf]at d9;obtain⟨hre,af2⟩:=d9;refine QK eH (λh0=>by rw[h0]at hre;cases hre) λe' Zz sub lr a hr jm=>?_;rw[hre,zar]at Zz;subst Zz;have bH:=(zcq.1 ho).1;have Mr:=vV ho;obtain⟨hod,YF⟩:=qH eH ho;have hrd:=yt.1 (show e'∈tC ops lv by rw[hre];exact zar.2 rfl);have h0':=zC hrd.1;obtain⟨σr,Dq,VU,hσ⟩:=hr.rep;have hnp: ∀p∈sub,p.1∉l6 ops e':=λp hp hm=>by have:=jm _ hm;rw[hr.AY hp]at this;cases this
  have xI: ∀p∈sub,(∀d,o.dst=some d->jd ops p.1≠some d/\d∉looks ops p.1)/\∀d,jd ops p.1=some d->d∉looks ops e':=λp hp=>by
    have:=af2 p.1 (zat.2 ⟨p,hr.mem p hp,rfl⟩);rw[Bool.or_eq_true]at this
    rcases this with h1 | h1
    . exact zap (zcj.1 h1) (hnp p hp)
    rw[zbr,Mr]at h1;refine⟨λd hd=>?_,λd hd=>?_⟩
    . have h2:=h1.1
      rw[hd]at h2;simpa using h2
    have h2:=h1.2;rw[hd]at h2;simpa using h2
  have CB: ∀x∈looks ops e',σr x=σ x:=λx hx=>hσ x λp hp hd=>(xI p hp).2 x hd hx
  have Mt: ∀(v:Value) (w':Wd) (a':Act),Rep n (qC σr o.dst v) a'->jk P ops (qC σ o.dst v) w' pd'->Real P n ops (lv.set e' true) pd' (qC σ o.dst v) w' sub (lr.setIfInBounds e' true) a':=by
    intro v w' a' ha' fU
    have qZ: ∀p∈sub,p∈pd':=λp hp=>by
      rw[<-oo,zbw];refine⟨hr.mem p hp,?_⟩;cases hc:(above ops e').contains p.1
      . rfl
      have:=D9 hr jm p.1 (zcj.1 hc);rw[hr.AY hp]at this;cases this
    refine⟨qZ,hr.nd,hr.pw,λp hp k hk=>⟨qx (hr.pr p hp k hk).1,(hr.pr p hp k hk).2⟩,λp hp=>qx (hr.lvl p hp),λk hk=>?_,by simpa using hr.sz,by simpa using hr.lsz,λk hk j hj=>?_,⟨_,ha',by simpa[Dt]using VU,λx hx=>?_⟩,
      λp hp=>?_,hr.own,hr.apart⟩
    . by_cases mQ:e'=k
      . subst mQ
        have h1:(lr.setIfInBounds e' true).getD e' true=true:=by
          simp[zbl,zbt]
          split<;>rfl
        rw[h1,tF _ (by rw[hr.lsz];exact bH)];cases hc:(sub.map (·.1)).contains e'
        . rfl
        obtain⟨p,hp,e1⟩:=zat.1 (zcj.1 hc);have:=hr.lvl p hp;rw[e1,h0']at this;cases this
      rw[getD_set_ne true mQ,yw mQ,hr.lrv k hk]
    . by_cases mQ:e'=k
      . subst mQ;exact getD_set_true (jm j hj)
      rw[getD_set_ne false mQ]at hk;exact getD_set_true (hr.cl k hk j hj)
    . by_cases hd:o.dst=some x
      . rw[hd];show upd σr x v x=upd σ x v x;rw[upd_same,upd_same]
      rw[iJ hd,iJ hd];exact hσ x hx
    cases hf:p.2 with
    | false=>
      obtain⟨o',v',Ji,Ms,YD⟩:=fU.get p (qZ p hp) hf;refine⟨o',v',Ji,Ms,λw'' hw''=>?_⟩
      rcases hw'' with hw'' | hw''
      . cases hw''
      rw[hw''];exact YD
    | true=>
      obtain⟨o',v',Ji,Ms,YD⟩:=hr.yl p hp;refine⟨o',v',Ji,λd hd=>?_,λw'' _=>(YD w'' (.inl hf)).congr Ji (qH eH Ji).2 λx hx=>(iJ λe1=>((xI p hp).1 x e1).2 hx).symm⟩;rw[iJ (λe1=>((xI p hp).1 d e1).1 (by rw[vV Ji,hd]))];exact Ms d hd
  unfold wpOpIn;simp only[ho]
  have hww:Region.wanted o (yielded ops a.tmps)=true:=by
    rw[Dq.yielded ops (Fp eH),rX ho CB];exact hw
  rw[zac hww];refine⟨λ_ _=>trivial,?_⟩;unfold KV at h
  have aj9:(o.semAt (fen r).round a.eval)=execOp (evF σ) o:=by
    rw[Oper.semAt_eq _ _ _ λc hc=>?_,Dq.eval,yu ho YF CB]
    have iC: ∀x w',(execOp (evF σ) o).run P w=.ok x w'->∃d,x=.defer d:=λx w' hx=>by
      unfold execOp at hx;rw[hc]at hx;simp only[zbh]at hx;cases hr:(resolve (evF σ) c o.type).run P w<;>rw[hr]at hx<;>simp[Result.andThen]at hx
      exact⟨_,hx.1.symm⟩
    cases hx:(execOp (evF σ) o).run P w with
    | halt x w'=>rw[hx]at h;exact h
    | ok x w'=>
      obtain⟨d,rfl⟩:=iC x w' hx;rw[hx]at h;exact h
  rw[aj9]
  generalize (execOp (evF σ) o).run P w=res at h |-
  cases res with
  | halt x w'=>exact h.elim
  | ok nx w'=>
    cases nx with
    | value v=>exact h.2 _ _ _ (Mt v w' _ (Dq.MB hod v) h.1)
    | skip=>exact h.2 _ _ _ (Mt undef w' _ (Dq.MB hod undef) h.1)
    | enter f args=>
      refine⟨(λh=>by cases h),ql r (Calls.mono h λen w'' Dn=>?_)⟩;cases en with
      | returned v=>exact Dn.2 _ _ _ (Mt v w'' _ (Dq.MB hod v) Dn.1)
      | _=>exact Dn.elim
    | _=>exact h.elim

theorem agV {id:Nat} {l:LO} (hm:P.follows .mixedOrders=true) (_hok:dJ n l.toArray=true) (h: ∀w',Kept noB w w'->FG P r n l.toArray Q (List.replicate l.length false) [] σ w'):FW P r n (.region id l.toArray true) Q σ w:=by
  intro a ha;refine wpIn_region_any hm ?_
  have h1:=h {w with drawn:=w.drawn+1} ⟨rfl,rfl,rfl,zbk _,λ_ _ _=>rfl⟩ [] (Array.replicate l.length false) a
    ⟨(λ_ hp=>by cases hp),List.nodup_nil,List.Pairwise.nil,(λ_ hp=>by cases hp),(λ_ hp=>by cases hp),λi hi=>?_,sM,sM,λi hi=>?_,⟨σ,ha,rfl,λ_ _=>rfl⟩,(λ_ hp=>by cases hp),(λ_ hp=>by cases hp),(λ_ hp=>by cases hp)⟩
  . have :left l.toArray (Array.replicate l.length false)=l.toArray.size:=by
      unfold left;rw[zew.2]
      . simp
      intro i hi;simp at hi;simp[zbl,hi]
    rw[this]at h1;simpa using h1
  . simp at hi
    simp[zbl,zak,hi]
  exfalso;simp[zbl,zdz]at hi
  split at hi<;>simp at hi
end
section
variable {P:Program} {r:Option Nat} {n:Nat} {ops:AO} {Q:Post} {lv:List Bool} {pd pd':LNB} {σ:St} {w:Wd} {op:Op} {ty:Td} {pos:String} {after:Array Edge} {guard:Option (Nat×Bool)}
theorem FGp (eH:dJ n ops=true) (i:Nat) {d:Nat} {v:Value} (ho:ops[i]? =some ⟨some d,op,ty,pos,after,guard⟩)
    (hw:Region.wanted ⟨some d,op,ty,pos,after,guard⟩ (bX ops σ)=true) (hg: ∀w,Gives P (evF σ) op ty w v w) (d9:jW ops lv (pd.map (·.1)) i=true)
    (h:FG P r n ops Q (lv.set i true) ((i,true)::pd) (upd σ d v) w):FG P r n ops Q lv pd σ w:=
  KU eH true ho d9 (λw' _=>.inl ⟨hw,hg w' _ _ _ _⟩) h
theorem FGl (eH:dJ n ops=true) (i:Nat) {d:Nat} {v:Value} (ho:ops[i]? =some ⟨some d,op,ty,pos,after,guard⟩)
    (hw:Region.wanted ⟨some d,op,ty,pos,after,guard⟩ (bX ops σ)=true) (hg:Gives P (evF σ) op ty w v w) (d9:jW ops lv (pd.map (·.1)) i=true)
    (h:FG P r n ops Q (lv.set i true) ((i,false)::pd) (upd σ d v) w):FG P r n ops Q lv pd σ w:=
  KU eH false ho d9 (λw' hw'=>by
    rcases hw' with h1 | rfl
    . cases h1
    exact .inl ⟨hw,hg _ _ _ _⟩) h
theorem Oj (eH:dJ n ops=true) (i:Nat) {d:Nat} (ho:ops[i]? =some ⟨some d,op,ty,pos,after,guard⟩)
    (hw:Region.wanted ⟨some d,op,ty,pos,after,guard⟩ (bX ops σ)=false) (d9:jW ops lv (pd.map (·.1)) i=true)
    (h:FG P r n ops Q (lv.set i true) ((i,true)::pd) (upd σ d undef) w):FG P r n ops Q lv pd σ w:=
  KU eH true ho d9 (λ_ _=>.inr ⟨hw,rfl⟩) h
theorem Ul (eH:dJ n ops=true) (e:Nat) (pd':LNB) {C:Wd->Prop} (ho:ops[e]? =some ⟨none,op,ty,pos,after,guard⟩)
    (hw:Region.wanted ⟨none,op,ty,pos,after,guard⟩ (bX ops σ)=true) (hg: ∃w',MC P (evF σ) op ty w w'/\C w') (d9:eX ops lv (pd.map (·.1)) e=true)
    (oo:pd.filter (λp=> !((above ops e).contains p.1))=pd') (h: ∀w',C w'->jk P ops σ w' pd'/\FG P r n ops Q (lv.set e true) pd' σ w'):FG P r n ops Q lv pd σ w:=by
  obtain⟨w',hg,hC⟩:=hg;refine AZ eH ho d9 hw pd' oo ?_;unfold KV;rw[hg];exact h w' hC
theorem vW (eH:dJ n ops=true) (e:Nat) (pd':LNB) {d:Nat} {C:Value->Wd->Prop} (ho:ops[e]? =some ⟨some d,op,ty,pos,after,guard⟩)
    (hw:Region.wanted ⟨some d,op,ty,pos,after,guard⟩ (bX ops σ)=true) (hg: ∃v w',Gives P (evF σ) op ty w v w'/\C v w') (d9:eX ops lv (pd.map (·.1)) e=true)
    (oo:pd.filter (λp=> !((above ops e).contains p.1))=pd') (h: ∀v w',C v w'->jk P ops (upd σ d v) w' pd'/\FG P r n ops Q (lv.set e true) pd' (upd σ d v) w'):FG P r n ops Q lv pd σ w:=by
  obtain⟨v,w',hg,hC⟩:=hg;refine AZ eH ho d9 hw pd' oo ?_;unfold KV;rw[hg];exact h v w' hC
theorem rD (eH:dJ n ops=true) (e:Nat) (pd':LNB) {dst:Option Nat} {f:FuncId} {xs:List Od} {ats:Array Td} {vals:LV} {R:Value->Wd->Prop} [he:qb P f]
    (ho:ops[e]? =some ⟨dst,.call {callee:=.value (.func f),args:=xs.toArray,argTypes:=ats},ty,pos,after,guard⟩)
    (hw:Region.wanted ⟨dst,.call {callee:=.value (.func f),args:=xs.toArray,argTypes:=ats},ty,pos,after,guard⟩ (bX ops σ)=true) (hc:aY P f vals w R) (hv:xs.map (evF σ)=vals) (d9:eX ops lv (pd.map (·.1)) e=true)
    (oo:pd.filter (λp=> !((above ops e).contains p.1))=pd') (h: ∀v w',R v w'->jk P ops (qC σ dst v) w' pd'/\FG P r n ops Q (lv.set e true) pd' (qC σ dst v) w'):FG P r n ops Q lv pd σ w:=by
  refine AZ eH ho d9 hw pd' oo ?_;unfold KV;have e1:execOp (evF σ) ⟨dst,.call {callee:=.value (.func f),args:=xs.toArray,argTypes:=ats},ty,pos,after,guard⟩=callFunc f (#[]++xs.toArray.map (evF σ)++ #[]):=rfl;have e2:(#[]++xs.toArray.map (evF σ)++ #[]:Array Value)=vals.toArray:=by simp[hv]
  rw[e1,he.run,e2];refine Calls.mono hc λen w'' hr=>?_;cases en with
  | returned v=>exact h v w'' hr
  | _=>exact hr.elim
theorem eZ:jk P ops σ w []:=trivial
theorem aC {i:Nat} {l:LNB} (h:jk P ops σ w l):jk P ops σ w ((i,true)::l):=h
theorem dw {i:Nat} {d:Nat} {v:Value} {l:LNB} (ho:ops[i]? =some ⟨some d,op,ty,pos,after,guard⟩)
    (hw:Region.wanted ⟨some d,op,ty,pos,after,guard⟩ (bX ops σ)=true) (hg:Gives P (evF σ) op ty w v w) (hv:σ d=v) (h:jk P ops σ w l):jk P ops σ w ((i,false)::l):=
  ⟨⟨_,v,ho,λd' hd'=>by injection hd' with hd';rw[<-hd'];exact hv,.inl ⟨hw,hg _ _ _ _⟩⟩,h⟩
end

section acts
variable {P:Program} {ρ:Od->Value} {w w0:Wd} {S:NP} {rs:List HP} {put:HP->List HP} {ty:Td} {x y:Od}
theorem Xk {b o:Nat} {T:Td} [h1:OneCell P T] {cs:LV} {E:Td} {v:Value} (cs':LV) (H:Sep w0 S rs w) (hx:ρ x=.pointer (some ⟨b,o,none⟩))
    (hy:ρ y=v) (hv:v.oneCell'=true) (hat:At rs (blk b cs E) put) (ho:Nat.blt o cs.length=true) (hs:cs.set o v=cs'):
    ∃w',MC P ρ (.store T x y) ty w w'/\Sep w0 S (put (blk b cs' E)) w':=by
  have bH:o<cs.length:=zaw ho;have hb:=H.obj hat;obtain⟨hk,Ji⟩:=yj (v:=v) hb bH;refine⟨w.setCell ⟨b,o,none⟩ v,λ_ _ _ _=>?_,by subst hs;exact H.setObj hat hk Ji⟩
  have fU:(store (⟨b,o,none⟩:Addr) v).run P w=.ok () (w.setCell ⟨b,o,none⟩ v):=by
    rw[run_store P w _ v _ hv,jD hb,zaa bH];simp[World.frozen?,hb]
  have hcs:v.cells= #[v]:=by cases v<;>first | rfl | cases hv
  simp[execOp,hx,hy,Instr.storeAt,Instr.sureAddr,storeVar,h1.size,hcs,storeCells,fU,Addr.add_zero']
theorem Eb {t e:Td} [hs:dh P t e] {size bytes:Nat} [hc:Cells P e size bytes] {z:Value} [hz:Zero P e z] {v:Value} {k m c:Nat} {xs news:LV} {A:OA}
    (H:Sep w0 S rs w) (hx:ρ x=v) (hy:ρ y=.slice A m c) (hat:At rs (yU e size v k xs) put) (hr:gV w A m size news) (h1: ∀u∈news,u.oneCell'=true)
    (hsz:0<size) (JW:z.cells.size=size) (h63:k+m<=maxLen) (hbytes:(k+m)*bytes<=140737488355328):
    ∃v' w',Gives P ρ (.call {callee:=.builtin .append,args:= #[x,y],argTypes:= #[t,t]}) ty w v' w'/\Sep w0 S (put (yU e size v' (k+m) (xs++news))) w':=by
  obtain⟨F,hp,_,_⟩:=H.focus hat;obtain⟨v',w',iw,mR,hg,hb⟩:=yh (P:=P) (ty:=ty) t e hsz JW v k xs hp.1 A m c news hr h1 h63 hbytes;refine⟨v',w',λ_ _ _ _=>?_,H.D7 hat hg mR (by rcases hb with e | e<;>simp[e])⟩;simp only[execOp,resolve,invoke,builtin,zbh,zbm,zai,zcg,zay,zcm,hx,hy,iw]
end acts
def nO (k:Int) (e:MapEntry):Bool:=match e.key with
 | .int .i64 a=>a==k
 | _=>false
def CG (es:List MapEntry) (k:Int):Option Value:=(es.find? (nO k)).map (·.val)
def intKeys (es:List MapEntry):Prop:=∀e∈es,∃a,e.key=.int .i64 a
section
variable {w0 w w':Wd} {S:NP} {rs:List HP} {put:HP->List HP} {P:Program}
theorem ze (k:Int): ∀(es:List MapEntry) (i:Nat),intKeys es->∃r,Instr.findNow (.int .i64) (.int .i64 k) es i=some r/\r.map (·.2)=CG es k/\
    (∀j v,r=some (j,v)->∃m,j=i+m/\∃e,es[m]? =some e/\nO k e=true/\es.find? (nO k)=some e/\∀m' e',m'<m->es[m']? =some e'->nO k e'=false):=by
  intro es
  induction es with
  | nil=>intro i _;exact⟨none,rfl,rfl,λ_ _ h=>by cases h⟩
  | cons e es ih=>
    intro i hk;obtain⟨a,ha⟩:=hk e zae;obtain⟨r,h1,h2,h3⟩:=ih (i+1) λx hx=>hk x (zag _ hx);have hs:Instr.sameNow (.int .i64) (.int .i64 k) e.key=some (k==a):=by rw[ha];simp[Instr.sameNow]
    have Mi:nO k e=(a==k):=by unfold nO;rw[ha]
    by_cases Yt:k=a
    . subst Yt
      have hkt:nO k e=true:=by rw[Mi];simp
      refine⟨some (i,e.val),?_,?_,?_⟩
      . unfold Instr.findNow;rw[hs];simp
      . simp[CG,hkt]
      rintro j v Mj;injection Mj with Mj
      injection Mj with h4 h5
      exact⟨0,oM,e,rfl,hkt,by simp[hkt],λm' _ hm=>oM⟩
    have Zy:nO k e=false:=by rw[Mi];simpa using λh:a=k=>Yt h.symm
    refine⟨r,?_,?_,?_⟩
    . unfold Instr.findNow;rw[hs,h1]
      have :(k==a)=false:=by simpa using Yt
      rw[this]
    . rw[h2];simp[CG,Zy]
    rintro j v Mj;obtain⟨m,hm,e',Zz,hk',hf',bH⟩:=h3 j v Mj;refine⟨m+1,oM,e',by simpa using Zz,hk',by simp[Zy,hf'],λm' e'' qX Mk=>?_⟩;cases m' with
    | zero=>simp at Mk;rw[<-Mk];exact Zy
    | succ m'=>exact bH m' e'' oM (by simpa using Mk)
theorem ru {kt:Td} (hu:P.underlying kt=some (.int .i64)) (k:Int) (es:List MapEntry) (hk:intKeys es):
    ∃r,(Instr.findKey kt (.int .i64 k) es).run P w=.ok r w/\r.map (·.2)=CG es k/\
    (∀j v,r=some (j,v)->∃e,es[j]? =some e/\nO k e=true/\∀m' e',m'<j->es[m']? =some e'->nO k e'=false):=by
  obtain⟨r,h1,h2,h3⟩:=ze k es 0 hk;refine⟨r,by simp[Instr.findKey,run_underlying hu,h1],h2,λj v Mj=>?_⟩;obtain⟨m,hm,e,he,mQ,_,bH⟩:=h3 j v Mj;have :j=m:=by omega
  subst this;exact⟨e,he,mQ,bH⟩
theorem qm {kt:Td} (hu:P.underlying kt=some (.int .i64)) (b:Bool) (k:Int) (d:Nat):(Instr.checkKey b (d+1) kt (.int .i64 k)).run P w=.ok () w:=by
 simp[Instr.checkKey,run_underlying hu]
theorem run_getObj_map {b:Nat} {es:Array MapEntry} {c:Nat} (h:w.heap[b]? =some (.map es c)):(getObj b).run P w=.ok (.map es c) w:=by
 simp[getObj,Sem.run,h]
end
section
variable {P:Program} {r:Option Nat} {n:Nat} {ops:AO} {Q:Post} {rest:LO} {σ:St} {w w0:Wd} {S:NP} {rs:List HP} {ty:Td} {pos:String} {after:Array Edge}
theorem Gives.makeFunc {ρ:Od->Value} {fn:Fn} {fs cs:List Od} {us vs:LV} (hf:fs.map ρ=us) (hc:cs.map ρ=vs):Gives P ρ (.makeFunc fn fs.toArray cs.toArray) ty w (.func fn us.toArray vs.toArray) w:=λ_ _ _ _=>by
 simp[execOp,Instr.makeFunc,hf,hc]
theorem dP {d:Nat} {y:Od} {f:FuncId} {fs cs:LV} {xs:List Od} {ats:Array Td} {vals:LV} {R:Value->Wd->Prop} [he:qb P f] (hy:evF σ y=.func (.func f) fs.toArray cs.toArray) (hc:aY P f (fs++vals++cs) w R)
    (hv:xs.map (evF σ)=vals) (hd:Nat.blt d n=true) (h: ∀v w',R v w'->FL P r n ops Q rest (upd σ d v) w'):
    FL P r n ops Q (⟨some d,.call {callee:=.value y,args:=xs.toArray,argTypes:=ats},ty,pos,after,none⟩::rest) σ w:=λa ha=>
  wpListIn_plain rfl λK hK=>by
    refine⟨λ_ _=>trivial,?_⟩;rw[Oper.semAt_eq _ _ _ (λ_ h=>by cases h),ha.eval]
    have e:(execOp (evF σ) ⟨some d,.call {callee:=.value y,args:=xs.toArray,argTypes:=ats},ty,pos,after,none⟩).run P w=.ok (.enter f (fs++vals++cs).toArray) w:=by
      simp[execOp,resolve,hy,Deferred.ofValue,invoke,hv];rw[<-he.run (fs++(vals++cs)).toArray w]
    rw[e,Oper.uponIn_enter];refine⟨(λh=>by cases h),ql r (Calls.mono hc λe w'' hr=>?_)⟩;cases e with
    | returned v=>exact hK _ _ (h v w'' hr _ (ha.put (zaw hd) v))
    | _=>exact hr.elim
def QL (P:Program) (l:Nat) (xs:LV) (w:Wd) (R:Wd->Prop):Prop:=
 ∃fn tmps assign body,(Instr.yield l xs.toArray).run P w=.ok (.round l fn tmps assign body) w/\RoundIn (fen none) 0 P l fn tmps assign body w (Ret λv w'=>v=.bool true/\R w')
theorem aeb {d l:Nat} {y:Od} {xs:List Od} {ats:Array Td} {vals:LV} {R:Wd->Prop} (hy:evF σ y=.func (.yield l) #[] #[]) (hc:QL P l vals w R)
    (hv:xs.map (evF σ)=vals) (hd:Nat.blt d n=true) (h: ∀w',R w'->FL P r n ops Q rest (upd σ d (.bool true)) w'):
    FL P r n ops Q (⟨some d,.call {callee:=.value y,args:=xs.toArray,argTypes:=ats},ty,pos,after,none⟩::rest) σ w:=λa ha=>
  wpListIn_plain rfl λK hK=>by
    obtain⟨fn,tmps,assign,body,iw,F6⟩:=hc;refine⟨λ_ _=>trivial,?_⟩;rw[Oper.semAt_eq _ _ _ (λ_ h=>by cases h),ha.eval]
    have e:(execOp (evF σ) ⟨some d,.call {callee:=.value y,args:=xs.toArray,argTypes:=ats},ty,pos,after,none⟩).run P w=.ok (.round l fn tmps assign body) w:=by
      simp[execOp,resolve,hy,Deferred.ofValue,invoke,hv,iw]
    rw[e,Oper.uponIn_round];refine⟨(λh=>by cases h),RoundIn.mono (F:=fen r) F6 λen w'' hr=>?_⟩;cases en with
    | returned v=>obtain⟨rfl,hR⟩:=hr;exact hK _ _ (h w'' hR _ (ha.put (zaw hd) _))
    | _=>exact hr.elim

theorem Um {l:List ResultVar} {R:Value->Wd->Prop} {vs:LV} {D:Nat} {put:HP->List HP} (H:Sep w0 S rs w) (hat:At rs (Mw.obj D (.deferred (some []))) put) (hR: ∀w',Sep w0 S (put (Mw.obj D (.deferred none))) w'->R (eP vs) w')
    (h:lS σ l=some vs:=by simp only[lS,zda,upd_same,upd_ne,ne_eq,Nat.reduceEqDiff,not_false_eq_true];rfl) (hd:σ.ds=[{target:=.collected D,args:= #[]}]:=by exact rfl):Qfn l R .normal σ w:=by
  refine⟨vs,h,?_⟩;rw[hd];have hD:=H.obj hat;have bH:=jB hD;exact⟨D,rfl,hD,hR _ (H.setObj hat ⟨rfl,rfl,rfl,sM,λk _ hS=>by simp only;rw[zeq (λe=>hS e.symm)]⟩ (by simp[bH]))⟩

def Y6 (st:LoopState) (fn:FuncId) (tmps:Array Value) (ps:Array Tmp) (assign body:Code) (D:Nat):Obj:=.loop {state:=st,pending:=none,fn:=fn,tmps:=tmps,params:=ps,assign:=assign,body:=body,defers:=D}

theorem Sep.Un {o o':Obj} {b:Nat} (h:Sep w0 S (Mw.obj b o::rs) w):Sep w0 S (Mw.obj b o'::rs) (w.putObj b o'):=by
 have hb:=h.obj At0;have bH:=jB hb;exact h.setObj (At0 (p:=Mw.obj b o) (l:=rs)) ⟨rfl,rfl,rfl,by simp[World.putObj],λk _ hS=>World.putObj_heap_other hS⟩ (World.putObj_heap_same bH)

def JN (K:St->Wd->Prop):Post:=λe σ w=>match e with
 | .normal=>K σ w
 | _=>False
theorem pO {K:St->Wd->Prop} (h:K σ w):JN K .normal σ w:=h

end
end Go.Mw
