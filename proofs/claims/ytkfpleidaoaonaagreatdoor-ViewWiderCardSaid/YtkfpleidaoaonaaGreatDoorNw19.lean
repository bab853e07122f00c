/-
 Maps keyed by string,told by their entries;ranges over them,in whichever order. Nothing of a given program stands here.
-/
import Derived.Test.YtkfpleidaoaonaaGreatDoorNw1
import Derived.Test.YtkfpleidaoaonaaGreatDoorNw13
import Derived.Test.YtkfpleidaoaonaaGreatDoorNw3
import Derived.Maps.RangeRun
import Derived.Test.YtkfpleidaoaonaaGreatDoorNw18
import Derived.Test.YtkfpleidaoaonaaGreatDoorNw16
import Derived.Test.YtkfpleidaoaonaaGreatDoorNw17
set_option linter.unusedVariables false
set_option linter.unusedSimpArgs false
namespace Go.Mw
open Go.RowKit
open Go.ChangeMaps (setBlock)
abbrev Ent:=L8×Value
def lu (D:List Ent) (k:L8):Option Value:=(D.find? λp=>p.1==k).map (·.2)
def yT (D:List Ent) (k:L8) (v:Value):List Ent:=if(lu D k).isSome=true then D.map (λp=>if p.1=k then(k,v)else p)else D++[(k,v)]
def Ug (D:List Ent) (k:L8):List Ent:=D.filter λp=> !(p.1==k)
def ak8:Value->L8
 | .string a=>a.data.toList
 | _=>[]
def kvE (e:MapEntry):Ent:=(ak8 e.key,e.val)
structure KQ (es:List MapEntry) (clock:Nat) (D:List Ent):Prop where
 keys:mX es
 data:es.map kvE=D
 nd:(D.map (·.1)).Nodup
 born:(es.map (·.born)).Nodup
 old: ∀e∈es,e.born<clock
theorem KR {e:MapEntry} {k:L8} (h: ∃a,e.key=.string a):iQ ⟨k.toArray⟩ e=((kvE e).1==k):=by
 obtain⟨a,ha⟩:=h;unfold iQ kvE;rw[ha];show(a==⟨k.toArray⟩)=(a.data.toList==k)
 rw[Kn,zdx];simp only[beq_iff_eq];constructor
 .intro h;rw[h]
 intro h;rw[<-h]
theorem JL {k:L8}: ∀{es:List MapEntry},mX es->nP es ⟨k.toArray⟩=lu (es.map kvE) k
 | [],_=>rfl
 | e::es,h=>by
  have ih:=JL (k:=k) (es:=es) λx hx=>h x (zag _ hx);have h1:=KR (k:=k) (h e zae);unfold nP lu at ih ⊢;rw[zay,zcf,zcf,h1];cases hb:(kvE e).1==k with
  | true=>rfl
  | false=>exact ih
theorem AV {D:List Ent} {k:L8}:lu D k=none↔k∉D.map (·.1):=by
 unfold lu;rw[zfe,zen];constructor
 .intro h hm
  obtain⟨p,hp,rfl⟩:=zat.1 hm;exact h p hp (beq_self_eq_true _)
 intro h p hp he;exact h (zat.2 ⟨p,hp,eq_of_beq he⟩)
theorem adY {D:List Ent} {k:L8} {v:Value} (h:lu D k=some v):(k,v)∈D:=by
 unfold lu at h;obtain⟨p,hp,rfl⟩:=zav.1 h;have h1:=zdv hp;have h2:=List.find?_some hp;rw[<-eq_of_beq h2];exact h1
theorem aaQ {D:List Ent} {k:L8} {v:Value}:(yT D k v).map (·.1)=if k∈D.map (·.1)then D.map (·.1)else D.map (·.1)++[k]:=by
  unfold yT
  by_cases h:k∈D.map (·.1)
  . have h1:(lu D k).isSome=true:=by
      rw[Option.isSome_iff_ne_none];exact λe=>AV.1 e h
    rw[zac h1,zac h,zdt];refine zcw λp _=>?_;show(if p.1=k then(k,v)else p).1=p.1
    split
    . rename_i e;exact e.symm
    rfl
  have h1: ¬(lu D k).isSome=true:=by
    rw[AV.2 h];simp
  rw[zab h1,zab h,zau];rfl
theorem Y3 {D:List Ent} {k:L8} {v:Value} (h:(D.map (·.1)).Nodup):((yT D k v).map (·.1)).Nodup:=by
 rw[aaQ]
 split
 .exact h
 rename_i hk;rw[zei];exact⟨h,sM,λa ha b hb e=>by rw[zar]at hb;subst hb;subst e;exact hk ha⟩
theorem adZ {D:List Ent} {k i:L8} {v:Value}:lu (yT D k v) i=if i=k then some v else lu D i:=by
 unfold yT
 by_cases h:(lu D k).isSome=true
 .rw[zac h]
  by_cases hi:i=k
  .subst hi
   rw[zac rfl]
   induction D with
   | nil=>cases h
   | cons p D ih=>
    unfold lu at h ih ⊢;rw[zay,zcf]
    by_cases hp:p.1=i
    .rw[zac hp];simp
    rw[zab hp,show(p.1==i)=false from beq_eq_false_iff_ne.2 hp];rw[zcf,show(p.1==i)=false from beq_eq_false_iff_ne.2 hp]at h;exact ih h
  rw[zab hi];clear h
  induction D with
  | nil=>rfl
  | cons p D ih=>
   unfold lu at ih ⊢;rw[zay,zcf,zcf]
   by_cases hp:p.1=k
   .rw[zac hp,show((k,v).1==i)=false from beq_eq_false_iff_ne.2 λe=>hi e.symm,show(p.1==i)=false from beq_eq_false_iff_ne.2 λe=>hi (e.symm.trans hp)]
    exact ih
   rw[zab hp];cases p.1==i with
   | true=>rfl
   | false=>exact ih
 rw[zab h];have hn:lu D k=none:=by simpa using h
 unfold lu at hn ⊢;rw[List.find?_append]
 by_cases hi:i=k
 .subst hi
  rw[zac rfl];rw[zfe]at hn;rw[hn];simp
 rw[zab hi]
 have :([(k,v)]:List Ent).find? (λp=>p.1==i)=none:=by
  rw[zcf,show((k,v).1==i)=false from beq_eq_false_iff_ne.2 λe=>hi e.symm];rfl
 rw[this,Option.or_none]
theorem agQ {D:List Ent} {k:L8} (h:(D.map (·.1)).Nodup):((Ug D k).map (·.1)).Nodup:=h.sublist (List.filter_sublist.map _)
def gD (b:Nat) (D:List Ent):HP:=exH λx:Array MapEntry×Nat=>star (obj b (.map x.1 x.2)) (jo (KQ x.1.toList x.2 D))
section
variable {w0 w w':Wd} {S:NP} {rs:List HP} {put:HP->List HP} {P:Program} {D:List Ent} {b:Nat}
theorem AX {F:NP}:(gD b D).ok F w↔(∀x,F x↔x=b)/\∃es clock,w.heap[b]? =some (.map es clock)/\KQ es.toList clock D:=by
 constructor
 .rintro⟨⟨es,c⟩,F1,F2,hF,hd,⟨h1,h2⟩,⟨h3,h5⟩⟩
  refine⟨λx=>?_,es,c,h2,h3⟩;rw[hF,h1];exact⟨λh=>h.elim id λh=>(h5 x h).elim,.inl⟩
 rintro⟨h1,es,c,h2,h3⟩;exact⟨⟨es,c⟩,F,λ_=>False,λx=>sM,λ_ _ h=>h,⟨h1,h2⟩,⟨h3,λ_ h=>h⟩⟩
theorem Sep.QB (h:Sep w0 S rs w) (hat:At rs (gD b D) put): ∃es clock,w.heap[b]? =some (.map es clock)/\KQ es.toList clock D:=by
 obtain⟨F,hp,_,_⟩:=h.focus hat;exact(AX.1 hp).2
theorem Sep.QC (h:Sep w0 S rs w) (hat:At rs (Mw.obj b (Obj.map #[] 0)) put):Sep w0 S (put (gD b [])) w:=
 h.imp hat λF hF=>AX.2 ⟨hF.1, #[],0,hF.2,⟨by simp[mX],rfl,sM,sM,sM⟩⟩
theorem Sep.ak9 (h:Sep w0 S rs w) (hat:At rs (gD b D) put):(D.map (·.1)).Nodup:=by
 obtain⟨es,c,_,hm⟩:=h.QB hat;exact hm.nd
theorem mh {ρ:Od->Value} {ty:Td} {x y:Od} {T k e:Td} [hm:IsMap P T k e] [hk:j3 P k] {z:Value} [hz:Zero P e z] {i:L8}
    (H:Sep w0 S rs w) (hat:At rs (gD b D) put) (hx:ρ x=.map (some b)) (hy:ρ y=str i):Gives P ρ (.lookup T x y false) ty w ((lu D i).getD z) w:=by
  obtain⟨es,c,hb,vB⟩:=H.QB hat;have:=zl (P:=P) (ty:=ty) (T:=T) (i:=⟨i.toArray⟩) hb vB.keys (λ_=>rfl) hx hy;rw[JL vB.keys,vB.data]at this;exact this
theorem Sep.QD {D':List Ent} {es':Array MapEntry} {c':Nat} (H:Sep w0 S rs w) (hat:At rs (gD b D) put) (h:KQ es'.toList c' D'):Sep w0 S (put (gD b D')) {w with heap:=w.heap.setIfInBounds b (.map es' c')}:=by
  obtain⟨F,hp,_,jO⟩:=H.focus hat;obtain⟨hF,es,c,hb,vB⟩:=AX.1 hp;have afL:=jB hb
  exact jO _ F _ ⟨rfl,rfl,rfl,sM,λj hj hFj=>by simp only[zbt];rw[zab (λe=>hFj ((hF j).2 e.symm))]⟩
      (AX.2 ⟨hF,es',c',by simp[afL],h⟩) λb hb=>.inl hb
theorem aaR (k:L8) (v:Value): ∀(es:List MapEntry) (j:Nat) (e:MapEntry),es[j]? =some e->(kvE e).1=k->((es.map kvE).map (·.1)).Nodup->
    (es.modify j λe=>{e with key:=str k,val:=v}).map kvE=(es.map kvE).map λp=>if p.1=k then(k,v)else p:=by
  intro es
  induction es with
  | nil=>intro j e h;simp at h
  | cons x es ih=>
    intro j e hj mQ hn;rw[zay,zay,zer]at hn;cases j with
    | zero=>
      simp at hj;subst hj;rw[List.modify_zero_cons,zay,zay,zay,zac mQ]
      have Ez:(es.map kvE).map (λp=>if p.1=k then(k,v)else p)=es.map kvE:=by
        conv=>rhs;rw[<-List.map_id (es.map kvE)]
        refine zcw λp hp=>?_;rw[zab (λe=>hn.1 (by rw[mQ,<-e];exact zat.2 ⟨p,hp,rfl⟩))];rfl
      rw[Ez];rfl
    | succ j=>
      rw[List.modify_succ_cons,zay,zay,zay];simp only[zch]at hj;have qZ:(kvE e).1∈(es.map kvE).map (·.1):=zat.2 ⟨kvE e,zat.2 ⟨e,zam hj,rfl⟩,rfl⟩;rw[zab (λh=>hn.1 (by rw[h,<-mQ];exact qZ)),ih j e hj mQ hn.2]
theorem yM {ρ:Od->Value} {ty:Td} {x y z:Od} {T k e:Td} [hm:IsMap P T k e] [hk:j3 P k] {i:L8} {v:Value}
    (H:Sep w0 S rs w) (hat:At rs (gD b D) put) (hx:ρ x=.map (some b)) (hy:ρ y=str i) (hz:ρ z=v):
    ∃w',MC P ρ (.mapUpdate T x y z) ty w w'/\Sep w0 S (put (gD b (yT D i v))) w':=by
  obtain⟨es,c,hb,vB⟩:=H.QB hat;obtain⟨r,h1,h2,h3⟩:=nK (P:=P) (w:=w) hk.und ⟨i.toArray⟩ es.toList vB.keys;have d9:=mJ (P:=P) (w:=w) hk.und false ⟨i.toArray⟩ 9999;have xE: ∀o:Obj,(setObj b o).run P w=.ok () {w with heap:=w.heap.setIfInBounds b o}:=λo=>by simp[Go.setObj,Sem.run,hb]
  have YD:ρ y=.string ⟨i.toArray⟩:=hy;rw[JL vB.keys,vB.data]at h2;cases r with
  | none=>
    refine⟨{w with heap:=w.heap.setIfInBounds b (.map (es.push {key:=.string ⟨i.toArray⟩,val:=v,born:=c}) (c+1))},λ_ _ _ _=>?_,H.QD hat ⟨?_,?_,Y3 vB.nd,?_,?_⟩⟩
    . simp only[execOp,hx,YD,hz,Instr.mapUpdate,zbh,run_underlying hm.und,zai,iN hb]
      rw[d9];simp only[zai,h1,xE,zbm]
    . intro e he
      simp at he
      rcases he with he | he
      . exact vB.keys e (by simpa using he)
      exact⟨_,by rw[he]⟩
    . have h0:lu D i=none:=by rw[<-h2];rfl
      rw[zfl,zau,vB.data];unfold yT;rw[zab (by rw[h0];simp)];rfl
    . rw[zfl,zau,zei]
      refine⟨vB.born,sM,λa ha d hd e=>?_⟩;obtain⟨x,hx,rfl⟩:=zat.1 ha;simp at hd;have:=vB.old x hx;omega
    intro e he;rw[zfl,zbi,zar]at he
    rcases he with he | rfl
    . have:=vB.old e he;omega
    exact zfb _
  | some jv=>
    obtain⟨j,u⟩:=jv;obtain⟨e,he,mQ,bH⟩:=h3 j u rfl;have hek:=vB.keys e (zam he)
    have hei:(kvE e).1=i:=by
      rw[KR hek]at mQ;exact eq_of_beq mQ
    have aoF:e.key=.string ⟨i.toArray⟩:=by
      obtain⟨a,ha⟩:=hek;rw[ha];unfold kvE at hei;rw[ha]at hei;rw[Da a,show a.data.toList=i from hei];rfl
    have yL:(((es[j]?).map (·.key)).getD (.string ⟨i.toArray⟩))=.string ⟨i.toArray⟩:=by
      have :es[j]? =some e:=by simpa using he
      rw[this];simp[aoF]
    have afN:(Instr.keyThatStays (.string ⟨i.toArray⟩) (.string ⟨i.toArray⟩)).run P w=.ok (.string ⟨i.toArray⟩) w:=by simp[Instr.keyThatStays,Instr.sameBits]
    have VQ:(es.modify j λe=>{e with key:=str i,val:=v}).toList.map (·.born)=es.toList.map (·.born):=by
      rw[zex];refine zeh λm=>?_;simp only[zcr,List.getElem?_modify];cases qX:es.toList[m]? with
      | none=>rfl
      | some x=>simp only[zda];split<;>rfl
    refine⟨{w with heap:=w.heap.setIfInBounds b (.map (es.modify j λe=>{e with key:=.string ⟨i.toArray⟩,val:=v}) c)},λ_ _ _ _=>?_,H.QD hat ⟨?_,?_,Y3 vB.nd,by exact VQ▸vB.born,?_⟩⟩
    . simp only[execOp,hx,YD,hz,Instr.mapUpdate,zbh,run_underlying hm.und,zai,iN hb]
      rw[d9];simp only[zai,h1,yL,afN,xE,zbh,zbm]
    . intro e' Zz
      simp only[zex]at Zz;obtain⟨m,qX,rfl⟩:=zfo.1 Zz;rw[List.getElem_modify]
      split
      . exact⟨_,rfl⟩
      exact vB.keys _ (zfu _)
    . have h0:lu D i=some u:=by rw[<-h2];rfl
      unfold yT;rw[zac (by rw[h0];rfl),<-vB.data,zex];exact aaR i v _ j e he hei (by rw[vB.data];exact vB.nd)
    intro x hx;have :x.born∈(es.modify j λe=>{e with key:=str i,val:=v}).toList.map (·.born):=zat.2 ⟨x,hx,rfl⟩;rw[VQ]at this;obtain⟨y,hy,e⟩:=zat.1 this;rw[<-e];exact vB.old y hy
theorem MU {ρ:Od->Value} {ty:Td} {x y:Od} {T U k e:Td} [hm:IsMap P T k e] [hk:j3 P k] {i:L8}
    (H:Sep w0 S rs w) (hat:At rs (gD b D) put) (hx:ρ x=.map (some b)) (hy:ρ y=str i):
    ∃w',Gives P ρ (.call {callee:=.builtin .delete,args:= #[x,y],argTypes:= #[T,U]}) ty w (.tuple #[]) w'/\Sep w0 S (put (gD b (Ug D i))) w':=by
  obtain⟨es,c,hb,vB⟩:=H.QB hat;obtain⟨r,h1,h2,h3⟩:=nK (P:=P) (w:=w) hk.und ⟨i.toArray⟩ es.toList vB.keys;have d9:=mJ (P:=P) (w:=w) hk.und es.isEmpty ⟨i.toArray⟩ 9999;have xE: ∀o:Obj,(setObj b o).run P w=.ok () {w with heap:=w.heap.setIfInBounds b o}:=λo=>by simp[Go.setObj,Sem.run,hb]
  have YD:ρ y=.string ⟨i.toArray⟩:=hy;rw[JL vB.keys,vB.data]at h2;cases r with
  | none=>
    have h0:lu D i=none:=by rw[<-h2];rfl
    have hd:Ug D i=D:=by
      unfold Ug;rw[zew];intro p hp;have:=AV.1 h0;have h5:(p.1==i)=false:=beq_eq_false_iff_ne.2 λe=>this (zat.2 ⟨p,hp,e⟩);rw[h5];rfl
    refine⟨{w with heap:=w.heap.setIfInBounds b (.map es c)},λ_ _ _ _=>?_,H.QD hat (by rw[hd];exact vB)⟩;simp only[execOp,resolve,invoke,builtin,zcg,zay,zcm,hx,YD,Builtin.delete_,zbh,zbm,zai,zdy,zcc,zch,run_underlying hm.und,iN hb];rw[d9];simp only[zai,h1,zbh,xE,zbm]
  | some jv=>
    obtain⟨j,u⟩:=jv;obtain⟨e,he,mQ,bH⟩:=h3 j u rfl;have hek:=vB.keys e (zam he)
    have hei:(kvE e).1=i:=by
      rw[KR hek]at mQ;exact eq_of_beq mQ
    have hjl:j<es.toList.length:=(zaz.1 he).1
    have gT:(es.eraseIdxIfInBounds j).toList=es.toList.eraseIdx j:=by
      rw[Array.eraseIdxIfInBounds];rw[dif_pos (by simpa using hjl),Array.toList_eraseIdx]
    refine⟨{w with heap:=w.heap.setIfInBounds b (.map (es.eraseIdxIfInBounds j) c)},λ_ _ _ _=>?_,H.QD hat ⟨?_,?_,agQ vB.nd,?_,?_⟩⟩
    . simp only[execOp,resolve,invoke,builtin,zcg,zay,zcm,hx,YD,Builtin.delete_,zbh,zbm,zai,zdy,zcc,zch,run_underlying hm.und,iN hb]
      rw[d9];simp only[zai,h1,zbh,xE,zbm]
    . intro x hx
      rw[gT]at hx;exact vB.keys x ((List.eraseIdx_sublist _ _).subset hx)
    . rw[gT,<-vB.data]
      have hn:=vB.nd;rw[<-vB.data]at hn;clear gT bH h3 h1 h2 d9 xE;unfold Ug
      revert hjl hn
      generalize es.toList=l at he |-
      intro hjl hn
      induction l generalizing j with
      | nil=>simp at he
      | cons x l ih=>
        rw[zay,zay,zer]at hn;cases j with
        | zero=>
          simp at he;subst he;rw[List.eraseIdx_cons_zero,zay,zel];rw[zab (by rw[hei];simp)];rw[eq_comm,zew];intro p hp;rw[show(p.1==i)=false from beq_eq_false_iff_ne.2 λe=>hn.1 (by rw[hei,<-e];exact zat.2 ⟨p,hp,rfl⟩)];rfl
        | succ j=>
          simp only[zch]at he;have qZ:(kvE e).1∈(l.map kvE).map (·.1):=zat.2 ⟨kvE e,zat.2 ⟨e,zam he,rfl⟩,rfl⟩;rw[List.eraseIdx_cons_succ,zay,zay,zel];rw[show((kvE x).1==i)=false from beq_eq_false_iff_ne.2 λh=>hn.1 (by rw[h,<-hei];exact qZ)];show _=kvE x::List.filter (λp=> !(p.1==i)) (List.map kvE l)
          rw[ih j he (by simpa using hjl) hn.2]
    . rw[gT]
      exact vB.born.sublist ((List.eraseIdx_sublist _ _).map _)
    intro x hx;rw[gT]at hx;exact vB.old x ((List.eraseIdx_sublist _ _).subset hx)
def sZ (r b:Nat) (D L:List Ent):HP:=exH λx:Array MapEntry×Nat×Array Nat=>star (star (obj b (.map x.1 x.2.1)) (obj r (.mapIter (some b) x.2.1 x.2.2 x.2.1))) (jo (KQ x.1.toList x.2.1 D/\((leftOf x.1 x.2.2).toList.map kvE).Perm L))
def QE (r b:Nat) (D L:List Ent) (p:Ent):HP:=exH λx:Array MapEntry×Nat×Array Nat×MapEntry=>star (star (obj b (.map x.1 x.2.1)) (obj r (.mapIter (some b) x.2.1 (x.2.2.1.push x.2.2.2.born) x.2.1)))
 (jo ((KQ x.1.toList x.2.1 D/\((leftOf x.1 (x.2.2.1.push x.2.2.2.born)).toList.map kvE).Perm L)/\x.2.2.2∈x.1.toList/\x.2.2.2.key=str p.1/\x.2.2.2.val=p.2))
variable {r:Nat} {L:List Ent}
theorem Sep.ad1 (H:Sep w0 S rs w) (hat:At rs (sZ r b D L) put):Sep w0 S (put (gD b D)) w:=by
 obtain⟨F,⟨⟨es,c,seen⟩,F1,F2,hF,hd,⟨G1,G2,hG,F7,h1,h2⟩,⟨h3,_⟩,h5⟩,_,jO⟩:=H.focus hat;exact jO w G1 _ (Kept.refl _ _) (AX.2 ⟨h1.1,es,c,h1.2,h3⟩) λx hx=>.inl ((hF x).2 (.inl ((hG x).2 (.inl hx))))
theorem Sep.QF {p:Ent} (H:Sep w0 S rs w) (hat:At rs (QE r b D L p) put):Sep w0 S (put (sZ r b D L)) w:=by
 refine H.imp hat λF hF=>?_;obtain⟨⟨es,c,seen,e⟩,F1,F2,hF,hd,h,⟨h3,_⟩,h5⟩:=hF;exact⟨⟨es,c,seen.push e.born⟩,F1,F2,hF,hd,h,h3,h5⟩
theorem ad2 {F:NP} (h:(sZ r b D L).ok F w): ∃es c seen,(∀x,F x↔x=b\/x=r)/\b≠r/\w.heap[b]? =some (.map es c)/\w.heap[r]? =some (.mapIter (some b) c seen c)/\KQ es.toList c D/\((leftOf es seen).toList.map kvE).Perm L:=by
 obtain⟨⟨es,c,seen⟩,F1,F2,hF,hd,⟨G1,G2,hG,F7,h1,h2⟩,⟨h3,h4⟩,h5⟩:=h;refine⟨es,c,seen,λx=>?_,λe=>F7 b ((h1.1 b).2 rfl) ((h2.1 b).2 e),h1.2,h2.2,h3,h4⟩;rw[hF,hG,h1.1,h2.1];exact⟨λh=>h.elim id λh=>(h5 x h).elim,.inl⟩
theorem QG {ρ:Od->Value} {ty:Td} {x:Od} {T k e:Td} [hm:IsMap P T k e] (H:Sep w0 S rs w) (hat:At rs (gD b D) put) (hx:ρ x=.map (some b)):
    ∃r w',Gives P ρ (.range T x) ty w (.pointer (some ⟨r,0,none⟩)) w'/\Sep w0 S (put (sZ r b D D)) w'/\Kept noB w w':=by
  obtain⟨F,hp,_,jO⟩:=H.focus hat;obtain⟨hF,es,c,hb,vB⟩:=AX.1 hp;have afL:=jB hb;refine⟨w.heap.size,w.alloc (.mapIter (some b) c #[] c),λ_ _ _ _=>?_,?_,Kept.alloc _ _⟩
  . simp only[execOp,hx]
    simp only[zbh,run_range_map w T k e b es c hm.und hb,zai,zbm]
  refine jO _ (λx=>x=b\/x=w.heap.size) _ ((Kept.alloc _ _).mono λ_ h=>h.elim) ?_ λx hx=>?_
  . refine⟨⟨es,c, #[]⟩,λx=>x=b\/x=w.heap.size,λ_=>False,λx=>sM,λ_ _ h=>h,⟨λx=>x=b,λx=>x=w.heap.size,λ_=>Iff.rfl,λx h1 h2=>oM,⟨λ_=>Iff.rfl,?_⟩,⟨λ_=>Iff.rfl,heap_alloc_new _ _⟩⟩,⟨vB,?_⟩,λ_ h=>h⟩
    . show(w.alloc _).heap[b]? =_
      rw[heap_alloc_old _ _ afL];exact hb
    show((leftOf es #[]).toList.map kvE).Perm D
    unfold leftOf;rw[zfw,zew.2 (λx _=>sM),vB.data]
  rcases hx with rfl | rfl
  . exact .inl ((hF _).2 rfl)
  exact .inr (zbk _)
theorem vT: ∀{l:List MapEntry} {e:MapEntry},(l.map (·.born)).Nodup->e∈l->l.Perm (e::l.filter λx=> !(x.born==e.born))
 | [],_,_,h=>by cases h
 | x::l,e,hn,h=>by
  rw[zay,zer]at hn
  rcases zan.1 h with rfl | h
  .rw[zel,zab sM]
   rw[zew.2];intro y hy;rw[show(y.born==e.born)=false from beq_eq_false_iff_ne.2 λh=>hn.1 (by rw[<-h];exact zat.2 ⟨y,hy,rfl⟩)];rfl
  rw[zel,zac (by rw[show(x.born==e.born)=false from beq_eq_false_iff_ne.2 λh2=>hn.1 (by rw[h2];exact zat.2 ⟨e,h,rfl⟩)];rfl)];exact((vT hn.2 h).cons x).trans (List.Perm.swap e x _)
theorem Js {ρ:Od->Value} {ty:Td} {x:Od} (H:Sep w0 S rs w) (hat:At rs (sZ r b D L) put) (hx:ρ x=.pointer (some ⟨r,0,none⟩)):
    (L=[]/\Gives P ρ (.next x false) ty w (.tuple #[.bool false]) w)\/
    ∃p L' w',L.Perm (p::L')/\Gives P ρ (.next x false) ty w (.tuple #[.bool true,str p.1,p.2]) w'/\Sep w0 S (put (QE r b D L' p)) w':=by
  obtain⟨F,hp,_,jO⟩:=H.focus hat;obtain⟨es,c,seen,hF,hbr,hb,hr,vB,BA⟩:=ad2 hp
  rcases run_next_at (P:=P) w ty r b c c seen es c hr hb vB.old (zbk _)with⟨h0,iw⟩ | ⟨e,he,k,Ai,iw⟩
  . left
    refine⟨?_,λ_ _ _ _=>?_⟩
    . have :(leftOf es seen).toList=[]:=by
        rw[List.eq_nil_iff_length_eq_zero];simpa using h0
      rw[this]at BA;exact List.nil_perm.1 BA
    simp only[execOp,hx];simp only[zbh,iw,zai,zbm]
  right
  obtain⟨heL,hse⟩:=mem_left he;obtain⟨a,ha⟩:=vB.keys e heL
  have hk:e.key=str (kvE e).1:=by
    unfold kvE;rw[ha];exact Da a
  have hl':(leftOf es (seen.push e.born)).toList=(leftOf es seen).toList.filter λx=> !(x.born==e.born):=by
    unfold leftOf;rw[zfw,zfw,List.filter_filter];refine List.filter_congr λx _=>?_;rw[contains_push];cases seen.contains x.born<;>cases hxe:(x.born==e.born)<;>simp[hxe]
  have hln:((leftOf es seen).toList.map (·.born)).Nodup:=by
    unfold leftOf;rw[zfw];exact vB.born.sublist (List.filter_sublist.map _)
  refine⟨kvE e,(leftOf es (seen.push e.born)).toList.map kvE,setBlock k r (.mapIter (some b) c (seen.push e.born) c),?_,λ_ _ _ _=>?_,?_⟩
  . refine BA.symm.trans ?_
    rw[hl',<-zay];exact(vT hln he).map _
  . simp only[execOp,hx]
    rw[hk]at iw;simp only[zbh,iw,zai,zbm];rfl
  have lY:Kept noB w k:=by
    rcases Ai with rfl | rfl
    . exact Kept.refl _ _
    exact Kept.drew _
  have aoG:=jB hr;have aoH:r<k.heap.size:=Nat.lt_of_lt_of_le aoG lY.size;have Na:k.heap[b]? =some (.map es c):=lY.get hb id
  have bZ:Kept F w (setBlock k r (.mapIter (some b) c (seen.push e.born) c)):=by
    refine(lY.mono λ_ h=>h.elim).trans (T:=F) ⟨rfl,rfl,rfl,by simp[setBlock],λj hj hFj=>?_⟩ λi hi=>.inl hi;show(k.heap.setIfInBounds r _)[j]? =_
    simp only[zbt];rw[zab (λe=>hFj ((hF j).2 (.inr e.symm)))]
  refine jO _ F _ bZ ?_ λx hx=>.inl hx;refine⟨⟨es,c,seen,e⟩,F,λ_=>False,λx=>sM,λ_ _ h=>h,⟨λx=>x=b,λx=>x=r,hF,λx h1 h2=>hbr (h1.symm.trans h2),⟨λ_=>Iff.rfl,?_⟩,⟨λ_=>Iff.rfl,?_⟩⟩,⟨⟨vB,List.Perm.refl _⟩,heL,hk,rfl⟩,λ_ h=>h⟩
  . show(k.heap.setIfInBounds r _)[b]? =_
    rw[zbt,zab (λe=>hbr e.symm)];exact Na
  show(k.heap.setIfInBounds r _)[r]? =_
  rw[zbt,zac rfl,zac aoH]
theorem Gives.Xc {ρ:Od->Value} {ty:Td} {x:Od} {p:Ent} (H:Sep w0 S rs w) (hat:At rs (QE r b D L p) put) (hx:ρ x=.pointer (some ⟨r,0,none⟩)):
    Gives P ρ (.entry x) ty w (.tuple #[str p.1,p.2]) w:=by
  obtain⟨F,⟨⟨es,c,seen,e⟩,F1,F2,hF,hd,⟨G1,G2,hG,F7,h1,h2⟩,⟨⟨h3,_⟩,h6,h7,h8⟩,h5⟩,_,_⟩:=H.focus hat;intro _ _ _ _;have:=run_entry_at (P:=P) w r b c seen es c e h2.2 h1.2 h6 h3.born;rw[h7,h8]at this;simp only[execOp,hx];simp only[zbh,this,zai,zbm]
end
end Go.Mw
namespace Go.Mw
open Go.RowKit
section
variable {P:Program} {r:Option Nat} {n:Nat} {ops:AO} {Q:Post} {rest:LO} {σ:St} {w w0:Wd} {S:NP} {rs:List HP} {put:HP->List HP} {ty:Td} {pos:String} {after:Array Edge} {lv:List Bool} {pd:LNB} {guard:Option (Nat×Bool)}
theorem agR (eH:dJ n ops=true) (i:Nat) (pd':LNB) {d:Nat} {x y:Od} {t e:Td} [hs:dh P t e] {size bytes:Nat} [hc:Cells P e size bytes] {z:Value} [hz:Zero P e z] {k:Nat} {cs:LV} (H:Sep w0 S rs w)
    (ho:ops[i]? =some ⟨some d,.makeSlice t x y,ty,pos,after,guard⟩:=by exact rfl) (hcs:madeCells z.cells (k*size)=cs.toArray) (hk:k<=maxLen) (hb:bytes*k<=281474976710656)
    (hw:Region.wanted ⟨some d,.makeSlice t x y,ty,pos,after,guard⟩ (bX ops σ)=true:=by kernel_rfl) (hx:evF σ x=.int .i64 k:=by exact rfl) (hy:evF σ y=.int .i64 k:=by exact rfl)
    (d9:eX ops lv (pd.map (·.1)) i=true:=by kernel_rfl) (oo:pd.filter (λp=> !((above ops i).contains p.1))=pd':=by exact pD)
    (h: ∀b w',Sep w0 S (blk b cs e::rs) w'->jk P ops (upd σ d (.slice (some ⟨b,0,none⟩) k k)) w' pd'/\FG P r n ops Q (lv.set i true) pd' (upd σ d (.slice (some ⟨b,0,none⟩) k k)) w'):FG P r n ops Q lv pd σ w:=
  vW (C:=λv w'=>∃b,v=.slice (some ⟨b,0,none⟩) k k/\Sep w0 S (blk b cs e::rs) w') eH i pd' ho hw ⟨_,_,Gives.aia hx hy hcs hb hk,_,rfl,H.alloc _⟩ d9 oo (λv w' hv=>by obtain⟨b,rfl,hs⟩:=hv;exact h b w' hs)
theorem Xd (eH:dJ n ops=true) (i:Nat) (pd':LNB) {d:Nat} {x y:Od} {t e:Td} [hs:dh P t e] {size bytes:Nat} [hc:Cells P e size bytes] {z:Value} [hz:Zero P e z] {k:Nat} {cs:LV} (H:Sep w0 S rs w)
    (ho:ops[i]? =some ⟨some d,.makeSlice t x y,ty,pos,after,guard⟩:=by exact rfl) (hcs:madeCells z.cells (k*size)=cs.toArray) (hk:k<=maxLen) (hb:bytes*k<=281474976710656)
    (hw:Region.wanted ⟨some d,.makeSlice t x y,ty,pos,after,guard⟩ (bX ops σ)=true:=by kernel_rfl) (hx:evF σ x=.int .i64 k:=by exact rfl) (hy:evF σ y=.int .i64 k:=by exact rfl)
    (d9:om ops lv (pd.map (·.1)) i=true:=by kernel_rfl) (oo:pd.filter (λp=> !((above ops i).contains p.1))=pd':=by exact pD)
    (h: ∀b w',Sep w0 S (blk b cs e::rs) w'->jk P ops (upd σ d (.slice (some ⟨b,0,none⟩) k k)) w' pd'/\FG P r n ops Q (lv.set i true) pd' (upd σ d (.slice (some ⟨b,0,none⟩) k k)) w'):pX P r n ops Q lv pd σ w i:=
  Ep (C:=λv w'=>∃b,v=.slice (some ⟨b,0,none⟩) k k/\Sep w0 S (blk b cs e::rs) w') eH i pd' ho hw ⟨_,_,Gives.aia hx hy hcs hb hk,_,rfl,H.alloc _⟩ d9 oo (λv w' hv=>by obtain⟨b,rfl,hs⟩:=hv;exact h b w' hs)
theorem Gives.ala {ρ:Od->Value} {T:Td} {x:Od} {v:Value} {cs:LV} (hx:ρ x=v) (hcs:v.cells=cs.toArray):Gives P ρ (.box T x) ty w (.pointer (some ⟨w.heap.size,0,none⟩)) (w.alloc (.cells cs.toArray T)):=λ_ _ _ _=>by
 simp[execOp,Instr.box,hx,newVar,newRow,hcs]
theorem Og (eH:dJ n ops=true) (i:Nat) (pd':LNB) {d:Nat} {T:Td} {x:Od} {v:Value} {cs:LV} (H:Sep w0 S rs w)
    (hx:evF σ x=v) (hcs:v.cells=cs.toArray) (ho:ops[i]? =some ⟨some d,.box T x,ty,pos,after,guard⟩:=by exact rfl)
    (hw:Region.wanted ⟨some d,.box T x,ty,pos,after,guard⟩ (bX ops σ)=true:=by kernel_rfl)
    (d9:eX ops lv (pd.map (·.1)) i=true:=by kernel_rfl) (oo:pd.filter (λp=> !((above ops i).contains p.1))=pd':=by exact pD)
    (h: ∀b w',Sep w0 S (blk b cs T::rs) w'->jk P ops (upd σ d (.pointer (some ⟨b,0,none⟩))) w' pd'/\FG P r n ops Q (lv.set i true) pd' (upd σ d (.pointer (some ⟨b,0,none⟩))) w'):FG P r n ops Q lv pd σ w:=
  vW (C:=λv w'=>∃b,v=.pointer (some ⟨b,0,none⟩)/\Sep w0 S (blk b cs T::rs) w') eH i pd' ho hw ⟨_,_,Gives.ala hx hcs,_,rfl,H.alloc _⟩ d9 oo (λv w' hv=>by obtain⟨b,rfl,hs⟩:=hv;exact h b w' hs)
theorem Cc {x y z:Od} {T k e:Td} [hm:IsMap P T k e] [hk:j3 P k] {b:Nat} {D:List Ent} {i:L8} {v:Value} (H:Sep w0 S rs w) (hat:At rs (gD b D) put) (hx:evF σ x=.map (some b):=by exact rfl) (hy:evF σ y=str i:=by exact rfl) (hz:evF σ z=v:=by exact rfl)
    (h: ∀w',Sep w0 S (put (gD b (yT D i v))) w'->FL P r n ops Q rest σ w'):
    FL P r n ops Q (⟨none,.mapUpdate T x y z,ty,pos,after,none⟩::rest) σ w:=by
  obtain⟨w',ha,hs⟩:=yM (P:=P) (ty:=ty) (T:=T) (k:=k) (e:=e) H hat hx hy hz;exact EI ha rfl (h w' hs)
end
end Go.Mw
namespace Go.Proofs.YtkfpleidaoaonaaGreatDoor
open Go Go.Mw Go.Lib Go.RowKit
theorem Ce {α:Type} {enc:α->LV} {s:Nat} [hk:jf enc s] (hs:0<s) (a:α) (k:Nat):madeCells (enc a).toArray (k*s)=((List.replicate k a).flatMap enc).toArray:=by
 apply Array.ext
 .rw[size_madeCells]
  simp only[zfk];rw[jr hk.len,zeo]
 intro i h1 h2;rw[size_madeCells]at h1;have hq:i/s<k:=Nat.div_lt_of_lt_mul (by rw[Nat.mul_comm];exact h1);have hm:i%s<s:=Nat.mod_lt _ hs;have hg:(List.replicate k a)[i/s]? =some a:=by rw[List.getElem?_replicate];simp[hq]
 have h3:=flat_get hk.len hg hm;rw[Nat.div_add_mod']at h3;have h4:(enc a)[i%s]? =some ((enc a)[i%s]'(by rw[hk.len];exact hm)):=zaa _;rw[h4]at h3;obtain⟨h5,h6⟩:=zaz.1 h3;simp only[madeCells,Array.getElem_map,Array.getElem_range,zfk,hk.len,List.getElem_toArray];rw[h6,getElem!_pos _ _ (by simp only[zfk,hk.len];exact hm)];rfl
end Go.Proofs.YtkfpleidaoaonaaGreatDoor
namespace Go.Mw
theorem Sep.pick {α:Type} {f:α->HP} {L:List α} {i:Nat} {x:α} {w0 w:Wd} {S:NP} {rs:List HP} (H:Sep w0 S (rs++L.map f) w) (h:L[i]? =some x):Sep w0 S (f x::(rs++(L.eraseIdx i).map f)) w:=by
 have hi:i<L.length:=(zaz.1 h).1
 have e:L=L.take i++x::L.drop (i+1):=by
  have h1:=zbs i L
  have h2:L.drop i=x::L.drop (i+1):=by
   rw[zbn hi]
   congr 1
   exact(zaz.1 h).2
  rw[h2]at h1;exact h1.symm
 have e2:L.eraseIdx i=L.take i++L.drop (i+1):=List.eraseIdx_eq_take_drop_succ L i;rw[e2];rw[e]at H
 have k:Sep w0 S ((rs++(L.take i).map f)++f x::(L.drop (i+1)).map f) w:=by
  rw[zbp];simpa using H
 have I:=k.front;rw[zau,<-zbp];exact I
end Go.Mw
namespace Go.Proofs.YtkfpleidaoaonaaGreatDoor
open Go Go.Mw Go.Lib
set_option maxRecDepth 4000
attribute [local irreducible] FW FL FG FGn fZ gG cO gW Qfn Gives
structure tq where
 b:Nat
 kv:Value
 sv:Value
 key:List ay
 ns:List Int
def KS (c:tq):HP:=star (blk c.b [c.kv,c.sv] 438) (star (bJ 52 3 ah c.kv c.key) (bJ 123 3 bT c.sv c.ns))
def QH (c:tq):Ent:=(dV c.key,av c.b)
abbrev fE:=Value×Value×List ay×List Int
def gJ (s:fE):Ent:=(dV s.2.2.1,agg [s.1,s.2.1])
def fQ (w:Wd) (L:List fE):Prop:=∀s∈L,(aQ w s.1 ah 3 s.2.2.1/\aQ w s.2.1 yS 1 s.2.2.2)/\fO s.2.2.1
section
variable {w:Wd} {F:NP}
theorem Uh {k:List ay} {v:Value} {b2 b5 bg bm bh keys sums bc:Nat} {E2 E5 Eg:Td} {D Dh:List Ent} (hk: ∀w1,Kept F w w1->aQ w1 v ah 3 k) (hn:k.length<=64) (BM:fO k) (hT: ∀w1,Kept F w w1->gQ w1)
    (h2: ∀w1,Kept F w w1->gU w1 b2 [av bg] E2) (h5: ∀w1,Kept F w w1->gU w1 b5 [.map (some bm)] E5)
    (hp:(star (gD bm D) (gD bh Dh)).ok F w) (hd:lu D (dV k)=some (av bc)):
    aY Tryz.prog 407 [v,av b5,av b2] w λu w'=>u=av bc/\Turn F (star (gD bm D) (gD bh Dh)) w w':=by
  have H:=(Sep.bW hp).bR;refine y7 Tryz.func407 rfl rfl rfl rfl ?_;refine Zb2 ?_;refine aD H (Y1 (hk _ H.kept) hn BM (hT _ H.kept)) (h:=λ_ S _=>?_);refine Zb1 ?_;refine fq (h5 _ S.kept) (h:=?_);refine Mv ?_;refine dG (mh (i:=dV k) S At0 rfl rfl) rfl ?_;rw[hd];dsimp only[Option.getD_some];refine Za1 ?_;refine Qn (Cd rfl (λI=>?_) (λI=>?_))
  . exact zap I sM
  refine Zb0 ?_;refine fq (h5 _ S.kept) (h:=?_);refine Mv ?_;refine dG (mh (i:=dV k) S At0 rfl rfl) rfl ?_;rw[hd];dsimp only[Option.getD_some];refine Zb1 ?_;exact⟨rfl,S.bD.turn⟩
theorem Ui {k:List ay} {v:Value} {b2 b5 bg bm bh keys sums:Nat} {E2 E5 Eg:Td} {D Dh:List Ent} {hv nv:Value} {ns:List Int} (hk: ∀w1,Kept F w w1->aQ w1 v ah 3 k) (hn:k.length<=64) (BM:fO k) (hT: ∀w1,Kept F w w1->gQ w1)
    (h2: ∀w1,Kept F w w1->gU w1 b2 [av bg] E2) (h5: ∀w1,Kept F w w1->gU w1 b5 [.map (some bm)] E5) (hg: ∀w1,Kept F w w1->gU w1 bg (qd keys sums bh) Eg) (ZF:sums<=64)
    (hz:(lu Dh (dV k)).getD (agg [.slice none 0 0,.slice none 0 0])=agg [hv,nv]) (hns: ∀w1,Kept F w w1->aQ w1 nv yS 1 ns) (hnl:ns.length<=sums+1) (hnf: ∀n∈ns,fits n)
    (hp:(star (gD bm D) (gD bh Dh)).ok F w) (hd:lu D (dV k)=none):
    aY Tryz.prog 407 [v,av b5,av b2] w λu w'=>∃c:tq,u=av c.b/\(c.key=k/\c.ns=ns++List.replicate (sums+1-ns.length) 0)/\Turn F (star (KS c) (star (gD bm (yT D (dV k) (av c.b))) (gD bh Dh))) w w':=by
  have H:=(Sep.bW hp).bR;obtain⟨N,cn,rfl,⟨Pt,aoE⟩,_⟩:=hns w (Kept.refl _ _);refine y7 Tryz.func407 rfl rfl rfl rfl ?_;refine Zb2 ?_;refine aD H (Y1 (hk _ H.kept) hn BM (hT _ H.kept)) (h:=λ_ S _=>?_);refine Zb1 ?_;refine fq (h5 _ S.kept) (h:=?_);refine Mv ?_;refine dG (mh (i:=dV k) S At0 rfl rfl) rfl ?_;rw[hd];dsimp only[Option.getD_none];refine Za1 ?_;refine Qn (Cd rfl (λS=>?_) (λS=>?_))
  . refine fB (λx:(OA×Nat)×Nat×Nat=>[(1,av b5),(2,av b2),(5,str (dV k)),(6,av x.2.2)]) (λx w'=>Mw.Sep w F [blk x.2.2 [.slice x.1.1 k.length x.1.2,.slice (some ⟨x.2.1,0,none⟩) (sums+1) (sums+1)] 438,bJ 52 3 ah (.slice x.1.1 k.length x.1.2) k,yU 123 3 (.slice (some ⟨x.2.1,0,none⟩) (sums+1) (sums+1)) (sums+1) ((List.replicate (sums+1) (0:Int)).flatMap bT),gD bm D,gD bh Dh] w') ?_ ?_
    . refine Ds (λa _ d=>?_)
      refine Zb1 ?_;refine Gl a 2 rfl rfl (Gives.sJ rfl (h2 _ d.kept) rfl) (Zb2 ?_);refine GS (Gt rfl (Gives.sJ rfl (hg _ d.kept) rfl) ?_);refine Gc a 6 ((sums+1:Nat):Int) ?_;refine mI a (e1:=1) (e2:=7) kR ?_ ?_
      . refine ng a 1 [(6,true),(5,false),(4,true),(3,true),(2,false)] d (oZ (hk _ d.kept) oM) (h:=λy _ _ g _=>?_)
        obtain⟨Y,cy,rfl,_,_⟩:=Sep.dQ g At0;refine⟨aC ((dw rfl kR (Gives.sJ rfl (hg _ g.kept) rfl) rfl (aC (aC ((dw rfl kR (Gives.sJ rfl (h2 _ g.kept) rfl) rfl (eZ))))))),?_⟩;refine agR (t:=234) a 7 _ g (k:=sums+1) (cs:=(List.replicate (sums+1) (0:Int)).flatMap bT) (hcs:=by exact Ce (enc:=bT) dC 0 (sums+1)) (hk:=by unfold maxLen;omega) (hb:=by omega) (h:=λbw _ g=>?_);have g:=Sep.o7 (n:=sums+1) (s:=3) g At0 (by rw[jr (jf.len (enc:=bT) (k:=3)),zeo]) (by unfold maxLen;omega);refine⟨sT,?_⟩;refine Gp a 8 rfl rfl (λ_=>(Gives.build (Fills.one rfl rfl rfl sM rfl (Fills.one rfl rfl rfl sM rfl Fills.nil)))) (Og a 9 _ g (cs:=[.slice Y k.length cy,.slice (some ⟨bw,0,none⟩) (sums+1) (sums+1)]) rfl rfl (h:=λbc _ g=>⟨sT,?_⟩));refine Zb1 ?_;exact aA ((Y,cy),bw,bc) tR g.aU.aL
      refine Xd (t:=234) a 7 _ d (k:=sums+1) (cs:=(List.replicate (sums+1) (0:Int)).flatMap bT) (hcs:=by exact Ce (enc:=bT) dC 0 (sums+1)) (hk:=by unfold maxLen;omega) (hb:=by omega) (h:=λbw _ g=>?_);have g:=Sep.o7 (n:=sums+1) (s:=3) g At0 (by rw[jr (jf.len (enc:=bT) (k:=3)),zeo]) (by unfold maxLen;omega);refine⟨sT,?_⟩;refine fV a 1 _ g (oZ (hk _ g.kept) oM) (h:=λy _ _ g _=>?_);obtain⟨Y,cy,rfl,_,_⟩:=Sep.dQ g At0;refine⟨sT,?_⟩;refine Gp a 8 rfl rfl (λ_=>(Gives.build (Fills.one rfl rfl rfl sM rfl (Fills.one rfl rfl rfl sM rfl Fills.nil)))) (Og a 9 _ g (cs:=[.slice Y k.length cy,.slice (some ⟨bw,0,none⟩) (sums+1) (sums+1)]) rfl rfl (h:=λbc _ g=>⟨sT,?_⟩));refine Zb1 ?_;exact aA ((Y,cy),bw,bc) tR g
    rintro⟨⟨Y,cy⟩,bw,bc⟩ τ g g;dsimp only at g;simp only[cK,like,aS,bK];refine Zb0 ?_;refine fq (h2 _ g.kept) (h:=?_);refine Zb2 ?_;refine fq (hg _ g.kept) (h:=?_);refine Mv ?_;refine dG (v:=agg [hv,.slice N ns.length cn]) (by rw[<-hz];exact mh (i:=dV k) g At4 rfl rfl) rfl ?_;refine Vv (Gives.U0 rfl rfl) (Zb2 ?_);have Ru:sums+1=(List.replicate (sums+1) (0:Int)).length:=List.length_replicate.symm;have hin:List.replicate (sums+1) (0:Int)=ns.take 0++List.replicate (sums+1-0) 0:=rfl
    refine aR (λi:Nat=>[(1,av b5),(2,av b2),(5,str (dV k)),(6,av bc),(31,.slice N ns.length cn),(32,I ns.length),(33,I i)]) (λi w'=>i<=ns.length/\Mw.Sep w F [bJ 123 3 bT (.slice (some ⟨bw,0,none⟩) (sums+1) (sums+1)) (ns.take i++List.replicate (sums+1-i) 0),blk bc [.slice Y k.length cy,.slice (some ⟨bw,0,none⟩) (sums+1) (sums+1)] 438,bJ 52 3 ah (.slice Y k.length cy) k,gD bm D,gD bh Dh] w') (λi _=>ns.length-i) 0 tR ⟨zaq _,by
      have h1:=g.aU;unfold bJ;rw[<-hin,<-Ru];exact h1⟩ (λi τ _ hI=>?_)
    clear hin Ru;obtain⟨hi,g⟩:=hI
    try simp only[cK,like,aS]
    refine Za1 ?_;refine Qn (dW (Cp rfl (λa=>?_) (λa=>?_)))
    . have bH:i<ns.length:=oM
      obtain⟨m,hm⟩:=get_some bH;have al7:=λw1 h1=>bL (hns w1 h1);have Jj:sums+1=(ns.take i++List.replicate (sums+1-i) (0:Int)).length:=by rw[zad,zaj,zeo];omega
      have xE:(ns.take i++List.replicate (sums+1-i) (0:Int)).set i m=ns.take (i+1)++List.replicate (sums+1-(i+1)) 0:=by
        rw[zfj _ _ (by rw[zaj];omega),zaj,zcv hi,zet,show sums+1-i=(sums+1-(i+1))+1 from oM,zfa,zea,zbd,hm,zbp];rfl
      refine Zb1 ?_;refine Vv (Gives.jJ rfl rfl (al7 _ g.kept) bH) (Vv (Gives.jc (f:=0) rfl (Sep.aJ _) (al7 _ g.kept) hm rfl) ?_);refine Zb2 ?_;refine Ds (λa _ d=>?_);refine Zb6 ?_;refine gI a 6 [(4,true),(3,false),(2,true),(1,true),(0,true)] d (Qj m (hnf m (zam hm))) (h:=λ_ d _=>⟨sL,?_⟩);refine GS (Gn rfl (λ_=>Gives.aae (enc:=bT) (l:=ns.take i++List.replicate (sums+1-i) (0:Int)) Jj rfl rfl (ou Jj d At0) oM) ?_);refine EU a 8 _ (i:=i) m Jj d At0 oM rfl (h:=λ_ d=>⟨sT,?_⟩);rw[xE]at d;refine Zb0 ?_;refine Vc ((i+1:Nat):Int) ?_;refine Zb1 ?_;exact aj (i+1) tR ⟨oM,d⟩ oM
    have oQ:i=ns.length:=oM;rw[oQ,zbo]at g;refine Zb0 ?_;refine fq (h5 _ g.kept) (h:=?_);refine Zb2 ?_;refine Cc (i:=dV k) (v:=av bc) g At3 (h:=λ_ d=>?_);refine Nx (fq (h5 _ d.kept) (h:=?_));refine Mv ?_;have hgt:lu (yT D (dV k) (av bc)) (dV k)=some (av bc):=by rw[adZ,zac rfl]
    refine dG (mh (i:=dV k) d At3 rfl rfl) rfl ?_;rw[hgt];dsimp only[Option.getD_some];refine Zb1 ?_;have e:(tq.mk bc (.slice Y k.length cy) (.slice (some ⟨bw,0,none⟩) (sums+1) (sums+1)) k (ns++List.replicate (sums+1-ns.length) 0)).b=bc:=rfl;exact⟨⟨bc,.slice Y k.length cy,.slice (some ⟨bw,0,none⟩) (sums+1) (sums+1),k,ns++List.replicate (sums+1-ns.length) 0⟩,rfl,⟨rfl,rfl⟩,(d.fC.fC.bD.aL.bE.bD.aU.bD.bD).turn⟩
  cases S
end
end Go.Proofs.YtkfpleidaoaonaaGreatDoor
namespace Go.Mw
theorem Sep.KT {w0 w:Wd} {S:NP} {q p:HP} {rs:List HP} {put:HP->List HP} (H:Sep w0 S (q::rs) w) (hat:At rs p put):
    ∃F,p.ok F w/\(∀b,F b->S b\/w0.heap.size<=b)/\(∀w1,Kept F w w1->∃Fq,q.ok Fq w1)/\∀w' F' p',Kept F w w'->p'.ok F' w'->(∀b,F' b->F b\/w.heap.size<=b)->Sep w0 S (q::put p') w':=by
  obtain⟨F,Fq,hp,hq,hd,hS,jO⟩:=H.ae1 hat;exact⟨F,hp,hS,λw1 hk=>⟨Fq,q.loc hk.size (λb hb=>hk.block b (q.low hq b hb) (hd b hb)) hq⟩,jO⟩
theorem Kept.into {S F:NP} {w0 w w1:Wd} (h:Kept S w0 w) (hS: ∀b,F b->S b\/w0.heap.size<=b) (h1:Kept F w w1):Kept S w0 w1:=h.trans h1 λb hb=>hS b hb
end Go.Mw
namespace Go.Proofs.YtkfpleidaoaonaaGreatDoor
open Go Go.Lib Go.Mw
set_option maxRecDepth 4000
def upN (ns:List Int) (x:bQ) (m:Nat):List Int:=ns.mapIdx λt n=>if t<m then n+Jr x t else n
theorem QI (ns:List Int) (x:bQ) (m:Nat):(upN ns x m).length=ns.length:=by unfold upN;rw[List.length_mapIdx]
theorem ad3 (ns:List Int) (x:bQ):upN ns x 0=ns:=by
 unfold upN;refine zeh λi=>?_;rw[zef];cases ns[i]? with
 | none=>rfl
 | some n=>simp
theorem x9 {ns:List Int} {x:bQ} {m t:Nat} {n:Int} (h:ns[t]? =some n):(upN ns x m)[t]? =some (if t<m then n+Jr x t else n):=by
 unfold upN;rw[zef,h];rfl
theorem Y4 {ns:List Int} {x:bQ} {m:Nat} {n:Int} (h:ns[m]? =some n):(upN ns x m).set m (n+Jr x m)=upN ns x (m+1):=by
  refine zeh λt=>?_;rw[List.getElem?_set,QI]
  by_cases e:m=t
  . subst e
    rw[zac rfl,zac (zaz.1 h).1,x9 h,zac (zfb _)]
  rw[zab e];cases ht:ns[t]? with
  | none=>unfold upN;rw[zef,zef,ht];rfl
  | some k=>
   rw[x9 ht,x9 ht];congr 1;by_cases h2:t<m
   . rw[zac h2,zac oM]
   rw[zab h2,zab oM]
theorem ad4 {ns:List Int} {x:bQ} {m:Nat} (h:Jr x m=0):upN ns x (m+1)=upN ns x m:=by
 refine zeh λt=>?_;cases ht:ns[t]? with
 | none=>unfold upN;rw[zef,zef,ht];rfl
 | some k=>
  rw[x9 ht,x9 ht];congr 1
  by_cases h2:t<m
  .rw[zac h2,zac oM]
  rw[zab h2]
  by_cases h3:t=m
  .subst h3;rw[zac oM,h];omega
  rw[zab oM]
theorem agS {sums:Nat} {E:List bQ} {x:bQ}:upN (eD sums E x.key) x (sums+1)=eD sums (E++[x]) x.key:=by
 refine zeh λt=>?_
 by_cases ht:t<=sums
 .rw[x9 (vP ht),vP ht,zac oM,sQ]
  congr 1
  show _=_+((if x.key=x.key then Jr x t else 0)+0)
  rw[zac rfl];omega
 rw[zcn (by rw[QI,mg];omega),zcn (by rw[mg];omega)]
theorem Xe {sums:Nat} {E:List bQ} {x:bQ} {k:List ay} (h:x.key≠k):eD sums (E++[x]) k=eD sums E k:=by
 unfold eD;refine zcw λi _=>?_;rw[sQ];show _+((if x.key=k then Jr x i else 0)+0)=_
 rw[zab h];omega
end Go.Proofs.YtkfpleidaoaonaaGreatDoor
namespace Go.Proofs.YtkfpleidaoaonaaGreatDoor
open Go Go.Mw Go.Lib
set_option maxRecDepth 4000
attribute [local irreducible] FW FL FG FGn fZ gG cO gW Qfn Gives
structure aaS (sums:Nat) (E:List bQ) (K:List (List ay)) (C:List tq) (D:List Ent):Prop where
 keys:(C.map (·.key)).Perm K
 nums: ∀c∈C,c.ns=eD sums E c.key
 fit: ∀c∈C,fO c.key
 data:D.Perm (C.map QH)
theorem Uj {C:List tq} {D:List Ent} {k:List ay} {v:Value} (hD:D.Perm (C.map QH)) (hF: ∀c∈C,fO c.key) (hk:fO k) (h:lu D (dV k)=some v): ∃(i:Nat) (c:tq),C[i]? =some c/\c.key=k/\v=av c.b:=by
 obtain⟨c,hc,e⟩:=zat.1 (hD.mem_iff.1 (adY h));obtain⟨i,hi,e2⟩:=zfx hc;unfold QH at e;injection e with e3 e4
 exact⟨i,c,by rw[zaa hi,e2],AU (hF c hc) hk e3,e4.symm⟩
theorem ad5 {C:List tq} {D:List Ent} {k:List ay} (hD:D.Perm (C.map QH)) (h:lu D (dV k)=none): ∀c∈C,c.key≠k:=λc hc e=>
 AV.1 h (zat.2 ⟨QH c,hD.mem_iff.2 (zdu hc),by rw[<-e];rfl⟩)
theorem Xf {α:Type} {L:List α} {i:Nat} {x:α} (h:L[i]? =some x):(x::L.eraseIdx i).Perm L:=by
 have hi:i<L.length:=(zaz.1 h).1;have h1:=zbs i L
 have h2:L.drop i=x::L.drop (i+1):=by
  rw[zbn hi]
  congr 1
  exact(zaz.1 h).2
 rw[List.eraseIdx_eq_take_drop_succ L i]
 conv=>rhs;rw[<-h1,h2]
 exact List.perm_middle.symm
section
variable {w:Wd} {F:NP}
theorem Uk {k:List ay} {v:Value} {b2 b5 bg bm bh keys sums:Nat} {E2 E5 Eg:Td} {D Dh:List Ent} {hv nv:Value} {ns:List Int} (hk: ∀w1,Kept F w w1->aQ w1 v ah 3 k) (hn:k.length<=64) (BM:fO k) (hT: ∀w1,Kept F w w1->gQ w1)
    (h2: ∀w1,Kept F w w1->gU w1 b2 [av bg] E2) (h5: ∀w1,Kept F w w1->gU w1 b5 [.map (some bm)] E5) (hg: ∀w1,Kept F w w1->gU w1 bg (qd keys sums bh) Eg) (ZF:sums<=64)
    (hz:(lu Dh (dV k)).getD (agg [.slice none 0 0,.slice none 0 0])=agg [hv,nv]) (hns: ∀w1,Kept F w w1->aQ w1 nv yS 1 ns) (hnl:ns.length<=sums+1) (hnf: ∀n∈ns,fits n)
    (hp:(star (gD bm D) (gD bh Dh)).ok F w) (hd:lu D (dV k)=none\/∃bc,lu D (dV k)=some (av bc)):
    aY Tryz.prog 407 [v,av b5,av b2] w λu w'=>(∃bc,lu D (dV k)=some (av bc)/\u=av bc/\Turn F (star (gD bm D) (gD bh Dh)) w w')\/
      (lu D (dV k)=none/\∃c:tq,u=av c.b/\(c.key=k/\c.ns=ns++List.replicate (sums+1-ns.length) 0)/\Turn F (star (KS c) (star (gD bm (yT D (dV k) (av c.b))) (gD bh Dh))) w w'):=by
  rcases hd with hd | ⟨bc,hd⟩
  . exact aY.mono (Ui hk hn BM hT h2 h5 hg ZF hz hns hnl hnf hp hd) λu w' h=>.inr ⟨hd,h⟩
  exact aY.mono (Uh (keys:=keys) (sums:=sums) (Eg:=Eg) hk hn BM hT h2 h5 hp hd) λu w' h=>.inl ⟨bc,hd,h⟩
theorem Xh {bg bh keys sums:Nat} {Eg:Td} {Dh:List Ent} {Z:List D5} {v:Value} {E:List bQ} (hg: ∀w1,Kept F w w1->gU w1 bg (qd keys sums bh) Eg)
    (hv: ∀w1,Kept F w w1->aQ w1 v xY 3 Z) (hZ: ∀w1,Kept F w w1->GK w1 Z) (hT: ∀w1,Kept F w w1->gQ w1)
    (ZF:sums<=16) (hkl: ∀z∈Z,z.2.2.key.length<=16/\fO z.2.2.key) (hvl: ∀z∈Z,z.2.2.vals.length=sums) (hf: ∀z∈Z,fits z.2.2.w/\∀c∈z.2.2.vals,fits c.n) (hn:Z.length<=1000)
    (aoI: ∀z∈Z,∃hv nv ns,(lu Dh (dV z.2.2.key)).getD (agg [.slice none 0 0,.slice none 0 0])=agg [hv,nv]/\(∀w1,Kept F w w1->aQ w1 nv yS 1 ns)/\ns.length<=sums+1/\(∀n∈ns,fits n)/\ns++List.replicate (sums+1-ns.length) 0=eD sums E z.2.2.key)
    (hp:(gD bh Dh).ok F w):
    aY Tryz.prog 399 [av bg,v] w λu w'=>∃(bm:Nat) (D:List Ent) (C:List tq),u=.map (some bm)/\aaS sums (E++Z.map (·.2.2)) (jq (Z.map (·.2.2))) C D/\Mw.Sep w F (gD bm D::gD bh Dh::C.map KS) w':=by
  have H:=Sep.bW hp;obtain⟨A,m,rfl,⟨hm,qX⟩,_⟩:=hv w (Kept.refl _ _);refine dF Tryz.func399 rfl rfl rfl rfl ?_;refine Sr (cB H (cs:=[av bg]) rfl (h:=λb2 _ k _=>?_));refine Zb1 ?_;refine tu k (h:=λbm _ k _=>?_);have k:=Sep.QC k At0;refine aO k (h:=λb5 _ k _=>?_);refine bB k (h:=λ_ k=>?_);refine Zb5 ?_;refine aR (λx:(List tq×List Ent)×Nat=>[(1,.slice A Z.length m),(2,av b2),(5,av b5),(6,.func (.func 407) #[] #[av b5,av b2]),(14,.slice A Z.length m),(15,I Z.length),(16,I x.2)]) (λx w'=>(x.2<=Z.length/\aaS sums (E++(Z.take x.2).map (·.2.2)) (jq ((Z.take x.2).map (·.2.2))) x.1.1 x.1.2)/\Mw.Sep w F (star (blk b5 [.map (some bm)] 434) (blk b2 [av bg] 107)::star (gD bm x.1.2) (gD bh Dh)::x.1.1.map KS) w') (λx _=>Z.length-x.2) (([],[]),0) tR ⟨⟨zaq _,⟨List.Perm.refl _,λc hc=>by simp at hc,λc hc=>by simp at hc,List.Perm.refl _⟩⟩,k.aU.aL.bD.aU.aU.bD.aL⟩ (λx τ _ hI=>?_);obtain⟨⟨C,D⟩,i⟩:=x;obtain⟨⟨hi,hC⟩,k⟩:=hI;dsimp only at hi hC k
  try simp only[cK,like,aS,bK]
  refine Za1 ?_;refine Qn (dW (Cp rfl (λS=>?_) (λS=>?_)))
  . have bH:i<Z.length:=oM
    obtain⟨z,hz⟩:=get_some bH;have hzm:=zam hz;obtain⟨kv,vv,e⟩:=z;have hKw: ∀w1,Kept F w w1->aQ w1 kv ah 3 e.key:=λw1 h1=>(hZ w1 h1 _ hzm).1;have hVw: ∀w1,Kept F w w1->aQ w1 vv ah 3 e.vals:=λw1 h1=>(hZ w1 h1 _ hzm).2;obtain⟨K,ck,rfl,_,_⟩:=hKw w (Kept.refl _ _);obtain⟨V,cv,rfl,_,_⟩:=hVw w (Kept.refl _ _);obtain⟨aoK,afZ⟩:=hkl _ hzm;have aoL:=hvl _ hzm;obtain⟨Jk,hfv⟩:=hf _ hzm;obtain⟨JB,nv0,ns0,hi1,Mq,hi3,hi4,hi5⟩:=aoI _ hzm;dsimp only at aoK afZ aoL Jk hfv hi1 hi5;have hT1:(Z.take (i+1)).map (λz=>z.2.2)=(Z.take i).map (λz=>z.2.2)++[e]:=by rw[zbd,hz,zau];rfl
    refine Zb0 ?_;refine Vv (Gives.jJ rfl rfl (bL (hv _ k.kept)) bH) (Vv (Gives.iL rfl (Sep.aJ _) (bL (hv _ k.kept)) hz) ?_);refine aO k (h:=λb8 _ S _=>?_);refine ak S (h:=λ_ S=>?_);refine Zb3 ?_;have hnd:=Sep.ak9 (S.aU.bR) At0;obtain⟨F0,vC,gH,hQ0,aI⟩:=Sep.KT (S.aL) At1;have EA: ∀w1,Kept F0 _ w1->Kept F w w1:=λw1 h1=>Mw.Kept.into S.kept gH h1
    have hd:lu D (dV e.key)=none\/∃bc,lu D (dV e.key)=some (av bc):=by
      cases hdg:lu D (dV e.key)with
      | none=>exact .inl rfl
      | some u=>
        obtain⟨j,c,_,_,rfl⟩:=Uj hC.data hC.fit afZ hdg;exact .inr ⟨c.b,rfl⟩
    refine dP (fs:=[]) (cs:=[av b5,av b2]) (vals:=[.slice K e.key.length ck]) rfl (Uk (keys:=keys) (sums:=sums) (bg:=bg) (Eg:=Eg) (λw1 h1=>hKw w1 (EA w1 h1)) oM afZ (λw1 h1=>hT w1 (EA w1 h1)) (λw1 h1=>by obtain⟨Fq,F1,F2,_,_,_,h2⟩:=hQ0 w1 h1;exact h2.2) (λw1 h1=>by obtain⟨Fq,F1,F2,_,_,h2,_⟩:=hQ0 w1 h1;exact h2.2) (λw1 h1=>hg w1 (EA w1 h1)) oM hi1 (λw1 h1=>Mq w1 (EA w1 h1)) hi3 hi4 vC hd) rfl rfl (λv' S hv=>?_)
    have jN: ∃(c:tq) (Cr:List tq) (D2:List Ent),v'=av c.b/\c.key=e.key/\c.ns=eD sums (E++(Z.take i).map (λz=>z.2.2)) e.key/\((c::Cr).map (λd=>d.key)).Perm (jq ((Z.take (i+1)).map λz=>z.2.2))/\(∀d∈Cr,d.key≠e.key/\d.ns=eD sums (E++(Z.take i).map (λz=>z.2.2)) d.key/\fO d.key)/\D2.Perm ((c::Cr).map QH)/\Mw.Sep w F (KS c::star (blk b5 [.map (some bm)] 434) (blk b2 [av bg] 107)::blk b8 (xY (.slice K e.key.length ck,.slice V e.vals.length cv,e)) 430::star (gD bm D2) (gD bh Dh)::Cr.map KS) S:=by
      have aoN:(C.map (·.key)).Nodup:=hC.keys.symm.nodup (Kz _)
      rcases hv with⟨bc,hdg,rfl,lY,F1,lG,S⟩ | ⟨hdg,c,rfl,⟨d9,Pt⟩,lY,F1,lG,S⟩
      . obtain⟨j,c,hj,d9,Po⟩:=Uj hC.data hC.fit afZ hdg
        have a:=Sep.pick (rs:=[_,_,_]) (aI _ F1 _ lY lG S) hj;have BA:(c::C.eraseIdx j).Perm C:=Xf hj;have hcm:=zam hj;refine⟨c,C.eraseIdx j,D,Po,d9,by rw[<-d9];exact hC.nums c hcm,?_,λd hd=>?_,hC.data.trans (BA.symm.map _),a⟩
        . rw[hT1,sV,zac (hC.keys.mem_iff.1 (zat.2 ⟨c,hcm,d9⟩))]
          exact(BA.map _).trans hC.keys
        have hdC:=BA.mem_iff.1 (zag _ hd);refine⟨λh=>?_,hC.nums d hdC,hC.fit d hdC⟩;have h2:=(BA.map (·.key)).symm.nodup aoN;rw[zay,zer]at h2;exact h2.1 (zat.2 ⟨d,hd,by rw[h,d9]⟩)
      have nI:=ad5 hC.data hdg
      have hnk:e.key∉jq ((Z.take i).map λz=>z.2.2):=λh=>by
        obtain⟨d,hd,hde⟩:=zat.1 (hC.keys.mem_iff.2 h);exact nI d hd hde
      refine⟨c,C,_,rfl,d9,by rw[Pt,hi5];exact(zA hnk).symm,?_,λd hd=>⟨nI d hd,hC.nums d hd,hC.fit d hd⟩,?_,(aI _ F1 _ lY lG S).aU.bR.bE.bE.aU⟩
      . rw[hT1,sV,zab hnk,zay,d9]
        exact(List.Perm.cons _ hC.keys).trans (List.perm_append_singleton _ _).symm
      have e1:yT D (dV e.key) (av c.b)=D++[(dV e.key,av c.b)]:=by unfold yT;rw[hdg];rfl
      rw[e1,zay];refine(List.perm_append_singleton _ _).trans ?_;unfold QH;rw[d9];exact List.Perm.cons _ hC.data
    obtain⟨⟨bc,kvc,svc,kc,nsc⟩,Cr,D2,rfl,d9,Pt,hpk,hCr,hD2,a⟩:=jN;dsimp only at d9 Pt hpk hD2 a;subst d9;have a:=(a.bR.aL.bR).aL;dsimp only at a;obtain⟨Sv,cSv,rfl,_,_⟩:=Sep.dQ a At0;have hnl:nsc.length=sums+1:=by rw[Pt,mg]
    have hnp:0<nsc.length:=oM;obtain⟨n0,yX⟩:=get_some hnp
    have al8:nsc.set 0 (n0+e.w)=upN nsc e 1:=by
      have h1:=Y4 (x:=e) yX;rw[ad3]at h1;exact h1
    refine Zb1 ?_;refine Ds (λa _ S=>?_);refine Zb8 ?_;refine GS (Gn rfl (λ_=>Gives.jJ (i:=0) (enc:=bT) rfl rfl (jG S At0) hnp) ?_);refine GS (Gt rfl (Gives.FT (i:=0) rfl (jG S At0) yX) ?_);refine Zb2 ?_;refine gI a 12 [(9,false),(8,true),(7,false),(6,true),(5,true),(4,true),(3,false),(2,true),(1,true),(0,true)] S (Qj e.w Jk) (h:=λ_ S _=>⟨(dw rfl kR (Gives.FT (i:=0) rfl (jG S At0) yX) rfl (aC (iX S (h:=aC (aC (aC (iX S (h:=aC (aC (aC (eZ))))))))))),?_⟩);refine gI a 13 [(3,false),(2,true),(1,true),(0,true)] S (Qk n0 e.w) (h:=λ_ S _=>⟨sL,?_⟩);refine GS (Gn rfl (λ_=>Gives.jJ (i:=0) (enc:=bT) rfl rfl (jG S At0) hnp) ?_);refine EU a 15 _ (i:=0) (n0+e.w) rfl S At0 hnp rfl (h:=λ_ S=>⟨sT,?_⟩);rw[al8]at S;refine Zb4 ?_;refine aR (λj:Nat=>[(1,.slice A Z.length m),(2,av b2),(5,av b5),(6,.func (.func 407) #[] #[av b5,av b2]),(8,av b8),(9,av bc),(14,.slice A Z.length m),(15,I Z.length),(16,I i),(40,.slice V e.vals.length cv),(41,I e.vals.length),(42,I j)]) (λj w'=>j<=e.vals.length/\Mw.Sep w F (bJ 123 3 bT (.slice Sv nsc.length cSv) (upN nsc e (j+1))::bJ 52 3 ah kvc e.key::blk bc [kvc,.slice Sv nsc.length cSv] 438::star (blk b5 [.map (some bm)] 434) (blk b2 [av bg] 107)::blk b8 (xY (.slice K e.key.length ck,.slice V e.vals.length cv,e)) 430::star (gD bm D2) (gD bh Dh)::Cr.map KS) w') (λj _=>e.vals.length-j) 0 tR ⟨zaq _,S⟩ (λj τ _ hJ=>?_);obtain⟨hj,S⟩:=hJ
    have YE:nsc.length=(upN nsc e (j+1)).length:=(QI _ _ _).symm
    try simp only[cK,like,aS]
    refine Za1 ?_;refine Qn (dW (Cp rfl (λa=>?_) (λa=>?_)))
    . have al9:j<e.vals.length:=oM
      obtain⟨cj,hcj⟩:=get_some al9;have hfj:=hfv cj (zam hcj);have Yx:j+1<nsc.length:=oM;obtain⟨nj,hnj⟩:=get_some Yx;have huj:(upN nsc e (j+1))[j+1]? =some nj:=by rw[x9 hnj,zab oM]
      have ahS:Jr e (j+1)=if cj.null=true then 0 else e.w*cj.n:=by
        unfold Jr;rw[zab oM,Nat.add_sub_cancel,zak,hcj];rfl
      refine Zb1 ?_;refine Vv (Gives.jJ rfl rfl (bL (hVw _ S.kept)) al9) (Vv (Gives.iL rfl (Sep.aJ _) (bL (hVw _ S.kept)) hcj) ?_);refine aO S (h:=λb11 _ a _=>?_);refine Am ?_;refine ak a (h:=λ_ a=>?_);refine Zb2 ?_;refine Vv (Gives.not rfl) (Qn ?_);refine Cd rfl (λf=>?_) (λf=>?_)
      . have aj7:cj.null=false:=by simpa using f
        rw[aj7,zab dC]at ahS;have ama:(upN nsc e (j+1)).set (j+1) (nj+e.w*cj.n)=upN nsc e (j+1+1):=by rw[<-Y4 hnj,ahS]
        refine Ds (λg _ o=>?_);refine Zb5 ?_;refine Gc g 5 ((j+1:Nat):Int) ?_;refine Zb5 ?_;refine Gc g 11 ((j+1:Nat):Int) ?_;refine GS (Gn rfl (λ_=>Gives.aae (i:=j+1) (enc:=bT) (l:=upN nsc e (j+1)) YE rfl rfl (ou YE o At1) oM) ?_);refine GS (Gt rfl (Gives.FT (i:=j+1) rfl (ou YE o At1) huj) ?_);refine Zb4 ?_;refine gI g 18 [(13,false),(12,true),(11,true),(10,true),(9,false),(8,true),(7,true),(6,true),(5,true),(4,true),(3,false),(2,true),(1,true),(0,true)] o (agC e.w cj.n Jk hfj) (h:=λ_ o _=>⟨(dw rfl kR (Gives.FT (i:=j+1) rfl (ou YE o At1) huj) rfl (aC (aC (aC (iX o (h:=aC (aC (aC (aC (aC (iX o (h:=aC (aC (aC (eZ))))))))))))))),?_⟩);refine gI g 19 [(5,true),(4,true),(3,false),(2,true),(1,true),(0,true)] o (Qk nj (e.w*cj.n)) (h:=λ_ o _=>⟨sL,?_⟩);refine GS (Gn rfl (λ_=>Gives.aae (i:=j+1) (enc:=bT) (l:=upN nsc e (j+1)) YE rfl rfl (ou YE o At1) oM) ?_);refine EU g 21 _ (i:=j+1) (nj+e.w*cj.n) YE o At1 oM rfl (h:=λ_ o=>⟨sT,?_⟩);rw[ama]at o;refine Zb0 ?_;refine Vc ((j+1:Nat):Int) ?_;refine Zb1 ?_;exact aj (j+1) tR ⟨oM,o.dA⟩ oM
      have aj7:cj.null=true:=by simpa using f
      rw[aj7,zac rfl]at ahS;have amb:=ad4 (ns:=nsc) ahS;refine Zb0 ?_;refine Vc ((j+1:Nat):Int) ?_;refine Zb1 ?_;exact aj (j+1) tR ⟨oM,by rw[amb];exact a.dA⟩ oM
    have hjl:j+1=sums+1:=oM
    have VO:upN nsc e (j+1)=eD sums (E++(Z.take (i+1)).map (λz=>z.2.2)) e.key:=by
      rw[hjl,Pt,agS,hT1,zbp]
    refine Zb0 ?_;have fu:Mw.Sep w F (star (blk b5 [.map (some bm)] 434) (blk b2 [av bg] 107)::star (gD bm D2) (gD bh Dh)::(⟨bc,kvc,.slice Sv nsc.length cSv,e.key,upN nsc e (j+1)⟩::Cr:List tq).map KS) _:=(S.aL.bD.aL.bD.aU.dA.aU.aU);refine Vc ((i+1:Nat):Int) ?_;refine Zb1 ?_;exact aj ((⟨bc,kvc,.slice Sv nsc.length cSv,e.key,upN nsc e (j+1)⟩::Cr,D2),i+1) tR ⟨⟨dO,⟨hpk,λd hd=>by
    rcases zan.1 hd with h | h
    . rw[h];exact VO
    . rw[hT1,<-zbp,Xe (λh2=>(hCr d h).1 h2.symm)];exact(hCr d h).2.1,λd hd=>by
    rcases zan.1 hd with h | h
    . rw[h];exact afZ
    exact(hCr d h).2.2,hD2⟩⟩,fu⟩ dO
  have oQ:i=Z.length:=oM;rw[oQ,zbo]at hC;refine Zb0 ?_;have o:=k.bR;refine Ld o ?_;refine Zb1 ?_;exact⟨bm,D,C,rfl,hC,o.dA.dA.bR⟩
end
open Go.Proofs.Tryz
section
variable {w:Wd} {F:NP}
theorem GL {l m:List aH} {va vb:Value} (hl:eT w va l) (hm:eT w vb m):
    Rk prog 17 [va,vb] w (.bool (decide (l=m))):=by
  obtain⟨r,hr,iI⟩:=hl;obtain⟨s,hs,Rz⟩:=hm;obtain⟨A,c,rfl,⟨hc,hc'⟩,hA⟩:=hr;obtain⟨B,d,rfl,⟨hd,hd'⟩,hB⟩:=hs;have BD:=iI.len;have hsl:=Rz.len;have H:=Sep.aJ w;refine dF func17 rfl rfl rfl rfl ?_;refine Za6 ?_;refine Qn (Cp rfl (λk=>?_) (λk=>?_))
  . have iC: ¬l=m:=λe=>k (by rw[BD,hsl,e])
    refine Zb1 ?_;exact⟨by rw[zas iC];rfl,H.kept⟩
  have hlen:r.length=s.length:=oM;refine Zb1 ?_;refine aR (λi:Nat=>[(0,.slice A r.length c),(1,.slice B s.length d),(5,I i)]) (λi w'=>(i<=r.length/\l.take i=m.take i)/\Mw.Sep w noB [] w') (λi _=>r.length-i) 0 tR ⟨⟨zaq _,rfl⟩,H⟩ (λi τ _ hI=>?_);obtain⟨⟨hi,heq⟩,k⟩:=hI
  try simp only[cK,like,aS,bK]
  refine Za4 ?_;refine Qn (Cp rfl (λS=>?_) (λS=>?_))
  . have bH:i<r.length:=oM
    have Dp:i<s.length:=oM;obtain⟨o,ho⟩:=get_some (l:=l) (show i<l.length from oM);obtain⟨p,hp⟩:=get_some (l:=m) (show i<m.length from oM);obtain⟨vo,Ry,VZ⟩:=iI.get ho;obtain⟨vp,hvp,F9⟩:=Rz.get hp;have fU:=DV heq ho hp;refine Zb0 ?_;refine Ds (λS _ a=>?_);refine Zb2 ?_;refine GS (Gn rfl (λ_=>Gives.jJ rfl rfl hA bH) ?_);refine Zb1 ?_;refine GS (Gt rfl (Gives.jc (f:=1) rfl a hA Ry rfl) ?_);refine Zb2 ?_;refine GS (Gn rfl (λ_=>Gives.jJ rfl rfl hB Dp) ?_);refine Zb1 ?_;refine GS (Gt rfl (Gives.jc (f:=1) rfl a hB hvp rfl) ?_);refine Zb2 ?_;refine iM (t:=28) rfl (λb=>?_) (λb=>?_)
    . refine Zb2 ?_
      have iC: ¬l=m:=λe=>by
        have h1:=AL.2 (fU.1 (by rw[e]));have h2:=h1.1;have h3:=h1.2;omega
      exact⟨by rw[zas iC];rfl,a.kept⟩
    refine Zb2 ?_;refine GS (Gn rfl (λ_=>Gives.jJ rfl rfl hA bH) ?_);refine Zb1 ?_;refine GS (Gt rfl (Gives.jc (f:=0) rfl a hA Ry rfl) ?_);refine Zb2 ?_;refine GS (Gn rfl (λ_=>Gives.jJ rfl rfl hB Dp) ?_);refine Zb1 ?_;refine GS (Gt rfl (Gives.jc (f:=0) rfl a hB hvp rfl) ?_);refine gI S 22 _ a (aav (VZ.keep a.kept) (F9.keep a.kept)) (h:=λ_ b _=>⟨sT,?_⟩);refine GS (Gn rfl (λ_=>Gives.notP rfl) ?_);refine Za1 ?_;refine fF S kR ?_;refine bC (Cp rfl (λS=>?_) (λS=>?_))
    . refine Zb1 ?_
      have iC: ¬l=m:=λe=>by
        have h1:=AL.2 (fU.1 (by rw[e]));have h2:=h1.1;have h3:=h1.2
        contradiction
      exact⟨by rw[zas iC];rfl,b.kept⟩
    refine Zb1 ?_;have YC:l.take (i+1)=m.take (i+1):=fU.2 (AL.1 ⟨oM,Decidable.of_not_not (by assumption)⟩);refine Vc ((i+1:Nat):Int) ?_;refine Zb1 ?_;exact aj (i+1) tR ⟨⟨oM,YC⟩,b⟩ oM
  have q8:l=m:=by
    rw[zax oM,zax oM]at heq;exact heq
  refine Zb1 ?_;exact⟨by rw[zbj q8];rfl,k.kept⟩
theorem QJ {bp:Nat} {tv:Value} {T:List aH} (hp:(star (blk bp [tv] 106) (zu tv T)).ok F w) (hn:T.length<=1000) (hTr: ∀o∈T,o.row.length<=1000):
    aY prog 389 [av bp] w λu w'=>∃x:Value×List Held,u=x.1/\x.2.map (·.2)=T/\Turn F (star (eU x.1 x.2) (star (blk bp [tv] 106) (zu tv T))) w w':=by
  have H:=(Sep.bW hp).bR;refine dI func389 rfl rfl rfl rfl ?_;refine Zb5 ?_;have hT0:eT _ tv T:=Sep.sees H At1;refine dn H (adQ hT0 hn hTr) (h:=λx _ hx k _=>?_);refine Zb1 ?_;exact⟨x,rfl,hx,(k.aL.aU.aL.bD.aL.bD).turn⟩
theorem aaT (keys sums:Int):aY prog 48 [I keys,I sums] w λu w'=>
    (¬(0<=keys/\keys<=16/\0<=sums/\sums<=16)->u=.tuple #[.pointer none,I 2]/\Kept noB w w')/\
    ((0<=keys/\keys<=16/\0<=sums/\sums<=16)->∃x:Nat×Nat,u=.tuple #[av x.1,I 0]/\Turn noB (star (blk x.1 (qd keys.toNat sums.toNat x.2) 150) (gD x.2 [])) w w'):=by
  have H:=Sep.aJ w;refine dF func48 rfl rfl rfl rfl ?_;refine Zb5 ?_;refine aF (t:=8) rfl (λk=>?_) (λk=>?_)
  . refine Zb7 ?_
    exact⟨λ_=>⟨rfl,H.kept⟩,λh=>oM⟩
  refine Zb4 ?_;refine aF (t:=12) rfl (λk=>?_) (λk=>?_)
  . refine Zb5 ?_
    exact⟨λ_=>⟨rfl,H.kept⟩,λh=>oM⟩
  refine Zb4 ?_;refine aF (t:=16) rfl (λk=>?_) (λk=>?_)
  . refine Zb3 ?_
    exact⟨λ_=>⟨rfl,H.kept⟩,λh=>oM⟩
  refine Za3 ?_;refine Qn (Cp rfl (λk=>?_) (λk=>?_))
  . refine Zb2 ?_
    exact⟨λ_=>⟨rfl,H.kept⟩,λh=>oM⟩
  refine Zb2 ?_;refine tu H (h:=λbm _ k _=>?_);have k:=Sep.QC k At0;refine Vb [.bool true,I keys,I sums,.map (some bm)] ?_;refine cB k (cs:=[.bool true,I keys,I sums,.map (some bm)]) rfl (h:=λbg _ k _=>?_);refine Zb2 ?_;exact⟨λh=>zap oM h,λh=>⟨(bg,bm),rfl,by
  have e1:((keys.toNat:Nat):Int)=keys:=zde h.1;have e2:((sums.toNat:Nat):Int)=sums:=zde h.2.2.1;unfold qd;rw[e1,e2];exact k.bD.turn⟩⟩
end
section
variable {w:Wd} {F:NP}
theorem yc {l:List bF} {v:Value} (hl:aQ w v aX 7 l) (uS:l.length<=1000):aY Tryz.prog 33 [v] w λv' w'=>∃x,v'=x/\True/\Turn noB (bJ 54 7 aX x l) w w':=by
 obtain⟨A,m,rfl,⟨hm,qX⟩,hA⟩:=hl;have H:=Sep.aJ w;refine dI Tryz.func33 rfl rfl rfl rfl ?_;refine Zb4 ?_;have k:=Sep.nE H 54 7 aX;refine oO k At0 (hA.keep H.kept) (by unfold maxLen;simp;omega) (by simp;omega) (cells_one (λ_=>rfl) _) (h:=?_);intro v2 S k;refine Zb1 ?_;exact⟨_,rfl,trivial,by rw[zcb]at k;exact k.turn⟩
end
abbrev Xi:=Value×Value×List ay×List Int
def grC (g:Xi):LV:=[g.1,I (g.2.2.2.headD 0),g.2.1]
instance:jf grC 3:=⟨λ_=>rfl⟩
def yg (w:Wd) (G:List Xi):Prop:=∀g∈G,aQ w g.1 ah 3 g.2.2.1/\aQ w g.2.1 yS 1 (g.2.2.2.drop 1)
theorem yg.keep {w w':Wd} {G:List Xi} (h:yg w G) (hk:Kept noB w w'):yg w' G:=λg hg=>⟨(h g hg).1.keep hk,(h g hg).2.keep hk⟩
section
variable {w:Wd}
end
end Go.Proofs.YtkfpleidaoaonaaGreatDoor
