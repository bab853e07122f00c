/-
 What a keeper of groups looks at;a group's row;walked.
-/
import Derived.Test.YtkfpleidaoaonaaGreatDoorNu1
import Derived.Test.YtkfpleidaoaonaaGreatDoorNu3
import Derived.Test.YtkfpleidaoaonaaGreatDoorNu19
import Derived.Test.YtkfpleidaoaonaaGreatDoorNu13
import Derived.Maps.RangeRun
import Derived.Test.YtkfpleidaoaonaaGreatDoorNu18
set_option linter.unusedVariables false
set_option linter.unusedSimpArgs false
namespace Go.Proofs.YtkfpleidaoaonaaGreatDoor
open Go Go.Mw Go.Lib
set_option maxRecDepth 4000
attribute [local irreducible] FW FL FG FGn gu gy dh gH Qfn Gives
theorem agS {keys sums:Nat} {x:dH}:xB keys sums x=(decide (x.key.length=keys/\x.vals.length=sums)&& !x.vals.any aay):=by
 unfold xB
 congr 1
 rw[List.not_any_eq_all_not]
 congr 1
 funext c
 unfold aay;rw[<-decide_not];exact zbj.2 (by simp[not_or])
theorem Vh {ns:List Int} {n:Int} (h:ns[0]? =some n):ns.headD 0=n:=by
 cases ns with
 | nil=>cases h
 | cons a t=>injection h
section
variable {w:Wd}
theorem Vi {k:List aI} {ns:List Int} {kv nv:Value} (wt:Int) (hk:aM w kv aj 3 k) (hn:aM w nv CG 1 ns) (hl:k.length<=400) (hl2:ns.length<=400):
    aN Tryz.prog 400 [agg [kv,nv],I wt] w λu w'=>∃x:Value×List Held,u=x.1/\x.2.map (·.2)=j6 ns k wt/\Turn noB (dR x.1 x.2) w w':=by
  have Ck:=hk;obtain⟨K,ck,rfl,⟨fq,ao2⟩,hK⟩:=hk;obtain⟨N,cn,rfl,⟨Uo,ar3⟩,hN⟩:=hn;have H:=Sep.aL w;refine dS Tryz.func400 rfl rfl rfl rfl ?_;refine Sr (dz H (cs:=[.slice K k.length ck,.slice N ns.length cn]) rfl (h:=λb2 w2 H2 k1=>?_));refine Zb6 ?_;refine aC (t:=12) rfl (λZt=>?_) (λZt=>?_)
  . refine Zb2 ?_
    have h0:ns.headD 0=0:=by
      first
      | (have hz:ns.length=0:=oM
         rw[zbi hz];rfl)
      | (rw[Vh CQ];omega)
    exact⟨(.slice none 0 0,[]),rfl,by unfold j6;rw[zac h0];rfl,(Sep.ny (fK H2) 82 2).bI.first.turn⟩
  refine Zb2 ?_;have Zo:0<ns.length:=oM;obtain⟨n0,CQ⟩:=get_some Zo;refine Vv (Gives.mK (i:=0) rfl rfl hN Zo) (On ?_);refine Vv (Gives.iJ (i:=0) (f:=0) rfl H2 hN CQ rfl) (Za2 ?_);refine Qn (Cp rfl (λIa=>?_) (λIa=>?_))
  . refine Zb1 ?_
    have h0:ns.headD 0=0:=by
      first
      | (have hz:ns.length=0:=oM
         rw[zbi hz];rfl)
      | (rw[Vh CQ];omega)
    exact⟨(.slice none 0 0,[]),rfl,by unfold j6;rw[zac h0];rfl,(Sep.ny (fK H2) 82 2).bI.first.turn⟩
  refine Zb2 ?_;have iF: ¬ns.headD 0=0:=by rw[Vh CQ];omega
  refine dx H2 (sS (Ck.keep H2.kept) oM) (h:=λy wa _ Ha ka=>?_);obtain⟨Y,cy,rfl,_,_⟩:=Sep.eO Ha At0;refine Zb5 ?_;have e0:k++(ns.take 0).map yY=k:=sM;refine aP (λx:(OA×Nat)×Nat=>[(1,I wt),(5,.slice x.1.1 (k++(ns.take x.2).map yY).length x.1.2),(23,.slice N ns.length cn),(24,I ns.length),(25,I x.2)]) (λx w'=>x.2<=ns.length/\Mw.Sep w noB [bW 52 3 aj (.slice x.1.1 (k++(ns.take x.2).map yY).length x.1.2) (k++(ns.take x.2).map yY)] w') (λx _=>ns.length-x.2) ((Y,cy),0) ⟨rfl,by dsimp only;rw[e0];rfl,rfl,rfl,rfl,trivial⟩ ⟨zak _,by dsimp only;rw[e0];exact Ha.first⟩ (λx τ wb hI=>?_);obtain⟨⟨R,cR⟩,i⟩:=x;obtain⟨hi,Hb⟩:=hI;dsimp only at hi Hb
  try simp only[dA,like,bB,bY]
  refine Za1 ?_;refine Qn (fC (Cp rfl (λIb=>?_) (λIb=>?_)))
  . have bX:i<ns.length:=oM
    obtain⟨m,hm⟩:=get_some bX;have ZM:k++(ns.take i).map yY++[yY m]=k++(ns.take (i+1)).map yY:=by rw[zav,hm,zam,zbs];rfl
    have hlen:(k++(ns.take i).map yY).length<=800:=by rw[zad,zae,zag];omega
    refine Zb0 ?_;refine Vv (Gives.mK rfl rfl hN bX) (Vv (Gives.iJ (f:=0) rfl Hb hN hm rfl) ?_);refine Zb3 ?_;refine Vb (aj (yY m)) ?_;refine Bs Hb ([yY m].flatMap aj) (λbs wc Hc kb=>?_);refine gP Hc (news:=[yY m]) At0 (by unfold maxLen;simp only[zan];omega) (by simp only[zan];omega) (cells_one (λ_=>rfl) _) (h:=?_);intro v5 wd Hd;rw[ZM]at Hd;obtain⟨R2,cR2,rfl,_,_⟩:=Sep.eO Hd At0;refine Zb1 ?_;refine Vc ((i+1:Nat):Int) ?_;refine Zb1 ?_;exact ak ((R2,cR2),i+1) tR ⟨dO,Hd⟩ dO
  have qp:i=ns.length:=oM;refine Zb2 ?_;refine Vb (av (.slice R (k++(ns.take i).map yY).length cR,wt)) ?_;refine Bs Hb ([(Value.slice R (k++(ns.take i).map yY).length cR,wt)].flatMap av) (λbs we He kc=>?_);refine Zb1 ?_;have h1:=Sep.rM (n:=1) (s:=2) He At0 rfl dC;have h2:=nN (x:=.slice R (k++(ns.take i).map yY).length cR) (o:=⟨k++(ns.take i).map yY,wt⟩) (fK h1).bF;exact⟨(.slice (some ⟨bs,0,none⟩) 1 1,[(.slice R (k++(ns.take i).map yY).length cR,⟨k++(ns.take i).map yY,wt⟩)]),rfl,by rw[qp,zbl];unfold j6;rw[zab iF];rfl,h2.aJ.bI.first.turn⟩
end
open Tryz
def uF (keys sums bm:Nat):LV:=[.bool true,I keys,I sums,.map (some bm)]
def jo (w:Wd) (b:Nat) (cs:LV) (E:Td):Prop:=w.heap[b]? =some (.cells cs.toArray E (0,0))
theorem jo.keep {w w':Wd} {b:Nat} {cs:LV} {E:Td} (h:jo w b cs E) (hk:Kept noB w w'):jo w' b cs E:=Kept.get hk h id
section
variable {w:Wd}
theorem OE {bg keys sums bm:Nat} {E:Td} (hg:jo w bg (uF keys sums bm) E):aN prog 391 [aA bg] w λv w'=>v=.bool false/\Kept noB w w':=by
 have H:=Sep.aL w;refine eP func391 rfl rfl rfl rfl ?_;refine Zb4 ?_;refine iN (t:=5) rfl (λNh=>?_) (λNh=>?_)
 .refine Zb2 ?_
  (exfalso;simp at *)
 refine Zb3 ?_;refine ig (hg.keep H.kept) (h:=?_);refine Zb3 ?_;exact⟨rfl,H.kept⟩
theorem ad4 {bg keys sums bm:Nat} {E:Td} {z:JD} (hg:jo w bg (uF keys sums bm) E) (hk:aM w z.1 aj 3 z.2.2.key) (hv:aM w z.2.1 aj 3 z.2.2.vals):
    aN prog 398 [aA bg,agg (BD z)] w λv w'=>v=.bool (xB keys sums z.2.2)/\Kept noB w w':=by
  obtain⟨kv,vv,e⟩:=z;dsimp only at hk hv ⊢;have rD:=hv;obtain⟨K,ck,rfl,⟨fq,ao2⟩,hK⟩:=hk;obtain⟨V,cv,rfl,⟨hcv,ao3⟩,hV⟩:=hv;rw[agS];have H:=Sep.aL w;refine dS func398 rfl rfl rfl rfl ?_;refine Sr (dz H (cs:=BD (.slice K e.key.length ck,.slice V e.vals.length cv,e)) rfl (h:=λb3 w2 H2 k1=>?_));refine Zb2 ?_;refine Ds (λLH w7 H7=>?_);refine Zb6 ?_;refine GS (Gt rfl (Gives.xZ rfl (hg.keep H7.kept) rfl) ?_);refine Zb2 ?_;refine fP (t:=14) rfl (λSa=>?_) (λSa=>?_)
  . refine Zb6 ?_
    refine GS (Gt rfl (Gives.xZ rfl (hg.keep H7.kept) rfl) ?_);refine Zb3 ?_;refine fP (t:=24) rfl (λSb=>?_) (λSb=>?_)
    . refine Zb3 ?_
      refine iZ LH 22 _ H7 (Va (p:=aay) (fv:=.func (.func 405) #[] #[]) (rD.keep H7.kept) ⟨405,[],[],rfl,inferInstance,λx _ w' _=>ajH x⟩) (h:=λwa Ha ka=>⟨sT,?_⟩);refine Zb3 ?_
      first
      | exact⟨by rw[zbe (show e.key.length=keys/\e.vals.length=sums from⟨oM,oM⟩),zdy];rfl,Ha.kept⟩
      | exact⟨by rw[zar (show ¬(e.key.length=keys/\e.vals.length=sums)from λh=>by have h1:=h.1;have h2:=h.2;omega),zgi];rfl,Ha.kept⟩
    refine Zb2 ?_
    first
    | exact⟨by rw[zbe (show e.key.length=keys/\e.vals.length=sums from⟨oM,oM⟩),zdy];rfl,H7.kept⟩
    | exact⟨by rw[zar (show ¬(e.key.length=keys/\e.vals.length=sums)from λh=>by have h1:=h.1;have h2:=h.2;omega),zgi];rfl,H7.kept⟩
  refine Zb4 ?_
  first
  | exact⟨by rw[zbe (show e.key.length=keys/\e.vals.length=sums from⟨oM,oM⟩),zdy];rfl,H7.kept⟩
  | exact⟨by rw[zar (show ¬(e.key.length=keys/\e.vals.length=sums)from λh=>by have h1:=h.1;have h2:=h.2;omega),zgi];rfl,H7.kept⟩
theorem ad5 {b2 bg keys sums bm:Nat} {E E2:Td} {z:JD} (hg:jo w bg (uF keys sums bm) E) (h2:jo w b2 [aA bg] E2) (hk:aM w z.1 aj 3 z.2.2.key) (hv:aM w z.2.1 aj 3 z.2.2.vals):
    aN prog 397 [agg (BD z),aA b2] w λv w'=>v=.bool (!xB keys sums z.2.2)/\Kept noB w w':=by
  obtain⟨kv,vv,e⟩:=z;have Ck:=hk;have rD:=hv;dsimp only at hk hv;obtain⟨K,ck,rfl,⟨fq,ao2⟩,hK⟩:=hk;obtain⟨V,cv,rfl,⟨hcv,ao3⟩,hV⟩:=hv;have H:=Sep.aL w;refine dS func397 rfl rfl rfl rfl ?_;refine Sr (dz H (cs:=BD (.slice K e.key.length ck,.slice V e.vals.length cv,e)) rfl (h:=λb3 w2 H2 k1=>?_));refine Zb1 ?_;refine ig (h2.keep H2.kept) (h:=?_);refine Zb1 ?_;refine aF H2 (ad4 (hg.keep H2.kept) (Ck.keep H2.kept) (rD.keep H2.kept)) (h:=λw7 H7 k6=>?_);refine Vv (Gives.not rfl) (Zb1 ?_);exact⟨rfl,H7.kept⟩
theorem ad6 {b2 bg keys sums bm:Nat} {E E2:Td} {Z:List JD} {v:Value} (hg:jo w bg (uF keys sums bm) E) (h2:jo w b2 [aA bg] E2) (hZ:Mf w Z) (hl:aM w v BD 3 Z):
    aN prog 396 [v,.func (.func 397) #[] #[aA b2]] w λv w'=>v=.bool (Z.any λz=> !xB keys sums z.2.2)/\Kept noB w w':=
  XU hl ⟨397,[],[aA b2],rfl,inferInstance,λz hz w' hk=>ad5 (hg.keep hk) (h2.keep hk) ((hZ z hz).1.keep hk) ((hZ z hz).2.keep hk)⟩
end
end Go.Proofs.YtkfpleidaoaonaaGreatDoor
namespace Go.Mw
open Go.RowKit
open Go.ChangeMaps (setBlock)
abbrev Ent:=L8×Value
def ow (D:List Ent) (k:L8):Option Value:=(D.find? λp=>p.1==k).map (·.2)
def CK (D:List Ent) (k:L8) (v:Value):List Ent:=if(ow D k).isSome=true then D.map (λp=>if p.1=k then(k,v)else p)else D++[(k,v)]
def X0 (D:List Ent) (k:L8):List Ent:=D.filter λp=> !(p.1==k)
def an7:Value->L8
 | .string a=>a.data.toList
 | _=>[]
def kvE (e:MapEntry):Ent:=(an7 e.key,e.val)
structure OG (es:List MapEntry) (clock:Nat) (D:List Ent):Prop where
 keys:qC es
 data:es.map kvE=D
 nd:(D.map (·.1)).Nodup
 born:(es.map (·.born)).Nodup
 old: ∀e∈es,e.born<clock
theorem OH {e:MapEntry} {k:L8} (h: ∃a,e.key=.string a):lq ⟨k.toArray⟩ e=((kvE e).1==k):=by
 obtain⟨a,ha⟩:=h;unfold lq kvE;rw[ha];show(a==⟨k.toArray⟩)=(a.data.toList==k)
 rw[Oc,zdj];simp only[beq_iff_eq];constructor
 .intro h;rw[h]
 intro h;rw[<-h]
theorem Nu {k:L8}: ∀{es:List MapEntry},qC es->rF es ⟨k.toArray⟩=ow (es.map kvE) k
 | [],_=>rfl
 | e::es,h=>by
  have ih:=Nu (k:=k) (es:=es) λx hx=>h x (zai _ hx);have h1:=OH (k:=k) (h e zah);unfold rF ow at ih ⊢;rw[zax,zcj,zcj,h1];cases hb:(kvE e).1==k with
  | true=>rfl
  | false=>exact ih
theorem EB {D:List Ent} {k:L8}:ow D k=none↔k∉D.map (·.1):=by
 unfold ow;rw[zfh,zeq];constructor
 .intro h hm
  obtain⟨p,hp,rfl⟩:=zaq.1 hm;exact h p hp (beq_self_eq_true _)
 intro h p hp he;exact h (zaq.2 ⟨p,hp,eq_of_beq he⟩)
theorem agT {D:List Ent} {k:L8} {v:Value} (h:ow D k=some v):(k,v)∈D:=by
 unfold ow at h;obtain⟨p,hp,rfl⟩:=zbb.1 h;have h1:=zec hp;have h2:=List.find?_some hp;rw[<-eq_of_beq h2];exact h1
theorem ad7 {D:List Ent} {k:L8} {v:Value}:(CK D k v).map (·.1)=if k∈D.map (·.1)then D.map (·.1)else D.map (·.1)++[k]:=by
  unfold CK
  by_cases h:k∈D.map (·.1)
  . have h1:(ow D k).isSome=true:=by
      rw[Option.isSome_iff_ne_none];exact λe=>EB.1 e h
    rw[zac h1,zac h,zcy];refine zco λp _=>?_;show(if p.1=k then(k,v)else p).1=p.1
    split
    . rename_i e;exact e.symm
    rfl
  have h1: ¬(ow D k).isSome=true:=by
    rw[EB.2 h];simp
  rw[zab h1,zab h,zam];rfl
theorem acz {D:List Ent} {k:L8} {v:Value} (h:(D.map (·.1)).Nodup):((CK D k v).map (·.1)).Nodup:=by
 rw[ad7]
 split
 .exact h
 rename_i hk;rw[zem];exact⟨h,sM,λa ha b hb e=>by rw[zay]at hb;subst hb;subst e;exact hk ha⟩
theorem agU {D:List Ent} {k i:L8} {v:Value}:ow (CK D k v) i=if i=k then some v else ow D i:=by
 unfold CK
 by_cases h:(ow D k).isSome=true
 .rw[zac h]
  by_cases hi:i=k
  .subst hi
   rw[zac rfl]
   induction D with
   | nil=>cases h
   | cons p D ih=>
    unfold ow at h ih ⊢;rw[zax,zcj]
    by_cases hp:p.1=i
    .rw[zac hp];simp
    rw[zab hp,show(p.1==i)=false from beq_eq_false_iff_ne.2 hp];rw[zcj,show(p.1==i)=false from beq_eq_false_iff_ne.2 hp]at h;exact ih h
  rw[zab hi];clear h
  induction D with
  | nil=>rfl
  | cons p D ih=>
   unfold ow at ih ⊢;rw[zax,zcj,zcj]
   by_cases hp:p.1=k
   .rw[zac hp,show((k,v).1==i)=false from beq_eq_false_iff_ne.2 λe=>hi e.symm,show(p.1==i)=false from beq_eq_false_iff_ne.2 λe=>hi (e.symm.trans hp)]
    exact ih
   rw[zab hp];cases p.1==i with
   | true=>rfl
   | false=>exact ih
 rw[zab h];have hn:ow D k=none:=by simpa using h
 unfold ow at hn ⊢;rw[List.find?_append]
 by_cases hi:i=k
 .subst hi
  rw[zac rfl];rw[zfh]at hn;rw[hn];simp
 rw[zab hi]
 have :([(k,v)]:List Ent).find? (λp=>p.1==i)=none:=by
  rw[zcj,show((k,v).1==i)=false from beq_eq_false_iff_ne.2 λe=>hi e.symm];rfl
 rw[this,Option.or_none]
theorem ajK {D:List Ent} {k:L8} (h:(D.map (·.1)).Nodup):((X0 D k).map (·.1)).Nodup:=h.sublist (List.filter_sublist.map _)
def iX (b:Nat) (D:List Ent):HP:=exH λx:Array MapEntry×Nat=>star (obj b (.map x.1 x.2)) (jI (OG x.1.toList x.2 D))
section
variable {w0 w w':Wd} {S:NP} {rs:List HP} {put:HP->List HP} {P:Program} {D:List Ent} {b:Nat}
theorem EC {F:NP}:(iX b D).ok F w↔(∀x,F x↔x=b)/\∃es clock,w.heap[b]? =some (.map es clock)/\OG es.toList clock D:=by
 constructor
 .rintro⟨⟨es,c⟩,F1,F2,hF,hd,⟨h1,h2⟩,⟨h3,h5⟩⟩
  refine⟨λx=>?_,es,c,h2,h3⟩;rw[hF,h1];exact⟨λh=>h.elim id λh=>(h5 x h).elim,.inl⟩
 rintro⟨h1,es,c,h2,h3⟩;exact⟨⟨es,c⟩,F,λ_=>False,λx=>sM,λ_ _ h=>h,⟨h1,h2⟩,⟨h3,λ_ h=>h⟩⟩
theorem Sep.Vj (h:Sep w0 S rs w) (hat:At rs (iX b D) put): ∃es clock,w.heap[b]? =some (.map es clock)/\OG es.toList clock D:=by
 obtain⟨F,hp,_,_⟩:=h.focus hat;exact(EC.1 hp).2
theorem Sep.Vk (h:Sep w0 S rs w) (hat:At rs (Mw.obj b (Obj.map #[] 0)) put):Sep w0 S (put (iX b [])) w:=
 h.imp hat λF hF=>EC.2 ⟨hF.1, #[],0,hF.2,⟨by simp[qC],rfl,sM,sM,sM⟩⟩
theorem Sep.an8 (h:Sep w0 S rs w) (hat:At rs (iX b D) put):(D.map (·.1)).Nodup:=by
 obtain⟨es,c,_,hm⟩:=h.Vj hat;exact hm.nd
theorem pR {ρ:Od->Value} {ty:Td} {x y:Od} {T k e:Td} [hm:IsMap P T k e] [hk:nZ P k] {z:Value} [hz:Zero P e z] {i:L8}
    (H:Sep w0 S rs w) (hat:At rs (iX b D) put) (hx:ρ x=.map (some b)) (hy:ρ y=str i):Gives P ρ (.lookup T x y false) ty w ((ow D i).getD z) w:=by
  obtain⟨es,c,hb,zX⟩:=H.Vj hat;have:=Db (P:=P) (ty:=ty) (T:=T) (i:=⟨i.toArray⟩) hb zX.keys (λ_=>rfl) hx hy;rw[Nu zX.keys,zX.data]at this;exact this
theorem Sep.Vm {D':List Ent} {es':Array MapEntry} {c':Nat} (H:Sep w0 S rs w) (hat:At rs (iX b D) put) (h:OG es'.toList c' D'):Sep w0 S (put (iX b D')) {w with heap:=w.heap.setIfInBounds b (.map es' c')}:=by
  obtain⟨F,hp,_,nA⟩:=H.focus hat;obtain⟨hF,es,c,hb,zX⟩:=EC.1 hp;have aiG:=mU hb
  exact nA _ F _ ⟨rfl,rfl,rfl,sM,λj hj hFj=>by simp only[zbz];rw[zab (λe=>hFj ((hF j).2 e.symm))]⟩
      (EC.2 ⟨hF,es',c',by simp[aiG],h⟩) λb hb=>.inl hb
theorem ad8 (k:L8) (v:Value): ∀(es:List MapEntry) (j:Nat) (e:MapEntry),es[j]? =some e->(kvE e).1=k->((es.map kvE).map (·.1)).Nodup->
    (es.modify j λe=>{e with key:=str k,val:=v}).map kvE=(es.map kvE).map λp=>if p.1=k then(k,v)else p:=by
  intro es
  induction es with
  | nil=>intro j e h;simp at h
  | cons x es ih=>
    intro j e hj nu hn;rw[zax,zax,zet]at hn;cases j with
    | zero=>
      simp at hj;subst hj;rw[List.modify_zero_cons,zax,zax,zax,zac nu]
      have Ki:(es.map kvE).map (λp=>if p.1=k then(k,v)else p)=es.map kvE:=by
        conv=>rhs;rw[<-List.map_id (es.map kvE)]
        refine zco λp hp=>?_;rw[zab (λe=>hn.1 (by rw[nu,<-e];exact zaq.2 ⟨p,hp,rfl⟩))];rfl
      rw[Ki];rfl
    | succ j=>
      rw[List.modify_succ_cons,zax,zax,zax];simp only[zby]at hj;have vO:(kvE e).1∈(es.map kvE).map (·.1):=zaq.2 ⟨kvE e,zaq.2 ⟨e,zao hj,rfl⟩,rfl⟩;rw[zab (λh=>hn.1 (by rw[h,<-nu];exact vO)),ih j e hj nu hn.2]
theorem Cy {ρ:Od->Value} {ty:Td} {x y z:Od} {T k e:Td} [hm:IsMap P T k e] [hk:nZ P k] {i:L8} {v:Value}
    (H:Sep w0 S rs w) (hat:At rs (iX b D) put) (hx:ρ x=.map (some b)) (hy:ρ y=str i) (hz:ρ z=v):
    ∃w',Qy P ρ (.mapUpdate T x y z) ty w w'/\Sep w0 S (put (iX b (CK D i v))) w':=by
  obtain⟨es,c,hb,zX⟩:=H.Vj hat;obtain⟨r,h1,h2,h3⟩:=qV (P:=P) (w:=w) hk.und ⟨i.toArray⟩ es.toList zX.keys;have fq:=qb (P:=P) (w:=w) hk.und false ⟨i.toArray⟩ 9999;have Bd: ∀o:Obj,(setObj b o).run P w=.ok () {w with heap:=w.heap.setIfInBounds b o}:=λo=>by simp[Go.setObj,Sem.run,hb]
  have hy':ρ y=.string ⟨i.toArray⟩:=hy;rw[Nu zX.keys,zX.data]at h2;cases r with
  | none=>
    refine⟨{w with heap:=w.heap.setIfInBounds b (.map (es.push {key:=.string ⟨i.toArray⟩,val:=v,born:=c}) (c+1))},λ_ _ _ _=>?_,H.Vm hat ⟨?_,?_,acz zX.nd,?_,?_⟩⟩
    . simp only[execOp,hx,hy',hz,Instr.mapUpdate,zbk,run_underlying hm.und,zas,j5 hb]
      rw[fq];simp only[zas,h1,Bd,zbn]
    . intro e he
      simp at he
      rcases he with he | he
      . exact zX.keys e (by simpa using he)
      exact⟨_,by rw[he]⟩
    . have h0:ow D i=none:=by rw[<-h2];rfl
      rw[zfp,zam,zX.data];unfold CK;rw[zab (by rw[h0];simp)];rfl
    . rw[zfp,zam,zem]
      refine⟨zX.born,sM,λa ha d hd e=>?_⟩;obtain⟨x,hx,rfl⟩:=zaq.1 ha;simp at hd;have:=zX.old x hx;omega
    intro e he;rw[zfp,zbh,zay]at he
    rcases he with he | rfl
    . have:=zX.old e he;omega
    exact zfd _
  | some jv=>
    obtain⟨j,u⟩:=jv;obtain⟨e,he,nu,bX⟩:=h3 j u rfl;have hek:=zX.keys e (zao he)
    have hei:(kvE e).1=i:=by
      rw[OH hek]at nu;exact eq_of_beq nu
    have ar4:e.key=.string ⟨i.toArray⟩:=by
      obtain⟨a,ha⟩:=hek;rw[ha];unfold kvE at hei;rw[ha]at hei;rw[oZ a,show a.data.toList=i from hei];rfl
    have Cn:(((es[j]?).map (·.key)).getD (.string ⟨i.toArray⟩))=.string ⟨i.toArray⟩:=by
      have :es[j]? =some e:=by simpa using he
      rw[this];simp[ar4]
    have aiI:(Instr.keyThatStays (.string ⟨i.toArray⟩) (.string ⟨i.toArray⟩)).run P w=.ok (.string ⟨i.toArray⟩) w:=by simp[Instr.keyThatStays,Instr.sameBits]
    have ZB:(es.modify j λe=>{e with key:=str i,val:=v}).toList.map (·.born)=es.toList.map (·.born):=by
      rw[zez];refine zel λm=>?_;simp only[zcf,List.getElem?_modify];cases qo:es.toList[m]? with
      | none=>rfl
      | some x=>simp only[zdf];split<;>rfl
    refine⟨{w with heap:=w.heap.setIfInBounds b (.map (es.modify j λe=>{e with key:=.string ⟨i.toArray⟩,val:=v}) c)},λ_ _ _ _=>?_,H.Vm hat ⟨?_,?_,acz zX.nd,by exact ZB▸zX.born,?_⟩⟩
    . simp only[execOp,hx,hy',hz,Instr.mapUpdate,zbk,run_underlying hm.und,zas,j5 hb]
      rw[fq];simp only[zas,h1,Cn,aiI,Bd,zbk,zbn]
    . intro e' he'
      simp only[zez]at he';obtain⟨m,qo,rfl⟩:=zft.1 he';rw[List.getElem_modify]
      split
      . exact⟨_,rfl⟩
      exact zX.keys _ (zfz _)
    . have h0:ow D i=some u:=by rw[<-h2];rfl
      unfold CK;rw[zac (by rw[h0];rfl),<-zX.data,zez];exact ad8 i v _ j e he hei (by rw[zX.data];exact zX.nd)
    intro x hx;have :x.born∈(es.modify j λe=>{e with key:=str i,val:=v}).toList.map (·.born):=zaq.2 ⟨x,hx,rfl⟩;rw[ZB]at this;obtain⟨y,hy,e⟩:=zaq.1 this;rw[<-e];exact zX.old y hy
theorem QN {ρ:Od->Value} {ty:Td} {x y:Od} {T U k e:Td} [hm:IsMap P T k e] [hk:nZ P k] {i:L8}
    (H:Sep w0 S rs w) (hat:At rs (iX b D) put) (hx:ρ x=.map (some b)) (hy:ρ y=str i):
    ∃w',Gives P ρ (.call {callee:=.builtin .delete,args:= #[x,y],argTypes:= #[T,U]}) ty w (.tuple #[]) w'/\Sep w0 S (put (iX b (X0 D i))) w':=by
  obtain⟨es,c,hb,zX⟩:=H.Vj hat;obtain⟨r,h1,h2,h3⟩:=qV (P:=P) (w:=w) hk.und ⟨i.toArray⟩ es.toList zX.keys;have fq:=qb (P:=P) (w:=w) hk.und es.isEmpty ⟨i.toArray⟩ 9999;have Bd: ∀o:Obj,(setObj b o).run P w=.ok () {w with heap:=w.heap.setIfInBounds b o}:=λo=>by simp[Go.setObj,Sem.run,hb]
  have hy':ρ y=.string ⟨i.toArray⟩:=hy;rw[Nu zX.keys,zX.data]at h2;cases r with
  | none=>
    have h0:ow D i=none:=by rw[<-h2];rfl
    have hd:X0 D i=D:=by
      unfold X0;rw[zey];intro p hp;have:=EB.1 h0;have h5:(p.1==i)=false:=beq_eq_false_iff_ne.2 λe=>this (zaq.2 ⟨p,hp,e⟩);rw[h5];rfl
    refine⟨{w with heap:=w.heap.setIfInBounds b (.map es c)},λ_ _ _ _=>?_,H.Vm hat (by rw[hd];exact zX)⟩;simp only[execOp,resolve,invoke,builtin,zcl,zax,zcr,hx,hy',Builtin.delete_,zbk,zbn,zas,zee,zbp,zby,run_underlying hm.und,j5 hb];rw[fq];simp only[zas,h1,zbk,Bd,zbn]
  | some jv=>
    obtain⟨j,u⟩:=jv;obtain⟨e,he,nu,bX⟩:=h3 j u rfl;have hek:=zX.keys e (zao he)
    have hei:(kvE e).1=i:=by
      rw[OH hek]at nu;exact eq_of_beq nu
    have hjl:j<es.toList.length:=(zbd.1 he).1
    have jw:(es.eraseIdxIfInBounds j).toList=es.toList.eraseIdx j:=by
      rw[Array.eraseIdxIfInBounds];rw[dif_pos (by simpa using hjl),Array.toList_eraseIdx]
    refine⟨{w with heap:=w.heap.setIfInBounds b (.map (es.eraseIdxIfInBounds j) c)},λ_ _ _ _=>?_,H.Vm hat ⟨?_,?_,ajK zX.nd,?_,?_⟩⟩
    . simp only[execOp,resolve,invoke,builtin,zcl,zax,zcr,hx,hy',Builtin.delete_,zbk,zbn,zas,zee,zbp,zby,run_underlying hm.und,j5 hb]
      rw[fq];simp only[zas,h1,zbk,Bd,zbn]
    . intro x hx
      rw[jw]at hx;exact zX.keys x ((List.eraseIdx_sublist _ _).subset hx)
    . rw[jw,<-zX.data]
      have hn:=zX.nd;rw[<-zX.data]at hn;clear jw bX h3 h1 h2 fq Bd;unfold X0
      revert hjl hn
      generalize es.toList=l at he |-
      intro hjl hn
      induction l generalizing j with
      | nil=>simp at he
      | cons x l ih=>
        rw[zax,zax,zet]at hn;cases j with
        | zero=>
          simp at he;subst he;rw[List.eraseIdx_cons_zero,zax,zdq];rw[zab (by rw[hei];simp)];rw[eq_comm,zey];intro p hp;rw[show(p.1==i)=false from beq_eq_false_iff_ne.2 λe=>hn.1 (by rw[hei,<-e];exact zaq.2 ⟨p,hp,rfl⟩)];rfl
        | succ j=>
          simp only[zby]at he;have vO:(kvE e).1∈(l.map kvE).map (·.1):=zaq.2 ⟨kvE e,zaq.2 ⟨e,zao he,rfl⟩,rfl⟩;rw[List.eraseIdx_cons_succ,zax,zax,zdq];rw[show((kvE x).1==i)=false from beq_eq_false_iff_ne.2 λh=>hn.1 (by rw[h,<-hei];exact vO)];show _=kvE x::List.filter (λp=> !(p.1==i)) (List.map kvE l)
          rw[ih j he (by simpa using hjl) hn.2]
    . rw[jw]
      exact zX.born.sublist ((List.eraseIdx_sublist _ _).map _)
    intro x hx;rw[jw]at hx;exact zX.old x ((List.eraseIdx_sublist _ _).subset hx)
def yD (r b:Nat) (D L:List Ent):HP:=exH λx:Array MapEntry×Nat×Array Nat=>star (star (obj b (.map x.1 x.2.1)) (obj r (.mapIter (some b) x.2.1 x.2.2 x.2.1))) (jI (OG x.1.toList x.2.1 D/\((leftOf x.1 x.2.2).toList.map kvE).Perm L))
def Vp (r b:Nat) (D L:List Ent) (p:Ent):HP:=exH λx:Array MapEntry×Nat×Array Nat×MapEntry=>star (star (obj b (.map x.1 x.2.1)) (obj r (.mapIter (some b) x.2.1 (x.2.2.1.push x.2.2.2.born) x.2.1)))
 (jI ((OG x.1.toList x.2.1 D/\((leftOf x.1 (x.2.2.1.push x.2.2.2.born)).toList.map kvE).Perm L)/\x.2.2.2∈x.1.toList/\x.2.2.2.key=str p.1/\x.2.2.2.val=p.2))
variable {r:Nat} {L:List Ent}
theorem Sep.agV (H:Sep w0 S rs w) (hat:At rs (yD r b D L) put):Sep w0 S (put (iX b D)) w:=by
 obtain⟨F,⟨⟨es,c,seen⟩,F1,F2,hF,hd,⟨G1,G2,hG,Lx,h1,h2⟩,⟨h3,_⟩,h5⟩,_,nA⟩:=H.focus hat;exact nA w G1 _ (Kept.refl _ _) (EC.2 ⟨h1.1,es,c,h1.2,h3⟩) λx hx=>.inl ((hF x).2 (.inl ((hG x).2 (.inl hx))))
theorem Sep.Vr {p:Ent} (H:Sep w0 S rs w) (hat:At rs (Vp r b D L p) put):Sep w0 S (put (yD r b D L)) w:=by
 refine H.imp hat λF hF=>?_;obtain⟨⟨es,c,seen,e⟩,F1,F2,hF,hd,h,⟨h3,_⟩,h5⟩:=hF;exact⟨⟨es,c,seen.push e.born⟩,F1,F2,hF,hd,h,h3,h5⟩
theorem agW {F:NP} (h:(yD r b D L).ok F w): ∃es c seen,(∀x,F x↔x=b\/x=r)/\b≠r/\w.heap[b]? =some (.map es c)/\w.heap[r]? =some (.mapIter (some b) c seen c)/\OG es.toList c D/\((leftOf es seen).toList.map kvE).Perm L:=by
 obtain⟨⟨es,c,seen⟩,F1,F2,hF,hd,⟨G1,G2,hG,Lx,h1,h2⟩,⟨h3,h4⟩,h5⟩:=h;refine⟨es,c,seen,λx=>?_,λe=>Lx b ((h1.1 b).2 rfl) ((h2.1 b).2 e),h1.2,h2.2,h3,h4⟩;rw[hF,hG,h1.1,h2.1];exact⟨λh=>h.elim id λh=>(h5 x h).elim,.inl⟩
theorem Vs {ρ:Od->Value} {ty:Td} {x:Od} {T k e:Td} [hm:IsMap P T k e] (H:Sep w0 S rs w) (hat:At rs (iX b D) put) (hx:ρ x=.map (some b)):
    ∃r w',Gives P ρ (.range T x) ty w (.pointer (some ⟨r,0,none⟩)) w'/\Sep w0 S (put (yD r b D D)) w'/\Kept noB w w':=by
  obtain⟨F,hp,_,nA⟩:=H.focus hat;obtain⟨hF,es,c,hb,zX⟩:=EC.1 hp;have aiG:=mU hb;refine⟨w.heap.size,w.alloc (.mapIter (some b) c #[] c),λ_ _ _ _=>?_,?_,Kept.alloc _ _⟩
  . simp only[execOp,hx]
    simp only[zbk,run_range_map w T k e b es c hm.und hb,zas,zbn]
  refine nA _ (λx=>x=b\/x=w.heap.size) _ ((Kept.alloc _ _).mono λ_ h=>h.elim) ?_ λx hx=>?_
  . refine⟨⟨es,c, #[]⟩,λx=>x=b\/x=w.heap.size,λ_=>False,λx=>sM,λ_ _ h=>h,⟨λx=>x=b,λx=>x=w.heap.size,λ_=>Iff.rfl,λx h1 h2=>oM,⟨λ_=>Iff.rfl,?_⟩,⟨λ_=>Iff.rfl,heap_alloc_new _ _⟩⟩,⟨zX,?_⟩,λ_ h=>h⟩
    . show(w.alloc _).heap[b]? =_
      rw[heap_alloc_old _ _ aiG];exact hb
    show((leftOf es #[]).toList.map kvE).Perm D
    unfold leftOf;rw[zgb,zey.2 (λx _=>sM),zX.data]
  rcases hx with rfl | rfl
  . exact .inl ((hF _).2 rfl)
  exact .inr (zbf _)
theorem Az: ∀{l:List MapEntry} {e:MapEntry},(l.map (·.born)).Nodup->e∈l->l.Perm (e::l.filter λx=> !(x.born==e.born))
 | [],_,_,h=>by cases h
 | x::l,e,hn,h=>by
  rw[zax,zet]at hn
  rcases zap.1 h with rfl | h
  .rw[zdq,zab sM]
   rw[zey.2];intro y hy;rw[show(y.born==e.born)=false from beq_eq_false_iff_ne.2 λh=>hn.1 (by rw[<-h];exact zaq.2 ⟨y,hy,rfl⟩)];rfl
  rw[zdq,zac (by rw[show(x.born==e.born)=false from beq_eq_false_iff_ne.2 λh2=>hn.1 (by rw[h2];exact zaq.2 ⟨e,h,rfl⟩)];rfl)];exact((Az hn.2 h).cons x).trans (List.Perm.swap e x _)
theorem Nb {ρ:Od->Value} {ty:Td} {x:Od} (H:Sep w0 S rs w) (hat:At rs (yD r b D L) put) (hx:ρ x=.pointer (some ⟨r,0,none⟩)):
    (L=[]/\Gives P ρ (.next x false) ty w (.tuple #[.bool false]) w)\/
    ∃p L' w',L.Perm (p::L')/\Gives P ρ (.next x false) ty w (.tuple #[.bool true,str p.1,p.2]) w'/\Sep w0 S (put (Vp r b D L' p)) w':=by
  obtain⟨F,hp,_,nA⟩:=H.focus hat;obtain⟨es,c,seen,hF,hbr,hb,hr,zX,Fb⟩:=agW hp
  rcases run_next_at (P:=P) w ty r b c c seen es c hr hb zX.old (zbf _)with⟨h0,jG⟩ | ⟨e,he,w1,Ei,jG⟩
  . left
    refine⟨?_,λ_ _ _ _=>?_⟩
    . have :(leftOf es seen).toList=[]:=by
        rw[List.eq_nil_iff_length_eq_zero];simpa using h0
      rw[this]at Fb;exact List.nil_perm.1 Fb
    simp only[execOp,hx];simp only[zbk,jG,zas,zbn]
  right
  obtain⟨heL,hse⟩:=mem_left he;obtain⟨a,ha⟩:=zX.keys e heL
  have hk:e.key=str (kvE e).1:=by
    unfold kvE;rw[ha];exact oZ a
  have hl':(leftOf es (seen.push e.born)).toList=(leftOf es seen).toList.filter λx=> !(x.born==e.born):=by
    unfold leftOf;rw[zgb,zgb,List.filter_filter];refine List.filter_congr λx _=>?_;rw[contains_push];cases seen.contains x.born<;>cases hxe:(x.born==e.born)<;>simp[hxe]
  have Uk:((leftOf es seen).toList.map (·.born)).Nodup:=by
    unfold leftOf;rw[zgb];exact zX.born.sublist (List.filter_sublist.map _)
  refine⟨kvE e,(leftOf es (seen.push e.born)).toList.map kvE,setBlock w1 r (.mapIter (some b) c (seen.push e.born) c),?_,λ_ _ _ _=>?_,?_⟩
  . refine Fb.symm.trans ?_
    rw[hl',<-zax];exact(Az Uk he).map _
  . simp only[execOp,hx]
    rw[hk]at jG;simp only[zbk,jG,zas,zbn];rfl
  have jH:Kept noB w w1:=by
    rcases Ei with rfl | rfl
    . exact Kept.refl _ _
    exact Kept.drew _
  have ar5:=mU hr;have ar6:r<w1.heap.size:=Nat.lt_of_lt_of_le ar5 jH.size;have Q8:w1.heap[b]? =some (.map es c):=jH.get hb id
  have eB:Kept F w (setBlock w1 r (.mapIter (some b) c (seen.push e.born) c)):=by
    refine(jH.mono λ_ h=>h.elim).trans (T:=F) ⟨rfl,rfl,rfl,by simp[setBlock],λj hj hFj=>?_⟩ λi hi=>.inl hi;show(w1.heap.setIfInBounds r _)[j]? =_
    simp only[zbz];rw[zab (λe=>hFj ((hF j).2 (.inr e.symm)))]
  refine nA _ F _ eB ?_ λx hx=>.inl hx;refine⟨⟨es,c,seen,e⟩,F,λ_=>False,λx=>sM,λ_ _ h=>h,⟨λx=>x=b,λx=>x=r,hF,λx h1 h2=>hbr (h1.symm.trans h2),⟨λ_=>Iff.rfl,?_⟩,⟨λ_=>Iff.rfl,?_⟩⟩,⟨⟨zX,List.Perm.refl _⟩,heL,hk,rfl⟩,λ_ h=>h⟩
  . show(w1.heap.setIfInBounds r _)[b]? =_
    rw[zbz,zab (λe=>hbr e.symm)];exact Q8
  show(w1.heap.setIfInBounds r _)[r]? =_
  rw[zbz,zac rfl,zac ar6]
theorem Gives.aaB {ρ:Od->Value} {ty:Td} {x:Od} {p:Ent} (H:Sep w0 S rs w) (hat:At rs (Vp r b D L p) put) (hx:ρ x=.pointer (some ⟨r,0,none⟩)):
    Gives P ρ (.entry x) ty w (.tuple #[str p.1,p.2]) w:=by
  obtain⟨F,⟨⟨es,c,seen,e⟩,F1,F2,hF,hd,⟨G1,G2,hG,Lx,h1,h2⟩,⟨⟨h3,_⟩,h6,h7,h8⟩,h5⟩,_,_⟩:=H.focus hat;intro _ _ _ _;have:=run_entry_at (P:=P) w r b c seen es c e h2.2 h1.2 h6 h3.born;rw[h7,h8]at this;simp only[execOp,hx];simp only[zbk,this,zas,zbn]
end
end Go.Mw
namespace Go.Mw
open Go.RowKit
section
variable {P:Program} {r:Option Nat} {n:Nat} {ops:AO} {Q:Post} {rest:LO} {σ:St} {w w0:Wd} {S:NP} {rs:List HP} {put:HP->List HP} {ty:Td} {pos:String} {after:Array Edge} {lv:List Bool} {pd:LNB} {guard:Option (Nat×Bool)}
theorem ajL (gT:fT n ops=true) (i:Nat) (pd':LNB) {d:Nat} {x y:Od} {t e:Td} [hs:dD P t e] {size bytes:Nat} [hc:Cells P e size bytes] {z:Value} [hz:Zero P e z] {k:Nat} {cs:LV} (H:Sep w0 S rs w)
    (ho:ops[i]? =some ⟨some d,.makeSlice t x y,ty,pos,after,guard⟩:=by exact rfl) (hcs:madeCells z.cells (k*size)=cs.toArray) (hk:k<=maxLen) (hb:bytes*k<=281474976710656)
    (hw:Region.wanted ⟨some d,.makeSlice t x y,ty,pos,after,guard⟩ (eD ops σ)=true:=by kernel_rfl) (hx:evF σ x=.int .i64 k:=by exact rfl) (hy:evF σ y=.int .i64 k:=by exact rfl)
    (fq:gY ops lv (pd.map (·.1)) i=true:=by kernel_rfl) (rC:pd.filter (λp=> !((above ops i).contains p.1))=pd':=by exact pD)
    (h: ∀b w',Sep w0 S (blk b cs e::rs) w'->mI P ops (upd σ d (.slice (some ⟨b,0,none⟩) k k)) w' pd'/\FG P r n ops Q (lv.set i true) pd' (upd σ d (.slice (some ⟨b,0,none⟩) k k)) w'):FG P r n ops Q lv pd σ w:=
  Av (C:=λv w'=>∃b,v=.slice (some ⟨b,0,none⟩) k k/\Sep w0 S (blk b cs e::rs) w') gT i pd' ho hw ⟨_,_,Gives.ak4 hx hy hcs hb hk,_,rfl,H.alloc _⟩ fq rC (λv w' hv=>by obtain⟨b,rfl,hs⟩:=hv;exact h b w' hs)
theorem aaC (gT:fT n ops=true) (i:Nat) (pd':LNB) {d:Nat} {x y:Od} {t e:Td} [hs:dD P t e] {size bytes:Nat} [hc:Cells P e size bytes] {z:Value} [hz:Zero P e z] {k:Nat} {cs:LV} (H:Sep w0 S rs w)
    (ho:ops[i]? =some ⟨some d,.makeSlice t x y,ty,pos,after,guard⟩:=by exact rfl) (hcs:madeCells z.cells (k*size)=cs.toArray) (hk:k<=maxLen) (hb:bytes*k<=281474976710656)
    (hw:Region.wanted ⟨some d,.makeSlice t x y,ty,pos,after,guard⟩ (eD ops σ)=true:=by kernel_rfl) (hx:evF σ x=.int .i64 k:=by exact rfl) (hy:evF σ y=.int .i64 k:=by exact rfl)
    (fq:rR ops lv (pd.map (·.1)) i=true:=by kernel_rfl) (rC:pd.filter (λp=> !((above ops i).contains p.1))=pd':=by exact pD)
    (h: ∀b w',Sep w0 S (blk b cs e::rs) w'->mI P ops (upd σ d (.slice (some ⟨b,0,none⟩) k k)) w' pd'/\FG P r n ops Q (lv.set i true) pd' (upd σ d (.slice (some ⟨b,0,none⟩) k k)) w'):tZ P r n ops Q lv pd σ w i:=
  JX (C:=λv w'=>∃b,v=.slice (some ⟨b,0,none⟩) k k/\Sep w0 S (blk b cs e::rs) w') gT i pd' ho hw ⟨_,_,Gives.ak4 hx hy hcs hb hk,_,rfl,H.alloc _⟩ fq rC (λv w' hv=>by obtain⟨b,rfl,hs⟩:=hv;exact h b w' hs)
theorem Gives.an9 {ρ:Od->Value} {T:Td} {x:Od} {v:Value} {cs:LV} (hx:ρ x=v) (hcs:v.cells=cs.toArray):Gives P ρ (.box T x) ty w (.pointer (some ⟨w.heap.size,0,none⟩)) (w.alloc (.cells cs.toArray T)):=λ_ _ _ _=>by
 simp[execOp,Instr.box,hx,newVar,newRow,hcs]
theorem R3 (gT:fT n ops=true) (i:Nat) (pd':LNB) {d:Nat} {T:Td} {x:Od} {v:Value} {cs:LV} (H:Sep w0 S rs w)
    (hx:evF σ x=v) (hcs:v.cells=cs.toArray) (ho:ops[i]? =some ⟨some d,.box T x,ty,pos,after,guard⟩:=by exact rfl)
    (hw:Region.wanted ⟨some d,.box T x,ty,pos,after,guard⟩ (eD ops σ)=true:=by kernel_rfl)
    (fq:gY ops lv (pd.map (·.1)) i=true:=by kernel_rfl) (rC:pd.filter (λp=> !((above ops i).contains p.1))=pd':=by exact pD)
    (h: ∀b w',Sep w0 S (blk b cs T::rs) w'->mI P ops (upd σ d (.pointer (some ⟨b,0,none⟩))) w' pd'/\FG P r n ops Q (lv.set i true) pd' (upd σ d (.pointer (some ⟨b,0,none⟩))) w'):FG P r n ops Q lv pd σ w:=
  Av (C:=λv w'=>∃b,v=.pointer (some ⟨b,0,none⟩)/\Sep w0 S (blk b cs T::rs) w') gT i pd' ho hw ⟨_,_,Gives.an9 hx hcs,_,rfl,H.alloc _⟩ fq rC (λv w' hv=>by obtain⟨b,rfl,hs⟩:=hv;exact h b w' hs)
theorem FJ {x y z:Od} {T k e:Td} [hm:IsMap P T k e] [hk:nZ P k] {b:Nat} {D:List Ent} {i:L8} {v:Value} (H:Sep w0 S rs w) (hat:At rs (iX b D) put) (hx:evF σ x=.map (some b):=by exact rfl) (hy:evF σ y=str i:=by exact rfl) (hz:evF σ z=v:=by exact rfl)
    (h: ∀w',Sep w0 S (put (iX b (CK D i v))) w'->FL P r n ops Q rest σ w'):
    FL P r n ops Q (⟨none,.mapUpdate T x y z,ty,pos,after,none⟩::rest) σ w:=by
  obtain⟨w',ha,hs⟩:=Cy (P:=P) (ty:=ty) (T:=T) (k:=k) (e:=e) H hat hx hy hz;exact Kt ha rfl (h w' hs)
end
end Go.Mw
namespace Go.Proofs.YtkfpleidaoaonaaGreatDoor
open Go Go.Mw Go.Lib Go.RowKit
theorem FK {α:Type} {enc:α->LV} {s:Nat} [hk:lY enc s] (hs:0<s) (a:α) (k:Nat):madeCells (enc a).toArray (k*s)=((List.replicate k a).flatMap enc).toArray:=by
 apply Array.ext
 .rw[size_madeCells]
  simp only[zfo];rw[mJ hk.len,zer]
 intro i h1 h2;rw[size_madeCells]at h1;have hq:i/s<k:=Nat.div_lt_of_lt_mul (by rw[Nat.mul_comm];exact h1);have hm:i%s<s:=Nat.mod_lt _ hs;have hg:(List.replicate k a)[i/s]? =some a:=by rw[List.getElem?_replicate];simp[hq]
 have h3:=flat_get hk.len hg hm;rw[Nat.div_add_mod']at h3;have h4:(enc a)[i%s]? =some ((enc a)[i%s]'(by rw[hk.len];exact hm)):=zaa _;rw[h4]at h3;obtain⟨h5,h6⟩:=zbd.1 h3;simp only[madeCells,Array.getElem_map,Array.getElem_range,zfo,hk.len,List.getElem_toArray];rw[h6,getElem!_pos _ _ (by simp only[zfo,hk.len];exact hm)];rfl
end Go.Proofs.YtkfpleidaoaonaaGreatDoor
namespace Go.Mw
theorem Sep.pick {α:Type} {f:α->HP} {L:List α} {i:Nat} {x:α} {w0 w:Wd} {S:NP} {rs:List HP} (H:Sep w0 S (rs++L.map f) w) (h:L[i]? =some x):Sep w0 S (f x::(rs++(L.eraseIdx i).map f)) w:=by
 have hi:i<L.length:=(zbd.1 h).1
 have e:L=L.take i++x::L.drop (i+1):=by
  have h1:=zbx i L
  have h2:L.drop i=x::L.drop (i+1):=by
   rw[zbq hi]
   congr 1
   exact(zbd.1 h).2
  rw[h2]at h1;exact h1.symm
 have e2:L.eraseIdx i=L.take i++L.drop (i+1):=List.eraseIdx_eq_take_drop_succ L i;rw[e2];rw[e]at H
 have H2:Sep w0 S ((rs++(L.take i).map f)++f x::(L.drop (i+1)).map f) w:=by
  rw[zbs];simpa using H
 have H3:=H2.front;rw[zam,<-zbs];exact H3
end Go.Mw
namespace Go.Proofs.YtkfpleidaoaonaaGreatDoor
open Go Go.Mw Go.Lib
set_option maxRecDepth 4000
attribute [local irreducible] FW FL FG FGn gu gy dh gH Qfn Gives
structure yE where
 b:Nat
 kv:Value
 sv:Value
 key:List aI
 ns:List Int
def OI (c:yE):HP:=star (blk c.b [c.kv,c.sv] 438) (star (bW 52 3 aj c.kv c.key) (bW 123 3 dV c.sv c.ns))
def Vt (c:yE):Ent:=(gB c.key,aA c.b)
abbrev iD:=Value×Value×List aI×List Int
def je (s:iD):Ent:=(gB s.2.2.1,agg [s.1,s.2.1])
def iQ (w:Wd) (L:List iD):Prop:=∀s∈L,(aM w s.1 aj 3 s.2.2.1/\aM w s.2.1 CG 1 s.2.2.2)/\iM s.2.2.1
section
variable {w:Wd} {F:NP}
theorem X3 {k:List aI} {v:Value} {b2 b5 bg bm bh keys sums bc:Nat} {E2 E5 Eg:Td} {D Dh:List Ent} (hk: ∀w1,Kept F w w1->aM w1 v aj 3 k) (hn:k.length<=64) (Fz:iM k) (hT: ∀w1,Kept F w w1->fA w1)
    (h2: ∀w1,Kept F w w1->jo w1 b2 [aA bg] E2) (h5: ∀w1,Kept F w w1->jo w1 b5 [.map (some bm)] E5)
    (hp:(star (iX bm D) (iX bh Dh)).ok F w) (hd:ow D (gB k)=some (aA bc)):
    aN Tryz.prog 407 [v,aA b5,aA b2] w λu w'=>u=aA bc/\Turn F (star (iX bm D) (iX bh Dh)) w w':=by
  have H:=(Sep.dZ hp).dG;refine tH Tryz.func407 rfl rfl rfl rfl ?_;refine Zb2 ?_;refine aF H (acu (hk _ H.kept) hn Fz (hT _ H.kept)) (h:=λw4 H4 k3=>?_);refine Zb1 ?_;refine ig (h5 _ H4.kept) (h:=?_);refine Mv ?_;refine dU (pR (i:=gB k) H4 At0 rfl rfl) rfl ?_;rw[hd];dsimp only[Option.getD_some];refine Za1 ?_;refine Qn (Cd rfl (λIa=>?_) (λIa=>?_))
  . exact zat Ia sM
  refine Zb0 ?_;refine ig (h5 _ H4.kept) (h:=?_);refine Mv ?_;refine dU (pR (i:=gB k) H4 At0 rfl rfl) rfl ?_;rw[hd];dsimp only[Option.getD_some];refine Zb1 ?_;exact⟨rfl,H4.bI.turn⟩
theorem X4 {k:List aI} {v:Value} {b2 b5 bg bm bh keys sums:Nat} {E2 E5 Eg:Td} {D Dh:List Ent} {hv nv:Value} {ns:List Int} (hk: ∀w1,Kept F w w1->aM w1 v aj 3 k) (hn:k.length<=64) (Fz:iM k) (hT: ∀w1,Kept F w w1->fA w1)
    (h2: ∀w1,Kept F w w1->jo w1 b2 [aA bg] E2) (h5: ∀w1,Kept F w w1->jo w1 b5 [.map (some bm)] E5) (hg: ∀w1,Kept F w w1->jo w1 bg (uF keys sums bh) Eg) (hsm:sums<=64)
    (hz:(ow Dh (gB k)).getD (agg [.slice none 0 0,.slice none 0 0])=agg [hv,nv]) (hns: ∀w1,Kept F w w1->aM w1 nv CG 1 ns) (hnl:ns.length<=sums+1) (hnf: ∀n∈ns,fits n)
    (hp:(star (iX bm D) (iX bh Dh)).ok F w) (hd:ow D (gB k)=none):
    aN Tryz.prog 407 [v,aA b5,aA b2] w λu w'=>∃c:yE,u=aA c.b/\(c.key=k/\c.ns=ns++List.replicate (sums+1-ns.length) 0)/\Turn F (star (OI c) (star (iX bm (CK D (gB k) (aA c.b))) (iX bh Dh))) w w':=by
  have H:=(Sep.dZ hp).dG;obtain⟨N,cn,rfl,⟨Uo,ar3⟩,_⟩:=hns w (Kept.refl _ _);refine tH Tryz.func407 rfl rfl rfl rfl ?_;refine Zb2 ?_;refine aF H (acu (hk _ H.kept) hn Fz (hT _ H.kept)) (h:=λw4 H4 k3=>?_);refine Zb1 ?_;refine ig (h5 _ H4.kept) (h:=?_);refine Mv ?_;refine dU (pR (i:=gB k) H4 At0 rfl rfl) rfl ?_;rw[hd];dsimp only[Option.getD_none];refine Za1 ?_;refine Qn (Cd rfl (λIa=>?_) (λIa=>?_))
  . refine iP (λx:(OA×Nat)×Nat×Nat=>[(1,aA b5),(2,aA b2),(5,str (gB k)),(6,aA x.2.2)]) (λx w'=>Mw.Sep w F [blk x.2.2 [.slice x.1.1 k.length x.1.2,.slice (some ⟨x.2.1,0,none⟩) (sums+1) (sums+1)] 438,bW 52 3 aj (.slice x.1.1 k.length x.1.2) k,CJ 123 3 (.slice (some ⟨x.2.1,0,none⟩) (sums+1) (sums+1)) (sums+1) ((List.replicate (sums+1) (0:Int)).flatMap dV),iX bm D,iX bh Dh] w') ?_ ?_
    . refine Ds (λSa wa Ha=>?_)
      refine Zb1 ?_;refine Gl Sa 2 rfl rfl (Gives.xZ rfl (h2 _ Ha.kept) rfl) (Zb2 ?_);refine GS (Gt rfl (Gives.xZ rfl (hg _ Ha.kept) rfl) ?_);refine GS (Gn rfl (λ_=>(Gives.M5 (c:=((sums+1:Nat):Int)) rfl rfl oM oM)) ?_);refine jK Sa (e1:=1) (e2:=7) kR ?_ ?_
      . refine l9 Sa 1 [(6,true),(5,false),(4,true),(3,true),(2,false)] Ha (sS (hk _ Ha.kept) oM) (h:=λy wb _ Hb ka=>?_)
        obtain⟨Y,cy,rfl,_,_⟩:=Sep.eO Hb At0;refine⟨ah ((dN rfl kR (Gives.xZ rfl (hg _ Hb.kept) rfl) rfl (ah (ah ((dN rfl kR (Gives.xZ rfl (h2 _ Hb.kept) rfl) rfl (aK))))))),?_⟩;refine ajL (t:=234) Sa 7 _ Hb (k:=sums+1) (cs:=(List.replicate (sums+1) (0:Int)).flatMap dV) (hcs:=by exact FK (enc:=dV) dC 0 (sums+1)) (hk:=by unfold maxLen;omega) (hb:=by omega) (h:=λbw wc Hc=>?_);have Hc:=Sep.rM (n:=sums+1) (s:=3) Hc At0 (by rw[mJ (lY.len (enc:=dV) (k:=3)),zer]) (by unfold maxLen;omega);refine⟨sT,?_⟩;refine Gp Sa 8 rfl rfl (λ_=>(Gives.build (Fills.one rfl rfl rfl sM rfl (Fills.one rfl rfl rfl sM rfl Fills.nil)))) (R3 Sa 9 _ Hc (cs:=[.slice Y k.length cy,.slice (some ⟨bw,0,none⟩) (sums+1) (sums+1)]) rfl rfl (h:=λbc wd Hd=>⟨sT,?_⟩));refine Zb1 ?_;exact aG ((Y,cy),bw,bc) tR Hd.bF.aJ
      refine aaC (t:=234) Sa 7 _ Ha (k:=sums+1) (cs:=(List.replicate (sums+1) (0:Int)).flatMap dV) (hcs:=by exact FK (enc:=dV) dC 0 (sums+1)) (hk:=by unfold maxLen;omega) (hb:=by omega) (h:=λbw we He=>?_);have He:=Sep.rM (n:=sums+1) (s:=3) He At0 (by rw[mJ (lY.len (enc:=dV) (k:=3)),zer]) (by unfold maxLen;omega);refine⟨sT,?_⟩;refine dL Sa 1 _ He (sS (hk _ He.kept) oM) (h:=λy wf _ Hf kb=>?_);obtain⟨Y,cy,rfl,_,_⟩:=Sep.eO Hf At0;refine⟨sT,?_⟩;refine Gp Sa 8 rfl rfl (λ_=>(Gives.build (Fills.one rfl rfl rfl sM rfl (Fills.one rfl rfl rfl sM rfl Fills.nil)))) (R3 Sa 9 _ Hf (cs:=[.slice Y k.length cy,.slice (some ⟨bw,0,none⟩) (sums+1) (sums+1)]) rfl rfl (h:=λbc wg Hg=>⟨sT,?_⟩));refine Zb1 ?_;exact aG ((Y,cy),bw,bc) tR Hg
    rintro⟨⟨Y,cy⟩,bw,bc⟩ τ wh Hh;dsimp only at Hh;simp only[dA,like,bB,bY];refine Zb0 ?_;refine ig (h2 _ Hh.kept) (h:=?_);refine Zb2 ?_;refine ig (hg _ Hh.kept) (h:=?_);refine Mv ?_;refine dU (v:=agg [hv,.slice N ns.length cn]) (by rw[<-hz];exact pR (i:=gB k) Hh At4 rfl rfl) rfl ?_;refine Vv (Gives.Yr rfl rfl) (Zb2 ?_);have G8:sums+1=(List.replicate (sums+1) (0:Int)).length:=List.length_replicate.symm;have hin:List.replicate (sums+1) (0:Int)=ns.take 0++List.replicate (sums+1-0) 0:=rfl
    refine aP (λi:Nat=>[(1,aA b5),(2,aA b2),(5,str (gB k)),(6,aA bc),(31,.slice N ns.length cn),(32,I ns.length),(33,I i)]) (λi w'=>i<=ns.length/\Mw.Sep w F [bW 123 3 dV (.slice (some ⟨bw,0,none⟩) (sums+1) (sums+1)) (ns.take i++List.replicate (sums+1-i) 0),blk bc [.slice Y k.length cy,.slice (some ⟨bw,0,none⟩) (sums+1) (sums+1)] 438,bW 52 3 aj (.slice Y k.length cy) k,iX bm D,iX bh Dh] w') (λi _=>ns.length-i) 0 tR ⟨zak _,by
      have h1:=Hh.bF;unfold bW;rw[<-hin,<-G8];exact h1⟩ (λi τ wi hI=>?_)
    clear hin G8;obtain⟨hi,Hi⟩:=hI
    try simp only[dA,like,bB]
    refine Za1 ?_;refine Qn (fC (Cp rfl (λIb=>?_) (λIb=>?_)))
    . have bX:i<ns.length:=oM
      obtain⟨m,hm⟩:=get_some bX;have ao4:=λw1 h1=>cO (hns w1 h1);have MR:sums+1=(ns.take i++List.replicate (sums+1-i) (0:Int)).length:=by rw[zad,zag,zer];omega
      have Bd:(ns.take i++List.replicate (sums+1-i) (0:Int)).set i m=ns.take (i+1)++List.replicate (sums+1-(i+1)) 0:=by
        rw[zfm _ _ (by rw[zag];omega),zag,zck hi,zev,show sums+1-i=(sums+1-(i+1))+1 from oM,zfc,zeg,zav,hm,zbs];rfl
      refine Zb1 ?_;refine Vv (Gives.mK rfl rfl (ao4 _ Hi.kept) bX) (Vv (Gives.iJ (f:=0) rfl (Sep.aL _) (ao4 _ Hi.kept) hm rfl) ?_);refine Zb2 ?_;refine Ds (λSb wj Hj=>?_);refine Zb6 ?_;refine iZ Sb 6 [(4,true),(3,false),(2,true),(1,true),(0,true)] Hj (UZ m (hnf m (zao hm))) (h:=λwk Hk kc=>⟨ah (aY Hk (h:=ah (ah (ah (aK))))),?_⟩);refine GS (Gn rfl (λ_=>Gives.ady (enc:=dV) (l:=ns.take i++List.replicate (sums+1-i) (0:Int)) MR rfl rfl (rV MR Hk At0) oM) ?_);refine KG Sb 8 _ (i:=i) m MR Hk At0 oM rfl (h:=λwl Hl=>⟨sT,?_⟩);rw[Bd]at Hl;refine Zb0 ?_;refine Vc ((i+1:Nat):Int) ?_;refine Zb1 ?_;exact ak (i+1) tR ⟨oM,Hl⟩ oM
    have qp:i=ns.length:=oM;rw[qp,zbl]at Hi;refine Zb0 ?_;refine ig (h5 _ Hi.kept) (h:=?_);refine Zb2 ?_;refine FJ (i:=gB k) (v:=aA bc) Hi At3 (h:=λwm Hm=>?_);refine Nx (ig (h5 _ Hm.kept) (h:=?_));refine Mv ?_;have hgt:ow (CK D (gB k) (aA bc)) (gB k)=some (aA bc):=by rw[agU,zac rfl]
    refine dU (pR (i:=gB k) Hm At3 rfl rfl) rfl ?_;rw[hgt];dsimp only[Option.getD_some];refine Zb1 ?_;have e:(yE.mk bc (.slice Y k.length cy) (.slice (some ⟨bw,0,none⟩) (sums+1) (sums+1)) k (ns++List.replicate (sums+1-ns.length) 0)).b=bc:=rfl;exact⟨⟨bc,.slice Y k.length cy,.slice (some ⟨bw,0,none⟩) (sums+1) (sums+1),k,ns++List.replicate (sums+1-ns.length) 0⟩,rfl,⟨rfl,rfl⟩,(Hm.fF.fF.bI.aJ.bN.bI.bF.bI.bI).turn⟩
  cases Ia
end
end Go.Proofs.YtkfpleidaoaonaaGreatDoor
namespace Go.Mw
theorem Sep.BM {w0 w:Wd} {S:NP} {q p:HP} {rs:List HP} {put:HP->List HP} (H:Sep w0 S (q::rs) w) (hat:At rs p put):
    ∃F,p.ok F w/\(∀b,F b->S b\/w0.heap.size<=b)/\(∀w1,Kept F w w1->∃Fq,q.ok Fq w1)/\∀w' F' p',Kept F w w'->p'.ok F' w'->(∀b,F' b->F b\/w.heap.size<=b)->Sep w0 S (q::put p') w':=by
  obtain⟨F,Fq,hp,hq,hd,hS,nA⟩:=H.ahz hat;exact⟨F,hp,hS,λw1 hk=>⟨Fq,q.loc hk.size (λb hb=>hk.block b (q.low hq b hb) (hd b hb)) hq⟩,nA⟩
theorem Kept.into {S F:NP} {w0 w w1:Wd} (h:Kept S w0 w) (hS: ∀b,F b->S b\/w0.heap.size<=b) (h1:Kept F w w1):Kept S w0 w1:=h.trans h1 λb hb=>hS b hb
end Go.Mw
namespace Go.Proofs.YtkfpleidaoaonaaGreatDoor
open Go Go.Lib Go.Mw
set_option maxRecDepth 4000
def upN (ns:List Int) (x:dH) (m:Nat):List Int:=ns.mapIdx λt n=>if t<m then n+Gs x t else n
theorem Vu (ns:List Int) (x:dH) (m:Nat):(upN ns x m).length=ns.length:=by unfold upN;rw[List.length_mapIdx]
theorem agX (ns:List Int) (x:dH):upN ns x 0=ns:=by
 unfold upN;refine zel λi=>?_;rw[zek];cases ns[i]? with
 | none=>rfl
 | some n=>simp
theorem BN {ns:List Int} {x:dH} {m t:Nat} {n:Int} (h:ns[t]? =some n):(upN ns x m)[t]? =some (if t<m then n+Gs x t else n):=by
 unfold upN;rw[zek,h];rfl
theorem acA {ns:List Int} {x:dH} {m:Nat} {n:Int} (h:ns[m]? =some n):(upN ns x m).set m (n+Gs x m)=upN ns x (m+1):=by
  refine zel λt=>?_;rw[List.getElem?_set,Vu]
  by_cases e:m=t
  . subst e
    rw[zac rfl,zac (zbd.1 h).1,BN h,zac (zfd _)]
  rw[zab e];cases ht:ns[t]? with
  | none=>unfold upN;rw[zek,zek,ht];rfl
  | some k=>
   rw[BN ht,BN ht];congr 1;by_cases h2:t<m
   . rw[zac h2,zac oM]
   rw[zab h2,zab oM]
theorem agY {ns:List Int} {x:dH} {m:Nat} (h:Gs x m=0):upN ns x (m+1)=upN ns x m:=by
 refine zel λt=>?_;cases ht:ns[t]? with
 | none=>unfold upN;rw[zek,zek,ht];rfl
 | some k=>
  rw[BN ht,BN ht];congr 1
  by_cases h2:t<m
  .rw[zac h2,zac oM]
  rw[zab h2]
  by_cases h3:t=m
  .subst h3;rw[zac oM,h];omega
  rw[zab oM]
theorem ajM {sums:Nat} {E:List dH} {x:dH}:upN (gL sums E x.key) x (sums+1)=gL sums (E++[x]) x.key:=by
 refine zel λt=>?_
 by_cases ht:t<=sums
 .rw[BN (Aj ht),Aj ht,zac oM,sw]
  congr 1
  show _=_+((if x.key=x.key then Gs x t else 0)+0)
  rw[zac rfl];omega
 rw[zcs (by rw[Vu,pQ];omega),zcs (by rw[pQ];omega)]
theorem aaD {sums:Nat} {E:List dH} {x:dH} {k:List aI} (h:x.key≠k):gL sums (E++[x]) k=gL sums E k:=by
 unfold gL;refine zco λi _=>?_;rw[sw];show _+((if x.key=k then Gs x i else 0)+0)=_
 rw[zab h];omega
end Go.Proofs.YtkfpleidaoaonaaGreatDoor
