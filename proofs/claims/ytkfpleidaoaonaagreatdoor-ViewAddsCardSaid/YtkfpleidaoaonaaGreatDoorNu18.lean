/-
 The document's sums by digits,walked.
-/
import Derived.Test.YtkfpleidaoaonaaGreatDoorNu1
import Derived.Test.YtkfpleidaoaonaaGreatDoorNu3
import Derived.Test.YtkfpleidaoaonaaGreatDoorNu14
import Derived.Test.YtkfpleidaoaonaaGreatDoorNu17
import Derived.Test.YtkfpleidaoaonaaGreatDoorNu13
import Derived.Test.YtkfpleidaoaonaaGreatDoorNu4
import Derived.Lib.AppendZerosOnto
import Derived.WideLaws
import Derived.Test.YtkfpleidaoaonaaGreatDoorNu12
set_option linter.unusedVariables false
set_option linter.unusedSimpArgs false
namespace Go.Proofs.YtkfpleidaoaonaaGreatDoor
open Go Go.Mw Go.Lib
set_option maxRecDepth 4000
attribute [local irreducible] FW FL FG FGn gu gy dh gH Qfn Gives
section
variable {w:Wd}
end
def pw:Nat->Int
 | 0=>1
 | 1=>4294967296
 | _=>18446744073709551616
section
variable {w:Wd}
def ajD (x:Int×Int):LV:=[I x.1,I x.2]
instance:lY ajD 2:=⟨λ_=>rfl⟩
end
def gL (sums:Nat) (E:List dH) (k:List aI):List Int:=(List.range (sums+1)).map (lH E k)
def stE (sums:Nat) (E:List dH) (k:List aI):Option (List Int):=if((gL sums E k).any λn=>decide (n≠0))=true then some (gL sums E k)else none
def j6 (ns:List Int) (k:List aI) (w:Int):List aH:=if ns.headD 0=0 then []else [⟨k++ns.map yY,w⟩]
def aco (o:Option (List Int)) (k:List aI) (w:Int):List aH:=j6 (o.getD []) k w
def mH (l:List dH):List (List aI):=l.foldl (λks x=>if x.key∈ks then ks else ks++[x.key]) []
theorem yu (l:List dH) (x:dH):mH (l++[x])=if x.key∈mH l then mH l else mH l++[x.key]:=by
 unfold mH;rw[List.foldl_append];rfl
theorem Om {α:Type} {p:List α->Prop} (h0:p []) (h1: ∀l x,p l->p (l++[x])) (l:List α):p l:=by
 rw[<-List.reverse_reverse l]
 induction l.reverse with
 | nil=>exact h0
 | cons x t ih=>rw[List.reverse_cons];exact h1 _ _ ih
theorem Eu {k:List aI} (l:List dH):k∈mH l↔∃x∈l,x.key=k:=by
 refine Om (p:=λl=>k∈mH l↔∃x∈l,x.key=k) (by simp[mH]) (λl x ih=>?_) l;rw[yu]
 have hr:(∃y∈l++[x],y.key=k)↔(∃y∈l,y.key=k)\/x.key=k:=by
  constructor
  .rintro⟨y,hy,e⟩
   rcases zbh.1 hy with h | h
   .exact .inl ⟨y,h,e⟩
   rw[zay]at h;subst h;exact .inr e
  rintro(⟨y,hy,e⟩ | e)
  .exact⟨y,zcg _ hy,e⟩
  exact⟨x,sM,e⟩
 rw[hr,<-ih]
 split
 .rename_i h
  exact⟨.inl,λh2=>h2.elim id λe=>by rw[<-e];exact h⟩
 rw[zbh,zay,eq_comm (a:=k) (b:=x.key)]
theorem Oo (l:List dH):(mH l).Nodup:=by
 refine Om (p:=λl=>(mH l).Nodup) (by simp[mH]) (λl x ih=>?_) l;rw[yu]
 split
 .exact ih
 rename_i h;rw[zem];exact⟨ih,sM,λa ha b hb e=>by rw[zay]at hb;subst hb;subst e;exact h ha⟩
section
variable {sums:Nat} {E l:List dH} {k:List aI} {r:List aI}
theorem pQ:(gL sums E k).length=sums+1:=by unfold gL;rw[zae,zdu]
theorem Gz:(gL sums E k).headD 0=lH E k 0:=by
 unfold gL;rw[List.range_succ_eq_map,zax];rfl
theorem Aj {i:Nat} (hi:i<=sums):(gL sums E k)[i]? =some (lH E k i):=by
 unfold gL;rw[zcf,List.getElem?_range oM];rfl
theorem Dm (h:k∉mH l):gL sums (E++l) k=gL sums E k:=by
 unfold gL;refine zco λi _=>?_;rw[sw,Df (l:=l) λx hx e=>h ((Eu l).2 ⟨x,hx,e⟩),Int.add_zero]
theorem adI (h:k∉mH l):stE sums (E++l) k=stE sums E k:=by unfold stE;rw[Dm h]
theorem Bw (h:stE sums E k=none) {i:Nat} (hi:i<=sums):lH E k i=0:=by
 unfold stE at h
 split at h
 .cases h
 rename_i h2
 by_cases e:lH E k i=0
 .exact e
 refine zat (List.any_eq_true.2 ⟨lH E k i,?_,zbe e⟩) h2;exact zao (Aj hi)
theorem Oq {ns:List Int} (h:stE sums E k=some ns):ns=gL sums E k:=by
 unfold stE at h
 split at h
 .injection h with h;exact h.symm
 cases h
theorem agx (w:Int):aco (stE sums E k) k w=j6 (gL sums E k) k w:=by
 unfold aco;cases h:stE sums E k with
 | none=>
  unfold j6;rw[Gz,Bw h (zak _),zac rfl];rfl
 | some ns=>rw[Oq h];rfl
theorem Ma {α β:Type} (p:α->Bool) (f:α->β): ∀ks:List α,(ks.flatMap λk=>if p k=true then [f k]else [])=(ks.filter p).map f
 | []=>rfl
 | k::ks=>by
  rw[zbg,Ma p f ks,zdq]
  split<;>rfl
theorem agy (w:Int):j6 (gL sums E k) k w=if decide (lH E k 0≠0)=true then [⟨Na sums E k,w⟩]else []:=by
 unfold j6;rw[Gz]
 by_cases h:lH E k 0=0
 .rw[zac h,zab (by simp[h])]
 rw[zab h,zac (by simp[h])];unfold Na gL;rw[zcy];rfl
theorem adJ (ks:List (List aI)):(ks.flatMap λk=>j6 (gL sums E k) k 1)=(ks.filter λk=>decide (lH E k 0≠0)).map λk=>⟨Na sums E k,1⟩:=by
 rw[<-Ma]
 congr 1
 funext k
 exact agy 1
theorem Ot {ks:List (List aI)} (hn:ks.Nodup) (hk: ∀k,lH E k 0≠0->k∈ks) (r:List aI):wtL (ks.flatMap λk=>j6 (gL sums E k) k 1) r=wtL (lI sums E) r:=by
 rw[adJ];refine Xx (List.Perm.map _ ?_) r;refine(List.perm_ext_iff_of_nodup (hn.sublist zcv) ((oP (nL E)).sublist zcv)).2 λa=>?_;rw[zbw,zbw];constructor
 .rintro⟨_,h⟩;exact⟨sD (zba h),h⟩
 rintro⟨_,h⟩;exact⟨hk a (zba h),h⟩
theorem adK (ns:List Int) (k r:List aI):wtL (j6 ns k (-1)) r= -wtL (j6 ns k 1) r:=by
 unfold j6
 split
 .rfl
 rw[wtL,wtL,wtL,wtL];split<;>rfl
theorem agz (f g:List aI->List aH) (hf: ∀k r,wtL (f k) r= -wtL (g k) r) (h:List aI->List aH) (r:List aI): ∀ks:List (List aI),wtL (ks.flatMap λk=>f k++h k) r=wtL (ks.flatMap h) r-wtL (ks.flatMap g) r
 | []=>rfl
 | k::ks=>by
  rw[zbg,zbg,zbg,gF,gF,gF,gF,agz f g hf h r ks,hf];omega
theorem agA {done:List (List aI)} (hp:done.Perm (mH l)) (r:List aI):
    wtL (done.flatMap λk=>j6 (gL sums E k) k (-1)++j6 (gL sums (E++l) k) k 1) r=wtL (lI sums (E++l)) r-wtL (lI sums E) r:=by
  rw[agz _ (λk=>j6 (gL sums E k) k 1) (λk r=>adK _ k r)];have hnk:=oP (nL (E++l));have hdn:done.Nodup:=hp.nodup_iff.2 (Oo l);have hdm: ∀k,k∈done↔k∈mH l:=λk=>hp.mem_iff
  have jw: ∀k,k∈mH l->k∈uZ (E++l):=λk hk=>by
    obtain⟨x,hx,e⟩:=(Eu l).1 hk;exact sP.2 ⟨x,zch _ hx,e⟩
  obtain⟨ot,hot⟩: ∃ot,ot=(uZ (E++l)).filter λk=>decide (k∉mH l):=⟨_,rfl⟩
  have hom: ∀k∈ot,k∈uZ (E++l)/\k∉mH l:=λk hk=>by
    rw[hot,zbw]at hk;exact⟨hk.1,zba hk.2⟩
  have hks:(done++ot).Nodup:=by
    rw[zem];refine⟨hdn,by rw[hot];exact hnk.sublist zcv,λa ha b hb e=>?_⟩;subst e;exact(hom a hb).2 ((hdm a).1 ha)
  have lQ: ∀k,k∈uZ (E++l)->k∈done++ot:=λk hk=>by
    rw[zbh]
    by_cases h:k∈mH l
    . exact .inl ((hdm k).2 h)
    right;rw[hot,zbw];exact⟨hk,zbe h⟩
  have h1:=Ot (sums:=sums) (E:=E++l) hks (λk hk=>lQ k (sD hk)) r
  have h2:=Ot (sums:=sums) (E:=E) hks (λk hk=>lQ k (by
    obtain⟨x,hx,e⟩:=sP.1 (sD hk);exact sP.2 ⟨x,zcg _ hx,e⟩)) r
  rw[zcd,gF]at h1 h2
  have h3:(ot.flatMap λk=>j6 (gL sums (E++l) k) k 1)=ot.flatMap λk=>j6 (gL sums E k) k 1:=by
    rw[List.flatMap_def,List.flatMap_def]
    congr 1
    exact zco λk hk=>by rw[Dm (hom k hk).2]
  rw[h3]at h1;omega
theorem aaq {done:List (List aI)} (hp:done.Perm (mH l)):
    dY (done.flatMap λk=>j6 (gL sums E k) k (-1)++j6 (gL sums (E++l) k) k 1)=dY (lI sums (E++l)++qm (lI sums E)):=
  qD λr=>by rw[agA hp,gF,KE];omega
theorem adL (hE:yX sums E=true):yX sums (E++l)=true↔∀k∈mH l,∀n∈gL sums (E++l) k,gU n=true:=by
 rw[tO];constructor
 .intro h k _ n hn
  obtain⟨i,hi,rfl⟩:=zaq.1 hn;rw[zdl]at hi;exact h k i oM
 intro h k i hi
 by_cases hk:k∈mH l
 .exact h k hk _ (zao (Aj hi))
 rw[sw,Df (l:=l) λx hx e=>hk ((Eu l).2 ⟨x,hx,e⟩),Int.add_zero];exact tO.1 hE k i hi
theorem adM {keys:Nat} (hE: ∀x∈E,x.key.length=keys) {ks:List (List aI)} (hn:ks.Nodup) (hk: ∀k,stE sums E k≠none->k∈ks):
    dY (ks.flatMap λk=>aco (stE sums E k) k 1)=(lI sums E,0):=by
  rw[<-Af (Ag (sums:=sums) hE)];refine qD λr=>?_;rw[<-Ot (sums:=sums) hn (λk h=>hk k λe=>h (Bw e (zak _))) r]
  congr 2
  funext k
  exact agx 1
end
def Ak (keys sums:Nat) (E l:List dH):List aH×Int:=
 if(l.all λx=>xB keys sums x)=false then([],2)else if yX sums (E++l)=false then([],50)else dY (lI sums (E++l)++qm (lI sums E))
theorem agB {g:Int} {n:Nat} {T m:List aH} (hg: ¬g<0) (hT:(dK g n T).2=0):jd g n T m=Ak g.toNat (n-g.toNat) (T.map (fE g.toNat)) (m.map (fE g.toNat)):=by
 have hs:=jS hg hT;obtain⟨h1,h2⟩:=(lK hg).1 hT;have ha:((T++m).all λx=>xB g.toNat (n-g.toNat) (fE g.toNat x))=(m.all λx=>xB g.toNat (n-g.toNat) (fE g.toNat x)):=by rw[List.all_append,h1,zdy]
 unfold jd Ak;rw[hs];unfold dK;rw[zab hg,ha,List.all_map,zam];simp only[Function.comp_def]
 by_cases c1:(m.all λx=>xB g.toNat (n-g.toNat) (fE g.toNat x))=false
 .rw[zac c1,zac c1,zac dC]
 rw[zab c1,zab c1]
 by_cases c2:yX (n-g.toNat) (T.map (fE g.toNat)++m.map (fE g.toNat))=false
 .rw[zac c2,zac c2,zac dC]
 rw[zab c2,zab c2,zab (λh=>h rfl),zab hg]
/-! Groups:keys as they come,with what they count and sum up. -/
section
variable {w:Wd}
theorem adN {a b:List aI} {va vb:Value} (ha:aM w va aj 3 a) (hb:aM w vb aj 3 b):aN Tryz.prog 40 [va,vb] w λv' w'=>v'=.bool (decide (a=b))/\Kept noB w w':=by
  obtain⟨A,m,rfl,⟨hm,qo⟩,hA⟩:=ha;obtain⟨B,m2,rfl,⟨Ke,auL⟩,hB⟩:=hb;have H:=Sep.aL w;refine dS Tryz.func40 rfl rfl rfl rfl ?_;refine Za6 ?_;refine Qn (Cp rfl (λqx=>?_) (λqx=>?_))
  . have iF: ¬a=b:=λe=>qx (by rw[e])
    refine Zb1 ?_;exact⟨by rw[zar iF];rfl,H.kept⟩
  have hlen:a.length=b.length:=oM;refine Zb1 ?_;refine aP (λi:Nat=>[(0,.slice A a.length m),(1,.slice B b.length m2),(5,I i)]) (λi w'=>(i<=a.length/\a.take i=b.take i)/\Sep w noB [] w') (λi _=>a.length-i) 0 tR ⟨⟨zak _,rfl⟩,H⟩ (λi τ wa hI=>?_);obtain⟨⟨hi,MS⟩,Ha⟩:=hI
  try simp only[dA,like,bB,bY]
  refine Za4 ?_;refine Qn (Cp rfl (λIa=>?_) (λIa=>?_))
  . have bX:i<a.length:=oM
    have Co:i<b.length:=oM;obtain⟨x,hx⟩:=get_some bX;obtain⟨y,hy⟩:=get_some Co;refine Zb0 ?_;refine Ds (λSa wb Hb=>?_);refine Zb2 ?_;refine GS (Gn rfl (λ_=>Gives.mK rfl rfl hA bX) ?_);refine GS (Gt rfl (Gives.jQ rfl Hb hA hx) ?_);refine Zb2 ?_;refine GS (Gn rfl (λ_=>Gives.mK rfl rfl hB Co) ?_);refine GS (Gt rfl (Gives.jQ rfl Hb hB hy) ?_);refine GS (Gn rfl (λ_=>Gives.Yt (enc:=aj) x y rfl rfl) ?_);refine dP Sa kR ?_;refine aU (Cp rfl (λIb=>?_) (λIb=>?_))
    . have iF: ¬a=b:=λe=>by
        subst e;rw[hx]at hy;injection hy with hy
        exact Ib hy
      refine Zb1 ?_;exact⟨by rw[zar iF];rfl,Hb.kept⟩
    have Ka:x=y:=Decidable.of_not_not Ib;have Jb:a.take (i+1)=b.take (i+1):=by rw[zav,zav,hx,hy,MS,Ka]
    refine Zb1 ?_;refine Vc ((i+1:Nat):Int) ?_;refine Zb1 ?_;exact ak (i+1) tR ⟨⟨oM,Jb⟩,Hb⟩ oM
  have Ql:a=b:=by
    have h1:=MS;rw[zaf oM,zaf oM]at h1;exact h1
  refine Zb1 ?_;exact⟨by rw[zbe Ql];rfl,Ha.kept⟩
end
end Go.Proofs.YtkfpleidaoaonaaGreatDoor
namespace Go.Mw
open Go.RowKit
section
variable {P:Program} {ρ:Od->Value} {ty:Td} {w:Wd}
end
end Go.Mw
namespace Go.Proofs.YtkfpleidaoaonaaGreatDoor
open Go Go.Mw Go.Lib
set_option maxRecDepth 4000
attribute [local irreducible] FW FL FG FGn gu gy dh gH Qfn Gives
section
variable {w:Wd}
end
end Go.Proofs.YtkfpleidaoaonaaGreatDoor
namespace Go.Proofs.YtkfpleidaoaonaaGreatDoor
open Go Go.Mw Go.Lib
set_option maxRecDepth 4000
attribute [local irreducible] FW FL FG FGn gu gy dh gH Qfn Gives
section
variable {w:Wd}
end
end Go.Proofs.YtkfpleidaoaonaaGreatDoor
namespace Go.Mw
open Go.RowKit
section
variable {P:Program} {r:Option Nat} {n:Nat} {ops:AO} {Q:Post} {rest:LO} {σ:St} {w w' w0:Wd} {S:NP} {rs:List HP} {put:HP->List HP} {ty:Td} {pos:String} {after:Array Edge}
end
section
variable {P:Program} {r:Option Nat} {n:Nat} {ops:AO} {Q:Post} {rest:LO} {σ:St} {w w' w0:Wd} {S:NP} {rs:List HP} {put:HP->List HP} {ty:Td} {pos:String} {after:Array Edge}
theorem agC {P:Program} {w:Wd} (t tn ty e:Td) [hs:dD P t e] {kn:IntKind} [hn:lF P tn kn] {size bytes:Nat} [hc:Cells P e size bytes] {z:Value} [hz:Zero P e z] (NA:z.cells.size=size) (h1:0<size)
    (kq:IntKind) (k:Nat) (h0:0<k) (h63:k<=maxLen) (hbytes:k*bytes<=140737488355328):
    ∃c w',(Builtin.append_ #[t,tn] ty #[.slice none 0 0,.int kq k]).run P w=.ok (.slice (some ⟨w.heap.size,0,none⟩) k c) w'/\k<=c/\c<=maxLen/\w'.ownsRow 0 e size (.slice (some ⟨w.heap.size,0,none⟩) 0 c) 0 []/\Kept noB w w':=by
  obtain⟨i,hi,uD⟩:=zbb.1 hc.size;simp only[Prod.mk.injEq]at uD;obtain⟨atr,hby⟩:=uD
  have yT:i.zero=some z:=by
    have:=hz.run w;simp[zeroValue,typeInfo,hi]at this;cases hq:i.zero with
    | none=>simp[hq]at this
    | some u=>simp[hq]at this;rw[this]
  have hge:=grownCap_ge w k 0 e;have hcm:grownCap w k 0 e<=maxLen:=grownCap_le_maxLen w k 0 e h63;have hr:=Lib.run_append_nil_zeros (P:=P) w t tn ty e i z kq kn hs.und hn.und hi yT k h0 oM (by simp only[maxLen]at h63;omega) (by rw[hby];omega);refine⟨_,_,hr,hge,hcm,⟨sM,.inr ⟨w.heap.size,_,_,rfl,zak _,heap_alloc_new w.drew _,zak _,hcm,?_,sM⟩⟩,(Kept.drew w).NK (Kept.alloc _ _)⟩;simp only[Array.size_append,size_zeroCells,NA];rw[<-Nat.add_mul]
  congr 1
  omega
theorem ajE {d:Nat} {x y:Od} {t tn e:Td} [hs:dD P t e] {kn:IntKind} [hn:lF P tn kn] {size bytes:Nat} [hc:Cells P e size bytes] {z:Value} [hz:Zero P e z] {m:Nat} {kq:IntKind}
    (H:Sep w0 S rs w) (hx:evF σ x=.slice none 0 0) (hy:evF σ y=.int kq m) (h0:0<m) (NA:z.cells.size=size:=by exact rfl) (h1:0<size:=by decide)
    (h63:m<=maxLen) (hbytes:m*bytes<=140737488355328) (hd:Nat.blt d n=true:=by exact rfl)
    (h: ∀g c w',m<=c->c<=maxLen->Sep w0 S (CJ e size (.slice (some ⟨g,0,none⟩) 0 c) 0 []::rs) w'->FL P r n ops Q rest (upd σ d (.slice (some ⟨g,0,none⟩) m c)) w'):
    FL P r n ops Q (⟨some d,.call {callee:=.builtin .append,args:= #[x,y],argTypes:= #[t,tn]},ty,pos,after,none⟩::rest) σ w:=by
  obtain⟨c,w',jG,qQ,hcm,qw,hk⟩:=agC (P:=P) (w:=w) (ty:=ty) t tn e NA h1 kq m h0 h63 hbytes
  have H1:Sep w0 S (CJ e size (.slice (some ⟨w.heap.size,0,none⟩) 0 c) 0 []::rs) w':=H.new (F':=λb=>Value.ownBlock (.slice (some ⟨w.heap.size,0,none⟩) 0 c)=some b) hk ⟨qw,λb=>Iff.rfl⟩ λb hb=>by
    injection hb with hb
    exact Nat.le_of_eq hb
  refine dU (v:=.slice (some ⟨w.heap.size,0,none⟩) m c) (w':=w') (λ_ _ _ _=>?_) hd (h _ c w' qQ hcm H1);simp only[execOp,resolve,invoke,builtin,zbk,zbn,zas,zcl,zax,zcr,hx,hy,jG]
end
end Go.Mw
namespace Go.Mw
theorem Gives.XC {P:Program} {ρ:Od->Value} {ty:Td} {w:Wd} {x:Od} {t e:Td} [h:dD P t e] {A:OA} {m c:Nat} (hx:ρ x=.slice A m c):Gives P ρ (.call {callee:=.builtin .cap,args:= #[x],argTypes:= #[t]}) ty w (.int .i64 c) w:=λ_ _ _ _=>by
 simp[execOp,resolve,invoke,builtin,hx,Builtin.cap_,run_underlying h.und,goInt]
end Go.Mw
namespace Go.Proofs.YtkfpleidaoaonaaGreatDoor
open Go Go.Mw Go.Lib
set_option maxRecDepth 4000
attribute [local irreducible] FW FL FG FGn gu gy dh gH Qfn Gives
theorem qW {l m:List aH} {i:Nat} {a b:aH} (h:l.take i=m.take i) (ha:l[i]? =some a) (hb:m[i]? =some b):(l.take (i+1)=m.take (i+1))↔a=b:=by
 rw[zav,zav,ha,hb,h];simp
theorem qc {a b:aH}:(a.w=b.w/\a.row=b.row)↔a=b:=⟨λh=>aH.ext' h.2 h.1,λh=>by rw[h];exact⟨rfl,rfl⟩⟩
instance:DecidableEq aH:=λa b=>decidable_of_iff (a.w=b.w/\a.row=b.row) qc
abbrev U5:=OA×Nat×List (Value×Int)
def aqo (x:U5):Value:=.slice x.1 x.2.2.length x.2.1
def ajF (x:U5):LV:=[aqo x]
instance:lY ajF 1:=⟨λ_=>rfl⟩
theorem RI {l:List U5} {i:Nat} {x:U5} (h:l[i]? =some x):(l.take (i+1)).flatMap (·.2.2)=(l.take i).flatMap (·.2.2)++x.2.2:=by
 rw[zav,h,zcd];simp
theorem acp {l:List U5} (i:Nat):((l.take i).flatMap (·.2.2)).length<=(l.flatMap (·.2.2)).length:=by
 conv=>rhs;rw[<-zbx i l,zcd,zad]
 omega
theorem Ev {w:Wd} {r:List (Value×Int)} {l:List aH} (h:fM w r l): ∀u∈r.flatMap av,u.oneCell'=true:=by
 intro u hu;obtain⟨x,hx,hu⟩:=zda.1 hu;obtain⟨i,hi,e⟩:=zgd hx;have hl:=h.len;obtain⟨A,c,hA,_,_⟩:=h.2 i x l[i] (by rw[zaa hi,e]) (zaa oM);have hu:u=x.1\/u=I x.2:=by simpa[av]using hu
 rcases hu with e | e
 .rw[e,hA];rfl
 rw[e];rfl
section
variable {w:Wd}
theorem agD (n:Nat) (hn:n<=100000):aN Tryz.prog 103 [.slice none 0 0,I n] w λu w'=>∃x:Value,u=x/\True/\Turn noB (bW 82 2 av x []) w w':=by
 have H:=Sep.aL w;refine dS Tryz.func103 rfl rfl rfl rfl ?_;refine Za3 ?_;refine Qn (Cp rfl (λZy=>?_) (λZy=>?_))
 .omega
 refine Zb2 ?_;refine Vv (Gives.XC rfl) (Zb2 ?_);refine Vc 0 ?_;refine Vc (n:Int) ?_;refine Za3 ?_;refine Qn (Cp rfl (λIa=>?_) (λIa=>?_))
 .refine Zb2 ?_
  refine Vv (Gives.XC rfl) (Vv (Gives.sliceTo (h:=0) rfl rfl oM) ?_);refine Mv ?_;refine ajE H (m:=n) rfl rfl oM (h63:=by unfold maxLen;omega) (hbytes:=by omega) (h:=?_);intro g c wa hgc hcm Ha;refine Zb2 ?_;refine Vv (Gives.sliceTo (h:=0) rfl rfl oM) (Zb3 ?_);exact⟨_,rfl,trivial,Ha.first.turn⟩
 refine Zb2 ?_;exact⟨_,rfl,trivial,(Sep.ny H 82 2).first.turn⟩
end
end Go.Proofs.YtkfpleidaoaonaaGreatDoor
namespace Go.Proofs.YtkfpleidaoaonaaGreatDoor
open Go Go.Mw Go.Lib Tryz
set_option maxRecDepth 4000
attribute [local irreducible] FW FL FG FGn gu gy dh gH Qfn Gives
def Fv (a b:List aH):List aH×Int:=if oQ a=true/\oQ b=true then UW a b else([],2)
theorem acr {a b:List aH} (ha:isZ a) (hb:isZ b):Fv a b=UW a b:=zac ⟨Et ha,Et hb⟩
section
variable {w:Wd}
theorem adO {L:List U5} {v:Value} (hL:aM w v ajF 1 L) (hR: ∀x∈L,Mw.Rd w x.1 av 2 x.2.2) (h1: ∀x∈L,∀u∈x.2.2.flatMap av,u.oneCell'=true) (hn:(L.flatMap (·.2.2)).length<=5000) (hLn:L.length<=1000):
    aN prog 63 [v] w λu w'=>∃x:Value,u=x/\True/\Turn noB (bW 82 2 av x (L.flatMap (·.2.2))) w w':=by
  obtain⟨A,c,rfl,⟨hc,hc'⟩,hA⟩:=hL;have H:=Sep.aL w;refine eP func63 rfl rfl rfl rfl ?_;refine Zb5 ?_;refine aP (λi:Nat=>[(0,.slice A L.length c),(3,I ((L.take i).flatMap (·.2.2)).length),(9,.slice A L.length c),(10,I L.length),(11,I i)]) (λi w'=>i<=L.length/\Mw.Sep w noB [] w') (λi _=>L.length-i) 0 tR ⟨zak _,H⟩ (λi τ w7 hI=>?_);obtain⟨hi,H7⟩:=hI
  try simp only[dA,like,bB,bY]
  refine Za1 ?_;refine Qn (fC (Cp rfl (λJf=>?_) (λJf=>?_)))
  . have bX:i<L.length:=oM
    obtain⟨x,hx⟩:=get_some bX;obtain⟨X,cx,rx⟩:=x;have ZM:=RI hx;have qQ:=acp (l:=L) (i+1);rw[ZM,zad]at qQ;dsimp only at qQ;refine Zb0 ?_;refine Vv (Gives.mK rfl rfl hA bX) (Vv (Gives.iJ (v:=.slice X rx.length cx) (f:=0) rfl H7 hA hx rfl) ?_);refine Zb4 ?_;refine Vc ((((L.take i).flatMap (·.2.2)).length+rx.length:Nat):Int) ?_;refine Za3 ?_;refine Qn (Cp rfl (λIa=>?_) (λIa=>?_))
    . omega
    refine Zb0 ?_;refine Vc ((i+1:Nat):Int) ?_;refine Zb1 ?_;exact ak (i+1) ⟨rfl,by rw[ZM,zad];rfl,rfl,rfl,rfl,trivial⟩ ⟨oM,H7⟩ oM
  have qp:i=L.length:=oM;rw[qp,zbl];refine Zb1 ?_;refine dx H7 (agD (L.flatMap (·.2.2)).length oM) (h:=λg wa _ Ha ka=>?_);obtain⟨G,cG,rfl,_,_⟩:=Sep.eO Ha At0;refine Zb4 ?_;refine aP (λx:(OA×Nat)×Nat=>[(0,.slice A L.length c),(6,.slice x.1.1 ((L.take x.2).flatMap (·.2.2)).length x.1.2),(25,.slice A L.length c),(26,I L.length),(27,I x.2)]) (λx w'=>x.2<=L.length/\Mw.Sep w noB [bW 82 2 av (.slice x.1.1 ((L.take x.2).flatMap (·.2.2)).length x.1.2) ((L.take x.2).flatMap (·.2.2))] w') (λx _=>L.length-x.2) ((G,cG),0) tR ⟨zak _,Ha⟩ (λx τ wb hI=>?_);obtain⟨⟨R,cR⟩,i⟩:=x;obtain⟨hi,Hb⟩:=hI;dsimp only at hi Hb
  try simp only[dA,like,bB]
  refine Za1 ?_;refine Qn (fC (Cp rfl (λIb=>?_) (λIb=>?_)))
  . have bX:i<L.length:=oM
    obtain⟨x,hx⟩:=get_some bX;obtain⟨X,cx,rx⟩:=x;have ZM:=RI hx;have qQ:=acp (l:=L) (i+1);rw[ZM,zad]at qQ;dsimp only at qQ ZM;have hRx:=hR _ (zao hx);have h1x:=h1 _ (zao hx);dsimp only at hRx h1x;refine Zb0 ?_;refine Vv (Gives.mK rfl rfl hA bX) (Vv (Gives.iJ (v:=.slice X rx.length cx) (f:=0) rfl Hb hA hx rfl) ?_);refine Zb3 ?_;refine jW Hb At0 (hRx.keep Hb.kept) (by unfold maxLen;omega) oM h1x (h:=?_);intro v9 wc Hc;rw[<-ZM]at Hc;obtain⟨R2,cR2,rfl,_,_⟩:=Sep.eO Hc At0;refine Zb1 ?_;refine Vc ((i+1:Nat):Int) ?_;refine Zb1 ?_;exact ak ((R2,cR2),i+1) tR ⟨dO,Hc⟩ dO
  have qp:i=L.length:=oM;rw[qp,zbl]at Hb;refine Zb2 ?_;exact⟨.slice R (L.flatMap (·.2.2)).length cR,by rw[qp,zbl];rfl,trivial,Hb.turn⟩
theorem RJ {a b:List aH} {va vb:Value} (ha:cZ w va a) (hb:cZ w vb b) (hal:a.length<=500) (hbl:b.length<=500) (haf: ∀o∈a,fits o.w) (hbf: ∀o∈b,fits o.w) (har: ∀o∈a,o.row.length<=1000) (hbr: ∀o∈b,o.row.length<=1000):
    aN prog 30 [va,vb] w λu w'=>∃x:Value×List Held,u=.tuple #[x.1,I (Fv a b).2]/\x.2.map (·.2)=(Fv a b).1/\Turn noB (dR x.1 x.2) w w':=by
  have H:=Sep.aL w;have ha0:=ha;have J9:=hb;obtain⟨r,hr,gW⟩:=ha;obtain⟨s,hs,zW⟩:=hb;have LG:=hr;have hs0:=hs;obtain⟨A,c,rfl,⟨hc,hc'⟩,hA⟩:=hr;obtain⟨B,d,rfl,⟨hd,hd'⟩,hB⟩:=hs;have xk:=gW.len;have Qi:=zW.len;refine dS func30 rfl rfl rfl rfl ?_;refine Zb3 ?_;refine aF H (KN (ha0.keep H.kept) oM) (h:=λw5 H5 k4=>?_);refine Zb2 ?_;refine aC (t:=9) rfl (λhs8=>?_) (λhs8=>?_)
  . refine Zb3 ?_
    have hk: ¬(oQ a=true/\oQ b=true):=λh=>by
      have h1:=h.1;have h2:=h.2;simp[h1,h2]at *
    exact⟨(.slice none 0 0,[]),by unfold Fv;rw[zab hk];rfl,by unfold Fv;rw[zab hk];rfl,(Sep.ny (fK H5) 82 2).bI.first.turn⟩
  refine Zb1 ?_;refine aF H5 (KN (J9.keep H5.kept) oM) (h:=λwa Ha ka=>?_);refine Za2 ?_;refine Qn (Cp rfl (λIa=>?_) (λIa=>?_))
  . refine Zb2 ?_
    have hk: ¬(oQ a=true/\oQ b=true):=λh=>by
      have h1:=h.1;have h2:=h.2;simp[h1,h2]at *
    exact⟨(.slice none 0 0,[]),by unfold Fv;rw[zab hk];rfl,by unfold Fv;rw[zab hk];rfl,(Sep.ny (fK Ha) 82 2).bI.first.turn⟩
  refine Zb2 ?_;refine Bs Ha ([((A,c,r):U5),(B,d,s)].flatMap ajF) (λbs wb Hb kb=>?_);have yU:=Oj (enc:=ajF) (l:=[((A,c,r):U5),(B,d,s)]) Hb At0 rfl (by show 2<=100000;decide);have Fy:([((A,c,r):U5),(B,d,s)]).flatMap (·.2.2)=r++s:=sM;refine dx Hb (adO yU (λx hx=>?_) (λx hx=>?_) (by rw[Fy,zad];omega) (by show 2<=1000;decide)) (h:=λy wc _ Hc kc=>?_)
  . rcases zap.1 hx with e | e
    . rw[e];exact hA.keep Hb.kept
    rw[zay]at e;rw[e];exact hB.keep Hb.kept
  . rcases zap.1 hx with e | e
    . rw[e];exact Ev gW
    rw[zay]at e;rw[e];exact Ev zW
  rw[Fy]at Hc;have hin:cZ _ y (a++b):=⟨_,lu Hc At0,(gW.app zW).keep Hc.kept⟩;refine dx Hc (Dl hin (by rw[zad];omega) (λo ho=>(zbh.1 ho).elim (haf o) (hbf o)) (λo ho=>(zbh.1 ho).elim (har o) (hbr o))) (h:=λz wd hz Hd kd=>?_);refine Zb4 ?_
  have hk:oQ a=true/\oQ b=true:=by
    refine⟨Decidable.of_not_not λh=>?_,Decidable.of_not_not λh=>?_⟩
    . simp[h]at *
    simp[h]at *
  exact⟨z,by unfold Fv;rw[zac hk];rfl,by unfold Fv;rw[zac hk];exact hz,Hd.first.turn⟩
end
def iw (cols:List bL) (r:List aI):List jL->List aI×Int
 | []=>([],0)
 | o::l=>if(oL cols o.steps r).2≠0 then([],(oL cols o.steps r).2)else if(iw cols r l).2≠0 then([],(iw cols r l).2)else((oL cols o.steps r).1::(iw cols r l).1,0)
def FE (cols:List bL) (wh:List bJ) (r:List aI):aI×Int:=if wh=[]then(⟨false,1,[]⟩,0)else oL cols wh r
def jm (cols:List bL) (p:aZ) (r:List aI):List aI×Bool×Int:=
 if gD cols r≠0 then([],false,gD cols r)
 else if(FE cols p.wh r).2≠0\/(FE cols p.wh r).1.null=true\/(FE cols p.wh r).1.n=0 then([],false,(FE cols p.wh r).2)
 else if(iw cols r p.cols).2≠0 then([],false,(iw cols r p.cols).2)
 else((iw cols r p.cols).1,true,0)
def cB (cols:List bL) (p:aZ):List aH->List aH×Int
 | []=>([],0)
 | x::l=>
  if(jm cols p x.row).2.2≠0 then([],(jm cols p x.row).2.2)
  else if(cB cols p l).2≠0 then([],(cB cols p l).2)
  else if(jm cols p x.row).2.1=true then(⟨(jm cols p x.row).1,x.w⟩::(cB cols p l).1,0)else((cB cols p l).1,0)
def dB (cols:List bL) (p:aZ) (T l:List aH):List aH×Int:=
 if(cB cols p l).2≠0 then([],(cB cols p l).2)else jd p.group p.cols.length T (cB cols p l).1
def dw (cols:List bL) (p:aZ) (T l:List aH):List aH:=if(dB cols p T l).2=0 then T++(cB cols p l).1 else T
def dX (cols:List bL) (p:aZ) (l:List aH):List aH×Int:=
 if(bQ cols p).2≠0 then([],(bQ cols p).2)else if(dB cols p [] l).2≠0 then([],(dB cols p [] l).2)else((dK p.group p.cols.length (dw cols p [] l)).1,0)
section
variable {cols:List bL} {p:aZ}
theorem JA {a b:List aH} (ha:(cB cols p a).2=0) (hb:(cB cols p b).2=0):cB cols p (a++b)=((cB cols p a).1++(cB cols p b).1,0):=by
 induction a with
 | nil=>rw[zbr];exact Prod.ext rfl hb
 | cons x a ih=>
  rw[cB]at ha;rw[zcc,cB,cB]
  split at ha
  .rename_i h;exact zat ha h
  rename_i h1;rw[zab h1,zab h1]
  split at ha
  .rename_i h;exact zat ha h
  rename_i h2;rw[zab h2,ih (zbt.1 h2),zab (not_not_intro rfl)]
  split<;>rfl
theorem u6 {T l:List aH} (h:(dB cols p T l).2=0):(cB cols p l).2=0/\dB cols p T l=jd p.group p.cols.length T (cB cols p l).1:=by
 unfold dB at h |-
 split at h
 .rename_i h1;exact zat h h1
 rename_i h1;rw[zab h1];exact⟨zbt.1 h1,rfl⟩
theorem Dn {T l:List aH} (hT:(dK p.group p.cols.length T).2=0):(dK p.group p.cols.length (dw cols p T l)).2=0:=by
 unfold dw
 split
 .rename_i h
  obtain⟨_,e⟩:=u6 h;rw[e]at h;exact Ah h
 exact hT
theorem Ou {T l:List aH} (hT:(dK p.group p.cols.length T).2=0) (h:(dB cols p T l).2=0) (r:List aI):wtL (dB cols p T l).1 r=wtL (dK p.group p.cols.length (dw cols p T l)).1 r-wtL (dK p.group p.cols.length T).1 r:=by
 obtain⟨_,e⟩:=u6 h;unfold dw;rw[zac h];rw[e]at h ⊢;exact aci hT h r
/-! The pieces of the stage's theorem:all that were put in,all that were answered. -/
structure QJ where
 T:List aH
 all:List aH
 outs:List aH
def U6 (cols:List bL) (p:aZ) (s:QJ) (l:List aH):QJ:=
 if(dB cols p s.T l).2=0 then⟨dw cols p s.T l,s.all++l,s.outs++(dB cols p s.T l).1⟩else s
def goodRun (cols:List bL) (p:aZ) (s:QJ):Prop:=
 (cB cols p s.all).2=0/\s.T=(cB cols p s.all).1/\(dK p.group p.cols.length s.T).2=0/\∀r,wtL s.outs r=wtL (dK p.group p.cols.length s.T).1 r
theorem agE {s:QJ} {l:List aH} (h:goodRun cols p s):goodRun cols p (U6 cols p s l):=by
 obtain⟨h1,h2,h3,h4⟩:=h;unfold U6
 split
 .rename_i ha
  obtain⟨hi,_⟩:=u6 ha;have hap:=JA h1 hi;have hb:dw cols p s.T l=s.T++(cB cols p l).1:=zac ha;refine⟨by dsimp only;rw[hap],by dsimp only;rw[hap,hb,h2],Dn h3,λr=>?_⟩;dsimp only;rw[gF,h4,Ou h3 ha];omega
 exact⟨h1,h2,h3,h4⟩
/-! Items that are there and then not. -/
end

/-! Columns of int64 in the place of int32. -/
/-! A column that is not used,behind the others. -/
section
variable {cols:List bL} {p:aZ}
end
theorem Ov (r:List aI): ∀ks:List (List aI),(QE r ks).length<=ks.length+1
 | []=>zbf _
 | k::ks=>by
  have:=Ov r ks;rw[QE]
  split
  .exact zbf _
  split
  .exact Nat.le_succ _
  simp only[zal];omega
theorem RL: ∀l:List aH,(yj l).length<=l.length
 | []=>zbf _
 | x::l=>by
  have h1:=RL l;have h2:=Ov x.row (yj l);rw[yj,zal];omega
theorem JB (l:List aH):(dY l).1.length<=l.length:=by
 unfold dY
 split
 .unfold M9
  rw[zae];exact zcp (zdw _ _) (RL l)
 exact zak _
theorem KO {l:List aH} {o:aH} (h:o∈(dY l).1): ∃x∈l,x.row=o.row:=by
 unfold dY at h
 split at h
 .exact Ae.1 (KD.1 h).1
 exact zat h zaj
def Ow (T m:List aH):(List aH×Int)×List aH:=
 if(dY m).2≠0 then(([],(dY m).2),T)else if(Fv T (dY m).1).2≠0 then(([],(Fv T (dY m).1).2),T)else(((dY m).1,0),(Fv T (dY m).1).1)
section
variable {w:Wd} {F:NP}
theorem XD {bp:Nat} {tv v:Value} {T m:List aH} (hp:(star (blk bp [tv] 106) (Di tv T)).ok F w) (hm: ∀w1,Kept F w w1->cZ w1 v m) (hTl:T.length<=500) (yV:m.length<=500) (hTf: ∀o∈T,fits o.w) (hmf: ∀o∈m,fits o.w) (hTr: ∀o∈T,o.row.length<=1000) (hmr: ∀o∈m,o.row.length<=1000):
    aN prog 388 [aA bp,v] w λu w'=>∃x:(Value×List Held)×Value,u=.tuple #[x.1.1,I (Ow T m).1.2]/\x.1.2.map (·.2)=(Ow T m).1.1/\Turn F (star (dR x.1.1 x.1.2) (star (blk bp [x.2] 106) (Di x.2 (Ow T m).2))) w w':=by
  have H:=(Sep.dZ hp).dG;refine dS func388 rfl rfl rfl rfl ?_;refine Zb3 ?_;refine dx H (Dl (hm _ H.kept) oM hmf hmr) (h:=λx w5 hx H5 k4=>?_);obtain⟨xv,L⟩:=x;dsimp only at hx H5 ⊢;refine Za7 ?_;refine Qn (Cp rfl (λIa=>?_) (λIa=>?_))
  . have nA:Ow T m=(([],(dY m).2),T):=by unfold Ow;rw[zac Ia]
    refine Zb3 ?_;exact⟨((.slice none 0 0,[]),tv),by rw[nA];rfl,by rw[nA];rfl,by rw[nA];exact(Sep.ny (fK H5.eF.bI) 82 2).bI.bI.turn⟩
  have CQ:(dY m).2=0:=Decidable.of_not_not Ia;have hZ:isZ (dY m).1:=qE;have hdl:=JB m;refine Zb5 ?_;have hT0:cZ _ tv T:=Sep.sees H5 At2;have hX0:=dn H5 At0;rw[hx]at hX0;refine dx H5 (RJ hT0 hX0 hTl oM hTf (λo ho=>by have h:=zba (hZ.2.2 o ho);unfold fits;omega) hTr (λo ho=>by obtain⟨q,hq,e⟩:=KO ho;rw[<-e];exact hmr q hq)) (h:=λy wa hy Ha ka=>?_);obtain⟨yv,Ly⟩:=y;dsimp only at hy Ha ⊢;obtain⟨Y,cy,rfl,_,_⟩:=Sep.eO Ha.dG At0;refine Za7 ?_;refine Qn (Cp rfl (λIb=>?_) (λIb=>?_))
  . have nA:Ow T m=(([],(Fv T (dY m).1).2),T):=by unfold Ow;rw[zab (λh=>h CQ),zac Ib]
    refine Zb3 ?_;exact⟨((.slice none 0 0,[]),tv),by rw[nA];rfl,by rw[nA];rfl,by rw[nA];exact(Sep.ny (fK Ha.eF.eF.bI) 82 2).bI.bI.turn⟩
  have ha0:(Fv T (dY m).1).2=0:=Decidable.of_not_not Ib;have nA:Ow T m=(((dY m).1,0),(Fv T (dY m).1).1):=by unfold Ow;rw[zab (λh=>h CQ),zab Ib]
  refine Zb4 ?_;refine bM Ha (h:=λwb Hb=>?_);refine Zb3 ?_;have h1:=QF Hb At0;rw[hy]at h1;exact⟨((xv,L),_),by rw[nA];rfl,by rw[nA];exact hx,by rw[nA];exact(h1.bF.bI.aJ.bI.first.turn)⟩
theorem agF {l:List aH} {v:Value} (hl:cZ w v l) (hn:l.length<=1000) (uH: ∀o∈l,o.row.length<=1000):aN prog 390 [v] w λu w'=>∃x:Value×List Held,u=x.1/\x.2.map (·.2)=l/\Turn noB (dR x.1 x.2) w w':=by
 obtain⟨r,hr,gW⟩:=hl;obtain⟨A,m,rfl,⟨hm,qo⟩,hA⟩:=hr;have xk:=gW.len;have H:=Sep.aL w;refine eP func390 rfl rfl rfl rfl ?_;refine Zb4 ?_;refine aP (λx:(OA×Nat)×List Held×Nat=>[(2,.slice x.1.1 (eU x.2.1).length x.1.2),(5,.slice A r.length m),(6,I r.length),(7,I x.2.2)]) (λx w'=>(x.2.2<=r.length/\x.2.1.map (·.2)=l.take x.2.2)/\Mw.Sep w noB [bW 82 2 av (.slice x.1.1 (eU x.2.1).length x.1.2) (eU x.2.1),vH 52 3 aj (·.1) (λb:Held=>b.2.row) x.2.1] w') (λx _=>r.length-x.2.2) ((none,0),[],0) tR ⟨⟨zak _,rfl⟩,Sep.ny (fK H) 82 2⟩ (λx τ w6 hI=>?_);obtain⟨⟨R,cR⟩,L,i⟩:=x;obtain⟨⟨hi,hL⟩,H6⟩:=hI;dsimp only at hi hL H6
 try simp only[dA,like,bB,bY]
 refine Za1 ?_;refine Qn (fC (Cp rfl (λy8=>?_) (λy8=>?_)))
 .have bX:i<r.length:=oM
  obtain⟨o,ho⟩:=get_some (l:=l) (show i<l.length from oM);have hom:=zao ho;obtain⟨vo,Qp,Jg⟩:=gW.get ho;have Qq:=Jg;obtain⟨Vo,co,rfl,_,_⟩:=Jg;have hLr:(eU L).length=L.length:=zae _
  have hLn:L.length<=i:=by
   have h1:=zaw List.length hL;rw[zae,zag]at h1;omega
  refine Zb2 ?_;refine aW H6 (h:=λb4 wa Ha ka=>?_);refine au Ha (h:=λwb Hb=>?_);refine Qn (Ds (λSa wc Hc=>?_));refine Zb3 ?_;refine Gp Sa 4 rfl rfl (λ_=>(Gives.ou rfl)) (Zb1 ?_);refine dL Sa 3 [(5,false),(4,true),(0,true)] Hc (sS (Qq.keep Hc.kept) (uH o hom)) (h:=λy wd _ Hd kb=>?_);obtain⟨Y,cy,rfl,_,_⟩:=Sep.eO Hd At0;refine⟨aY Hd (h:=ah (ah (aK))),?_⟩;refine Gb Sa 6 (av (.slice Y o.row.length cy,o.w)) ?_;refine bU Sa 7 _ Hd (xs:=[.tmp 17]) (out:=[(Value.slice Y o.row.length cy,o.w)].flatMap av) (bE.many rfl rfl bE.nil) rfl rfl rfl (h:=λbs we He=>⟨sT,?_⟩);refine jN Sa 8 _ He (news:=[(Value.slice Y o.row.length cy,o.w)]) At2 (by unfold maxLen;simp only[zan];omega) (by simp only[zan];omega) (λu hu=>zaz.1 (show([(Value.slice Y o.row.length cy,o.w)].flatMap av).all Value.oneCell'=true from rfl) u hu) (h:=λv9 wf Hf=>?_);obtain⟨R2,cR2,rfl,_,_⟩:=Sep.eO Hf At2
  have hLe:eU L++[(Value.slice Y o.row.length cy,o.w)]=eU (L++[(Value.slice Y o.row.length cy,o)]):=by
   unfold eU;rw[zam];rfl
  have Ke:(L++[(Value.slice Y o.row.length cy,o)]).map (·.2)=l.take (i+1):=by rw[zam,hL,zav,ho];rfl
  refine⟨sT,?_⟩;refine yP Sa 9 _ (h:=⟨sT,?_⟩);refine Zb0 ?_;refine Vc ((i+1:Nat):Int) ?_;refine Zb1 ?_;have hH2:=(nN (x:=.slice Y o.row.length cy) (o:=o) (Hf.aJ.eF.bF.aJ)).aJ;rw[hLe]at hH2;exact ak ((R2,cR2),L++[(Value.slice Y o.row.length cy,o)],i+1) ⟨by rw[<-hLe];rfl,rfl,rfl,rfl,trivial⟩ ⟨⟨dO,Ke⟩,hH2⟩ dO
 have qp:l.take i=l:=zaf oM;refine Zb2 ?_;exact⟨(_,L),rfl,by dsimp only;rw[hL,qp],H6.bI.turn⟩
end
abbrev Mc (L:List Held):HP:=vH 52 3 aj (·.1) (λb:Held=>b.2.row) L
theorem XE {w0 w:Wd} {S:NP} {rs:List HP} {put:HP->List HP} {L:List Held} (H:Mw.Sep w0 S rs w) (hat:At rs (Mc L) put):fM w (eU L) (L.map (·.2)):=by
 obtain⟨F,hp,_,_⟩:=H.focus hat;exact qF hp
section
variable {w:Wd}
end
section
variable {w:Wd}
end
end Go.Proofs.YtkfpleidaoaonaaGreatDoor
namespace Go.Mw
open Go.RowKit
class IsIface (P:Program) (t:Td):Prop where
 und:P.underlying t=some (.interface (P.methodsAt t))
def IsNil (a:Value) (b:Bool):Prop:=(b=true/\a=.nilIface)\/(b=false/\∃t p,a=.iface t p)
section
variable {P:Program} {w w0:Wd} {ρ:Od->Value} {ty:Td} {x:Od} {S:NP} {rs:List HP} {put:HP->List HP}
theorem Gives.U7 {T U:Td} [h:IsIface P T] {a:Value} {b:Bool} (ha:IsNil a b) (hx:ρ x=a) (hy:ρ (.const .nilIface)=.nilIface):Gives P ρ (.binOp .eql T x (.const .nilIface) U) ty w (.bool b) w:=by
 intro _ _ _ _
 rcases ha with⟨rfl,rfl⟩ | ⟨rfl,t,p,rfl⟩
 .have hg:(eqGuard .eql T x (.const .nilIface) .nilIface .nilIface).run P w=.ok () w:=by cases x<;>rfl
  simp only[execOp,hx,hy,zbk,hg,zas,run_eql_nil_nil w T h.und,zbn]
 have hg:(eqGuard .eql T x (.const .nilIface) (.iface t p) .nilIface).run P w=.ok () w:=rfl;simp only[execOp,hx,hy,zbk,hg,zas,run_eql_held_nil w T t p h.und,zbn]
theorem QK {T k e:Td} [hm:IsMap P T k e] {b n:Nat} {f:ByteArray->Option Value} (H:Sep w0 S rs w) (hat:At rs (Da b f n) put) (hx:ρ x=.map (some b)):
    Gives P ρ (.call {callee:=.builtin .len,args:= #[x],argTypes:= #[T]}) ty w (.int .i64 n) w:=by
  obtain⟨es,c,hb,hk,_⟩:=H.aga hat;intro _ _ _ _;simp[execOp,resolve,invoke,builtin,hx,Builtin.len_,run_underlying hm.und,goInt,j5 hb,hk.2]
end
section
variable {P:Program} {r:Option Nat} {n:Nat} {ops:AO} {Q:Post} {rest:LO} {σ:St} {w w0:Wd} {S:NP} {rs:List HP} {put:HP->List HP} {ty:Td} {pos:String} {after:Array Edge}
theorem QL {x y z:Od} {T k el:Td} [hm:IsMap P T k el] [hk:nZ P k] {b c:Nat} {f:ByteArray->Option Value} {i:ByteArray} {v:Value} (H:Sep w0 S rs w) (hat:At rs (Da b f c) put)
    (hx:evF σ x=.map (some b)) (hy:evF σ y=.string i) (hz:evF σ z=v) (h: ∀w',Sep w0 S (put (Da b (λk=>if k=i then some v else f k) (if f i=none then c+1 else c))) w'->FL P r n ops Q rest σ w'):
    FL P r n ops Q (⟨none,.mapUpdate T x y z,ty,pos,after,none⟩::rest) σ w:=by
  obtain⟨w',ha,hs⟩:=M8 (P:=P) (ty:=ty) (T:=T) H hat hx hy hz;exact Kt ha rfl (h w' hs)
end
structure Had (ns:List (L8)) (f:ByteArray->Option Value) (n:Nat):Prop where
 le:n<=ns.length
 nd:n=ns.length↔ns.Nodup
 val: ∀x,∃c:Nat,c<=ns.length/\(f x).getD (.int .i64 0)=.int .i64 (c:Int)
 mem: ∀x:L8,f ⟨x.toArray⟩=none↔x∉ns
theorem Had.nil:Had [] (λ_=>none) 0:=⟨zbf _,sM,λx=>⟨0,zbf _,rfl⟩,λx=>sM⟩
theorem Had.push {ns:List (L8)} {f:ByteArray->Option Value} {n:Nat} (h:Had ns f n) (x:L8) {c:Nat} (hc:c<=ns.length):
    Had (ns++[x]) (λk=>if k=⟨x.toArray⟩then some (.int .i64 ((c+1:Nat):Int))else f k) (if f ⟨x.toArray⟩=none then n+1 else n):=by
  have hl:(ns++[x]).length=ns.length+1:=sM
  have hnd:(ns++[x]).Nodup↔ns.Nodup/\x∉ns:=by
    rw[zem];constructor
    . rintro⟨h1,_,h3⟩
      exact⟨h1,λhx=>h3 x hx x sM rfl⟩
    rintro⟨h1,h2⟩;exact⟨h1,sM,λa ha b hb e=>by rw[zay]at hb;subst hb;subst e;exact h2 ha⟩
  have qQ:=h.le;refine⟨?_,?_,λk=>?_,λk=>?_⟩
  . rw[hl];split<;>omega
  . rw[hl,hnd,<-h.mem x]
    by_cases e:f ⟨x.toArray⟩=none
    . rw[zac e,<-h.nd]
      exact⟨λh1=>⟨oM,e⟩,λh1=>by have:=h1.1;omega⟩
    rw[zab e];exact⟨λh1=>oM,λh1=>zat h1.2 e⟩
  . by_cases e:k=⟨x.toArray⟩
    . exact⟨c+1,by rw[hl];omega,by rw[zac e];rfl⟩
    obtain⟨d,h1,h2⟩:=h.val k;exact⟨d,by rw[hl];omega,by rw[zab e];exact h2⟩
  by_cases e:k=x
  . subst e
    rw[zac rfl];simp
  rw[zab (λhe=>e (by injection he with he;injection he)),h.mem k];simp[e]
end Go.Mw
namespace Go.Proofs.YtkfpleidaoaonaaGreatDoor
open Go Go.Mw Go.Lib Tryz
set_option maxRecDepth 4000
attribute [local irreducible] FW FL FG FGn gu gy dh gH Qfn Gives
def nameSet:L8:=[97,98,99,100,101,102,103,104,105,106,107,108,109,110,111,112,113,114,115,116,117,118,119,120,121,122,48,49,50,51,52,53,54,55,56,57,95]
theorem XF (c:UInt8):nameSet.contains c=zi c:=by
 have key: ∀n:Fin 256,nameSet.contains (UInt8.ofNat n.val)=zi (UInt8.ofNat n.val):=by decide+kernel
 have:=key ⟨c.toNat,c.toNat_lt⟩;simpa using this
theorem dropWhile_nil {α:Type} {p:α->Bool}: ∀{l:List α},l.dropWhile p=[]↔∀x∈l,p x=true
 | []=>sM
 | x::l=>by
  have ih:=dropWhile_nil (p:=p) (l:=l)
  by_cases h:p x=true
  .rw[List.dropWhile_cons_of_pos h,ih]
   simp[h]
  rw[List.dropWhile_cons_of_neg h];simp[h]
def adP (r:Nat):Bool:=decide ((r<97\/122<r)/\(r<48\/57<r)/\r≠95)
theorem adQ (c:UInt8):zi c=true->c.toNat<128/\adP c.toNat=false:=by
 intro h;unfold zi adz yO at h;simp only[Bool.or_eq_true,decide_eq_true_eq]at h;have h95:c=95->c.toNat=95:=λe=>by rw[e];rfl
 have hc:(97<=c.toNat/\c.toNat<=122)\/c.toNat=95\/(48<=c.toNat/\c.toNat<=57):=by
  rcases h with(h | h) | h
  .exact .inl h
  .exact .inr (.inl (h95 h))
  exact .inr (.inr h)
 exact⟨oM,zar oM⟩
section
variable {w:Wd}
theorem al7 (r:Nat):aN prog 178 [I32 r] w λv w'=>v=.bool (adP r)/\w=w':=by
 unfold adP;refine eP func178 rfl rfl rfl rfl ?_;refine Zb4 ?_;refine aC (t:=5) rfl (λNh=>?_) (λNh=>?_)
 .refine Zb5 ?_
  refine aC (t:=12) rfl (λSa=>?_) (λSa=>?_)
  .refine Zb7 ?_
   exact⟨by first | exact zaw Value.bool (Eq.symm (zar oM)) | exact zaw Value.bool (Eq.symm (zbe oM)) | exact zaw Value.bool (zbj.2 oM),rfl⟩
  refine Zb5 ?_;refine aC (t:=17) rfl (λSb=>?_) (λSb=>?_)
  .refine Zb4 ?_
   exact⟨by first | exact zaw Value.bool (Eq.symm (zar oM)) | exact zaw Value.bool (Eq.symm (zbe oM)) | exact zaw Value.bool (zbj.2 oM),rfl⟩
  refine Zb2 ?_;exact⟨by first | exact zaw Value.bool (Eq.symm (zar oM)) | exact zaw Value.bool (Eq.symm (zbe oM)) | exact zaw Value.bool (zbj.2 oM),rfl⟩
 refine Zb4 ?_;refine aC (t:=9) rfl (λSc=>?_) (λSc=>?_)
 .refine Zb3 ?_
  refine aC (t:=12) rfl (λSd=>?_) (λSd=>?_)
  .refine Zb7 ?_
   exact⟨by first | exact zaw Value.bool (Eq.symm (zar oM)) | exact zaw Value.bool (Eq.symm (zbe oM)) | exact zaw Value.bool (zbj.2 oM),rfl⟩
  refine Zb5 ?_;refine aC (t:=17) rfl (λSe=>?_) (λSe=>?_)
  .refine Zb4 ?_
   exact⟨by first | exact zaw Value.bool (Eq.symm (zar oM)) | exact zaw Value.bool (Eq.symm (zbe oM)) | exact zaw Value.bool (zbj.2 oM),rfl⟩
  refine Zb2 ?_;exact⟨by first | exact zaw Value.bool (Eq.symm (zar oM)) | exact zaw Value.bool (Eq.symm (zbe oM)) | exact zaw Value.bool (zbj.2 oM),rfl⟩
 refine Zb4 ?_;exact⟨by first | exact zaw Value.bool (Eq.symm (zar oM)) | exact zaw Value.bool (Eq.symm (zbe oM)) | exact zaw Value.bool (zbj.2 oM),rfl⟩
theorem RN {p:Bool} {b:Nat} (c:UInt8) (hc:w.cell? ⟨b,c.toNat,none⟩=some (.bool p)):aN prog 318 [aA b,.int .u8 c.toNat] w λv w'=>v=.bool p/\w=w':=
 nD (Tryz.asciiSet_contains b c p w hc)
theorem XG {p:UInt8->Bool} {b:Nat} (s:L8) (Bd: ∀c:UInt8,w.cell? ⟨b,c.toNat,none⟩=some (.bool (p c))):aN prog 239 [str s,aA b] w λv w'=>v=str (s.dropWhile p)/\Kept noB w w':=by
 have H:=Sep.aL w;refine dS func239 rfl rfl rfl rfl ?_;refine Zb1 ?_;refine aP (λt:L8=>[(0,str t),(1,aA b)]) (λt w'=>t.dropWhile p=s.dropWhile p/\Sep w noB [] w') (λt _=>t.length) s tR ⟨rfl,H⟩ (λt τ w3 hI=>?_);obtain⟨ht,H3⟩:=hI
 try simp only[dA,like,bB,bY]
 refine Za3 ?_;refine Qn (Cp rfl (λqx=>?_) (λqx=>?_))
 .obtain⟨c,r,rfl⟩: ∃c r,t=c::r:=zew oM
  refine Zb2 ?_;refine Vv (Gives.CO (l:=c::r) (i:=0) rfl rfl sM) ?_;refine gX (RN c (H3.kept.cell (Bd c) id)) (h:=?_);refine Vv (Gives.not rfl) (Qn ?_);refine Cd rfl (λIa=>?_) (λIa=>?_)
  .have hp:p c=false:=by simpa using Ia
   refine Zb2 ?_;exact⟨by rw[<-ht,List.dropWhile_cons_of_neg (by rw[hp];decide)];rfl,H3.kept⟩
  have hp:p c=true:=by simpa using Ia
  refine Zb1 ?_;refine Vv (Gives.sG (l:=c::r) (i:=1) rfl rfl sM) ?_;refine Zb1 ?_;exact ak r tR ⟨by rw[<-ht,List.dropWhile_cons_of_pos hp],H3⟩ sM
 have he:t=[]:=zbi oM;subst he;refine Zb2 ?_;exact⟨by rw[<-ht];rfl,H3.kept⟩
theorem U8 {p:UInt8->Bool} {b:Nat} (s:L8) (Bd: ∀c:UInt8,w.cell? ⟨b,c.toNat,none⟩=some (.bool (p c))) (hl:s.length<=1000000):aN prog 240 [str s,aA b] w λv w'=>(∃n,v=str (s.take n)/\n<=s.length/\(∀(j:Nat) c,n<=j->s[j]? =some c->p c=true)/\∀m,n=m+1->∃c,s[m]? =some c/\p c=false)/\Kept noB w w':=by
 have H:=Sep.aL w;refine dS func240 rfl rfl rfl rfl ?_;refine Zb1 ?_;refine aP (λn:Nat=>[(0,str (s.take n)),(1,aA b)]) (λn w'=>(n<=s.length/\∀(j:Nat) c,n<=j->s[j]? =some c->p c=true)/\Sep w noB [] w') (λn _=>n) s.length ⟨by rw[zbl];rfl,rfl,trivial⟩ ⟨⟨zbf _,λj c hj hc=>zat (jk hc) oM⟩,H⟩ (λn τ w3 hI=>?_);obtain⟨⟨hn,lQ⟩,H3⟩:=hI;have Qk:(s.take n).length=n:=by rw[zag];omega
 try simp only[dA,like,bB,bY]
 refine Za3 ?_;refine Qn (Cp rfl (λqx=>?_) (λqx=>?_))
 .obtain⟨m,rfl⟩: ∃m,n=m+1:=⟨n-1,oM⟩
  obtain⟨c,hc⟩:=get_some (l:=s) (i:=m) oM;have hcd:(s.take (m+1)).getD m 0=c:=qg (by rw[zcn,zac oM];exact hc);have htt:(s.take (m+1)).take m=s.take m:=by rw[List.take_take,zck oM]
  refine Zb4 ?_;refine Vc (m:Int) ?_;refine Vv (Gives.CO (i:=m) rfl rfl oM) ?_;rw[hcd];refine gX (RN c (H3.kept.cell (Bd c) id)) (h:=?_);refine Vv (Gives.not rfl) (Qn ?_);refine Cd rfl (λIa=>?_) (λIa=>?_)
  .have hp:p c=false:=by simpa using Ia
   refine Zb2 ?_;exact⟨⟨m+1,rfl,hn,lQ,λk hk=>⟨c,by rw[show k=m from oM];exact hc,hp⟩⟩,H3.kept⟩
  have hp:p c=true:=by simpa using Ia
  refine Zb3 ?_;refine Vc (m:Int) ?_;refine Vv (Gives.lV (i:=m) rfl rfl oM) ?_;rw[htt];refine Zb1 ?_;exact ak m tR ⟨⟨oM,λj d hj hd=>by
  by_cases e:j=m
  .subst e;rw[hc]at hd;injection hd with hd;rw[<-hd];exact hp
  exact lQ j d oM hd⟩,H3⟩ oM
 have CQ:n=0:=oM;refine Zb2 ?_;exact⟨⟨n,rfl,hn,lQ,λm hm=>oM⟩,H3.kept⟩
theorem aar (l:L8) (hl:l.length<=1000) (h: ∀c∈l,c.toNat<128):aN prog 238 [str l] w λv w'=>v=.tuple #[.agg (setCells l),.bool true]/\Kept noB w w':=
 Calls.mono (Tryz.strings_makeASCIISet (λ_=>kR) ⟨l.toArray⟩ w (by show l.toArray.size<_;rw[zfo];omega) λj b hb=>h b (zao hb)) λe w' he=>by
  obtain⟨rfl,rfl⟩:=he;exact⟨rfl,Kept.alloc _ _⟩
theorem ajG (s:L8) (iF:s≠[]) (hl:s.length<=1000000):aN prog 176 [str s,str nameSet] w λv w'=>(∃t,v=str t/\(t=[]↔s.all zi=true))/\Kept noB w w':=by
 have H:=Sep.aL w;have h37:nameSet.length=37:=rfl;have V8:(setCells nameSet).toList.length=256:=by rw[zgc,setCells_size]
 have Je: ∀u∈(setCells nameSet).toList,u.oneCell'=true:=λu hu=>by
  have:=setCells_one nameSet;rw[Array.all_eq_true_iff_forall_mem]at this;exact this u (by simpa using hu)
 refine dS func176 rfl rfl rfl rfl ?_;refine Zb4 ?_;refine aC (t:=9) rfl (λNh=>?_) (λNh=>?_)
 .exact zat Nh iF
 refine Za3 ?_;refine Qn (Cp rfl (λIa=>?_) (λIa=>?_))
 .exact zat Ia dC
 refine Zb4 ?_;refine aC (t:=17) rfl (λSa=>?_) (λSa=>?_)
 .exact zat Sa dC
 refine Zb2 ?_;refine aF H (aar nameSet dC dC) (h:=λwa Ha ka=>?_);refine Zb3 ?_;refine aW Ha (cs:=List.replicate 256 (.bool false)) (h:=λbs wb Hb kb=>?_);refine RX Hb (us:=(setCells nameSet).toList) (cs':=(setCells nameSet).toList) rfl (by exact rfl) V8 Je At0 (by rw[V8];decide) (by rw[V8];simp) (h:=λwc Hc=>?_)
 have Bd: ∀c:UInt8,wc.cell? ⟨bs,c.toNat,none⟩=some (.bool (zi c)):=λc=>by
  have hb:=Hc.obj At0;have:=setCells_at nameSet c;rw[XF]at this;rw[World.cell?,hb];simpa using this
 refine Za2 ?_;refine Qn (Cd rfl (λIb=>?_) (λIb=>?_))
 .refine Zb1 ?_
  refine aS (U8 (p:=zi) s Bd hl) rfl rfl (λv' wd hv=>?_);obtain⟨⟨m,rfl,hm,lQ,atx⟩,eB⟩:=hv;have Hd:=Hc.keep eB;refine aF Hd (XG (p:=zi) (s.take m) λc=>eB.cell (Bd c) id) (h:=λwe He kc=>?_);refine Zb1 ?_;exact⟨⟨_,rfl,by
  rw[dropWhile_nil,zaz];constructor
  .intro h c hc
   obtain⟨j,hj⟩:=zdh hc
   by_cases e:m<=j
   .exact lQ j c e hj
   exact h c (zao (i:=j) (by rw[zcn,zac oM];exact hj))
  intro h c hc;exact h c (zbo hc)⟩,He.kept⟩
 exact aB Ib
theorem XH {p:Nat->Bool} {l:L8} (h: ∀c∈l,c.toNat<128/\p c.toNat=false): ∀f pos:Nat,Lib.idxFuncFrom p true ⟨l.toArray⟩ f pos= -1
 | 0,_=>rfl
 | f+1,pos=>by
  unfold Lib.idxFuncFrom
  by_cases hp:pos<(⟨l.toArray⟩:ByteArray).size
  .have bX:pos<l.length:=by rw[Mw.size_mk]at hp;exact hp
   obtain⟨h1,h2⟩:=h l[pos] (zfz bX)
   have e:Utf8.decode ⟨l.toArray⟩ pos=(l[pos].toNat,1):=by
    rw[<-Lib.decodeL_drop];show Lib.decodeL (l.drop pos)=_
    rw[zbq bX,Lib.decodeL_ascii _ _ h1]
   rw[zac hp,e,zab (by rw[h2];decide)];exact XH h f _
  rw[zab hp]
theorem Ox (s:L8) (lQ:s.all zi=true):aN prog 177 [str s,.func (.func 178) #[] #[]] w λv w'=>v=.bool false/\Kept noB w w':=by
 have hp:PredAt prog 178 #[] encR adP w:=λW r _=>Calls.mono (al7 (w:=W) r) λe w' he=>by
  cases e with
  | returned v=>obtain⟨rfl,rfl⟩:=he;exact⟨rfl,0,rfl⟩
  | _=>exact he.elim
 have:=uS (Tryz.strings_ContainsFunc 178 #[] (bC.run (P:=prog)) adP ⟨s.toArray⟩ w hp)
 have e:decide (0<=Lib.idxFunc adP true ⟨s.toArray⟩)=false:=by
  unfold Lib.idxFunc;rw[XH λc hc=>adQ c (zaz.1 lQ c hc)]
  decide
 rw[e]at this;exact this
theorem RO (s:L8):aN prog 118 [str s] w λv w'=>v=.bool (jE s)/\Kept noB w w':=by
 have H:=Sep.aL w;obtain⟨res,ay⟩: ∃res,res=jE s:=⟨_,rfl⟩;rw[<-ay];refine eP func118 rfl rfl rfl rfl ?_;refine Zb4 ?_;refine aC (t:=5) rfl (λNh=>?_) (λNh=>?_)
 .have qR:res=false:=by rw[ay,Nh];rfl
  refine Zb6 ?_;exact⟨by rw[qR];rfl,H.kept⟩
 obtain⟨c,r,hcr⟩: ∃c r,s=c::r:=List.exists_cons_of_ne_nil Nh;have hlen:s.length=r.length+1:=by rw[hcr];rfl
 have hg0:s.getD 0 0=c:=by rw[hcr];rfl
 unfold jE at ay;rw[hg0]at ay;refine Zb5 ?_;refine aC (t:=10) rfl (λSa=>?_) (λSa=>?_)
 .have qR:res=false:=by rw[ay,zar oM];rfl
  refine Zb4 ?_;exact⟨by rw[qR];rfl,H.kept⟩
 rw[zbe oM]at ay;refine Zb1 ?_;refine Vv (Gives.CO (i:=0) rfl rfl oM) ?_;rw[hg0];refine Zb3 ?_;refine aC (t:=15) rfl (λSb=>?_) (λSb=>?_)
 .have qR:res=false:=by rw[ay,show adz c=false from zar oM];rfl
  refine Zb2 ?_;exact⟨by rw[qR];rfl,H.kept⟩
 refine Zb1 ?_;refine Vv (Gives.CO (i:=0) rfl rfl oM) ?_;rw[hg0];refine Za2 ?_;refine Qn (Cp rfl (λIa=>?_) (λIa=>?_))
 .have qR:res=false:=by rw[ay,show adz c=false from zar oM];rfl
  refine Zb1 ?_;exact⟨by rw[qR];rfl,H.kept⟩
 rw[show adz c=true from zbe oM,zdy,zdy]at ay;refine Zb1 ?_;refine aS (ajG s (by rw[hcr];simp) oM) rfl rfl (λv' wa hv=>?_);obtain⟨⟨t,rfl,ht⟩,eB⟩:=hv;have Ha:=H.keep eB;refine Zb2 ?_;refine aC (t:=23) rfl (λSc=>?_) (λSc=>?_)
 .have lQ:s.all zi=true:=ht.1 Sc
  rw[lQ]at ay;refine Zb1 ?_;refine aF Ha (Ox s lQ) (h:=λwb Hb ka=>?_);refine On (Vv (Gives.not rfl) (Zb2 ?_));exact⟨by rw[ay];rfl,Hb.kept⟩
 have lQ:s.all zi=false:=by rw[<-zdm];exact λh=>Sc (ht.2 h)
 rw[lQ]at ay;refine Zb2 ?_;exact⟨by rw[ay];rfl,Ha.kept⟩
end
end Go.Proofs.YtkfpleidaoaonaaGreatDoor
