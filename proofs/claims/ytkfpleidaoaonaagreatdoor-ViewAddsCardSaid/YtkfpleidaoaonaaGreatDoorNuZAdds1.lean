/-
 Rules whose defaults do the plain steps of a walk:operations that give a value by themselves,and the ways between them.
-/
import Derived.Test.YtkfpleidaoaonaaGreatDoorNu1
import Derived.Test.YtkfpleidaoaonaaGreatDoorNu3
import Derived.Test.YtkfpleidaoaonaaGreatDoorNu12
import Derived.Test.YtkfpleidaoaonaaGreatDoorNu13
import Derived.Test.YtkfpleidaoaonaaGreatDoorNu7
import Derived.Test.YtkfpleidaoaonaaGreatDoorNu17
import Derived.Test.YtkfpleidaoaonaaGreatDoorNu14
import Derived.Test.YtkfpleidaoaonaaGreatDoorNu18
import Derived.Test.YtkfpleidaoaonaaGreatDoorNu21
import Derived.Test.YtkfpleidaoaonaaGreatDoorNu22
import Derived.Test.YtkfpleidaoaonaaGreatDoorNu26
import Derived.Test.YtkfpleidaoaonaaGreatDoorNu27
import Derived.Test.YtkfpleidaoaonaaGreatDoorNu9
import Derived.ChangeMaps5
set_option linter.unusedVariables false
set_option linter.unusedSimpArgs false
namespace Go.Mw
open Go
/-! Goals told by their kind. -/
section
variable {P:Program} {ρ:Od->Value} {ty:Td} {w w':Wd} {v:Value} {x y u:Od}
end
section
variable {P:Program} {r:Option Nat} {n:Nat} {ops:AO} {Q:Post} {rest:LO} {σ:St} {w:Wd} {ty:Td} {pos:String} {after:Array Edge} {guard:Option (Nat×Bool)} {lv:List Bool} {pd:LNB} {op:Op} {d:Nat} {v:Value}
/-! Regions that draw,the operations one behind the other. -/
section
variable {i:Nat}
end
end
/-! Goals of a walk told by their heads. -/
section
variable {P:Program} {r:Option Nat} {n:Nat} {ops:AO} {Q:Post} {l rest:LO} {σ:St} {w:Wd} {dst:Option Nat} {op:Op} {ty:Td} {pos:String} {after:Array Edge} {g:Nat×Bool} {d i:Nat} {c:Code} {x y z:Od} {T:Td} {lv:List Bool} {pd:LNB}
end
theorem VZ {p q:Prop} (hq:q) (h:Bx q->p:=by intro h;(iterate 14 (first | refine Xs ?_ | (refine Xg ?_;refine Xs ?_)));refine Xg ?_;exact h.g):p:=h ⟨hq⟩
end Go.Mw
namespace Go.Mw
open Go.RowKit
section
variable {P:Program} {r:Option Nat} {n:Nat} {ops:AO} {Q:Post} {rest:LO} {σ:St} {w w0:Wd} {S:NP} {rs:List HP} {put:HP->List HP} {ty:Td} {pos:String} {after:Array Edge}
variable {α:Type} {enc:α->LV} {k e c:Nat} {l:List α} {A:OA}
end
end Go.Mw
namespace Go.Proofs.YtkfpleidaoaonaaGreatDoor
open Go Go.Mw Go.Lib
set_option maxRecDepth 4000
def dM (x:bJ):bJ:=⟨x.kind,x.n,x.s.take 1100⟩
theorem jY (s:L8) (k:Nat):s.take (s.take k).length=s.take k:=by
 rw[zag]
 by_cases h:k<=s.length
 .rw[zck h]
 rw[zfg oM,zbl,zaf oM]
section
variable {w:Wd}
end
end Go.Proofs.YtkfpleidaoaonaaGreatDoor
namespace Go.Proofs.YtkfpleidaoaonaaGreatDoor
open Go Go.Lib Go.Mw
set_option maxRecDepth 4000
theorem J3 {keys sums:Nat} {l:List dH} (h: ∀x∈l,x.key.length=keys) (r:List aI):wtL (lI sums l) r=0\/wtL (lI sums l) r=1:=by
 by_cases hm: ∃x∈lI sums l,x.row=r
 .obtain⟨x,hx,rfl⟩:=hm
  rw[Eo (oP (Ag h).1) x hx];unfold lI at hx;obtain⟨k,_,rfl⟩:=zaq.1 hx;exact .inr rfl
 exact .inl (uU λx hx e=>hm ⟨x,hx,e⟩)
theorem yS {g:Int} {n:Nat} {T:List aH} (h:(dK g n T).2=0):isZ (dK g n T).1:=by
 by_cases hg:g<0
 .unfold dK;rw[zac hg];exact qE
 rw[jS hg h];exact Ag (nM ((lK hg).1 h).1)
theorem GU {g:Int} {n:Nat} {T m:List aH} (hg: ¬g<0) (hT:(dK g n T).2=0):(jd g n T m).2=(dK g n (T++m)).2:=by
 unfold jd
 split
 .rfl
 rename_i h1;have h1:=zbt.1 h1;rw[h1,En];intro r;rw[gF,KE,jS hg h1,jS hg hT]
 rcases J3 (sums:=n-g.toNat) (nM ((lK hg).1 h1).1) r with e1 | e1<;>rcases J3 (sums:=n-g.toNat) (nM ((lK hg).1 hT).1) r with e2 | e2<;>(dsimp only;rw[e1,e2];decide)
open Go.Proofs.Tryz
attribute [local irreducible] FW FL FG FGn gu gy dh gH Qfn Gives
section
variable {w:Wd}
theorem pq {a b:List aI} {va vb:Value} (ha:aM w va aj 3 a) (hb:aM w vb aj 3 b):aN prog 102 [va,vb] w λv' w'=>v'=.bool (decide (a=b))/\Kept noB w w':=by
 obtain⟨A,m,rfl,⟨hm,qo⟩,hA⟩:=ha;obtain⟨B,n,rfl,⟨hn,Zp⟩,hB⟩:=hb;have H:=Sep.aL w;refine dS func102 rfl rfl rfl rfl ?_;refine Za6 ?_;refine Qn (Cp rfl (λqx=>?_) (λqx=>?_))
 .have iF:=qx
  refine Zb1 ?_;exact⟨zaw Value.bool (Eq.symm (zar λe=>iF (by rw[e]))),H.kept⟩
 have hlen:a.length=b.length:=oM;refine Zb3 ?_;refine aP (λi:Nat=>[(0,.slice A a.length m),(1,.slice B b.length n),(12,I a.length),(13,I i)]) (λi w'=>(i<=a.length/\a.take i=b.take i)/\Sep w noB [] w') (λi _=>a.length-i) 0 tR ⟨⟨zak _,sM⟩,H⟩ (λi τ wa hI=>?_);obtain⟨⟨hi,gQ⟩,Ha⟩:=hI
 try simp only[dA,like,bB,bY]
 refine Za1 ?_;refine Qn (fC (Cp rfl (λIa=>?_) (λIa=>?_)))
 .have bX:i<a.length:=oM
  obtain⟨x,hx⟩:=get_some bX;obtain⟨y,hy⟩:=get_some (l:=b) (i:=i) oM;refine Zb2 ?_;refine Ds (λSa wb Hb=>?_);refine Zb8 ?_;refine Gp Sa 8 rfl rfl (λ_=>(Gives.Yt (enc:=aj) _ _ rfl rfl)) (dP Sa kR ?_);refine aU (Cp rfl (λIb=>?_) (λIb=>?_))
  .have Ka:=Ib
   refine Zb1 ?_;exact⟨zaw Value.bool (Eq.symm (zar λe=>Ka (by rw[e,hy]at hx;injection hx with hx;exact hx.symm))),Hb.kept⟩
  have Ka:x=y:=zbt.1 Ib;have Jb:a.take (i+1)=b.take (i+1):=by rw[zav,zav,gQ,hx,hy,Ka]
  refine Zb2 ?_;exact ak (i+1) tR ⟨⟨oM,Jb⟩,Hb⟩ oM
 have qp:i=a.length:=oM;have Ql:a=b:=by rw[qp,zbl,hlen,zbl]at gQ;exact gQ
 refine Zb1 ?_;exact⟨zaw Value.bool (Eq.symm (zbe Ql)),Ha.kept⟩
theorem pz {a b:List aI} {va vb:Value} (ha:aM w va aj 3 a) (hb:aM w vb aj 3 b):aN prog 62 [va,vb] w λv' w'=>v'=.bool (decide (a=b))/\Kept noB w w':=by
 have H:=Sep.aL w;refine dS func62 rfl rfl rfl rfl ?_;refine Zb3 ?_;refine aF H (pq ha hb) (h:=λw5 H5 k4=>?_);refine Zb1 ?_;exact⟨rfl,H5.kept⟩
end
section
variable {w:Wd}
theorem uh {a b:List aI} {va vb:Value} {n m:Int} (ha:aM w va aj 3 a) (hb:aM w vb aj 3 b):aN Tryz.prog 61 [agg (av (va,n)),agg (av (vb,m))] w λu w'=>u=.bool (decide (n=m/\a=b))/\Kept noB w w':=by
 have H:=Sep.aL w;refine dS Tryz.func61 rfl rfl rfl rfl ?_;refine Sr (dz H (cs:=av (va,n)) rfl (h:=λb2 w2 H2 k1=>?_));refine dz H2 (cs:=av (vb,m)) rfl (h:=λb3 w4 H4 k3=>?_);refine Zb7 ?_;refine aC (t:=10) rfl (λSa=>?_) (λSa=>?_)
 .refine Zb4 ?_
  refine aF H4 (pz (ha.keep H4.kept) (hb.keep H4.kept)) (h:=λwa Ha ka=>?_);refine Zb2 ?_;exact⟨by simp only[*,zfq,false_and,decide_false,fH]<;>rfl,Ha.kept⟩
 refine Zb2 ?_;exact⟨by simp only[*,zfq,false_and,decide_false,fH]<;>rfl,H4.kept⟩
end
end Go.Proofs.YtkfpleidaoaonaaGreatDoor
namespace Go.Mw
end Go.Mw
namespace Go.Proofs.YtkfpleidaoaonaaGreatDoor
open Go Go.Mw Go.Lib
set_option maxRecDepth 4000
attribute [local irreducible] FW FL FG FGn gu gy dh gH Qfn Gives
section
variable {w:Wd}
theorem pE {l m:List aH} {va vb:Value} (hl:cZ w va l) (hm:cZ w vb m):
    aN Tryz.prog 60 [va,vb,.func (.func 61) #[] #[]] w λu w'=>u=.bool (decide (l=m))/\Kept noB w w':=by
  obtain⟨r,hr,gW⟩:=hl;obtain⟨s,hs,zW⟩:=hm;obtain⟨A,c,rfl,⟨hc,hc'⟩,hA⟩:=hr;obtain⟨B,d,rfl,⟨hd,hd'⟩,hB⟩:=hs;have xk:=gW.len;have Qi:=zW.len;have H:=Sep.aL w;refine tH Tryz.func60 rfl rfl rfl rfl ?_;refine Za6 ?_;refine Qn (Cp rfl (λqx=>?_) (λqx=>?_))
  . have iF: ¬l=m:=λe=>qx (by rw[xk,Qi,e])
    refine Zb1 ?_;exact⟨by rw[zar iF];rfl,H.kept⟩
  have hlen:r.length=s.length:=oM;refine Zb3 ?_;refine aP (λi:Nat=>[(0,.slice A r.length c),(1,.slice B s.length d),(2,.func (.func 61) #[] #[]),(15,.slice A r.length c),(16,I r.length),(17,I i)]) (λi w'=>(i<=r.length/\l.take i=m.take i)/\Mw.Sep w noB [] w') (λi _=>r.length-i) 0 tR ⟨⟨zak _,rfl⟩,H⟩ (λi τ wa hI=>?_);obtain⟨⟨hi,MS⟩,Ha⟩:=hI
  try simp only[dA,like,bB,bY]
  refine Za1 ?_;refine Qn (fC (Cp rfl (λIa=>?_) (λIa=>?_)))
  . have bX:i<r.length:=oM
    have Co:i<s.length:=oM;obtain⟨o,ho⟩:=get_some (l:=l) (show i<l.length from oM);obtain⟨p,hp⟩:=get_some (l:=m) (show i<m.length from oM);obtain⟨vo,Qp,Jg⟩:=gW.get ho;obtain⟨vp,hvp,Cm⟩:=zW.get hp;have gQ:=qW MS ho hp;have Qq:=Jg;have Wo:=Cm;obtain⟨Ao,co,rfl,_,_⟩:=Jg;obtain⟨Ap,cp,rfl,_,_⟩:=Cm;refine Zb3 ?_;refine aW Ha (h:=λb8 wb Hb ka=>?_);refine Am ?_;refine au Hb (h:=λwc Hc=>?_);refine Zb4 ?_;refine aW Hc (h:=λb9 wd Hd kb=>?_);refine au Hd (h:=λwe He=>?_);refine Zb3 ?_;refine fB (fs:=[]) (cs:=[]) (vals:=[agg (av (.slice Ao o.row.length co,o.w)),agg (av (.slice Ap p.row.length cp,p.w))]) rfl (uh (Qq.keep He.kept) (Wo.keep He.kept)) rfl rfl (λv' wf hv=>?_);obtain⟨rfl,kc⟩:=hv;have Hf:=He.keep kc;refine Vv (Gives.notP rfl) (Qn ?_);refine Cp rfl (λIb=>?_) (λIb=>?_)
    . have iF: ¬l=m:=λe=>Ib (qc.2 (gQ.1 (by rw[e])))
      refine Zb1 ?_;exact⟨by rw[zar iF];rfl,Hf.kept⟩
    have Jb:=gQ.2 (qc.1 (Decidable.of_not_not Ib));refine Zb0 ?_;refine Vc ((i+1:Nat):Int) ?_;refine Zb1 ?_;exact ak (i+1) tR ⟨⟨oM,Jb⟩,Hf.eF.eF⟩ oM
  have jy:l=m:=by
    rw[zaf oM,zaf oM]at MS;exact MS
  refine Zb1 ?_;exact⟨by rw[zbe jy];rfl,Ha.kept⟩
theorem nR {l m:List aH} {va vb:Value} (hl:cZ w va l) (hm:cZ w vb m):aN Tryz.prog 29 [va,vb] w λu w'=>u=.bool (decide (l=m))/\Kept noB w w':=by
 have H:=Sep.aL w;refine dS Tryz.func29 rfl rfl rfl rfl ?_;refine Zb3 ?_;refine aF H (pE (hl.keep H.kept) (hm.keep H.kept)) (h:=λw5 H5 k4=>?_);refine Zb1 ?_;exact⟨rfl,H5.kept⟩
end
end Go.Proofs.YtkfpleidaoaonaaGreatDoor
namespace Go.Proofs.YtkfpleidaoaonaaGreatDoor
open Go Go.Lib Go.Mw
set_option maxRecDepth 4000
section
variable {cols:List bL} {p:aZ}
theorem GV {m:List aH} (h:(dK p.group p.cols.length m).2=0):(jd p.group p.cols.length [] m).2=0:=by
 by_cases hg:p.group<0
 .unfold jd
  rw[zbr,zab (not_not_intro h),zac hg];unfold dK at h;rw[zac hg]at h;exact h
 rw[GU hg (by rw[Dg]),zbr];exact h
theorem Lp {l:List aH} (hc:(bQ cols p).2=0) (hi:(cB cols p l).2=0) (ht:(dK p.group p.cols.length (cB cols p l).1).2=0):dX cols p l=((dK p.group p.cols.length (cB cols p l).1).1,0):=by
 have ha:(dB cols p [] l).2=0:=by
  unfold dB;rw[zab (not_not_intro hi)];exact GV ht
 unfold dX dw;rw[zab (not_not_intro hc),zab (not_not_intro ha),zac ha,zbr]
/-! The pieces of the stage's theorem:all that were put in,all that were answered. -/
/-! Items that are there and then not. -/
end
section
variable {cols:List bL} {p:aZ}
theorem uT {l:List aH} (h:(dX cols p l).2≠0):(dX cols p l).1=[]:=by
 unfold dX at h |-
 split
 .rfl
 rename_i h1;rw[zab h1]at h
 split
 .rfl
 rename_i h2;rw[zab h2]at h;exact zat rfl h
theorem Cg {l:List aH} (hg:p.group<0) (hc:(bQ cols p).2=0) (hi:(cB cols p l).2=0):dX cols p l=dY (cB cols p l).1:=by
 have ht: ∀X,dK p.group p.cols.length X=dY X:=λX=>by unfold dK;rw[zac hg]
 by_cases h0:(dY (cB cols p l).1).2=0
 .rw[Lp hc hi (by rw[ht];exact h0),ht,<-h0]
 have ha:dB cols p [] l=dY (cB cols p l).1:=by
  unfold dB jd;rw[zab (not_not_intro hi),zbr,ht,zac h0]
  conv=>rhs;rw[nK h0]
  rw[nK h0]
 unfold dX;rw[zab (not_not_intro hc),ha,zac h0,nK h0]
theorem J4 {l:List aH} (h:(dX cols p l).2=0):(bQ cols p).2=0/\(cB cols p l).2=0:=by
 unfold dX at h
 split at h
 .rename_i h1;exact zat h h1
 rename_i h1
 split at h
 .rename_i h2;exact zat h h2
 rename_i h2;exact⟨zbt.1 h1,(u6 (zbt.1 h2)).1⟩
theorem YU {a b:List aH} (hg:p.group<0) (ha:(dX cols p a).2=0) (hb:(dX cols p b).2=0):
    UW (dX cols p a).1 (dX cols p b).1=dX cols p (a++b):=by
  obtain⟨hc,ia⟩:=J4 ha;obtain⟨_,ib⟩:=J4 hb;rw[Cg hg hc ia]at ha ⊢;rw[Cg hg hc ib]at hb ⊢;have e:=JA ia ib;rw[Cg hg hc (by rw[e]),e];show dY _=_
  rw[Xo ha,Ry hb]
end
attribute [local irreducible] FW FL FG FGn gu gy dh gH Qfn Gives
section
variable {w:Wd} {F:NP}
theorem jZ {l:List bL} {v:Value} (hl:aM w v aR 7 l) (uH:l.length<=1000):aN Tryz.prog 33 [v] w λv' w'=>∃x,v'=x/\True/\Turn noB (bW 54 7 aR x l) w w':=by
 obtain⟨A,m,rfl,⟨hm,qo⟩,hA⟩:=hl;have H:=Sep.aL w;refine eP Tryz.func33 rfl rfl rfl rfl ?_;refine Zb4 ?_;have H6:=Sep.lZ H 54 7 aR;refine jW H6 At0 (hA.keep H.kept) (by unfold maxLen;simp;omega) (by simp;omega) (cells_one (λ_=>rfl) _) (h:=?_);intro v2 w6 H6;refine Zb1 ?_;exact⟨_,rfl,trivial,by rw[zbr]at H6;exact H6.turn⟩
end
section
variable {w:Wd}
theorem qN {l:List bL} {v:Value} (hl:aM w v aR 7 l):aN Tryz.prog 14 [v] w λu w'=>∃x,u=x/\True/\Turn noB (bW 54 7 aR x (l.take 12)) w w':=by
 have G8:=hl;obtain⟨A,m,rfl,⟨hm,qo⟩,hA⟩:=hl;obtain⟨n,hn⟩: ∃n:Nat,n=min l.length 12:=⟨_,rfl⟩;have Ni:min (l.length:Int) 12=(n:Int):=oM
 have tF:l.take n=l.take 12:=by
  rcases Nat.le_total l.length 12 with h | h
  .rw[zaf oM,zaf h]
  rw[show n=12 from oM]
 have H:=Sep.aL w;refine eP Tryz.func14 rfl rfl rfl rfl ?_;refine Zb4 ?_;refine Vv (Gives.C8 rfl rfl Ni) (Vv (Gives.sliceTo (h:=n) rfl rfl oM) ?_);refine dx H (jZ (xM (m:=n) (G8.keep H.kept) oM) (by rw[zag];omega)) (h:=λx w8 _ H8 k7=>?_);rw[tF]at H8;refine Zb1 ?_;exact⟨_,rfl,trivial,H8.turn⟩
end
def bH (l:List bJ):List bJ:=(l.take 70).map dM
section
variable {w:Wd}
theorem iB {l:List bJ} {v:Value} (hl:aM w v aD 3 l):aN Tryz.prog 39 [v] w λv' w'=>∃x,v'=x/\True/\Turn noB (bW 92 3 aD x (bH l)) w w':=by
 obtain⟨A,m,rfl,⟨hm,qo⟩,hA⟩:=hl;have H:=Sep.aL w;refine eP Tryz.func39 rfl rfl rfl rfl ?_;refine Zb3 ?_;have H5:=Sep.lZ H 92 3 aD;refine aP (λx:Nat×Value=>[(0,.slice A l.length m),(3,x.2),(4,I x.1)]) (λx w'=>(x.1<=l.length/\x.1<=70)/\Mw.Sep w noB [bW 92 3 aD x.2 ((l.take x.1).map dM)] w') (λx _=>l.length-x.1) (0,.slice none 0 0) tR ⟨⟨zak _,zak _⟩,H5⟩ (λx τ w5 hI=>?_);obtain⟨i,v1⟩:=x;obtain⟨⟨hi,Wp⟩,H5⟩:=hI;dsimp only at hi Wp H5;have yV:((l.take i).map dM).length=i:=by rw[zae,zag];omega
 try simp only[dA,like,bB,bY]
 refine Zb5 ?_;refine aC (t:=10) rfl (λSa=>?_) (λSa=>?_)
 .have Qu:=Sa
  refine Za3 ?_;refine Qn (Cp rfl (λIa=>?_) (λIa=>?_))
  .have bX:i<l.length:=oM
   obtain⟨x,hx⟩:=get_some bX;have tF:(l.take (i+1)).map dM=(l.take i).map dM++[dM x]:=by rw[zav,hx,zam];rfl
   refine Zb4 ?_;refine aW H5 (h:=λb5 wa Ha ka=>?_);refine au Ha (h:=λwb Hb=>?_);refine Zb5 ?_;refine Vv (Gives.C8 rfl rfl (qA x.s 1100)) (Vv (Gives.lV (l:=x.s) (i:=(x.s.take 1100).length) rfl rfl (by rw[zag];omega)) ?_);rw[jY];refine Vf ?_;refine bM Hb (h:=λwc Hc=>?_);refine Zb1 ?_;refine iA Hc (cs:=aD (dM x)) (h:=?_);refine Bs Hc ([dM x].flatMap aD) (λbs wd Hd kb=>?_);refine gP Hd (news:=[dM x]) At1 (by rw[yV];unfold maxLen;simp;omega) (by rw[yV];show(i+1)*32<=_;omega) (cells_one (λ_=>rfl) _) (h:=?_);intro v2 we He;rw[<-tF]at He;refine Zb2 ?_;refine Vc ((i+1:Nat):Int) ?_;refine Zb1 ?_;exact ak (i+1,v2) tR ⟨⟨dO,dO⟩,(He.aJ).firsts (l:=[_])⟩ dO
  have jy:(l.take i).map dM=bH l:=by unfold bH;rw[show i=70 by have h:=Ia;omega]
  refine Zb2 ?_;exact⟨_,rfl,trivial,by rw[jy]at H5;exact H5.turn⟩
 have jy:(l.take i).map dM=bH l:=by unfold bH;rw[zaf (l:=l) (i:=i) (by have h:=Sa;omega),zaf (l:=l) (i:=70) (by have h:=Sa;omega)]
 refine Zb3 ?_;exact⟨_,rfl,trivial,by rw[jy]at H5;exact H5.turn⟩
end
def fV (o:jL):jL:=⟨o.name.take 40,bH o.steps⟩
def fJ (p:aZ):aZ:=⟨bH p.wh,(p.cols.take 18).map fV,p.group⟩
/-! A plan that is owned whole:L has each out beside the value of its steps. -/
abbrev jr:=Value×jL
def gK (L:List jr):List (L8×Value):=L.map λb=>(b.2.name,b.1)
abbrev uj (L:List jr):HP:=vH 92 3 aD (·.1) (λb=>b.2.steps) L
def zG (vw vc:Value) (s:List bJ) (L:List jr):HP:=star (bW 92 3 aD vw s) (star (bW 94 2 bZ vc (gK L)) (uj L))
theorem l7: ∀{L:List jr} {F:NP} {w:Wd},(uj L).ok F w->∀b∈L,aM w b.1 aD 3 b.2.steps
 | [],_,_,_=>λ_ h=>zat h zaj
 | b::L,F,w,h=>by
  obtain⟨F1,F2,_,_,h1,h2⟩:=h;intro c hc
  rcases zap.1 hc with rfl | hc
  .exact iE h1
  exact l7 h2 c hc
theorem um {F:NP} {w:Wd} {vw vc:Value} {s:List bJ} {L:List jr} (g:Int) (h:(zG vw vc s L).ok F w):eG w (agg [vw,vc,I g]) ⟨s,L.map (·.2),g⟩:=by
 obtain⟨F1,F2,_,_,h1,F3,F4,_,_,h2,h3⟩:=h;refine⟨vw,vc,rfl,iE h1,gK L,iE h2,?_,λi x o hx ho=>?_⟩
 .unfold gK
  rw[zcy,zcy];rfl
 unfold gK at hx;rw[zcf]at hx ho
 obtain⟨b,hb⟩: ∃b,L[i]? =some b:=by
  cases hb:L[i]? with
  | none=>rw[hb]at hx;cases hx
  | some b=>exact⟨b,rfl⟩
 rw[hb]at hx ho;injection hx with hx
 injection ho with ho
 subst hx;subst ho;exact l7 h3 b (zao hb)
section
variable {w:Wd}
theorem nS {p:aZ} {v:Value} (hp:eG w v p):aN Tryz.prog 15 [v] w λv' w'=>∃x:Value×Value×List jr,v'=agg [x.1,x.2.1,I p.group]/\x.2.2.map (·.2)=(fJ p).cols/\Turn noB (zG x.1 x.2.1 (fJ p).wh x.2.2) w w':=by
 obtain⟨vw,vc,rfl,hw,r,hr,gW⟩:=hp;obtain⟨A,m,rfl,⟨hm,qo⟩,hA⟩:=hr;obtain⟨W,mw,rfl,_,_⟩:=id hw;have xk:=gW.len;have H:=Sep.aL w;refine sI Tryz.func15 rfl rfl rfl rfl ?_;refine Sr (dz H (cs:=[.slice W p.wh.length mw,.slice A r.length m,I p.group]) rfl (h:=λb1 w2 H2 k1=>?_));refine aW H2 (h:=λb2 w4 H4 k3=>?_);refine Qn (iP (λz:Nat×OA×Nat=>[(1,aA b1),(2,aA b2),(3,aA z.1)]) (λz w'=>Mw.Sep w noB [bW 92 3 aD (.slice z.2.1 (bH p.wh).length z.2.2) (bH p.wh),blk z.1 [.slice z.2.1 (bH p.wh).length z.2.2,.slice none 0 0,I p.group] 26,blk b2 [.slice none 0 0,.slice none 0 0,I 0] 26,blk b1 [.slice W p.wh.length mw,.slice A r.length m,I p.group] 26] w') ?_ ?_)
 .refine Ds (λiI w8 H8=>?_)
  refine Zb2 ?_;refine Gp iI 3 rfl rfl (λ_=>(Gives.ou rfl)) (Zb1 ?_);refine jK iI (e1:=2) (e2:=6) kR ?_ ?_
  .refine l9 iI 2 [(4,false),(3,true)] H8 (iB (hw.keep H8.kept)) (h:=λvx wa _ Ha ka=>?_)
   obtain⟨X,cx,rfl,_,_⟩:=Sep.eO Ha At0;refine⟨aY Ha (h:=ah (aK)),?_⟩;refine Gb iI 5 [.slice X (bH p.wh).length cx,.slice none 0 0,I p.group] ?_;refine xE iI 6 [(5,true),(4,false),(3,true)] Ha (h:=λb3 wb Hb=>⟨ah (aY Hb (h:=ah (aK))),?_⟩);refine eH iI 7 _ Hb (h:=λwc Hc=>⟨sT,?_⟩);refine Zb0 ?_;exact aG (b3,X,cx) tR (by first | exact Hc | exact Hc.aJ)
  refine ni iI 6 [(4,false),(3,true),(1,false),(0,true)] H8 (h:=λb3 wd Hd=>⟨aY Hd (h:=ah (aY Hd (h:=ah (aK)))),?_⟩);refine dL iI 2 [(4,false),(3,true)] Hd (iB (hw.keep Hd.kept)) (h:=λvx we _ He kb=>?_);obtain⟨X,cx,rfl,_,_⟩:=Sep.eO He At0;refine⟨aY He (h:=ah (aK)),?_⟩;refine Gb iI 5 [.slice X (bH p.wh).length cx,.slice none 0 0,I p.group] ?_;refine eH iI 7 _ He (h:=λwf Hf=>⟨sT,?_⟩);refine Zb0 ?_;exact aG (b3,X,cx) tR (by first | exact Hf | exact Hf.aJ)
 rintro⟨b3,X,cx⟩ τ wg Hg;dsimp only at Hg;simp only[dA,like,bB,bY];refine Zb2 ?_;have Hh:=Sep.ET (Sep.lZ Hg 94 2 bZ) 92 3 aD (λb:jr=>b.1) (λb=>b.2.steps);refine aP (λx:Nat×(OA×Nat)×List jr=>[(1,aA b1),(2,aA b2),(3,aA b3),(4,.slice x.2.1.1 (gK x.2.2).length x.2.1.2),(5,I x.1)]) (λx w'=>(x.1<=r.length/\x.1<=18/\(gK x.2.2).length=x.1/\x.2.2.map (·.2)=(p.cols.take x.1).map fV)/\Mw.Sep w noB [uj x.2.2,bW 94 2 bZ (.slice x.2.1.1 (gK x.2.2).length x.2.1.2) (gK x.2.2),bW 92 3 aD (.slice X (bH p.wh).length cx) (bH p.wh),blk b3 [.slice X (bH p.wh).length cx,.slice none 0 0,I p.group] 26,blk b2 [.slice none 0 0,.slice none 0 0,I 0] 26,blk b1 [.slice W p.wh.length mw,.slice A r.length m,I p.group] 26] w') (λx _=>r.length-x.1) (0,(none,0),[]) tR ⟨⟨zak _,zak _,rfl,rfl⟩,Hh⟩ (λx τ wi hI=>?_);obtain⟨i,⟨C,cc⟩,q⟩:=x;obtain⟨⟨hi,Wq,Gd,Fg⟩,Hh⟩:=hI;dsimp only at hi Wq Gd Fg Hh
 try simp only[dA,like,bB]
 refine Zb6 ?_;refine aC (t:=17) rfl (λSa=>?_) (λSa=>?_)
 .have Qu:=Sa
  refine Za3 ?_;refine Qn (Cp rfl (λIa=>?_) (λIa=>?_))
  .have bX:i<p.cols.length:=oM
   obtain⟨vx,hx,Cq⟩:=gW.at bX;have rY:p.cols[i]? =some p.cols[i]:=zaa bX;obtain⟨o,ho⟩: ∃o,o=p.cols[i]:=⟨_,rfl⟩;rw[<-ho]at hx Cq rY;have tF:(p.cols.take (i+1)).map fV=(p.cols.take i).map fV++[fV o]:=by rw[zav,rY,zdd,zam];rfl
   refine Zb0 ?_;refine Ds (λSb wj Hi=>?_);refine VZ ?_;refine Gp Sb 14 rfl rfl (λ_=>(Gives.C8 rfl rfl (qA o.name 40))) (Gp Sb 15 rfl rfl (λ_=>(Gives.lV (l:=o.name) (i:=(o.name.take 40).length) rfl rfl (by rw[zag];omega))) ?_);refine Zb6 ?_;refine dL Sb 22 [(15,true),(14,true),(13,true),(12,false),(11,true),(10,true),(9,true),(8,false),(7,true),(6,false),(5,true),(4,true),(3,true),(2,false),(1,true),(0,true)] Hi (iB (Cq.keep Hi.kept)) (h:=λvy wk _ Hj kc=>?_);obtain⟨Y,cy,rfl,_,_⟩:=Sep.eO Hj At0;refine⟨ah (ah (ah ((dN rfl kR (Gives.iJ (f:=0) rfl Hj hA hx rfl) rfl (ah (ah (ah (aY Hj (h:=ah ((dN rfl kR (Gives.iJ (f:=0) rfl Hj hA hx rfl) rfl (ah (ah (ah (aY Hj (h:=ah (ah (aK)))))))))))))))))),?_⟩;refine Gb Sb 23 (bZ (o.name.take (o.name.take 40).length,.slice Y (bH o.steps).length cy)) ?_;refine bU Sb 24 _ Hj (xs:=[.tmp 46]) (out:=[(o.name.take (o.name.take 40).length,Value.slice Y (bH o.steps).length cy)].flatMap bZ) (bE.many rfl rfl bE.nil) (h:=λbs wl Hk=>⟨sT,?_⟩);rw[jY]at Hk;refine jN Sb 25 _ Hk (news:=[(o.name.take 40,Value.slice Y (bH o.steps).length cy)]) At2 (by unfold maxLen;simp;omega) (by simp;omega) (λu hu=>zaz.1 (show([(o.name.take 40,Value.slice Y (bH o.steps).length cy)].flatMap bZ).all Value.oneCell'=true from rfl) u hu) (h:=λv2 wm Hl=>?_);rw[show gK q++[(o.name.take 40,Value.slice Y (bH o.steps).length cy)]=gK (q++[(Value.slice Y (bH o.steps).length cy,fV o)]) by unfold gK;rw[zam];rfl]at Hl
   obtain⟨C2,c2,rfl,_,_⟩:=Sep.eO Hl At2;refine⟨sT,?_⟩;refine yP Sb 26 _ (h:=⟨sT,?_⟩);refine Zb3 ?_;exact ak (i+1,(C2,c2),q++[(Value.slice Y (bH o.steps).length cy,fV o)]) ⟨rfl,rfl,rfl,rfl,by dsimp only;unfold gK;rw[zam];rfl,trivial⟩ ⟨⟨dO,dO,by dsimp only;unfold gK at Gd ⊢;rw[zae]at Gd ⊢;rw[zad,Gd];rfl,by dsimp only;rw[zam,Fg,tF];rfl⟩,Sep.AY (x:=(Value.slice Y (bH o.steps).length cy,fV o)) Hl⟩ dO
  have jy:(p.cols.take i).map fV=(fJ p).cols:=by rw[show i=18 by have h:=Ia;omega];rfl
  refine Zb2 ?_;refine bM (v:=.slice C (gK q).length cc) Hh (hy:=rfl) (h:=λwn Hm=>?_);refine Zb1 ?_;refine au Hm (h:=λwo Hn=>?_);refine Qn (fu (aX (h:=?_)));rw[jy]at Fg;exact⟨_,jg Hn,(.slice X (bH p.wh).length cx,.slice C (gK q).length cc,q),rfl,Fg,Hn.aJ.bI.aJ.bI.first.turn⟩
 have jy:(p.cols.take i).map fV=(fJ p).cols:=by
  show _=(p.cols.take 18).map fV
  rw[zaf (l:=p.cols) (i:=i) (by have h:=Sa;omega),zaf (l:=p.cols) (i:=18) (by have h:=Sa;omega)]
 refine Zb3 ?_;refine bM (v:=.slice C (gK q).length cc) Hh (hy:=rfl) (h:=λwp Ho=>?_);refine Zb1 ?_;refine au Ho (h:=λwq Hp=>?_);refine Qn (fu (aX (h:=?_)));rw[jy]at Fg;exact⟨_,jg Hp,(.slice X (bH p.wh).length cx,.slice C (gK q).length cc,q),rfl,Fg,Hp.aJ.bI.aJ.bI.first.turn⟩
theorem pF {p:aZ} {v:Value} (hp:eG w v p):aN Tryz.prog 15 [v] w λv' w'=>∃x,v'=x/\True/\Turn noB (vZ x (fJ p)) w w':=
 aN.mono (nS hp) λu w' h=>by
  obtain⟨⟨vw,vc,L⟩,rfl,hL,hk,F1,hq,hs⟩:=h;refine⟨_,rfl,trivial,hk,F1,HP.look hq λF w h=>?_,hs⟩;have:=um p.group h
  rwa [show(⟨(fJ p).wh,L.map (·.2),p.group⟩:aZ)=fJ p by dsimp only at hL;rw[hL];rfl]at this
end
theorem oF (l:List aH):(jf l).length<=10:=by unfold jf;rw[zae,zag];omega
theorem oG {l:List aH} (h: ∀x∈l,bR x): ∀x∈jf l,bR x:=λx hx=>by
 obtain⟨y,hy,rfl⟩:=zaq.1 hx;obtain⟨h1,h2⟩:=h y (zbo hy);refine⟨h1,λc hc=>?_⟩;obtain⟨d,hd,rfl⟩:=zaq.1 hc;exact h2 d (zbo hd)
theorem j3 (l:List bJ):(bH l).length<=70:=by unfold bH;rw[zae,zag];omega
theorem j4 {l:List bJ} (h:bK l):bK (bH l):=λx hx=>by
 obtain⟨y,hy,rfl⟩:=zaq.1 hx;exact h y (zbo hy)
theorem qZ {p:aZ} (h:iR p):iR (fJ p)/\(fJ p).cols.length<=18/\(fJ p).wh.length<=70/\∀o∈(fJ p).cols,o.steps.length<=70:=
 ⟨⟨j4 h.1,λo ho=>by
  obtain⟨y,hy,rfl⟩:=zaq.1 ho;exact j4 (h.2 y (zbo hy))⟩,by show((p.cols.take 18).map fV).length<=18;rw[zae,zag];omega,j3 _,λo ho=>by
  obtain⟨y,hy,rfl⟩:=zaq.1 ho;exact j3 _⟩
theorem mE {w:Wd} {v:Value} {p:aZ} (h:eG w v p): ∃A a B b,v=agg [.slice A p.wh.length a,.slice B p.cols.length b,I p.group]:=by
 obtain⟨vw,vc,rfl,⟨A,a,rfl,_⟩,r,⟨B,b,rfl,_⟩,hr⟩:=h;exact⟨A,a,B,b,by rw[hr.len]⟩
theorem xJ {p:aZ} (cols:List bL) (h:iR p):yZ (cols.take 12) (fJ p):=by
 obtain⟨h1,h2,h3,h4⟩:=qZ h;exact⟨h1,by rw[zag];omega,h2,h3,h4⟩
section
variable {w:Wd} {cols:List bL} {p:aZ} {l:List aH} {vc vp v:Value}
theorem lX (C:yZ cols p) (hc:aM w vc aR 7 cols) (hp:eG w vp p) (hl:cZ w v l) (zI: ∀x∈l,bR x) (hn:l.length<=100) (hT:fA w):
    aN Tryz.prog 13 [vc,vp,v] w λu w'=>∃x:Value×List Held,u=.tuple #[x.1,I (dX cols p l).2]/\x.2.map (·.2)=(dX cols p l).1/\Turn noB (dR x.1 x.2) w w':=
  oW hc (by have:=C.cs;omega) hp hl C.fit.1 C.fit.2 (by have:=C.outs;omega) (by have:=C.wh;omega) (λo ho=>by have:=C.st o ho;omega) zI hn hT
end
section
variable {cols:List bL} {p:aZ} {T l:List aH}
theorem Ch (fq:(bQ cols p).2=0) (hv:mg p T):nW T.length (dK p.group p.cols.length T).1:=by
 have Un:=qG fq;exact BU Un.2.1 Un.2.2.2 λx hx=>(hv.items x hx).2.1
theorem J5 (hf:iR p) (zI: ∀x∈l,bR x) (hn:l.length<=100):nW l.length (dX cols p l).1:=by
 unfold dX
 split
 .exact xQ _
 rename_i fq
 split
 .exact xQ _
 rename_i ha;have h:=oV (cols:=cols) (holds_nil p) hf.2 zI (by simpa using hn);refine(Ch (Decidable.of_not_not fq) h).mono ?_;unfold dw
 split
 .have:=uP (cols:=cols) (p:=p) l
  simpa using this
 simp
end
section
variable {w w0:Wd} {S:NP} {rs:List HP} {put:HP->List HP} {a b l:List aH} {v va vb:Value} {k m:Nat}
theorem lT {L:List Held} (H:Mw.Sep w0 S (dR v L::rs) w): ∃A c,v=.slice A L.length c:=by
 obtain⟨A,c,e,_,_⟩:=Sep.eO H.dG At0;exact⟨A,c,by rw[e,eU,zae]⟩
end
section
variable {w:Wd}
end
open Go.ChangeShapes Go.WideShapes Go.RowKit Go.Proofs.Tryz
section
variable {H:Type} {enc:Td×Value->H} {W:Wd} {r:Reach} {base:Nat} {v:Value} {d:DataW H} {ps:List MemPlace}
theorem q8 {n:Nat} {cs:LV} {y:DataW H×List MemPlace} (hl:cs.length=2) (hc:DataW.trod enc prog W 0 (λ_=>true) true n 50 cs=some y): ∃x:dJ,cs=bD x:=by
 have hf:=eT underlying50 kR hc kR hl;obtain⟨v0,_,_,rD,h0⟩:=hf 0 _ rfl;obtain⟨v1,_,_,rX,h1⟩:=hf 1 _ rfl;obtain⟨m,hm,_,_⟩:=DataW.trod_int underlying3 h0;obtain⟨b,hb,_⟩:=DataW.trod_bool underlying4 h1;injection hb with hb _
 injection hm with hm _
 subst hb hm
 match cs,hl with
 | [c0,c1],_=>
  simp at rD rX;subst rD rX;exact⟨⟨m,b⟩,rfl⟩
theorem q9 {n:Nat} {cs:LV} {y:DataW H×List MemPlace} (hl:cs.length=3) (hc:DataW.trod enc prog W 0 (λ_=>true) true n 92 cs=some y): ∃x:bJ,cs=aD x/\fits x.n:=by
 have hf:=eT underlying92 kR hc kR hl;obtain⟨v0,_,_,rD,h0⟩:=hf 0 _ rfl;obtain⟨v1,_,_,rX,h1⟩:=hf 1 _ rfl;obtain⟨v2,_,_,Jd,h2⟩:=hf 2 _ rfl;obtain⟨b,hb,_,_⟩:=DataW.trod_int underlying3 h0;obtain⟨m,hm,_,wm⟩:=DataW.trod_int underlying2 h1;obtain⟨s,hs,_⟩:=DataW.trod_string underlying9 h2;injection hb with hb _
 injection hm with hm _
 injection hs with hs _
 subst hb hm hs
 match cs,hl with
 | [c0,c1,c2],_=>
  simp at rD rX Jd;subst rD rX Jd;refine⟨⟨b,m,s.data.toList⟩,?_,BX rfl wm⟩;rw[oZ];rfl
theorem uo {n:Nat} {cs:LV} {y:DataW H×List MemPlace} (hl:cs.length=7) (hc:DataW.trod enc prog W 0 (λ_=>true) true n 54 cs=some y): ∃x:bL,cs=aR x:=by
 obtain⟨ys,n',_,_,_,hyl,hf⟩:=DataW.trod_struct underlying54 hc;have hy: ∀j,j<4->∃z,ys[j]? =some z:=λj hj=>⟨_,zaa (by rw[hyl];exact hj)⟩;obtain⟨z0,e0⟩:=hy 0 dC;obtain⟨z1,e1⟩:=hy 1 dC;obtain⟨z2,e2⟩:=hy 2 dC;obtain⟨z3,e3⟩:=hy 3 dC;have h0:DataW.trod enc prog W 0 (λ_=>true) true n' 3 ((cs.drop 0).take (prog.cellsOf 3))=some z0:=(hf 0 _ rfl).trans e0;have h1:DataW.trod enc prog W 0 (λ_=>true) true n' 9 ((cs.drop 1).take (prog.cellsOf 9))=some z1:=(hf 1 _ rfl).trans e1;have h2:DataW.trod enc prog W 0 (λ_=>true) true n' 50 ((cs.drop 2).take (prog.cellsOf 50))=some z2:=(hf 2 _ rfl).trans e2;have h3:DataW.trod enc prog W 0 (λ_=>true) true n' 52 ((cs.drop 4).take (prog.cellsOf 52))=some z3:=(hf 3 _ rfl).trans e3;have c0:prog.cellsOf 3=1:=kR;have c1:prog.cellsOf 9=1:=kR;have c2:prog.cellsOf 50=2:=kR;have c3:prog.cellsOf 52=3:=kR
 match cs,hl with
 | [a0,a1,a2,a3,a4,a5,a6],_=>
  rw[c0]at h0;rw[c1]at h1;rw[c2]at h2;rw[c3]at h3;obtain⟨i,hi,_,_⟩:=DataW.trod_int (cs:=[a0]) underlying3 h0;obtain⟨s,hs,_⟩:=DataW.trod_string (cs:=[a1]) underlying9 h1;obtain⟨t,ht⟩:=q8 (cs:=[a2,a3]) rfl h2;obtain⟨c,Qw,_⟩:=xR (cs:=[a4,a5,a6]) rfl h3;refine⟨⟨i,s.data.toList,t,c⟩,?_⟩;have ha:[a0,a1,a2,a3,a4,a5,a6]=[a0]++[a1]++[a2,a3]++[a4,a5,a6]:=rfl;rw[ha,hi,hs,ht,Qw,oZ];rfl
theorem ru (hv:Value.okWide prog W r base 22 v) (h:DataW.Trod enc prog W 0 (λ_=>true) true 22 v d ps): ∃l:List bL,aM W v aR 7 l:=by
 obtain⟨A,c,l,rfl,h1,h2,h3,h4⟩:=qY (f:=aR) (good:=λ_:bL=>True) (s:=7) underlying22 kR (λ_=>rfl) (λn cs y hl hc=>(uo hl hc).imp λ_ h=>⟨h,trivial⟩) hv h;exact⟨l,iO h1 h2 h3⟩
end
theorem qh {W:Wd}: ∀r:List (L8×Value),(∀x∈r,∃l,aM W x.2 aD 3 l/\bK l)->∃cols:List jL,nI W r cols/\∀o∈cols,bK o.steps
 | [],_=>⟨[],nI.nil,λo h=>zat h zaj⟩
 | x::r,h=>by
  obtain⟨l,hl,hf⟩:=h x zah;obtain⟨cols,⟨h1,h2⟩,hc⟩:=qh r λy hy=>h y (zai _ hy);refine⟨⟨x.1,l⟩::cols,⟨by rw[zax,zax,h1],λi y o hy ho=>?_⟩,λo ho=>?_⟩
  .cases i with
   | zero=>
    rw[zbp]at hy ho;injection hy with hy
    injection ho with ho
    subst hy ho;exact hl
   | succ i=>exact h2 i y o hy ho
  rcases zap.1 ho with e | e
  .subst e;exact hf
  exact hc o e
section
variable {H:Type} {enc:Td×Value->H} {W:Wd} {r:Reach} {base:Nat} {v:Value} {d:DataW H} {ps:List MemPlace}
theorem nT {n0:Nat} {y:DataW H×List MemPlace} (h:DataW.trod enc prog W 0 (λ_=>true) true n0 23 [v]=some y): ∃l:List bJ,aM W v aD 3 l/\bK l:=by
 obtain⟨A,c,l,rfl,h2,h3,h4,h5⟩:=iy (f:=aD) (good:=λx:bJ=>fits x.n) (s:=3) underlying23 kR (λ_=>rfl) (λn cs y hl hc=>q9 hl hc) h;exact⟨l,iO h2 h3 h4,h5⟩
theorem uq {n:Nat} {cs:LV} {y:DataW H×List MemPlace} (hl:cs.length=2) (hc:DataW.trod enc prog W 0 (λ_=>true) true n 94 cs=some y): ∃x:L8×Value,cs=bZ x/\∃l,aM W x.2 aD 3 l/\bK l:=by
 have hf:=eT underlying94 kR hc kR hl;obtain⟨v0,_,_,rD,h0⟩:=hf 0 _ rfl;obtain⟨v1,_,_,rX,h1⟩:=hf 1 _ rfl;obtain⟨s,hs,_⟩:=DataW.trod_string underlying9 h0;obtain⟨l,hr,Fy⟩:=nT h1;injection hs with hs _
 subst hs
 match cs,hl with
 | [c0,c1],_=>
  simp only[zbp,zby,Option.some.injEq]at rD rX;subst rD rX;exact⟨(s.data.toList,c1),by rw[oZ s];rfl,l,hr,Fy⟩
theorem xK {n0:Nat} {y:DataW H×List MemPlace} (h:DataW.trod enc prog W 0 (λ_=>true) true n0 24 [v]=some y): ∃l:List jL,zO W v l/\∀o∈l,bK o.steps:=by
 obtain⟨A,c,q,rfl,h2,h3,h4,h5⟩:=iy (f:=bZ) (good:=λx:L8×Value=>∃l,aM W x.2 aD 3 l/\bK l) (s:=2) underlying24 kR (λ_=>rfl) (λn cs y hl hc=>uq hl hc) h;obtain⟨cols,hr,hf⟩:=qh q h5;exact⟨cols,⟨q,iO h2 h3 h4,hr⟩,hf⟩
theorem rz (hv:Value.okWide prog W r base 26 v) (h:DataW.Trod enc prog W 0 (λ_=>true) true 26 v d ps): ∃p:aZ,eG W v p/\iR p:=by
 obtain⟨cs,rfl,zV⟩:=okWide_struct underlying26 hv;have hc:prog.cellsOf 26=3:=kR;rw[hc]at zV;obtain⟨fuel,hfu⟩:=h;obtain⟨l⟩:=cs
 match l,zV with
 | [a,b,c],_=>
  have hf:=eT underlying26 kR hfu kR rfl;obtain⟨v0,_,_,rD,h0⟩:=hf 0 _ rfl;obtain⟨v1,_,_,rX,h1⟩:=hf 1 _ rfl;obtain⟨v2,_,_,Jd,h2⟩:=hf 2 _ rfl;have e0:some a=some v0:=rD;have e1:some b=some v1:=rX;have e2:some c=some v2:=Jd;injection e0 with e0
  injection e1 with e1
  injection e2 with e2
  subst e0 e1 e2;obtain⟨wh,hw,hwf⟩:=nT h0;obtain⟨cols,ho,ZP⟩:=xK h1;obtain⟨g,hg,_,_⟩:=DataW.trod_int underlying3 h2;injection hg with hg _
  subst hg;exact⟨⟨wh,cols,g⟩,⟨a,b,rfl,hw,ho⟩,hwf,ZP⟩
end
section
variable {H:Type} {enc:Td×Value->H} {W:Wd} {r:Reach} {base:Nat} {v:Value} {d:DataW H} {ps:List MemPlace}
theorem uw {n0:Nat} {y:DataW H×List MemPlace} (h:DataW.trod enc prog W 0 (λ_=>true) true n0 27 [v]=some y): ∃l:List aH,cZ W v l/\∀x∈l,bR x:=by
 obtain⟨A,c,q,rfl,h2,h3,h4,h5⟩:=iy (f:=av) (good:=λx:Value×Int=>(∃l,aM W x.1 aj 3 l/\jX l)/\fits x.2) (s:=2) underlying27 kR (λ_=>rfl) (λn cs y hl hc=>xS hl hc) h;obtain⟨l,hr,hf⟩:=yK q h5;exact⟨l,⟨q,iO h2 h3 h4,hr⟩,hf⟩
theorem PI (hv:Value.okWide prog W r base 79 v) (h:DataW.Trod enc prog W 0 (λ_=>true) true 79 v d ps): ∃(va vb:Value) (la lb:List aH),v=agg [va,vb]/\(cZ W va la/\cZ W vb lb)/\(∀x∈la,bR x)/\∀x∈lb,bR x:=by
 have Kh:=hv;simp only[Value.okWide,underlying79]at Kh;obtain⟨cs,rfl,zV,_⟩:=Kh;have hc:prog.cellsOf 79=2:=kR;have Je:prog.cellsOf 27=1:=kR;rw[hc]at zV;obtain⟨fuel,hfu⟩:=h;obtain⟨l⟩:=cs
 match l,zV with
 | [a,b],_=>
  obtain⟨xs,m,_,_,_,hxl,hx⟩:=DataW.trod_array underlying79 hfu;have h0:=hx 0 dC;have h1:=hx 1 dC;rw[Je]at h0 h1;have g0:xs[0]? =some (xs[0]'oM):=zaa _;have g1:xs[1]? =some (xs[1]'oM):=zaa _;obtain⟨la,ha,haf⟩:=uw (v:=a) (h0.trans g0);obtain⟨lb,hb,hbf⟩:=uw (v:=b) (h1.trans g1);exact⟨a,b,la,lb,rfl,⟨ha,hb⟩,haf,hbf⟩
end
theorem Ci {w:Wd} {vw vq:Value} {p:aZ} {g:Int} (g':Int) (h:eG w (agg [vw,vq,I g]) p):eG w (agg [vw,vq,I g']) ⟨p.wh,p.cols,g'⟩:=by
 obtain⟨vw1,vc1,e,h1,h2⟩:=h;injection e with e
 simp at e;obtain⟨rfl,rfl,_⟩:=e;exact⟨_,_,rfl,h1,h2⟩
theorem PK {cols:List bL} {p:aZ} {l:List aH}:isZ (dX cols p l).1:=by
 have h0:isZ ([]:List aH):=⟨List.Pairwise.nil,λx hx=>zat hx zaj,λx hx=>zat hx zaj⟩;unfold dX
 split
 .exact h0
 split
 .exact h0
 by_cases h:(dK p.group p.cols.length (dw cols p [] l)).2=0
 .exact yS h
 dsimp only;rw[Xp h];exact h0
section
variable {w:Wd}
set_option maxHeartbeats 2000000 in
theorem YV {cols:List bL} {p:aZ} {la lb:List aH} {vc v va vb:Value} (hc:aM w vc aR 7 cols) (hp:eG w v p) (Kj:iR p) (ha:cZ w va la) (hb:cZ w vb lb) (haf: ∀x∈la,bR x) (hbf: ∀x∈lb,bR x) (hT:fA w):aN Tryz.prog 9 [vc,v,agg [va,vb]] w λv' w'=>v'=.bool true/\Kept noB w w':=by
 have H:=Sep.aL w;obtain⟨A0,a0,B0,b0,rfl⟩:=mE hp;have C0:=xJ cols Kj;have nU: ∀wx,Kept noB w wx->fA wx:=λwx h=>hT.keep h;obtain⟨Ra,hRa⟩: ∃Ra,Ra=jf la:=⟨_,rfl⟩;obtain⟨Rb,hRb⟩: ∃Rb,Rb=jf lb:=⟨_,rfl⟩;have ZF:=oG haf;have ZG:=oG hbf;have hac:=oF la;have hbc:=oF lb;rw[<-hRa]at ZF hac;rw[<-hRb]at ZG hbc;obtain⟨co,hco⟩: ∃co,co=cols.take 12:=⟨_,rfl⟩;obtain⟨pc,rY⟩: ∃pc,pc=fJ p:=⟨_,rfl⟩;rw[<-hco,<-rY]at C0;obtain⟨pd,rC⟩: ∃pd:aZ,pd=⟨pc.wh,pc.cols, -1⟩:=⟨_,rfl⟩;have C:yZ co pd:=by subst rC;exact⟨C0.fit,C0.cs,C0.outs,C0.wh,C0.st⟩
 have hg:pd.group<0:=by subst rC;exact(by decide:(-1:Int)<0)
 have sa:=J5 (cols:=co) C.fit ZF oM;have sb:=J5 (cols:=co) C.fit ZG oM;refine tH Tryz.func9 rfl rfl rfl rfl ?_;refine Sr (dz H (cs:=[.slice A0 p.wh.length a0,.slice B0 p.cols.length b0,I p.group]) rfl (h:=λb4 w2 H2 k1=>?_));refine dz H2 (cs:=[va,vb]) rfl (h:=λb5 w4 H4 k3=>?_);refine Zb1 ?_;refine Ds (λiI w8 H8=>?_);refine Zb1 ?_;refine nC iI 2 H8 (h:=?_);refine dL iI 1 [(2,false)] H8 (qN (hc.keep H8.kept)) (h:=λx1 wa _ Ha ka=>⟨aO Ha (h:=aK),?_⟩);rw[<-hco]at Ha;refine dL iI 3 _ Ha (pF (hp.keep Ha.kept)) (h:=λx2 wb _ Hb kb=>?_);rw[<-rY]at Hb;obtain⟨W2,c2,Z2,e2,rfl⟩:=mE (Sep.sees Hb At0);refine⟨sT,?_⟩;refine yP iI 4 _ (h:=⟨sT,?_⟩);refine eH iI 5 _ Hb (us:=[.slice W2 pc.wh.length c2,.slice Z2 pc.cols.length e2,I pc.group]) (h:=λwc Hc=>⟨sT,?_⟩);refine Zb1 ?_;refine bM Hc (h:=λwd Hd=>?_);refine Zb0 ?_;refine Ds (λSa we He=>?_);refine Zb2 ?_;refine Gp Sa 2 rfl rfl (λ_=>(Gives.Bv (i:=0) rfl rfl oM)) (Zb1 ?_);refine dL Sa 4 [(1,false),(0,true)] He (rO (ha.keep He.kept)) (h:=λx3 wf hx3 Hf kc=>⟨aO Hf (h:=ah (aK)),?_⟩);rw[<-hRa]at hx3;have hP:eG wf (agg [.slice W2 pc.wh.length c2,.slice Z2 pc.cols.length e2,I (-1)]) pd:=by rw[rC];exact Ci (-1) (Sep.sees Hf At1)
 refine dL Sa 5 _ Hf (lX (l:=Ra) C (lu Hf At2) hP (hx3▸dn Hf At0) ZF oM (nU _ Hf.kept)) (h:=λx7 wg hx7 Hg kd=>?_);obtain⟨A7,c7,hv7⟩:=lT Hg;obtain⟨v7,L7⟩:=x7;dsimp only at hv7 hx7 Hg;subst hv7;refine⟨sT,?_⟩;refine Zb5 ?_;refine Ds (λSb wi Hh=>?_);refine Zb2 ?_;refine Gp Sb 2 rfl rfl (λ_=>(Gives.Bv (i:=1) rfl rfl oM)) (Zb1 ?_);refine dL Sb 4 [(1,false),(0,true)] Hh (rO (hb.keep Hh.kept)) (h:=λx4 wj hx4 Hi ke=>⟨aO Hi (h:=ah (aK)),?_⟩);rw[<-hRb]at hx4;have hP2:eG wj (agg [.slice W2 pc.wh.length c2,.slice Z2 pc.cols.length e2,I (-1)]) pd:=by rw[rC];exact Ci (-1) (Sep.sees Hi At3)
 refine dL Sb 5 _ Hi (lX (l:=Rb) C (lu Hi At4) hP2 (hx4▸dn Hi At0) ZG oM (nU _ Hi.kept)) (h:=λx9 wk hx9 Hj kf=>?_);obtain⟨A9,c9,hv9⟩:=lT Hj;obtain⟨v9,L9⟩:=x9;dsimp only at hv9 hx9 Hj;subst hv9;refine⟨sT,?_⟩;refine Zb8 ?_;refine aC (t:=40) rfl (λSc=>?_) (λSc=>?_)
 .refine Zb4 ?_
  refine aC (t:=46) rfl (λSd=>?_) (λSd=>?_)
  .refine Zb5 ?_
   refine aC (t:=54) rfl (λSe=>?_) (λSe=>?_)
   .refine Zb3 ?_
    refine aF Hj (iH (nU _ Hj.kept)) (h:=λwl Hk kg=>?_);refine Zb2 ?_;exact⟨rfl,Hk.kept⟩
   rw[uT Se]at hx9;obtain rfl :L9=[]:=zcx.1 hx9;refine Zb6 ?_;refine aC (t:=60) rfl (λSf=>?_) (λSf=>?_)
   .refine On (aF Hj (iH (nU _ Hj.kept)) (h:=λwm Hl kh=>?_))
    refine Zb2 ?_;exact⟨rfl,Hl.kept⟩
   exact aB Sf
  rw[uT Sd]at hx7;obtain rfl :L7=[]:=zcx.1 hx7;refine Zb5 ?_;refine aC (t:=51) rfl (λSg=>?_) (λSg=>?_)
  .refine Zb3 ?_
   refine aC (t:=54) rfl (λSh=>?_) (λSh=>?_)
   .refine Zb3 ?_
    refine aF Hj (iH (nU _ Hj.kept)) (h:=λwn Hm ki=>?_);refine Zb2 ?_;exact⟨rfl,Hm.kept⟩
   rw[uT Sh]at hx9;obtain rfl :L9=[]:=zcx.1 hx9;refine Zb6 ?_;refine aC (t:=60) rfl (λSi=>?_) (λSi=>?_)
   .refine On (aF Hj (iH (nU _ Hj.kept)) (h:=λwo Hn kj=>?_))
    refine Zb2 ?_;exact⟨rfl,Hn.kept⟩
   exact aB Si
  exact aB Sg
 have h8:(dX co pd Ra).2=0:=Decidable.of_not_not Sc;refine Za3 ?_;refine Qn (Cp rfl (λIa=>?_) (λIa=>?_))
 .refine Zb3 ?_
  refine aC (t:=46) rfl (λSj=>?_) (λSj=>?_)
  .refine Zb5 ?_
   refine aC (t:=54) rfl (λSl=>?_) (λSl=>?_)
   .refine Zb3 ?_
    refine aF Hj (iH (nU _ Hj.kept)) (h:=λwp Ho kk=>?_);refine Zb2 ?_;exact⟨rfl,Ho.kept⟩
   rw[uT Sl]at hx9;obtain rfl :L9=[]:=zcx.1 hx9;refine Zb6 ?_;refine aC (t:=60) rfl (λSm=>?_) (λSm=>?_)
   .refine On (aF Hj (iH (nU _ Hj.kept)) (h:=λwq Hp kl=>?_))
    refine Zb2 ?_;exact⟨rfl,Hp.kept⟩
   exact aB Sm
  rw[uT Sj]at hx7;obtain rfl :L7=[]:=zcx.1 hx7;refine Zb5 ?_;refine aC (t:=51) rfl (λSn=>?_) (λSn=>?_)
  .refine Zb3 ?_
   refine aC (t:=54) rfl (λSo=>?_) (λSo=>?_)
   .refine Zb3 ?_
    refine aF Hj (iH (nU _ Hj.kept)) (h:=λwr Hq km=>?_);refine Zb2 ?_;exact⟨rfl,Hq.kept⟩
   rw[uT So]at hx9;obtain rfl :L9=[]:=zcx.1 hx9;refine Zb6 ?_;refine aC (t:=60) rfl (λSp=>?_) (λSp=>?_)
   .refine On (aF Hj (iH (nU _ Hj.kept)) (h:=λws Hr kn=>?_))
    refine Zb2 ?_;exact⟨rfl,Hr.kept⟩
   exact aB Sp
  exact aB Sn
 have h10:(dX co pd Rb).2=0:=Decidable.of_not_not Ia;refine Zb2 ?_;refine dx Hj (agf (hx7▸dn Hj At2) (hx9▸dn Hj At0) sa sb oM oM PK PK) (h:=λx11 wt ZH Hw ko=>?_);have Hs:=Hw.bF.eF.bN.eF;rw[YU hg h8 h10]at ZH ⊢;refine Zb5 ?_;refine Ds (λSq wu Ht=>?_);refine Zb2 ?_;refine Gp Sq 2 rfl rfl (λ_=>(Gives.Bv (i:=0) rfl rfl oM)) (Zb1 ?_);refine Gp Sq 5 rfl rfl (λ_=>(Gives.Bv (i:=1) rfl rfl oM)) (Zb1 ?_);refine dL Sq 4 [(6,false),(5,true),(1,false),(0,true)] Ht (rO (ha.keep Ht.kept)) (h:=λx12 wv Ri Hu kp=>⟨aY Hu (h:=ah (aO Hu (h:=ah (aK)))),?_⟩);rw[<-hRa]at Ri;refine dL Sq 7 [(1,false),(0,true)] Hu (rO (hb.keep Hu.kept)) (h:=λx13 ww ZI Hv kq=>⟨aO Hv (h:=ah (aK)),?_⟩);rw[<-hRb]at ZI;have e12:=zaw List.length Ri;have e13:=zaw List.length ZI;rw[zae]at e12 e13;refine AA Sq 8 [(1,false),(0,true)] Hv oM (h:=λv14 wy Hx=>?_);have asV:(x12.2++x13.2).map (·.2)=Ra++Rb:=by rw[zam,Ri,ZI]
 refine⟨aO Hx (h:=ah (aK)),?_⟩;have hP3:eG wy (agg [.slice W2 pc.wh.length c2,.slice Z2 pc.cols.length e2,I (-1)]) pd:=by rw[rC];exact Ci (-1) (Sep.sees Hx At4)
 refine dL Sq 9 _ Hx (lX (l:=Ra++Rb) C (lu Hx At5) hP3 (asV▸dn Hx At0) (λy hy=>(zbh.1 hy).elim (ZF y) (ZG y)) (by rw[zad];omega) (nU _ Hx.kept)) (h:=λx15 wz asW Hy kr=>⟨sT,?_⟩);refine Zb9 ?_;refine aC (t:=85) rfl (λSs=>?_) (λSs=>?_)
 .refine Zb2 ?_
  refine aF Hy (nR (ZH▸dn Hy At2) (asW▸dn Hy At0)) (h:=λwD Hz ks=>?_);refine Zb2 ?_;refine aC (t:=90) rfl (λSu=>?_) (λSu=>?_)
  .refine On (aF Hz (iH (nU _ Hz.kept)) (h:=λwE HA kt=>?_))
   refine Zb2 ?_;exact⟨rfl,HA.kept⟩
  exact aB Su
 exact aB Ss
end
end Go.Proofs.YtkfpleidaoaonaaGreatDoor
