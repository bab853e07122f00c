/-
 Rules whose defaults do the plain steps of a walk:operations that give a value by themselves,and the ways between them.
-/
import Derived.Test.YtkfpleidaoaonaaGreatDoorNu1
import Derived.Test.YtkfpleidaoaonaaGreatDoorNu3
import Derived.Test.YtkfpleidaoaonaaGreatDoorNu12
import Derived.Test.YtkfpleidaoaonaaGreatDoorNu13
import Derived.Test.YtkfpleidaoaonaaGreatDoorNu7
import Derived.Test.YtkfpleidaoaonaaGreatDoorNu17
import Derived.Test.YtkfpleidaoaonaaGreatDoorNu14
import Derived.Test.YtkfpleidaoaonaaGreatDoorNu18
import Derived.Test.YtkfpleidaoaonaaGreatDoorNu21
import Derived.Test.YtkfpleidaoaonaaGreatDoorNu22
import Derived.Test.YtkfpleidaoaonaaGreatDoorNu26
import Derived.Test.YtkfpleidaoaonaaGreatDoorNu27
import Derived.Test.YtkfpleidaoaonaaGreatDoorNu9
import Derived.ChangeMaps5
set_option linter.unusedVariables false
set_option linter.unusedSimpArgs false
namespace Go.Mw
open Go
/-! Goals told by their kind. -/
section
variable {P:Program} {ρ:Od->Value} {ty:Td} {w w':Wd} {v:Value} {x y u:Od}
end
section
variable {P:Program} {r:Option Nat} {n:Nat} {ops:AO} {Q:Post} {rest:LO} {σ:St} {w:Wd} {ty:Td} {pos:String} {after:Array Edge} {guard:Option (Nat×Bool)} {lv:List Bool} {pd:LNB} {op:Op} {d:Nat} {v:Value}
/-! Regions that draw,the operations one behind the other. -/
section
variable {i:Nat}
end
end
/-! Goals of a walk told by their heads. -/
section
variable {P:Program} {r:Option Nat} {n:Nat} {ops:AO} {Q:Post} {l rest:LO} {σ:St} {w:Wd} {dst:Option Nat} {op:Op} {ty:Td} {pos:String} {after:Array Edge} {g:Nat×Bool} {d i:Nat} {c:Code} {x y z:Od} {T:Td} {lv:List Bool} {pd:LNB}
end
theorem VZ {p q:Prop} (hq:q) (h:Bx q->p:=by intro h;(iterate 14 (first | refine Xs ?_ | (refine Xg ?_;refine Xs ?_)));refine Xg ?_;exact h.g):p:=h ⟨hq⟩
end Go.Mw
namespace Go.Mw
open Go.RowKit
section
variable {P:Program} {r:Option Nat} {n:Nat} {ops:AO} {Q:Post} {rest:LO} {σ:St} {w w0:Wd} {S:NP} {rs:List HP} {put:HP->List HP} {ty:Td} {pos:String} {after:Array Edge}
variable {α:Type} {enc:α->LV} {k e c:Nat} {l:List α} {A:OA}
end
end Go.Mw
namespace Go.Proofs.YtkfpleidaoaonaaGreatDoor
open Go Go.Mw Go.Lib
set_option maxRecDepth 4000
def dM (x:bJ):bJ:=⟨x.kind,x.n,x.s.take 1100⟩
theorem jY (s:L8) (k:Nat):s.take (s.take k).length=s.take k:=by
 rw[zag]
 by_cases h:k<=s.length
 .rw[zck h]
 rw[zfg oM,zbl,zaf oM]
section
variable {w:Wd}
end
end Go.Proofs.YtkfpleidaoaonaaGreatDoor
namespace Go.Proofs.YtkfpleidaoaonaaGreatDoor
open Go Go.Lib Go.Mw
set_option maxRecDepth 4000
theorem PL {sums:Nat} {a b:List dH} (h: ∀k i,i<=sums->lH a k i=lH b k i):lI sums a=lI sums b:=by
 unfold lI;have hf:(λk=>decide (lH a k 0≠0))=λk=>decide (lH b k 0≠0):=funext λk=>by rw[h k 0 (zak _)]
 have hr:(λk=>(⟨Na sums a k,1⟩:aH))=λk=>⟨Na sums b k,1⟩:=funext λk=>by
  unfold Na;rw[zco λi hi=>by rw[h k i (by have:=zdl.1 hi;omega)]]
 rw[hf,hr,yh ((nL a).sublist zcv) ((nL b).sublist zcv) λk=>?_];simp only[zbw,decide_eq_true_eq];exact and_congr_left λhk=>⟨λ_=>sD hk,λ_=>sD (by rw[h k 0 (zak _)];exact hk)⟩
theorem PN {sums:Nat} {a b:List dH} (h: ∀k i,i<=sums->lH a k i=lH b k i):yX sums a=yX sums b:=by
 rw[zdj,tO,tO];exact⟨λhf k i hi=>by rw[<-h k i hi];exact hf k i hi,λhf k i hi=>by rw[h k i hi];exact hf k i hi⟩
theorem J3 {keys sums:Nat} {l:List dH} (h: ∀x∈l,x.key.length=keys) (r:List aI):wtL (lI sums l) r=0\/wtL (lI sums l) r=1:=by
 by_cases hm: ∃x∈lI sums l,x.row=r
 .obtain⟨x,hx,rfl⟩:=hm
  rw[Eo (oP (Ag h).1) x hx];unfold lI at hx;obtain⟨k,_,rfl⟩:=zaq.1 hx;exact .inr rfl
 exact .inl (uU λx hx e=>hm ⟨x,hx,e⟩)
theorem yS {g:Int} {n:Nat} {T:List aH} (h:(dK g n T).2=0):isZ (dK g n T).1:=by
 by_cases hg:g<0
 .unfold dK;rw[zac hg];exact qE
 rw[jS hg h];exact Ag (nM ((lK hg).1 h).1)
theorem GU {g:Int} {n:Nat} {T m:List aH} (hg: ¬g<0) (hT:(dK g n T).2=0):(jd g n T m).2=(dK g n (T++m)).2:=by
 unfold jd
 split
 .rfl
 rename_i h1;have h1:=zbt.1 h1;rw[h1,En];intro r;rw[gF,KE,jS hg h1,jS hg hT]
 rcases J3 (sums:=n-g.toNat) (nM ((lK hg).1 h1).1) r with e1 | e1<;>rcases J3 (sums:=n-g.toNat) (nM ((lK hg).1 hT).1) r with e2 | e2<;>(dsimp only;rw[e1,e2];decide)
theorem akq {T U:List aH} (h:T.Perm U) (r:List aI):wtL T r=wtL U r:=by
 induction h with
 | nil=>rfl
 | cons x _ ih=>rw[wtL,wtL,ih]
 | swap x y l=>rw[wtL,wtL,wtL,wtL];omega
 | trans _ _ ih1 ih2=>rw[ih1,ih2]
theorem aiq {T U:List dH} (h:T.Perm U) (k:List aI) (i:Nat):lH T k i=lH U k i:=by
 induction h with
 | nil=>rfl
 | cons x _ ih=>rw[lH,lH,ih]
 | swap x y l=>simp only[lH];omega
 | trans _ _ ih1 ih2=>rw[ih1,ih2]
theorem TY {g:Int} {n:Nat} {T U:List aH} (h:T.Perm U):dK g n T=dK g n U:=by
 have hw:=akq h;have ht:=aiq (h.map (fE g.toNat))
 have ha:(T.all λx=>xB g.toNat (n-g.toNat) (fE g.toNat x))=U.all λx=>xB g.toNat (n-g.toNat) (fE g.toNat x):=by
  rw[zdj,zaz,zaz];exact⟨λhx x hm=>hx x (h.mem_iff.2 hm),λhx x hm=>hx x (h.mem_iff.1 hm)⟩
 unfold dK;rw[qD hw,ha,PN λk i _=>ht k i,PL λk i _=>ht k i]
open Go.Proofs.Tryz
attribute [local irreducible] FW FL FG FGn gu gy dh gH Qfn Gives
section
variable {w:Wd}
theorem pq {a b:List aI} {va vb:Value} (ha:aM w va aj 3 a) (hb:aM w vb aj 3 b):aN prog 102 [va,vb] w λv' w'=>v'=.bool (decide (a=b))/\Kept noB w w':=by
 obtain⟨A,m,rfl,⟨hm,qo⟩,hA⟩:=ha;obtain⟨B,n,rfl,⟨hn,Zp⟩,hB⟩:=hb;have H:=Sep.aL w;refine dS func102 rfl rfl rfl rfl ?_;refine Za6 ?_;refine Qn (Cp rfl (λqx=>?_) (λqx=>?_))
 .have iF:=qx
  refine Zb1 ?_;exact⟨zaw Value.bool (Eq.symm (zar λe=>iF (by rw[e]))),H.kept⟩
 have hlen:a.length=b.length:=oM;refine Zb3 ?_;refine aP (λi:Nat=>[(0,.slice A a.length m),(1,.slice B b.length n),(12,I a.length),(13,I i)]) (λi w'=>(i<=a.length/\a.take i=b.take i)/\Sep w noB [] w') (λi _=>a.length-i) 0 tR ⟨⟨zak _,sM⟩,H⟩ (λi τ wa hI=>?_);obtain⟨⟨hi,gQ⟩,Ha⟩:=hI
 try simp only[dA,like,bB,bY]
 refine Za1 ?_;refine Qn (fC (Cp rfl (λIa=>?_) (λIa=>?_)))
 .have bX:i<a.length:=oM
  obtain⟨x,hx⟩:=get_some bX;obtain⟨y,hy⟩:=get_some (l:=b) (i:=i) oM;refine Zb2 ?_;refine Ds (λSa wb Hb=>?_);refine Zb8 ?_;refine Gp Sa 8 rfl rfl (λ_=>(Gives.Yt (enc:=aj) _ _ rfl rfl)) (dP Sa kR ?_);refine aU (Cp rfl (λIb=>?_) (λIb=>?_))
  .have Ka:=Ib
   refine Zb1 ?_;exact⟨zaw Value.bool (Eq.symm (zar λe=>Ka (by rw[e,hy]at hx;injection hx with hx;exact hx.symm))),Hb.kept⟩
  have Ka:x=y:=zbt.1 Ib;have Jb:a.take (i+1)=b.take (i+1):=by rw[zav,zav,gQ,hx,hy,Ka]
  refine Zb2 ?_;exact ak (i+1) tR ⟨⟨oM,Jb⟩,Hb⟩ oM
 have qp:i=a.length:=oM;have Ql:a=b:=by rw[qp,zbl,hlen,zbl]at gQ;exact gQ
 refine Zb1 ?_;exact⟨zaw Value.bool (Eq.symm (zbe Ql)),Ha.kept⟩
theorem pz {a b:List aI} {va vb:Value} (ha:aM w va aj 3 a) (hb:aM w vb aj 3 b):aN prog 62 [va,vb] w λv' w'=>v'=.bool (decide (a=b))/\Kept noB w w':=by
 have H:=Sep.aL w;refine dS func62 rfl rfl rfl rfl ?_;refine Zb3 ?_;refine aF H (pq ha hb) (h:=λw5 H5 k4=>?_);refine Zb1 ?_;exact⟨rfl,H5.kept⟩
end
section
variable {w:Wd}
theorem uh {a b:List aI} {va vb:Value} {n m:Int} (ha:aM w va aj 3 a) (hb:aM w vb aj 3 b):aN Tryz.prog 61 [agg (av (va,n)),agg (av (vb,m))] w λu w'=>u=.bool (decide (n=m/\a=b))/\Kept noB w w':=by
 have H:=Sep.aL w;refine dS Tryz.func61 rfl rfl rfl rfl ?_;refine Sr (dz H (cs:=av (va,n)) rfl (h:=λb2 w2 H2 k1=>?_));refine dz H2 (cs:=av (vb,m)) rfl (h:=λb3 w4 H4 k3=>?_);refine Zb7 ?_;refine aC (t:=10) rfl (λSa=>?_) (λSa=>?_)
 .refine Zb4 ?_
  refine aF H4 (pz (ha.keep H4.kept) (hb.keep H4.kept)) (h:=λwa Ha ka=>?_);refine Zb2 ?_;exact⟨by simp only[*,zfq,false_and,decide_false,fH]<;>rfl,Ha.kept⟩
 refine Zb2 ?_;exact⟨by simp only[*,zfq,false_and,decide_false,fH]<;>rfl,H4.kept⟩
end
end Go.Proofs.YtkfpleidaoaonaaGreatDoor
namespace Go.Mw
end Go.Mw
namespace Go.Proofs.YtkfpleidaoaonaaGreatDoor
open Go Go.Mw Go.Lib
set_option maxRecDepth 4000
attribute [local irreducible] FW FL FG FGn gu gy dh gH Qfn Gives
section
variable {w:Wd}
theorem pE {l m:List aH} {va vb:Value} (hl:cZ w va l) (hm:cZ w vb m):
    aN Tryz.prog 60 [va,vb,.func (.func 61) #[] #[]] w λu w'=>u=.bool (decide (l=m))/\Kept noB w w':=by
  obtain⟨r,hr,gW⟩:=hl;obtain⟨s,hs,zW⟩:=hm;obtain⟨A,c,rfl,⟨hc,hc'⟩,hA⟩:=hr;obtain⟨B,d,rfl,⟨hd,hd'⟩,hB⟩:=hs;have xk:=gW.len;have Qi:=zW.len;have H:=Sep.aL w;refine tH Tryz.func60 rfl rfl rfl rfl ?_;refine Za6 ?_;refine Qn (Cp rfl (λqx=>?_) (λqx=>?_))
  . have iF: ¬l=m:=λe=>qx (by rw[xk,Qi,e])
    refine Zb1 ?_;exact⟨by rw[zar iF];rfl,H.kept⟩
  have hlen:r.length=s.length:=oM;refine Zb3 ?_;refine aP (λi:Nat=>[(0,.slice A r.length c),(1,.slice B s.length d),(2,.func (.func 61) #[] #[]),(15,.slice A r.length c),(16,I r.length),(17,I i)]) (λi w'=>(i<=r.length/\l.take i=m.take i)/\Mw.Sep w noB [] w') (λi _=>r.length-i) 0 tR ⟨⟨zak _,rfl⟩,H⟩ (λi τ wa hI=>?_);obtain⟨⟨hi,MS⟩,Ha⟩:=hI
  try simp only[dA,like,bB,bY]
  refine Za1 ?_;refine Qn (fC (Cp rfl (λIa=>?_) (λIa=>?_)))
  . have bX:i<r.length:=oM
    have Co:i<s.length:=oM;obtain⟨o,ho⟩:=get_some (l:=l) (show i<l.length from oM);obtain⟨p,hp⟩:=get_some (l:=m) (show i<m.length from oM);obtain⟨vo,Qp,Jg⟩:=gW.get ho;obtain⟨vp,hvp,Cm⟩:=zW.get hp;have gQ:=qW MS ho hp;have Qq:=Jg;have Wo:=Cm;obtain⟨Ao,co,rfl,_,_⟩:=Jg;obtain⟨Ap,cp,rfl,_,_⟩:=Cm;refine Zb3 ?_;refine aW Ha (h:=λb8 wb Hb ka=>?_);refine Am ?_;refine au Hb (h:=λwc Hc=>?_);refine Zb4 ?_;refine aW Hc (h:=λb9 wd Hd kb=>?_);refine au Hd (h:=λwe He=>?_);refine Zb3 ?_;refine fB (fs:=[]) (cs:=[]) (vals:=[agg (av (.slice Ao o.row.length co,o.w)),agg (av (.slice Ap p.row.length cp,p.w))]) rfl (uh (Qq.keep He.kept) (Wo.keep He.kept)) rfl rfl (λv' wf hv=>?_);obtain⟨rfl,kc⟩:=hv;have Hf:=He.keep kc;refine Vv (Gives.notP rfl) (Qn ?_);refine Cp rfl (λIb=>?_) (λIb=>?_)
    . have iF: ¬l=m:=λe=>Ib (qc.2 (gQ.1 (by rw[e])))
      refine Zb1 ?_;exact⟨by rw[zar iF];rfl,Hf.kept⟩
    have Jb:=gQ.2 (qc.1 (Decidable.of_not_not Ib));refine Zb0 ?_;refine Vc ((i+1:Nat):Int) ?_;refine Zb1 ?_;exact ak (i+1) tR ⟨⟨oM,Jb⟩,Hf.eF.eF⟩ oM
  have jy:l=m:=by
    rw[zaf oM,zaf oM]at MS;exact MS
  refine Zb1 ?_;exact⟨by rw[zbe jy];rfl,Ha.kept⟩
theorem nR {l m:List aH} {va vb:Value} (hl:cZ w va l) (hm:cZ w vb m):aN Tryz.prog 29 [va,vb] w λu w'=>u=.bool (decide (l=m))/\Kept noB w w':=by
 have H:=Sep.aL w;refine dS Tryz.func29 rfl rfl rfl rfl ?_;refine Zb3 ?_;refine aF H (pE (hl.keep H.kept) (hm.keep H.kept)) (h:=λw5 H5 k4=>?_);refine Zb1 ?_;exact⟨rfl,H5.kept⟩
end
end Go.Proofs.YtkfpleidaoaonaaGreatDoor
namespace Go.Proofs.YtkfpleidaoaonaaGreatDoor
open Go Go.Lib Go.Mw
set_option maxRecDepth 4000
section
variable {cols:List bL} {p:aZ}
theorem abF {a b:List aH} (h:a.Perm b) (ha:(cB cols p a).2=0):(cB cols p b).2=0/\(cB cols p a).1.Perm (cB cols p b).1:=by
 induction h with
 | nil=>exact⟨rfl,List.Perm.nil⟩
 | cons x _ ih=>
  rw[cB]at ha ⊢;rw[cB]
  split at ha
  .rename_i h;exact zat ha h
  rename_i h1;rw[zab h1,zab h1]
  split at ha
  .rename_i h;exact zat ha h
  rename_i h2;obtain⟨i1,i2⟩:=ih (zbt.1 h2);rw[zab h2,zab (not_not_intro i1)]
  split
  .exact⟨rfl,i2.cons _⟩
  exact⟨rfl,i2⟩
 | swap x y l=>
  rw[cB,cB]at ha ⊢;rw[cB,cB]
  by_cases hy:(jm cols p y.row).2.2=0
  .rw[zab (not_not_intro hy)]at ha |-
   by_cases hx:(jm cols p x.row).2.2=0
   .rw[zab (not_not_intro hx)]at ha |-
    by_cases hl:(cB cols p l).2=0
    .simp only[hy,hx,hl,ne_eq,not_true_eq_false,if_false]
     cases hbx:(jm cols p x.row).2.1<;>cases hby:(jm cols p y.row).2.1<;>simp[hl,List.Perm.swap]
    simp[hl]at ha
   simp[hx]at ha
  simp[hy]at ha
 | trans _ _ ih1 ih2=>
  obtain⟨a1,a2⟩:=ih1 ha;obtain⟨b1,b2⟩:=ih2 a1;exact⟨b1,a2.trans b2⟩
theorem GV {m:List aH} (h:(dK p.group p.cols.length m).2=0):(jd p.group p.cols.length [] m).2=0:=by
 by_cases hg:p.group<0
 .unfold jd
  rw[zbr,zab (not_not_intro h),zac hg];unfold dK at h;rw[zac hg]at h;exact h
 rw[GU hg (by rw[Dg]),zbr];exact h
theorem Lp {l:List aH} (hc:(bQ cols p).2=0) (hi:(cB cols p l).2=0) (ht:(dK p.group p.cols.length (cB cols p l).1).2=0):dX cols p l=((dK p.group p.cols.length (cB cols p l).1).1,0):=by
 have ha:(dB cols p [] l).2=0:=by
  unfold dB;rw[zab (not_not_intro hi)];exact GV ht
 unfold dX dw;rw[zab (not_not_intro hc),zab (not_not_intro ha),zac ha,zbr]
/-! The pieces of the stage's theorem:all that were put in,all that were answered. -/
theorem aff:goodRun cols p ⟨[],[],[]⟩:=⟨rfl,rfl,by rw[Dg],λr=>by rw[Dg]⟩
theorem air {s:QJ} (h:goodRun cols p s):dY s.outs=((dK p.group p.cols.length s.T).1,0):=by
 rw[<-Af (yS h.2.2.1)];exact qD h.2.2.2
theorem PY {s:QJ} (hc:(bQ cols p).2=0) (h:goodRun cols p s) {l:List aH} (hp:s.all.Perm l):dX cols p l=((dK p.group p.cols.length s.T).1,0):=by
 obtain⟨i1,i2⟩:=abF hp h.1;rw[<-h.2.1]at i2;rw[Lp hc i1 (by rw[<-TY i2];exact h.2.2.1),<-TY i2]
/-! Items that are there and then not. -/
end
attribute [local irreducible] FW FL FG FGn gu gy dh gH Qfn Gives
section
variable {w:Wd} {F:NP}
theorem jZ {l:List bL} {v:Value} (hl:aM w v aR 7 l) (uH:l.length<=1000):aN Tryz.prog 33 [v] w λv' w'=>∃x,v'=x/\True/\Turn noB (bW 54 7 aR x l) w w':=by
 obtain⟨A,m,rfl,⟨hm,qo⟩,hA⟩:=hl;have H:=Sep.aL w;refine eP Tryz.func33 rfl rfl rfl rfl ?_;refine Zb4 ?_;have H6:=Sep.lZ H 54 7 aR;refine jW H6 At0 (hA.keep H.kept) (by unfold maxLen;simp;omega) (by simp;omega) (cells_one (λ_=>rfl) _) (h:=?_);intro v2 w6 H6;refine Zb1 ?_;exact⟨_,rfl,trivial,by rw[zbr]at H6;exact H6.turn⟩
end
end Go.Proofs.YtkfpleidaoaonaaGreatDoor
namespace Go.Proofs.YtkfpleidaoaonaaGreatDoor
open Go Go.Mw Go.Lib
set_option maxRecDepth 4000
section
variable {w0 w:Wd} {S:NP} {rs:List HP} {L M:List Held} {u v:Value}
end
section
variable {r:Option Nat} {n:Nat} {ops:AO} {Q:Post} {rest:LO} {σ:St} {w w0:Wd} {S:NP} {rs:List HP} {ty:Td} {pos:String} {after:Array Edge} {guard:Option (Nat×Bool)} {lv:List Bool} {pd:LNB} {L M:List Held} {u v:Value}
theorem abG {d:Nat} {x y:Od} (H:Mw.Sep w0 S (dR u M::dR v L::rs) w) (hn:L.length+M.length<=1000000) (hx:evF σ x=v:=by exact rfl) (hy:evF σ y=u:=by exact rfl) (hd:Nat.blt d n=true:=by exact rfl)
    (h: ∀v' w',Mw.Sep w0 S (dR v' (L++M)::rs) w'->FL Tryz.prog r n ops Q rest (upd σ d v') w'):
    FL Tryz.prog r n ops Q (⟨some d,.call {callee:=.builtin .append,args:= #[x,y],argTypes:= #[27,27]},ty,pos,after,none⟩::rest) σ w:=by
  obtain⟨v',w',hg,hs⟩:=FM (ty:=ty) H hx hy hn;exact dU hg hd (h v' w' hs)
end
attribute [local irreducible] FW FL FG FGn gu gy dh gH Qfn Gives
section
variable {w:Wd}
theorem qN {l:List bL} {v:Value} (hl:aM w v aR 7 l):aN Tryz.prog 14 [v] w λu w'=>∃x,u=x/\True/\Turn noB (bW 54 7 aR x (l.take 12)) w w':=by
 have G8:=hl;obtain⟨A,m,rfl,⟨hm,qo⟩,hA⟩:=hl;obtain⟨n,hn⟩: ∃n:Nat,n=min l.length 12:=⟨_,rfl⟩;have Ni:min (l.length:Int) 12=(n:Int):=oM
 have tF:l.take n=l.take 12:=by
  rcases Nat.le_total l.length 12 with h | h
  .rw[zaf oM,zaf h]
  rw[show n=12 from oM]
 have H:=Sep.aL w;refine eP Tryz.func14 rfl rfl rfl rfl ?_;refine Zb4 ?_;refine Vv (Gives.C8 rfl rfl Ni) (Vv (Gives.sliceTo (h:=n) rfl rfl oM) ?_);refine dx H (jZ (xM (m:=n) (G8.keep H.kept) oM) (by rw[zag];omega)) (h:=λx w8 _ H8 k7=>?_);rw[tF]at H8;refine Zb1 ?_;exact⟨_,rfl,trivial,H8.turn⟩
end
def bH (l:List bJ):List bJ:=(l.take 70).map dM
section
variable {w:Wd}
theorem iB {l:List bJ} {v:Value} (hl:aM w v aD 3 l):aN Tryz.prog 39 [v] w λv' w'=>∃x,v'=x/\True/\Turn noB (bW 92 3 aD x (bH l)) w w':=by
 obtain⟨A,m,rfl,⟨hm,qo⟩,hA⟩:=hl;have H:=Sep.aL w;refine eP Tryz.func39 rfl rfl rfl rfl ?_;refine Zb3 ?_;have H5:=Sep.lZ H 92 3 aD;refine aP (λx:Nat×Value=>[(0,.slice A l.length m),(3,x.2),(4,I x.1)]) (λx w'=>(x.1<=l.length/\x.1<=70)/\Mw.Sep w noB [bW 92 3 aD x.2 ((l.take x.1).map dM)] w') (λx _=>l.length-x.1) (0,.slice none 0 0) tR ⟨⟨zak _,zak _⟩,H5⟩ (λx τ w5 hI=>?_);obtain⟨i,v1⟩:=x;obtain⟨⟨hi,Wp⟩,H5⟩:=hI;dsimp only at hi Wp H5;have yV:((l.take i).map dM).length=i:=by rw[zae,zag];omega
 try simp only[dA,like,bB,bY]
 refine Zb5 ?_;refine aC (t:=10) rfl (λSa=>?_) (λSa=>?_)
 .have Qu:=Sa
  refine Za3 ?_;refine Qn (Cp rfl (λIa=>?_) (λIa=>?_))
  .have bX:i<l.length:=oM
   obtain⟨x,hx⟩:=get_some bX;have tF:(l.take (i+1)).map dM=(l.take i).map dM++[dM x]:=by rw[zav,hx,zam];rfl
   refine Zb4 ?_;refine aW H5 (h:=λb5 wa Ha ka=>?_);refine au Ha (h:=λwb Hb=>?_);refine Zb5 ?_;refine Vv (Gives.C8 rfl rfl (qA x.s 1100)) (Vv (Gives.lV (l:=x.s) (i:=(x.s.take 1100).length) rfl rfl (by rw[zag];omega)) ?_);rw[jY];refine Vf ?_;refine bM Hb (h:=λwc Hc=>?_);refine Zb1 ?_;refine iA Hc (cs:=aD (dM x)) (h:=?_);refine Bs Hc ([dM x].flatMap aD) (λbs wd Hd kb=>?_);refine gP Hd (news:=[dM x]) At1 (by rw[yV];unfold maxLen;simp;omega) (by rw[yV];show(i+1)*32<=_;omega) (cells_one (λ_=>rfl) _) (h:=?_);intro v2 we He;rw[<-tF]at He;refine Zb2 ?_;refine Vc ((i+1:Nat):Int) ?_;refine Zb1 ?_;exact ak (i+1,v2) tR ⟨⟨dO,dO⟩,(He.aJ).firsts (l:=[_])⟩ dO
  have jy:(l.take i).map dM=bH l:=by unfold bH;rw[show i=70 by have h:=Ia;omega]
  refine Zb2 ?_;exact⟨_,rfl,trivial,by rw[jy]at H5;exact H5.turn⟩
 have jy:(l.take i).map dM=bH l:=by unfold bH;rw[zaf (l:=l) (i:=i) (by have h:=Sa;omega),zaf (l:=l) (i:=70) (by have h:=Sa;omega)]
 refine Zb3 ?_;exact⟨_,rfl,trivial,by rw[jy]at H5;exact H5.turn⟩
end
def fV (o:jL):jL:=⟨o.name.take 40,bH o.steps⟩
def fJ (p:aZ):aZ:=⟨bH p.wh,(p.cols.take 18).map fV,p.group⟩
/-! A plan that is owned whole:L has each out beside the value of its steps. -/
abbrev jr:=Value×jL
def gK (L:List jr):List (L8×Value):=L.map λb=>(b.2.name,b.1)
abbrev uj (L:List jr):HP:=vH 92 3 aD (·.1) (λb=>b.2.steps) L
def zG (vw vc:Value) (s:List bJ) (L:List jr):HP:=star (bW 92 3 aD vw s) (star (bW 94 2 bZ vc (gK L)) (uj L))
theorem l7: ∀{L:List jr} {F:NP} {w:Wd},(uj L).ok F w->∀b∈L,aM w b.1 aD 3 b.2.steps
 | [],_,_,_=>λ_ h=>zat h zaj
 | b::L,F,w,h=>by
  obtain⟨F1,F2,_,_,h1,h2⟩:=h;intro c hc
  rcases zap.1 hc with rfl | hc
  .exact iE h1
  exact l7 h2 c hc
theorem um {F:NP} {w:Wd} {vw vc:Value} {s:List bJ} {L:List jr} (g:Int) (h:(zG vw vc s L).ok F w):eG w (agg [vw,vc,I g]) ⟨s,L.map (·.2),g⟩:=by
 obtain⟨F1,F2,_,_,h1,F3,F4,_,_,h2,h3⟩:=h;refine⟨vw,vc,rfl,iE h1,gK L,iE h2,?_,λi x o hx ho=>?_⟩
 .unfold gK
  rw[zcy,zcy];rfl
 unfold gK at hx;rw[zcf]at hx ho
 obtain⟨b,hb⟩: ∃b,L[i]? =some b:=by
  cases hb:L[i]? with
  | none=>rw[hb]at hx;cases hx
  | some b=>exact⟨b,rfl⟩
 rw[hb]at hx ho;injection hx with hx
 injection ho with ho
 subst hx;subst ho;exact l7 h3 b (zao hb)
section
variable {w:Wd}
theorem nS {p:aZ} {v:Value} (hp:eG w v p):aN Tryz.prog 15 [v] w λv' w'=>∃x:Value×Value×List jr,v'=agg [x.1,x.2.1,I p.group]/\x.2.2.map (·.2)=(fJ p).cols/\Turn noB (zG x.1 x.2.1 (fJ p).wh x.2.2) w w':=by
 obtain⟨vw,vc,rfl,hw,r,hr,gW⟩:=hp;obtain⟨A,m,rfl,⟨hm,qo⟩,hA⟩:=hr;obtain⟨W,mw,rfl,_,_⟩:=id hw;have xk:=gW.len;have H:=Sep.aL w;refine sI Tryz.func15 rfl rfl rfl rfl ?_;refine Sr (dz H (cs:=[.slice W p.wh.length mw,.slice A r.length m,I p.group]) rfl (h:=λb1 w2 H2 k1=>?_));refine aW H2 (h:=λb2 w4 H4 k3=>?_);refine Qn (iP (λz:Nat×OA×Nat=>[(1,aA b1),(2,aA b2),(3,aA z.1)]) (λz w'=>Mw.Sep w noB [bW 92 3 aD (.slice z.2.1 (bH p.wh).length z.2.2) (bH p.wh),blk z.1 [.slice z.2.1 (bH p.wh).length z.2.2,.slice none 0 0,I p.group] 26,blk b2 [.slice none 0 0,.slice none 0 0,I 0] 26,blk b1 [.slice W p.wh.length mw,.slice A r.length m,I p.group] 26] w') ?_ ?_)
 .refine Ds (λiI w8 H8=>?_)
  refine Zb2 ?_;refine Gp iI 3 rfl rfl (λ_=>(Gives.ou rfl)) (Zb1 ?_);refine jK iI (e1:=2) (e2:=6) kR ?_ ?_
  .refine l9 iI 2 [(4,false),(3,true)] H8 (iB (hw.keep H8.kept)) (h:=λvx wa _ Ha ka=>?_)
   obtain⟨X,cx,rfl,_,_⟩:=Sep.eO Ha At0;refine⟨aY Ha (h:=ah (aK)),?_⟩;refine Gb iI 5 [.slice X (bH p.wh).length cx,.slice none 0 0,I p.group] ?_;refine xE iI 6 [(5,true),(4,false),(3,true)] Ha (h:=λb3 wb Hb=>⟨ah (aY Hb (h:=ah (aK))),?_⟩);refine eH iI 7 _ Hb (h:=λwc Hc=>⟨sT,?_⟩);refine Zb0 ?_;exact aG (b3,X,cx) tR (by first | exact Hc | exact Hc.aJ)
  refine ni iI 6 [(4,false),(3,true),(1,false),(0,true)] H8 (h:=λb3 wd Hd=>⟨aY Hd (h:=ah (aY Hd (h:=ah (aK)))),?_⟩);refine dL iI 2 [(4,false),(3,true)] Hd (iB (hw.keep Hd.kept)) (h:=λvx we _ He kb=>?_);obtain⟨X,cx,rfl,_,_⟩:=Sep.eO He At0;refine⟨aY He (h:=ah (aK)),?_⟩;refine Gb iI 5 [.slice X (bH p.wh).length cx,.slice none 0 0,I p.group] ?_;refine eH iI 7 _ He (h:=λwf Hf=>⟨sT,?_⟩);refine Zb0 ?_;exact aG (b3,X,cx) tR (by first | exact Hf | exact Hf.aJ)
 rintro⟨b3,X,cx⟩ τ wg Hg;dsimp only at Hg;simp only[dA,like,bB,bY];refine Zb2 ?_;have Hh:=Sep.ET (Sep.lZ Hg 94 2 bZ) 92 3 aD (λb:jr=>b.1) (λb=>b.2.steps);refine aP (λx:Nat×(OA×Nat)×List jr=>[(1,aA b1),(2,aA b2),(3,aA b3),(4,.slice x.2.1.1 (gK x.2.2).length x.2.1.2),(5,I x.1)]) (λx w'=>(x.1<=r.length/\x.1<=18/\(gK x.2.2).length=x.1/\x.2.2.map (·.2)=(p.cols.take x.1).map fV)/\Mw.Sep w noB [uj x.2.2,bW 94 2 bZ (.slice x.2.1.1 (gK x.2.2).length x.2.1.2) (gK x.2.2),bW 92 3 aD (.slice X (bH p.wh).length cx) (bH p.wh),blk b3 [.slice X (bH p.wh).length cx,.slice none 0 0,I p.group] 26,blk b2 [.slice none 0 0,.slice none 0 0,I 0] 26,blk b1 [.slice W p.wh.length mw,.slice A r.length m,I p.group] 26] w') (λx _=>r.length-x.1) (0,(none,0),[]) tR ⟨⟨zak _,zak _,rfl,rfl⟩,Hh⟩ (λx τ wi hI=>?_);obtain⟨i,⟨C,cc⟩,q⟩:=x;obtain⟨⟨hi,Wq,Gd,Fg⟩,Hh⟩:=hI;dsimp only at hi Wq Gd Fg Hh
 try simp only[dA,like,bB]
 refine Zb6 ?_;refine aC (t:=17) rfl (λSa=>?_) (λSa=>?_)
 .have Qu:=Sa
  refine Za3 ?_;refine Qn (Cp rfl (λIa=>?_) (λIa=>?_))
  .have bX:i<p.cols.length:=oM
   obtain⟨vx,hx,Cq⟩:=gW.at bX;have rY:p.cols[i]? =some p.cols[i]:=zaa bX;obtain⟨o,ho⟩: ∃o,o=p.cols[i]:=⟨_,rfl⟩;rw[<-ho]at hx Cq rY;have tF:(p.cols.take (i+1)).map fV=(p.cols.take i).map fV++[fV o]:=by rw[zav,rY,zdd,zam];rfl
   refine Zb0 ?_;refine Ds (λSb wj Hi=>?_);refine VZ ?_;refine Gp Sb 14 rfl rfl (λ_=>(Gives.C8 rfl rfl (qA o.name 40))) (Gp Sb 15 rfl rfl (λ_=>(Gives.lV (l:=o.name) (i:=(o.name.take 40).length) rfl rfl (by rw[zag];omega))) ?_);refine Zb6 ?_;refine dL Sb 22 [(15,true),(14,true),(13,true),(12,false),(11,true),(10,true),(9,true),(8,false),(7,true),(6,false),(5,true),(4,true),(3,true),(2,false),(1,true),(0,true)] Hi (iB (Cq.keep Hi.kept)) (h:=λvy wk _ Hj kc=>?_);obtain⟨Y,cy,rfl,_,_⟩:=Sep.eO Hj At0;refine⟨ah (ah (ah ((dN rfl kR (Gives.iJ (f:=0) rfl Hj hA hx rfl) rfl (ah (ah (ah (aY Hj (h:=ah ((dN rfl kR (Gives.iJ (f:=0) rfl Hj hA hx rfl) rfl (ah (ah (ah (aY Hj (h:=ah (ah (aK)))))))))))))))))),?_⟩;refine Gb Sb 23 (bZ (o.name.take (o.name.take 40).length,.slice Y (bH o.steps).length cy)) ?_;refine bU Sb 24 _ Hj (xs:=[.tmp 46]) (out:=[(o.name.take (o.name.take 40).length,Value.slice Y (bH o.steps).length cy)].flatMap bZ) (bE.many rfl rfl bE.nil) (h:=λbs wl Hk=>⟨sT,?_⟩);rw[jY]at Hk;refine jN Sb 25 _ Hk (news:=[(o.name.take 40,Value.slice Y (bH o.steps).length cy)]) At2 (by unfold maxLen;simp;omega) (by simp;omega) (λu hu=>zaz.1 (show([(o.name.take 40,Value.slice Y (bH o.steps).length cy)].flatMap bZ).all Value.oneCell'=true from rfl) u hu) (h:=λv2 wm Hl=>?_);rw[show gK q++[(o.name.take 40,Value.slice Y (bH o.steps).length cy)]=gK (q++[(Value.slice Y (bH o.steps).length cy,fV o)]) by unfold gK;rw[zam];rfl]at Hl
   obtain⟨C2,c2,rfl,_,_⟩:=Sep.eO Hl At2;refine⟨sT,?_⟩;refine yP Sb 26 _ (h:=⟨sT,?_⟩);refine Zb3 ?_;exact ak (i+1,(C2,c2),q++[(Value.slice Y (bH o.steps).length cy,fV o)]) ⟨rfl,rfl,rfl,rfl,by dsimp only;unfold gK;rw[zam];rfl,trivial⟩ ⟨⟨dO,dO,by dsimp only;unfold gK at Gd ⊢;rw[zae]at Gd ⊢;rw[zad,Gd];rfl,by dsimp only;rw[zam,Fg,tF];rfl⟩,Sep.AY (x:=(Value.slice Y (bH o.steps).length cy,fV o)) Hl⟩ dO
  have jy:(p.cols.take i).map fV=(fJ p).cols:=by rw[show i=18 by have h:=Ia;omega];rfl
  refine Zb2 ?_;refine bM (v:=.slice C (gK q).length cc) Hh (hy:=rfl) (h:=λwn Hm=>?_);refine Zb1 ?_;refine au Hm (h:=λwo Hn=>?_);refine Qn (fu (aX (h:=?_)));rw[jy]at Fg;exact⟨_,jg Hn,(.slice X (bH p.wh).length cx,.slice C (gK q).length cc,q),rfl,Fg,Hn.aJ.bI.aJ.bI.first.turn⟩
 have jy:(p.cols.take i).map fV=(fJ p).cols:=by
  show _=(p.cols.take 18).map fV
  rw[zaf (l:=p.cols) (i:=i) (by have h:=Sa;omega),zaf (l:=p.cols) (i:=18) (by have h:=Sa;omega)]
 refine Zb3 ?_;refine bM (v:=.slice C (gK q).length cc) Hh (hy:=rfl) (h:=λwp Ho=>?_);refine Zb1 ?_;refine au Ho (h:=λwq Hp=>?_);refine Qn (fu (aX (h:=?_)));rw[jy]at Fg;exact⟨_,jg Hp,(.slice X (bH p.wh).length cx,.slice C (gK q).length cc,q),rfl,Fg,Hp.aJ.bI.aJ.bI.first.turn⟩
theorem pF {p:aZ} {v:Value} (hp:eG w v p):aN Tryz.prog 15 [v] w λv' w'=>∃x,v'=x/\True/\Turn noB (vZ x (fJ p)) w w':=
 aN.mono (nS hp) λu w' h=>by
  obtain⟨⟨vw,vc,L⟩,rfl,hL,hk,F1,hq,hs⟩:=h;refine⟨_,rfl,trivial,hk,F1,HP.look hq λF w h=>?_,hs⟩;have:=um p.group h
  rwa [show(⟨(fJ p).wh,L.map (·.2),p.group⟩:aZ)=fJ p by dsimp only at hL;rw[hL];rfl]at this
end
theorem oF (l:List aH):(jf l).length<=10:=by unfold jf;rw[zae,zag];omega
theorem oG {l:List aH} (h: ∀x∈l,bR x): ∀x∈jf l,bR x:=λx hx=>by
 obtain⟨y,hy,rfl⟩:=zaq.1 hx;obtain⟨h1,h2⟩:=h y (zbo hy);refine⟨h1,λc hc=>?_⟩;obtain⟨d,hd,rfl⟩:=zaq.1 hc;exact h2 d (zbo hd)
theorem j3 (l:List bJ):(bH l).length<=70:=by unfold bH;rw[zae,zag];omega
theorem j4 {l:List bJ} (h:bK l):bK (bH l):=λx hx=>by
 obtain⟨y,hy,rfl⟩:=zaq.1 hx;exact h y (zbo hy)
theorem qZ {p:aZ} (h:iR p):iR (fJ p)/\(fJ p).cols.length<=18/\(fJ p).wh.length<=70/\∀o∈(fJ p).cols,o.steps.length<=70:=
 ⟨⟨j4 h.1,λo ho=>by
  obtain⟨y,hy,rfl⟩:=zaq.1 ho;exact j4 (h.2 y (zbo hy))⟩,by show((p.cols.take 18).map fV).length<=18;rw[zae,zag];omega,j3 _,λo ho=>by
  obtain⟨y,hy,rfl⟩:=zaq.1 ho;exact j3 _⟩
theorem mE {w:Wd} {v:Value} {p:aZ} (h:eG w v p): ∃A a B b,v=agg [.slice A p.wh.length a,.slice B p.cols.length b,I p.group]:=by
 obtain⟨vw,vc,rfl,⟨A,a,rfl,_⟩,r,⟨B,b,rfl,_⟩,hr⟩:=h;exact⟨A,a,B,b,by rw[hr.len]⟩
theorem xJ {p:aZ} (cols:List bL) (h:iR p):yZ (cols.take 12) (fJ p):=by
 obtain⟨h1,h2,h3,h4⟩:=qZ h;exact⟨h1,by rw[zag];omega,h2,h3,h4⟩
section
variable {w:Wd} {cols:List bL} {p:aZ} {l:List aH} {vc vp v:Value}
theorem lX (C:yZ cols p) (hc:aM w vc aR 7 cols) (hp:eG w vp p) (hl:cZ w v l) (zI: ∀x∈l,bR x) (hn:l.length<=100) (hT:fA w):
    aN Tryz.prog 13 [vc,vp,v] w λu w'=>∃x:Value×List Held,u=.tuple #[x.1,I (dX cols p l).2]/\x.2.map (·.2)=(dX cols p l).1/\Turn noB (dR x.1 x.2) w w':=
  oW hc (by have:=C.cs;omega) hp hl C.fit.1 C.fit.2 (by have:=C.outs;omega) (by have:=C.wh;omega) (λo ho=>by have:=C.st o ho;omega) zI hn hT
theorem Ea (C:yZ cols p) (hc:aM w vc aR 7 cols) (hp:eG w vp p) (hT:fA w):
    aN Tryz.prog 19 [vc,vp] w λu w'=>∃pv:Value,u=.tuple #[pv,I (bQ cols p).2]/\Kept noB w w'/\((bQ cols p).2≠0->pv=.pointer none)/\((bQ cols p).2=0->∃b:Nat,pv=aA b/\Turn noB (jq b cols p []) w w'):=
  Dw hc (by have:=C.cs;omega) hp C.fit.1 C.fit.2 (by have:=C.outs;omega) (by have:=C.wh;omega) (λo ho=>by have:=C.st o ho;omega) hT
end
open Go.Proofs.Tryz
section
variable {w w0:Wd} {S:NP} {rs:List HP} {b:Nat} {cols:List bL} {p:aZ} {T J l:List aH} {v vc vp:Value} {L:List Held}
theorem Eb (H:Mw.Sep w0 S (dR v L::jq b cols p T::rs) w) (hl:L.map (·.2)=l) (hT: ∀wx,Kept S w0 wx->fA wx) (fq:(bQ cols p).2=0) (hf:iR p) (hv:mg p T) (zI: ∀x∈l,bR x) (Uk:l.length<=100):
    aN prog 24 [aA b,v] w λu w'=>∃x:Value×List Held,u=.tuple #[x.1,I (dB cols p T l).2]/\x.2.map (·.2)=(dB cols p T l).1/\Mw.Sep w0 S (dR x.1 x.2::jq b cols p (dw cols p T l)::dR v L::rs) w':=by
  obtain⟨F0,uI,iK,Uq,aQ⟩:=Sep.BM H At0;have CP: ∀w1,Kept F0 w w1->Kept S w0 w1:=λw1 h1=>Mw.Kept.into H.kept iK h1;refine aN.mono (xO uI ⟨eU L,λw1 h1=>?_⟩ (λw1 h1=>hT w1 (CP w1 h1)) fq hf.1 hf.2 hv zI Uk) λu w' hu=>?_
  . obtain⟨Fq,F1,F2,_,_,h1,h2⟩:=Uq w1 h1
    exact⟨iE h1,hl▸qF h2⟩
  obtain⟨x,rfl,hx,jH,F1,jA,jO⟩:=hu;exact⟨x,rfl,hx,(aQ _ F1 _ jH jA jO).aJ.dG⟩
theorem zH (H:Mw.Sep w0 S (jq b cols p T::rs) w) (fq:(bQ cols p).2=0) (hv:mg p T):
    aN prog 27 [aA b] w λu w'=>∃x:Value×List Held,u=x.1/\x.2.map (·.2)=(dK p.group p.cols.length T).1/\Mw.Sep w0 S (dR x.1 x.2::jq b cols p T::rs) w':=by
  obtain⟨F0,uI,iK,aQ⟩:=H.focus At0;refine aN.mono (Dv uI fq hv) λu w' hu=>?_;obtain⟨x,rfl,hx,jH,F1,jA,jO⟩:=hu;exact⟨x,rfl,hx,(aQ _ F1 _ jH jA jO).dG⟩
theorem PW (H:Mw.Sep w0 S rs w) (C:yZ cols p) (hc:aM w vc aR 7 cols) (hp:eG w vp p) (hT:fA w):
    aN prog 19 [vc,vp] w λu w'=>∃pv:Value,u=.tuple #[pv,I (bQ cols p).2]/\Kept noB w w'/\((bQ cols p).2≠0->pv=.pointer none/\Mw.Sep w0 S rs w')/\((bQ cols p).2=0->∃b:Nat,pv=aA b/\Mw.Sep w0 S (jq b cols p []::rs) w'):=
  aN.mono (Ea C hc hp hT) λu w' hu=>by
    obtain⟨pv,rfl,hk,h1,h2⟩:=hu;refine⟨pv,rfl,hk,λh=>⟨h1 h,H.keep hk⟩,λh=>?_⟩;obtain⟨b,rfl,jH,F1,jA,jO⟩:=h2 h;exact⟨b,rfl,H.new jH jA (λb hb=>(jO b hb).resolve_left id)⟩
end
def qj (ok:Prop) [Decidable ok] (pv:Value) (q:Nat->HP):HP:=if ok then exH λb:Nat=>star (jI (pv=aA b)) (q b)else jI (pv=.pointer none)
section
variable {w w0:Wd} {S:NP} {rs:List HP} {ok:Prop} [Decidable ok] {pv:Value} {q:Nat->HP} {b:Nat}
theorem Ec (H:Mw.Sep w0 S (qj ok pv q::rs) w) (h:ok): ∃b:Nat,pv=aA b/\Mw.Sep w0 S (q b::rs) w:=by
 unfold qj at H;rw[zac h]at H;obtain⟨b,H1⟩:=Sep.ex0 H;obtain⟨e,H2⟩:=Sep.tJ H1.dG;exact⟨b,e,H2⟩
theorem uy (H:Mw.Sep w0 S (q b::rs) w) (h:ok):Mw.Sep w0 S (qj ok (aA b) q::rs) w:=by
 unfold qj;rw[zac h];exact Sep.uW (p:=λb':Nat=>star (jI (aA b=aA b')) (q b')) b ((Sep.jT (φ:=aA b=aA b) rfl H).bI)
theorem vL (H:Mw.Sep w0 S rs w) (h: ¬ok):Mw.Sep w0 S (qj ok (.pointer none) q::rs) w:=by
 unfold qj;rw[zab h];exact Sep.jT (φ:=Value.pointer none=.pointer none) rfl H
end
section
variable {w:Wd} {cols:List bL} {p:aZ} {vc vp:Value}
theorem aii (C:yZ cols p) (hc:aM w vc aR 7 cols) (hp:eG w vp p) (hT:fA w):
    aN prog 19 [vc,vp] w λu w'=>∃pv:Value,u=.tuple #[pv,I (bQ cols p).2]/\True/\Turn noB (qj ((bQ cols p).2=0) pv λb=>jq b cols p []) w w':=
  aN.mono (PW (Sep.aL w) C hc hp hT) λu w' hu=>by
    obtain⟨pv,rfl,hk,h1,h2⟩:=hu;refine⟨pv,rfl,trivial,?_⟩
    by_cases h:(bQ cols p).2=0
    . obtain⟨b,rfl,H⟩:=h2 h
      exact(uy H h).first.turn
    obtain⟨rfl,H⟩:=h1 h;exact(vL H h).first.turn
end
/-! Rows of rows of items,given. -/
section
variable {w w0:Wd} {S:NP} {rs:List HP} {put:HP->List HP} {a b l:List aH} {v va vb:Value} {k m:Nat}
theorem lT {L:List Held} (H:Mw.Sep w0 S (dR v L::rs) w): ∃A c,v=.slice A L.length c:=by
 obtain⟨A,c,e,_,_⟩:=Sep.eO H.dG At0;exact⟨A,c,by rw[e,eU,zae]⟩
end
section
variable {w:Wd}
end
theorem abH {cols:List bL} {p:aZ}:JQ cols p 0 ⟨[],[],[]⟩ []:=⟨aff,.nil,zak _,λ_ h=>zat h zaj,⟨holds_nil p,zak _⟩,xQ _⟩
section
variable {w w0:Wd} {S:NP} {rs:List HP} {put:HP->List HP} {v:Value} {L:List Held} {l:List aH}
theorem MK (H:Mw.Sep w0 S rs w) (hat:At rs (dR v L) put): ∃A c,v=.slice A (eU L).length c/\Mw.Rd w A av 2 (eU L)/\fM w (eU L) (L.map (·.2)):=by
 obtain⟨F,hp,_,_⟩:=H.focus hat;obtain⟨F1,F2,_,_,h1,h2⟩:=hp;obtain⟨A,c,e,_,h⟩:=iE h1;exact⟨A,c,e,h,qF h2⟩
theorem V4 {A:OA} {n c:Nat} (H:Mw.Sep w0 S rs w) (hat:At rs (dR (.slice A n c) L) put):Mw.Rd w A av 2 (eU L):=by
 obtain⟨A',c',e,h,_⟩:=MK H hat;injection e with e
 subst e;exact h
def PZ (r1 r2:List (Value×Int)) (l1 l2:List aH):HP:=iC λw=>fM w r1 l1/\fM w r2 l2
theorem Y1 {r1 r2:List (Value×Int)} {l1 l2:List aH} (H:Mw.Sep w0 S (dR v L::PZ r1 r2 l1 l2::rs) w) (hl:L.map (·.2)=l):Mw.Sep w0 S (PZ (r1++eU L) (eU L++r2) (l1++l) (l++l2)::rs) w:=
 Sep.rH (X:=λw=>fM w (eU L) l) (Sep.look H At0 λ_ w h=>by
  obtain⟨F1,F2,_,_,_,h2⟩:=h;exact hl▸qF h2) λ_ h1 h2=>⟨h2.1.app h1,h1.app h2.2⟩
end
section
variable {w:Wd}
set_option maxHeartbeats 2000000 in
theorem Y3 {cols:List bL} {p:aZ} {q:List (List aH)} {vc v vl:Value} (hc:aM w vc aR 7 cols) (hp:eG w v p) (Kj:iR p) (hl:BS w vl q) (zI: ∀l∈q,∀x∈l,bR x) (hT:fA w):aN Tryz.prog 7 [vc,v,vl] w λv' w'=>v'=.bool true/\Kept noB w w':=by
 have H:=Sep.aL w;obtain⟨A0,a0,B0,b0,rfl⟩:=mE hp;have C:=xJ cols Kj;have nU: ∀wx,Kept noB w wx->fA wx:=λwx h=>hT.keep h;obtain⟨r,hr,hrq,xk⟩:=hl;obtain⟨Q,cq,rfl,⟨hq,hq'⟩,hQ⟩:=hr;obtain⟨co,hco⟩: ∃co,co=cols.take 12:=⟨_,rfl⟩;obtain⟨pc,rY⟩: ∃pc,pc=fJ p:=⟨_,rfl⟩;rw[<-hco,<-rY]at C;refine tH Tryz.func7 rfl rfl rfl rfl ?_;refine Sr (dz H (cs:=[.slice A0 p.wh.length a0,.slice B0 p.cols.length b0,I p.group]) rfl (h:=λb4 w2 H2 k1=>?_));refine Zb1 ?_;refine aF H2 (iH (nU _ H2.kept)) (h:=λw5 H5 k4=>?_);refine Za1 ?_;refine Qn (Cd rfl (λqx=>?_) (λqx=>?_))
 .exact aB qx
 refine Zb0 ?_;refine Ds (λRc wa Ha=>?_);refine Zb1 ?_;refine nC Rc 2 Ha (h:=?_);refine dL Rc 1 [(2,false)] Ha (qN (hc.keep Ha.kept)) (h:=λx1 wb _ Hb ka=>⟨aO Hb (h:=aK),?_⟩);rw[<-hco]at Hb;refine dL Rc 3 _ Hb (pF (hp.keep Hb.kept)) (h:=λx2 wc _ Hc kb=>?_);rw[<-rY]at Hc;obtain⟨W2,c2,Z2,e2,rfl⟩:=mE (Sep.sees Hc At0);refine⟨sT,?_⟩;refine yP Rc 4 _ (h:=⟨sT,?_⟩);refine eH Rc 5 _ Hc (us:=[.slice W2 pc.wh.length c2,.slice Z2 pc.cols.length e2,I pc.group]) (h:=λwd Hd=>⟨sT,?_⟩);refine Zb2 ?_;refine dx Hd (aii C (lu Hd At1) (Sep.sees Hd At0) (nU _ Hd.kept)) (h:=λpv we _ He kc=>?_);refine Za7 ?_;refine Qn (Cp rfl (λIa=>?_) (λIa=>?_))
 .have hd:dX co pc []=([],(bQ co pc).2):=by unfold dX;rw[zac Ia]
  refine Zb2 ?_;refine dx He (lX (l:=[]) C (lu He At2) (Sep.sees He At1) ⟨[],⟨none,0,rfl,⟨zbf _,zak _⟩,Mw.Rd.nil⟩,fM.nil⟩ (λ_ h=>zat h zaj) (zak _) (nU _ He.kept)) (h:=λx6 wf hx6 Hf kd=>?_);rw[hd]at hx6 ⊢;obtain⟨A6,c6,hv6⟩:=lT Hf;obtain⟨v6,L6⟩:=x6;dsimp only at hv6 hx6 Hf;obtain rfl :L6=[]:=zcx.1 hx6;subst hv6;refine Zb9 ?_;refine aC (t:=47) rfl (λSa=>?_) (λSa=>?_)
  .refine Zb5 ?_
   exact⟨rfl,Hf.kept⟩
  exact aB Sa
 have fq:(bQ co pc).2=0:=Decidable.of_not_not Ia;obtain⟨bv,hbv,Hm⟩:=Ec He fq;subst hbv;have Hg:=Hm;refine Za3 ?_;refine Qn (iP (λx:alc=>[(0,x1),(4,aA b4),(7,aA bv),(11,x.v1),(12,x.v2),(13,x.v3)]) (λx w'=>(x.i<=6/\JQ co pc x.i x.s x.l2/\x.L.map (·.2)=x.s.outs)/\Mw.Sep w noB [dR x.v3 x.L,bW 82 2 av x.v1 x.r1,bW 82 2 av x.v2 x.r2,PZ x.r1 x.r2 x.s.all x.l2,jq bv co pc x.s.T,vZ (agg [.slice W2 pc.wh.length c2,.slice Z2 pc.cols.length e2,I pc.group]) pc,bW 54 7 aR x1 co,blk b4 [.slice W2 pc.wh.length c2,.slice Z2 pc.cols.length e2,I pc.group] 26] w') ?_ ?_)
 .refine Zb1 ?_
  have Hh:Mw.Sep w noB (PZ [] [] [] []::_) _:=Sep.zm Hg λ_=>⟨fM.nil,fM.nil⟩;have Hh:=Sep.lZ (fK (Sep.lZ (Sep.lZ Hh 82 2 av) 82 2 av)) 82 2 av;refine aP (λx:alc=>[(0,x1),(2,.slice Q r.length cq),(4,aA b4),(7,aA bv),(11,x.v1),(12,x.v2),(13,x.v3),(14,I x.i)]) (λx w'=>(x.i<=r.length/\x.i<=6/\JQ co pc x.i x.s x.l2/\x.L.map (·.2)=x.s.outs)/\Mw.Sep w noB [dR x.v3 x.L,bW 82 2 av x.v1 x.r1,bW 82 2 av x.v2 x.r2,PZ x.r1 x.r2 x.s.all x.l2,jq bv co pc x.s.T,vZ (agg [.slice W2 pc.wh.length c2,.slice Z2 pc.cols.length e2,I pc.group]) pc,bW 54 7 aR x1 co,blk b4 [.slice W2 pc.wh.length c2,.slice Z2 pc.cols.length e2,I pc.group] 26] w') (λx _=>r.length-x.i) ⟨0,⟨[],[],[]⟩,[],.slice none 0 0,.slice none 0 0,.slice none 0 0,[],[],[]⟩ tR ⟨⟨zak _,zak _,abH,rfl⟩,Hh.bI⟩ (λx τ wg hI=>?_);obtain⟨i,s,l2,v1,v2,v3,r1,r2,L3⟩:=x;obtain⟨⟨hi,hi6,hG,hL3⟩,Hh⟩:=hI;dsimp only at hi hi6 hG hL3 Hh;obtain⟨A2,n2,Jd,_,_⟩:=Sep.eO Hh At2;subst Jd
  try simp only[dA,like,bB,bY]
  refine Zb5 ?_;refine aC (t:=56) rfl (λSb=>?_) (λSb=>?_)
  .have Qu:=Sb
   refine Za3 ?_;refine Qn (Cp rfl (λIb=>?_) (λIb=>?_))
   .have bX:i<r.length:=oM
    have hi5:i<6:=by have h:=Ib;omega
    obtain⟨xv,hx⟩:=get_some bX;obtain⟨l,hli⟩:=get_some (show i<q.length from oM);have hxl:=xk i xv l hx hli;have ZK:=oG (zI l (zao hli));have akW:=oF l;have hTn:=hG.held.few;have Qi:=hG.len;have Zz:=hG.perm.length_eq;have Jg:=hG.outs.few;have sa:=vD fq C.fit hG.held.hold ZK;have san:=sa.few;refine Zb4 ?_;refine dx Hh (rO (hxl.keep Hh.kept)) (h:=λx6 wi hx6 Hi ke=>?_);refine Zb3 ?_;refine aS (Eb (l:=jf l) Hi.mX.aJ hx6 nU fq C.fit hG.held.hold ZK oM) rfl rfl (λv' wj hv=>?_);obtain⟨x7,rfl,hx7,Hj⟩:=hv;obtain⟨v7,L7⟩:=x7;obtain⟨v6,L6⟩:=x6;dsimp only at hx6 hx7 Hj;obtain⟨A6,c6,hv6,hR6,apt⟩:=MK Hj At2;subst hv6;have alI:=Ev apt;have hL6:(eU L6).length=(jf l).length:=by rw[eU,zae,<-hx6,zae]
    have hL7:L7.length=(dB co pc s.T (jf l)).1.length:=by rw[<-hx7,zae]
    have avF:L3.length=s.outs.length:=by rw[<-hL3,zae]
    have ai2:=Sep.sees Hj At6;have avG:=ai2.1.len;have avH:=ai2.2.len;refine Za7 ?_;refine Qn (Cp rfl (λIc=>?_) (λIc=>?_))
    .have tq:(dB co pc s.T (jf l)).2=0:=Ic
     refine Zb2 ?_;refine jW Hj At4 hR6 (by unfold maxLen;omega) oM alI (h:=?_);intro v11 wk Hk;refine Zb1 ?_;refine Bs Hk [] (λbs wl Hl kf=>?_);have Hl:Mw.Sep w noB (bW 82 2 av (.slice (some ⟨bs,0,none⟩) 0 0) ([]:List (Value×Int))::_) wl:=Sep.rM (n:=0) (s:=2) Hl At0 rfl dC;refine Mv ?_;refine jW Hl At0 (V4 Hl At3) (by unfold maxLen;rw[zcq];omega) (by rw[zcq];omega) alI (h:=?_);intro v12 wm Hn;rw[zbr]at Hn;refine Mv ?_;refine jW Hn At0 (mP Hn At6) (by unfold maxLen;omega) oM (Ev ai2.2) (h:=?_);intro v12' wn Ho;refine Zb3 ?_;refine abG Ho.fF.bF oM (h:=?_);intro v13 wo Hw;have Hp:=Hw;have Hx:=Y1 Hw.mM.fF hx6;have Hy:=Sep.firsts (l:=[_,_,_,_,_,_,_,_]) Hx.VJ.VJ.VJ.mM.fF.mM.yL.yL;refine Zb2 ?_;refine Vc ((i+1:Nat):Int) ?_;refine Zb1 ?_
     first
     | exact ak ⟨i+1,⟨dw co pc s.T (jf l),s.all++jf l,s.outs++(dB co pc s.T (jf l)).1⟩,jf l++l2,_,_,_,_,_,L3++L7⟩ tR ⟨⟨dO,dO,hG.step fq C.fit ZK akW hi5 tq,by dsimp only;rw[zam,hL3,hx7]⟩,Hy⟩ dO
     | exact ak ⟨i+1,s,l2,_,_,_,_,_,L3⟩ tR ⟨⟨dO,dO,hG.same,hL3⟩,Sep.firsts (l:=[_,_,_,_,_,_,_,_]) Hp.sH.sH.sH.fF.sH.sH.sH.sH⟩ dO
    have Cu:dw co pc s.T (jf l)=s.T:=zab Ic;rw[Cu]at Hj;refine Zb1 ?_;refine Vc ((i+1:Nat):Int) ?_;refine Zb1 ?_
    first
    | exact ak ⟨i+1,⟨dw co pc s.T (jf l),s.all++jf l,s.outs++(dB co pc s.T (jf l)).1⟩,jf l++l2,_,_,_,_,_,L3++L7⟩ tR ⟨⟨dO,dO,hG.step fq C.fit ZK akW hi5 tq,by dsimp only;rw[zam,hL3,hx7]⟩,Hy⟩ dO
    | exact ak ⟨i+1,s,l2,_,_,_,_,_,L3⟩ tR ⟨⟨dO,dO,hG.same,hL3⟩,Sep.firsts (l:=[_,_,_,_,_,_,_,_]) Hj.sH.sH.sH.fF.sH.sH.sH.sH⟩ dO
   refine Zb0 ?_;exact aG ⟨i,s,l2,_,_,_,_,_,L3⟩ tR ⟨⟨hi6,hG,hL3⟩,Hh⟩
  refine Zb1 ?_;exact aG ⟨i,s,l2,_,_,_,_,_,L3⟩ tR ⟨⟨hi6,hG,hL3⟩,Hh⟩
 rintro⟨i,s,l2,v1,v2,v3,r1,r2,L3⟩ τ wp ⟨⟨hi6,hG,hL3⟩,Hq⟩;dsimp only at hi6 hG hL3 Hq;have Qi:=hG.len;have Zz:=hG.perm.length_eq;have Jg:=hG.outs.few;simp only[dA,like,bB,bY];refine Zb3 ?_;refine dx Hq (lX (l:=s.all) C (lu Hq At6) (Sep.sees Hq At5) ⟨r1,lu Hq At1,(Sep.sees Hq At3).1⟩ hG.fit oM (nU _ Hq.kept)) (h:=λx18 wq ZJ Hr kg=>?_);rw[PY fq hG.good (List.Perm.refl _)]at ZJ ⊢;refine Zb8 ?_;refine dx Hr (lX (l:=l2) C (lu Hr At7) (Sep.sees Hr At6) ⟨r2,lu Hr At3,(Sep.sees Hr At4).2⟩ (λy hy=>hG.fit y (hG.perm.mem_iff.2 hy)) oM (nU _ Hr.kept)) (h:=λx20 wr apu Hs kh=>?_);rw[PY fq hG.good hG.perm]at apu ⊢;refine Zb6 ?_;refine dx Hs (Dl (hL3▸dn Hs At2) oM hG.outs.fit (λy hy=>by have:=hG.outs.row y hy;omega)) (h:=λx22 ws apv Ht ki=>?_);rw[air hG.good]at apv ⊢;refine Zb8 ?_;refine aC (t:=107) rfl (λSc=>?_) (λSc=>?_)
 .refine Zb4 ?_
  refine aC (t:=111) rfl (λSd=>?_) (λSd=>?_)
  .refine Zb4 ?_
   refine aC (t:=115) rfl (λSe=>?_) (λSe=>?_)
   .refine Zb2 ?_
    refine aF Ht (nR (ZJ▸dn Ht At2) (apu▸dn Ht At1)) (h:=λwt Hu kj=>?_);refine Zb2 ?_;refine aC (t:=120) rfl (λSf=>?_) (λSf=>?_)
    .refine Zb2 ?_
     refine aF Hu (nR (ZJ▸dn Hu At2) (apv▸dn Hu At0)) (h:=λwu Hv kk=>?_);refine Zb2 ?_;refine aC (t:=125) rfl (λSg=>?_) (λSg=>?_)
     .refine Zb2 ?_
      refine aS (zH Hv.yL fq hG.held.hold) rfl rfl (λv' wv hv=>?_);obtain⟨xr,rfl,hxr,Hz⟩:=hv;refine On (aF Hz (nR (ZJ▸dn Hz At4) (hxr▸dn Hz At0)) (h:=λww HA kl=>?_));refine Zb2 ?_;exact⟨rfl,HA.kept⟩
     exact aB Sg
    exact aB Sf
   exact aB Se
  exact aB Sd
 exact aB Sc
end
open Go.ChangeShapes Go.WideShapes Go.RowKit
section
variable {H:Type} {enc:Td×Value->H} {W:Wd} {r:Reach} {base:Nat} {v:Value} {d:DataW H} {ps:List MemPlace}
theorem q8 {n:Nat} {cs:LV} {y:DataW H×List MemPlace} (hl:cs.length=2) (hc:DataW.trod enc prog W 0 (λ_=>true) true n 50 cs=some y): ∃x:dJ,cs=bD x:=by
 have hf:=eT underlying50 kR hc kR hl;obtain⟨v0,_,_,rD,h0⟩:=hf 0 _ rfl;obtain⟨v1,_,_,rX,h1⟩:=hf 1 _ rfl;obtain⟨m,hm,_,_⟩:=DataW.trod_int underlying3 h0;obtain⟨b,hb,_⟩:=DataW.trod_bool underlying4 h1;injection hb with hb _
 injection hm with hm _
 subst hb hm
 match cs,hl with
 | [c0,c1],_=>
  simp at rD rX;subst rD rX;exact⟨⟨m,b⟩,rfl⟩
theorem q9 {n:Nat} {cs:LV} {y:DataW H×List MemPlace} (hl:cs.length=3) (hc:DataW.trod enc prog W 0 (λ_=>true) true n 92 cs=some y): ∃x:bJ,cs=aD x/\fits x.n:=by
 have hf:=eT underlying92 kR hc kR hl;obtain⟨v0,_,_,rD,h0⟩:=hf 0 _ rfl;obtain⟨v1,_,_,rX,h1⟩:=hf 1 _ rfl;obtain⟨v2,_,_,Jd,h2⟩:=hf 2 _ rfl;obtain⟨b,hb,_,_⟩:=DataW.trod_int underlying3 h0;obtain⟨m,hm,_,wm⟩:=DataW.trod_int underlying2 h1;obtain⟨s,hs,_⟩:=DataW.trod_string underlying9 h2;injection hb with hb _
 injection hm with hm _
 injection hs with hs _
 subst hb hm hs
 match cs,hl with
 | [c0,c1,c2],_=>
  simp at rD rX Jd;subst rD rX Jd;refine⟨⟨b,m,s.data.toList⟩,?_,BX rfl wm⟩;rw[oZ];rfl
theorem uo {n:Nat} {cs:LV} {y:DataW H×List MemPlace} (hl:cs.length=7) (hc:DataW.trod enc prog W 0 (λ_=>true) true n 54 cs=some y): ∃x:bL,cs=aR x:=by
 obtain⟨ys,n',_,_,_,hyl,hf⟩:=DataW.trod_struct underlying54 hc;have hy: ∀j,j<4->∃z,ys[j]? =some z:=λj hj=>⟨_,zaa (by rw[hyl];exact hj)⟩;obtain⟨z0,e0⟩:=hy 0 dC;obtain⟨z1,e1⟩:=hy 1 dC;obtain⟨z2,e2⟩:=hy 2 dC;obtain⟨z3,e3⟩:=hy 3 dC;have h0:DataW.trod enc prog W 0 (λ_=>true) true n' 3 ((cs.drop 0).take (prog.cellsOf 3))=some z0:=(hf 0 _ rfl).trans e0;have h1:DataW.trod enc prog W 0 (λ_=>true) true n' 9 ((cs.drop 1).take (prog.cellsOf 9))=some z1:=(hf 1 _ rfl).trans e1;have h2:DataW.trod enc prog W 0 (λ_=>true) true n' 50 ((cs.drop 2).take (prog.cellsOf 50))=some z2:=(hf 2 _ rfl).trans e2;have h3:DataW.trod enc prog W 0 (λ_=>true) true n' 52 ((cs.drop 4).take (prog.cellsOf 52))=some z3:=(hf 3 _ rfl).trans e3;have c0:prog.cellsOf 3=1:=kR;have c1:prog.cellsOf 9=1:=kR;have c2:prog.cellsOf 50=2:=kR;have c3:prog.cellsOf 52=3:=kR
 match cs,hl with
 | [a0,a1,a2,a3,a4,a5,a6],_=>
  rw[c0]at h0;rw[c1]at h1;rw[c2]at h2;rw[c3]at h3;obtain⟨i,hi,_,_⟩:=DataW.trod_int (cs:=[a0]) underlying3 h0;obtain⟨s,hs,_⟩:=DataW.trod_string (cs:=[a1]) underlying9 h1;obtain⟨t,ht⟩:=q8 (cs:=[a2,a3]) rfl h2;obtain⟨c,Qw,_⟩:=xR (cs:=[a4,a5,a6]) rfl h3;refine⟨⟨i,s.data.toList,t,c⟩,?_⟩;have ha:[a0,a1,a2,a3,a4,a5,a6]=[a0]++[a1]++[a2,a3]++[a4,a5,a6]:=rfl;rw[ha,hi,hs,ht,Qw,oZ];rfl
theorem ru (hv:Value.okWide prog W r base 22 v) (h:DataW.Trod enc prog W 0 (λ_=>true) true 22 v d ps): ∃l:List bL,aM W v aR 7 l:=by
 obtain⟨A,c,l,rfl,h1,h2,h3,h4⟩:=qY (f:=aR) (good:=λ_:bL=>True) (s:=7) underlying22 kR (λ_=>rfl) (λn cs y hl hc=>(uo hl hc).imp λ_ h=>⟨h,trivial⟩) hv h;exact⟨l,iO h1 h2 h3⟩
end
theorem qh {W:Wd}: ∀r:List (L8×Value),(∀x∈r,∃l,aM W x.2 aD 3 l/\bK l)->∃cols:List jL,nI W r cols/\∀o∈cols,bK o.steps
 | [],_=>⟨[],nI.nil,λo h=>zat h zaj⟩
 | x::r,h=>by
  obtain⟨l,hl,hf⟩:=h x zah;obtain⟨cols,⟨h1,h2⟩,hc⟩:=qh r λy hy=>h y (zai _ hy);refine⟨⟨x.1,l⟩::cols,⟨by rw[zax,zax,h1],λi y o hy ho=>?_⟩,λo ho=>?_⟩
  .cases i with
   | zero=>
    rw[zbp]at hy ho;injection hy with hy
    injection ho with ho
    subst hy ho;exact hl
   | succ i=>exact h2 i y o hy ho
  rcases zap.1 ho with e | e
  .subst e;exact hf
  exact hc o e
section
variable {H:Type} {enc:Td×Value->H} {W:Wd} {r:Reach} {base:Nat} {v:Value} {d:DataW H} {ps:List MemPlace}
theorem nT {n0:Nat} {y:DataW H×List MemPlace} (h:DataW.trod enc prog W 0 (λ_=>true) true n0 23 [v]=some y): ∃l:List bJ,aM W v aD 3 l/\bK l:=by
 obtain⟨A,c,l,rfl,h2,h3,h4,h5⟩:=iy (f:=aD) (good:=λx:bJ=>fits x.n) (s:=3) underlying23 kR (λ_=>rfl) (λn cs y hl hc=>q9 hl hc) h;exact⟨l,iO h2 h3 h4,h5⟩
theorem uq {n:Nat} {cs:LV} {y:DataW H×List MemPlace} (hl:cs.length=2) (hc:DataW.trod enc prog W 0 (λ_=>true) true n 94 cs=some y): ∃x:L8×Value,cs=bZ x/\∃l,aM W x.2 aD 3 l/\bK l:=by
 have hf:=eT underlying94 kR hc kR hl;obtain⟨v0,_,_,rD,h0⟩:=hf 0 _ rfl;obtain⟨v1,_,_,rX,h1⟩:=hf 1 _ rfl;obtain⟨s,hs,_⟩:=DataW.trod_string underlying9 h0;obtain⟨l,hr,Fy⟩:=nT h1;injection hs with hs _
 subst hs
 match cs,hl with
 | [c0,c1],_=>
  simp only[zbp,zby,Option.some.injEq]at rD rX;subst rD rX;exact⟨(s.data.toList,c1),by rw[oZ s];rfl,l,hr,Fy⟩
theorem xK {n0:Nat} {y:DataW H×List MemPlace} (h:DataW.trod enc prog W 0 (λ_=>true) true n0 24 [v]=some y): ∃l:List jL,zO W v l/\∀o∈l,bK o.steps:=by
 obtain⟨A,c,q,rfl,h2,h3,h4,h5⟩:=iy (f:=bZ) (good:=λx:L8×Value=>∃l,aM W x.2 aD 3 l/\bK l) (s:=2) underlying24 kR (λ_=>rfl) (λn cs y hl hc=>uq hl hc) h;obtain⟨cols,hr,hf⟩:=qh q h5;exact⟨cols,⟨q,iO h2 h3 h4,hr⟩,hf⟩
theorem rz (hv:Value.okWide prog W r base 26 v) (h:DataW.Trod enc prog W 0 (λ_=>true) true 26 v d ps): ∃p:aZ,eG W v p/\iR p:=by
 obtain⟨cs,rfl,zV⟩:=okWide_struct underlying26 hv;have hc:prog.cellsOf 26=3:=kR;rw[hc]at zV;obtain⟨fuel,hfu⟩:=h;obtain⟨l⟩:=cs
 match l,zV with
 | [a,b,c],_=>
  have hf:=eT underlying26 kR hfu kR rfl;obtain⟨v0,_,_,rD,h0⟩:=hf 0 _ rfl;obtain⟨v1,_,_,rX,h1⟩:=hf 1 _ rfl;obtain⟨v2,_,_,Jd,h2⟩:=hf 2 _ rfl;have e0:some a=some v0:=rD;have e1:some b=some v1:=rX;have e2:some c=some v2:=Jd;injection e0 with e0
  injection e1 with e1
  injection e2 with e2
  subst e0 e1 e2;obtain⟨wh,hw,hwf⟩:=nT h0;obtain⟨cols,ho,ZP⟩:=xK h1;obtain⟨g,hg,_,_⟩:=DataW.trod_int underlying3 h2;injection hg with hg _
  subst hg;exact⟨⟨wh,cols,g⟩,⟨a,b,rfl,hw,ho⟩,hwf,ZP⟩
end
theorem J6 {W:Wd}: ∀r:LV,(∀x∈r,∃l,cZ W x l/\∀o∈l,bR o)->∃q:List (List aH),(r.length=q.length/\∀(i:Nat) x l,r[i]? =some x->q[i]? =some l->cZ W x l)/\∀l∈q,∀o∈l,bR o
 | [],_=>⟨[],⟨rfl,λi x o h=>by cases h⟩,λo h=>zat h zaj⟩
 | x::r,h=>by
  obtain⟨l,hl,hf⟩:=h x zah;obtain⟨q,⟨h1,h2⟩,hc⟩:=J6 r λy hy=>h y (zai _ hy);refine⟨l::q,⟨by rw[zal,zal,h1],λi y o hy ho=>?_⟩,λo ho=>?_⟩
  .cases i with
   | zero=>
    rw[zbp]at hy ho;injection hy with hy
    injection ho with ho
    subst hy ho;exact hl
   | succ i=>exact h2 i y o hy ho
  rcases zap.1 ho with e | e
  .subst e;exact hf
  exact hc o e
section
variable {H:Type} {enc:Td×Value->H} {W:Wd} {r:Reach} {base:Nat} {v:Value} {d:DataW H} {ps:List MemPlace}
theorem uw {n0:Nat} {y:DataW H×List MemPlace} (h:DataW.trod enc prog W 0 (λ_=>true) true n0 27 [v]=some y): ∃l:List aH,cZ W v l/\∀x∈l,bR x:=by
 obtain⟨A,c,q,rfl,h2,h3,h4,h5⟩:=iy (f:=av) (good:=λx:Value×Int=>(∃l,aM W x.1 aj 3 l/\jX l)/\fits x.2) (s:=2) underlying27 kR (λ_=>rfl) (λn cs y hl hc=>xS hl hc) h;obtain⟨l,hr,hf⟩:=yK q h5;exact⟨l,⟨q,iO h2 h3 h4,hr⟩,hf⟩
theorem GY (hv:Value.okWide prog W r base 37 v) (h:DataW.Trod enc prog W 0 (λ_=>true) true 37 v d ps): ∃q:List (List aH),BS W v q/\∀l∈q,∀x∈l,bR x:=by
 obtain⟨A,c,q,rfl,h2,h3,h4,h5⟩:=qY (f:=KW) (good:=λx:Value=>∃l,cZ W x l/\∀o∈l,bR o) (s:=1) underlying37 kR (λ_=>rfl) (λn cs y hl hc=>by
  match cs,hl with
  | [a],_=>exact⟨a,rfl,uw hc⟩) hv h
 obtain⟨l,⟨hr,hr'⟩,hf⟩:=J6 q h5;exact⟨l,⟨q,iO h2 h3 h4,hr,hr'⟩,hf⟩
end
end Go.Proofs.YtkfpleidaoaonaaGreatDoor
