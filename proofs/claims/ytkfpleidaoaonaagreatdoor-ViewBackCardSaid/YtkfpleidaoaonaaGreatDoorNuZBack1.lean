/-
 Short names of the commonest rules of a walk.
-/
import Derived.Test.YtkfpleidaoaonaaGreatDoorNu1
import Derived.Test.YtkfpleidaoaonaaGreatDoorNu3
import Derived.Test.YtkfpleidaoaonaaGreatDoorNu12
import Derived.Test.YtkfpleidaoaonaaGreatDoorNu13
import Derived.Test.YtkfpleidaoaonaaGreatDoorNu7
import Derived.Test.YtkfpleidaoaonaaGreatDoorNu17
import Derived.Test.YtkfpleidaoaonaaGreatDoorNu14
import Derived.Test.YtkfpleidaoaonaaGreatDoorNu18
import Derived.Test.YtkfpleidaoaonaaGreatDoorNu21
import Derived.Test.YtkfpleidaoaonaaGreatDoorNu22
import Derived.Test.YtkfpleidaoaonaaGreatDoorNu25
import Derived.Test.YtkfpleidaoaonaaGreatDoorNu26
import Derived.Test.YtkfpleidaoaonaaGreatDoorNu27
import Derived.Test.YtkfpleidaoaonaaGreatDoorNu9
import Derived.ChangeMaps5
set_option linter.unusedVariables false
set_option linter.unusedSimpArgs false
namespace Go.Mw
section
variable {P:Program} {r:Option Nat} {n:Nat} {ops:AO} {Q:Post} {rest:LO} {σ:St} {w w0:Wd} {S:NP} {rs:List HP} {put:HP->List HP} {ty:Td} {pos:String} {after:Array Edge} {op:Op}
section
variable {d:Nat} {x y:Od} {T U:Td} {k:IntKind} {a b:Int}
theorem Vn (h:FL P r n ops Q rest (upd σ d (.bool (decide (a≠b)))) w) (hx:evF σ x=.int k a:=by exact rfl) (hy:evF σ y=.int k b:=by exact rfl) (hd:Nat.blt d n=true:=by exact rfl):
    FL P r n ops Q (⟨some d,.binOp .neq T x y U,ty,pos,after,none⟩::rest) σ w:=dU (Gives.neq hx hy) hd h
end
end
section
variable {P:Program} {n:Nat} {Q:Post} {σ:St} {w:Wd} {l:List ResultVar} {R:Value->Wd->Prop}
end
section
variable {P:Program} {r:Option Nat} {n:Nat} {ops:AO} {Q:Post} {rest:LO} {σ:St} {w:Wd} {ty:Td} {pos:String} {after:Array Edge} {guard:Option (Nat×Bool)} {lv:List Bool} {pd:LNB} {op:Op} {d:Nat} {v:Value}
end
open Go
/-! Goals told by their kind. -/
section
variable {P:Program} {ρ:Od->Value} {ty:Td} {w w':Wd} {v:Value} {x y u:Od}
end
section
variable {P:Program} {r:Option Nat} {n:Nat} {ops:AO} {Q:Post} {rest:LO} {σ:St} {w:Wd} {ty:Td} {pos:String} {after:Array Edge} {guard:Option (Nat×Bool)} {lv:List Bool} {pd:LNB} {op:Op} {d:Nat} {v:Value}
/-! Regions that draw,the operations one behind the other. -/
section
variable {i:Nat}
end
end
/-! Goals of a walk told by their heads. -/
section
variable {P:Program} {r:Option Nat} {n:Nat} {ops:AO} {Q:Post} {l rest:LO} {σ:St} {w:Wd} {dst:Option Nat} {op:Op} {ty:Td} {pos:String} {after:Array Edge} {g:Nat×Bool} {d i:Nat} {c:Code} {x y z:Od} {T:Td} {lv:List Bool} {pd:LNB}
end
theorem VZ {p q:Prop} (hq:q) (h:Bx q->p:=by intro h;(iterate 14 (first | refine Xs ?_ | (refine Xg ?_;refine Xs ?_)));refine Xg ?_;exact h.g):p:=h ⟨hq⟩
end Go.Mw
namespace Go.Mw
open Go.RowKit
section
variable {P:Program} {r:Option Nat} {n:Nat} {ops:AO} {Q:Post} {rest:LO} {σ:St} {w w0:Wd} {S:NP} {rs:List HP} {put:HP->List HP} {ty:Td} {pos:String} {after:Array Edge}
variable {α:Type} {enc:α->LV} {k e c:Nat} {l:List α} {A:OA}
end
end Go.Mw
namespace Go.Proofs.YtkfpleidaoaonaaGreatDoor
open Go Go.Mw Go.Lib
set_option maxRecDepth 4000
def dM (x:bJ):bJ:=⟨x.kind,x.n,x.s.take 1100⟩
theorem jY (s:L8) (k:Nat):s.take (s.take k).length=s.take k:=by
 rw[zag]
 by_cases h:k<=s.length
 .rw[zck h]
 rw[zfg oM,zbl,zaf oM]
section
variable {w:Wd}
end
end Go.Proofs.YtkfpleidaoaonaaGreatDoor
namespace Go.Proofs.YtkfpleidaoaonaaGreatDoor
open Go Go.Lib Go.Mw
set_option maxRecDepth 4000
theorem PL {sums:Nat} {a b:List dH} (h: ∀k i,i<=sums->lH a k i=lH b k i):lI sums a=lI sums b:=by
 unfold lI;have hf:(λk=>decide (lH a k 0≠0))=λk=>decide (lH b k 0≠0):=funext λk=>by rw[h k 0 (zak _)]
 have hr:(λk=>(⟨Na sums a k,1⟩:aH))=λk=>⟨Na sums b k,1⟩:=funext λk=>by
  unfold Na;rw[zco λi hi=>by rw[h k i (by have:=zdl.1 hi;omega)]]
 rw[hf,hr,yh ((nL a).sublist zcv) ((nL b).sublist zcv) λk=>?_];simp only[zbw,decide_eq_true_eq];exact and_congr_left λhk=>⟨λ_=>sD hk,λ_=>sD (by rw[h k 0 (zak _)];exact hk)⟩
theorem PN {sums:Nat} {a b:List dH} (h: ∀k i,i<=sums->lH a k i=lH b k i):yX sums a=yX sums b:=by
 rw[zdj,tO,tO];exact⟨λhf k i hi=>by rw[<-h k i hi];exact hf k i hi,λhf k i hi=>by rw[h k i hi];exact hf k i hi⟩
theorem PO {g:Int} {n:Nat} {T m:List aH}:isZ (jd g n T m).1:=by
 unfold jd
 split
 .exact⟨List.Pairwise.nil,λx hx=>zat hx zaj,λx hx=>zat hx zaj⟩
 split<;>exact qE
theorem PS {g:Int} {n:Nat} {T m:List aH} (h:(jd g n T m).2≠0):(jd g n T m).1=[]:=by
 unfold jd at h |-
 split
 .rfl
 rename_i h1;rw[zab h1]at h
 split
 .rename_i hg;rw[zac hg]at h;rw[nK h]
 rename_i hg;rw[zab hg]at h;rw[nK h]
open Go.Proofs.Tryz
attribute [local irreducible] FW FL FG FGn gu gy dh gH Qfn Gives
section
variable {w:Wd}
theorem pq {a b:List aI} {va vb:Value} (ha:aM w va aj 3 a) (hb:aM w vb aj 3 b):aN prog 102 [va,vb] w λv' w'=>v'=.bool (decide (a=b))/\Kept noB w w':=by
 obtain⟨A,m,rfl,⟨hm,qo⟩,hA⟩:=ha;obtain⟨B,n,rfl,⟨hn,Zp⟩,hB⟩:=hb;have H:=Sep.aL w;refine dS func102 rfl rfl rfl rfl ?_;refine Za6 ?_;refine Qn (Cp rfl (λqx=>?_) (λqx=>?_))
 .have iF:=qx
  refine Zb1 ?_;exact⟨zaw Value.bool (Eq.symm (zar λe=>iF (by rw[e]))),H.kept⟩
 have hlen:a.length=b.length:=oM;refine Zb3 ?_;refine aP (λi:Nat=>[(0,.slice A a.length m),(1,.slice B b.length n),(12,I a.length),(13,I i)]) (λi w'=>(i<=a.length/\a.take i=b.take i)/\Sep w noB [] w') (λi _=>a.length-i) 0 tR ⟨⟨zak _,sM⟩,H⟩ (λi τ wa hI=>?_);obtain⟨⟨hi,gQ⟩,Ha⟩:=hI
 try simp only[dA,like,bB,bY]
 refine Za1 ?_;refine Qn (fC (Cp rfl (λIa=>?_) (λIa=>?_)))
 .have bX:i<a.length:=oM
  obtain⟨x,hx⟩:=get_some bX;obtain⟨y,hy⟩:=get_some (l:=b) (i:=i) oM;refine Zb2 ?_;refine Ds (λSa wb Hb=>?_);refine Zb8 ?_;refine Gp Sa 8 rfl rfl (λ_=>(Gives.Yt (enc:=aj) _ _ rfl rfl)) (dP Sa kR ?_);refine aU (Cp rfl (λIb=>?_) (λIb=>?_))
  .have Ka:=Ib
   refine Zb1 ?_;exact⟨zaw Value.bool (Eq.symm (zar λe=>Ka (by rw[e,hy]at hx;injection hx with hx;exact hx.symm))),Hb.kept⟩
  have Ka:x=y:=zbt.1 Ib;have Jb:a.take (i+1)=b.take (i+1):=by rw[zav,zav,gQ,hx,hy,Ka]
  refine Zb2 ?_;exact ak (i+1) tR ⟨⟨oM,Jb⟩,Hb⟩ oM
 have qp:i=a.length:=oM;have Ql:a=b:=by rw[qp,zbl,hlen,zbl]at gQ;exact gQ
 refine Zb1 ?_;exact⟨zaw Value.bool (Eq.symm (zbe Ql)),Ha.kept⟩
theorem pz {a b:List aI} {va vb:Value} (ha:aM w va aj 3 a) (hb:aM w vb aj 3 b):aN prog 62 [va,vb] w λv' w'=>v'=.bool (decide (a=b))/\Kept noB w w':=by
 have H:=Sep.aL w;refine dS func62 rfl rfl rfl rfl ?_;refine Zb3 ?_;refine aF H (pq ha hb) (h:=λw5 H5 k4=>?_);refine Zb1 ?_;exact⟨rfl,H5.kept⟩
end
section
variable {w:Wd}
theorem uh {a b:List aI} {va vb:Value} {n m:Int} (ha:aM w va aj 3 a) (hb:aM w vb aj 3 b):aN Tryz.prog 61 [agg (av (va,n)),agg (av (vb,m))] w λu w'=>u=.bool (decide (n=m/\a=b))/\Kept noB w w':=by
 have H:=Sep.aL w;refine dS Tryz.func61 rfl rfl rfl rfl ?_;refine Sr (dz H (cs:=av (va,n)) rfl (h:=λb2 w2 H2 k1=>?_));refine dz H2 (cs:=av (vb,m)) rfl (h:=λb3 w4 H4 k3=>?_);refine Zb7 ?_;refine aC (t:=10) rfl (λSa=>?_) (λSa=>?_)
 .refine Zb4 ?_
  refine aF H4 (pz (ha.keep H4.kept) (hb.keep H4.kept)) (h:=λwa Ha ka=>?_);refine Zb2 ?_;exact⟨by simp only[*,zfq,false_and,decide_false,fH]<;>rfl,Ha.kept⟩
 refine Zb2 ?_;exact⟨by simp only[*,zfq,false_and,decide_false,fH]<;>rfl,H4.kept⟩
end
end Go.Proofs.YtkfpleidaoaonaaGreatDoor
namespace Go.Mw
end Go.Mw
namespace Go.Proofs.YtkfpleidaoaonaaGreatDoor
open Go Go.Mw Go.Lib
set_option maxRecDepth 4000
attribute [local irreducible] FW FL FG FGn gu gy dh gH Qfn Gives
section
variable {w:Wd}
theorem pE {l m:List aH} {va vb:Value} (hl:cZ w va l) (hm:cZ w vb m):
    aN Tryz.prog 60 [va,vb,.func (.func 61) #[] #[]] w λu w'=>u=.bool (decide (l=m))/\Kept noB w w':=by
  obtain⟨r,hr,gW⟩:=hl;obtain⟨s,hs,zW⟩:=hm;obtain⟨A,c,rfl,⟨hc,hc'⟩,hA⟩:=hr;obtain⟨B,d,rfl,⟨hd,hd'⟩,hB⟩:=hs;have xk:=gW.len;have Qi:=zW.len;have H:=Sep.aL w;refine tH Tryz.func60 rfl rfl rfl rfl ?_;refine Za6 ?_;refine Qn (Cp rfl (λqx=>?_) (λqx=>?_))
  . have iF: ¬l=m:=λe=>qx (by rw[xk,Qi,e])
    refine Zb1 ?_;exact⟨by rw[zar iF];rfl,H.kept⟩
  have hlen:r.length=s.length:=oM;refine Zb3 ?_;refine aP (λi:Nat=>[(0,.slice A r.length c),(1,.slice B s.length d),(2,.func (.func 61) #[] #[]),(15,.slice A r.length c),(16,I r.length),(17,I i)]) (λi w'=>(i<=r.length/\l.take i=m.take i)/\Mw.Sep w noB [] w') (λi _=>r.length-i) 0 tR ⟨⟨zak _,rfl⟩,H⟩ (λi τ wa hI=>?_);obtain⟨⟨hi,MS⟩,Ha⟩:=hI
  try simp only[dA,like,bB,bY]
  refine Za1 ?_;refine Qn (fC (Cp rfl (λIa=>?_) (λIa=>?_)))
  . have bX:i<r.length:=oM
    have Co:i<s.length:=oM;obtain⟨o,ho⟩:=get_some (l:=l) (show i<l.length from oM);obtain⟨p,hp⟩:=get_some (l:=m) (show i<m.length from oM);obtain⟨vo,Qp,Jg⟩:=gW.get ho;obtain⟨vp,hvp,Cm⟩:=zW.get hp;have gQ:=qW MS ho hp;have Qq:=Jg;have Wo:=Cm;obtain⟨Ao,co,rfl,_,_⟩:=Jg;obtain⟨Ap,cp,rfl,_,_⟩:=Cm;refine Zb3 ?_;refine aW Ha (h:=λb8 wb Hb ka=>?_);refine Am ?_;refine au Hb (h:=λwc Hc=>?_);refine Zb4 ?_;refine aW Hc (h:=λb9 wd Hd kb=>?_);refine au Hd (h:=λwe He=>?_);refine Zb3 ?_;refine fB (fs:=[]) (cs:=[]) (vals:=[agg (av (.slice Ao o.row.length co,o.w)),agg (av (.slice Ap p.row.length cp,p.w))]) rfl (uh (Qq.keep He.kept) (Wo.keep He.kept)) rfl rfl (λv' wf hv=>?_);obtain⟨rfl,kc⟩:=hv;have Hf:=He.keep kc;refine Vv (Gives.notP rfl) (Qn ?_);refine Cp rfl (λIb=>?_) (λIb=>?_)
    . have iF: ¬l=m:=λe=>Ib (qc.2 (gQ.1 (by rw[e])))
      refine Zb1 ?_;exact⟨by rw[zar iF];rfl,Hf.kept⟩
    have Jb:=gQ.2 (qc.1 (Decidable.of_not_not Ib));refine Zb0 ?_;refine Vc ((i+1:Nat):Int) ?_;refine Zb1 ?_;exact ak (i+1) tR ⟨⟨oM,Jb⟩,Hf.eF.eF⟩ oM
  have jy:l=m:=by
    rw[zaf oM,zaf oM]at MS;exact MS
  refine Zb1 ?_;exact⟨by rw[zbe jy];rfl,Ha.kept⟩
theorem nR {l m:List aH} {va vb:Value} (hl:cZ w va l) (hm:cZ w vb m):aN Tryz.prog 29 [va,vb] w λu w'=>u=.bool (decide (l=m))/\Kept noB w w':=by
 have H:=Sep.aL w;refine dS Tryz.func29 rfl rfl rfl rfl ?_;refine Zb3 ?_;refine aF H (pE (hl.keep H.kept) (hm.keep H.kept)) (h:=λw5 H5 k4=>?_);refine Zb1 ?_;exact⟨rfl,H5.kept⟩
end
end Go.Proofs.YtkfpleidaoaonaaGreatDoor
namespace Go.Proofs.YtkfpleidaoaonaaGreatDoor
open Go Go.Lib Go.Mw
set_option maxRecDepth 4000
section
variable {cols:List bL} {p:aZ}
theorem afb (l:List aH):cB cols p (qm l)=(qm (cB cols p l).1,(cB cols p l).2):=by
 induction l with
 | nil=>rfl
 | cons x l ih=>
  show cB cols p (⟨x.row, -x.w⟩::qm l)=_
  rw[cB,cB,ih];dsimp only
  split
  .rfl
  split
  .rfl
  split<;>rfl
theorem Ls {T l:List aH} (h:(dB cols p T l).2≠0):(dB cols p T l).1=[]:=by
 unfold dB at h |-
 split
 .rfl
 rename_i h1;rw[zab h1]at h;exact PS h
/-! The pieces of the stage's theorem:all that were put in,all that were answered. -/
/-! Items that are there and then not. -/
theorem aia {g:Int} {n:Nat} {T U:List aH} (hw: ∀r,wtL T r=wtL U r) (ht: ∀k i,lH (T.map (fE g.toNat)) k i=lH (U.map (fE g.toNat)) k i) (ha:(T.all λx=>xB g.toNat (n-g.toNat) (fE g.toNat x))=U.all λx=>xB g.toNat (n-g.toNat) (fE g.toNat x)):dK g n T=dK g n U:=by
 unfold dK;rw[qD hw,ha,PN λk i _=>ht k i,PL λk i _=>ht k i]
theorem akp (g:Nat) (l:List aH) (k:List aI) (i:Nat):lH ((qm l).map (fE g)) k i= -lH (l.map (fE g)) k i:=by
 induction l with
 | nil=>rfl
 | cons x l ih=>
  show lH (fE g ⟨x.row, -x.w⟩::(qm l).map (fE g)) k i=_
  rw[zax,lH,lH,ih];have hk:(fE g ⟨x.row, -x.w⟩).key=(fE g x).key:=rfl
  have hc:Gs (fE g ⟨x.row, -x.w⟩) i= -Gs (fE g x) i:=by
   unfold Gs fE;dsimp only
   split
   .rfl
   split
   .rfl
   rw[Int.neg_mul]
  rw[hk,hc]
  split<;>omega
theorem TU {g:Int} {n:Nat} {T m:List aH} (h:(dK g n (T++m)).2=0):dK g n (T++m++qm m)=dK g n T:=by
 by_cases hg:g<0
 .unfold dK
  rw[zac hg,zac hg];exact qD λr=>by rw[gF,gF,KE];omega
 have hm:=((lK hg).1 h).1;rw[List.all_append,zbv]at hm;refine aia (λr=>by rw[gF,gF,KE];omega) (λk i=>by rw[zam,zam,sw,sw,akp];omega) ?_;rw[List.all_append,List.all_append,hm.1,hm.2,zdy,zdy];unfold qm;rw[List.all_map];exact hm.2
end
section
variable {cols:List bL} {p:aZ}
theorem aib (l:List aH):(dY l).2=0\/(dY l).2=50:=by
 by_cases h:(dY l).2=0
 .exact .inl h
 exact .inr (by rw[nK h])
theorem PU {l:List aH} (h:(cB cols p l).2=0):(cB cols p (qm l)).2=0/\(cB cols p (qm l)).1=qm (cB cols p l).1:=by
 rw[afb];exact⟨h,rfl⟩
theorem aic {T l:List aH} (hT:(dK p.group p.cols.length T).2=0) (h:(dB cols p T l).2=0):
    (dB cols p (dw cols p T l) (qm l)).2=0\/(dB cols p (dw cols p T l) (qm l)).2=50:=by
  obtain⟨hi,e⟩:=u6 h;obtain⟨b1,b2⟩:=PU hi;rw[e]at h;have ht:=Ah h;have hb:dw cols p T l=T++(cB cols p l).1:=by unfold dw;rw[zac (by rw[e];exact h)]
  have ha:dB cols p (dw cols p T l) (qm l)=jd p.group p.cols.length (T++(cB cols p l).1) (qm (cB cols p l).1):=by
    unfold dB;rw[zab (not_not_intro b1),b2,hb]
  have h0:(dK p.group p.cols.length (T++(cB cols p l).1++qm (cB cols p l).1)).2=0:=by rw[TU ht];exact hT
  rw[ha];unfold jd;rw[zab (not_not_intro h0)]
  split<;>exact aib _
theorem TV {T l:List aH} (h:(dB cols p T l).2=0) (h2:(dB cols p (dw cols p T l) (qm l)).2=0):
    dK p.group p.cols.length (dw cols p (dw cols p T l) (qm l))=dK p.group p.cols.length T:=by
  obtain⟨hi,e⟩:=u6 h;obtain⟨b1,b2⟩:=PU hi;have hb:dw cols p T l=T++(cB cols p l).1:=by unfold dw;rw[zac h]
  rw[e]at h;have ht:=Ah h;rw[hb]at h2 ⊢;unfold dw;rw[zac h2,b2];exact TU ht
theorem aie:dY []=([],0):=Af ⟨List.Pairwise.nil,λ_ h=>zat h zaj,λ_ h=>zat h zaj⟩
theorem aif {T l:List aH} (hT:(dK p.group p.cols.length T).2=0) (h:(dB cols p T l).2=0) (h2:(dB cols p (dw cols p T l) (qm l)).2=0):
    UW (dB cols p T l).1 (dB cols p (dw cols p T l) (qm l)).1=([],0):=by
  rw[<-aie];refine qD λr=>?_;rw[gF,Ou hT h,Ou (Dn hT) h2,TV h h2];show _=0
  omega
end
attribute [local irreducible] FW FL FG FGn gu gy dh gH Qfn Gives
section
variable {w:Wd} {F:NP}
theorem jZ {l:List bL} {v:Value} (hl:aM w v aR 7 l) (uH:l.length<=1000):aN Tryz.prog 33 [v] w λv' w'=>∃x,v'=x/\True/\Turn noB (bW 54 7 aR x l) w w':=by
 obtain⟨A,m,rfl,⟨hm,qo⟩,hA⟩:=hl;have H:=Sep.aL w;refine eP Tryz.func33 rfl rfl rfl rfl ?_;refine Zb4 ?_;have H6:=Sep.lZ H 54 7 aR;refine jW H6 At0 (hA.keep H.kept) (by unfold maxLen;simp;omega) (by simp;omega) (cells_one (λ_=>rfl) _) (h:=?_);intro v2 w6 H6;refine Zb1 ?_;exact⟨_,rfl,trivial,by rw[zbr]at H6;exact H6.turn⟩
end
section
variable {w:Wd}
theorem qN {l:List bL} {v:Value} (hl:aM w v aR 7 l):aN Tryz.prog 14 [v] w λu w'=>∃x,u=x/\True/\Turn noB (bW 54 7 aR x (l.take 12)) w w':=by
 have G8:=hl;obtain⟨A,m,rfl,⟨hm,qo⟩,hA⟩:=hl;obtain⟨n,hn⟩: ∃n:Nat,n=min l.length 12:=⟨_,rfl⟩;have Ni:min (l.length:Int) 12=(n:Int):=oM
 have tF:l.take n=l.take 12:=by
  rcases Nat.le_total l.length 12 with h | h
  .rw[zaf oM,zaf h]
  rw[show n=12 from oM]
 have H:=Sep.aL w;refine eP Tryz.func14 rfl rfl rfl rfl ?_;refine Zb4 ?_;refine Vv (Gives.C8 rfl rfl Ni) (Vv (Gives.sliceTo (h:=n) rfl rfl oM) ?_);refine dx H (jZ (xM (m:=n) (G8.keep H.kept) oM) (by rw[zag];omega)) (h:=λx w8 _ H8 k7=>?_);rw[tF]at H8;refine Zb1 ?_;exact⟨_,rfl,trivial,H8.turn⟩
end
def bH (l:List bJ):List bJ:=(l.take 70).map dM
section
variable {w:Wd}
theorem iB {l:List bJ} {v:Value} (hl:aM w v aD 3 l):aN Tryz.prog 39 [v] w λv' w'=>∃x,v'=x/\True/\Turn noB (bW 92 3 aD x (bH l)) w w':=by
 obtain⟨A,m,rfl,⟨hm,qo⟩,hA⟩:=hl;have H:=Sep.aL w;refine eP Tryz.func39 rfl rfl rfl rfl ?_;refine Zb3 ?_;have H5:=Sep.lZ H 92 3 aD;refine aP (λx:Nat×Value=>[(0,.slice A l.length m),(3,x.2),(4,I x.1)]) (λx w'=>(x.1<=l.length/\x.1<=70)/\Mw.Sep w noB [bW 92 3 aD x.2 ((l.take x.1).map dM)] w') (λx _=>l.length-x.1) (0,.slice none 0 0) tR ⟨⟨zak _,zak _⟩,H5⟩ (λx τ w5 hI=>?_);obtain⟨i,v1⟩:=x;obtain⟨⟨hi,Wp⟩,H5⟩:=hI;dsimp only at hi Wp H5;have yV:((l.take i).map dM).length=i:=by rw[zae,zag];omega
 try simp only[dA,like,bB,bY]
 refine Zb5 ?_;refine aC (t:=10) rfl (λSa=>?_) (λSa=>?_)
 .have Qu:=Sa
  refine Za3 ?_;refine Qn (Cp rfl (λIa=>?_) (λIa=>?_))
  .have bX:i<l.length:=oM
   obtain⟨x,hx⟩:=get_some bX;have tF:(l.take (i+1)).map dM=(l.take i).map dM++[dM x]:=by rw[zav,hx,zam];rfl
   refine Zb4 ?_;refine aW H5 (h:=λb5 wa Ha ka=>?_);refine au Ha (h:=λwb Hb=>?_);refine Zb5 ?_;refine Vv (Gives.C8 rfl rfl (qA x.s 1100)) (Vv (Gives.lV (l:=x.s) (i:=(x.s.take 1100).length) rfl rfl (by rw[zag];omega)) ?_);rw[jY];refine Vf ?_;refine bM Hb (h:=λwc Hc=>?_);refine Zb1 ?_;refine iA Hc (cs:=aD (dM x)) (h:=?_);refine Bs Hc ([dM x].flatMap aD) (λbs wd Hd kb=>?_);refine gP Hd (news:=[dM x]) At1 (by rw[yV];unfold maxLen;simp;omega) (by rw[yV];show(i+1)*32<=_;omega) (cells_one (λ_=>rfl) _) (h:=?_);intro v2 we He;rw[<-tF]at He;refine Zb2 ?_;refine Vc ((i+1:Nat):Int) ?_;refine Zb1 ?_;exact ak (i+1,v2) tR ⟨⟨dO,dO⟩,(He.aJ).firsts (l:=[_])⟩ dO
  have jy:(l.take i).map dM=bH l:=by unfold bH;rw[show i=70 by have h:=Ia;omega]
  refine Zb2 ?_;exact⟨_,rfl,trivial,by rw[jy]at H5;exact H5.turn⟩
 have jy:(l.take i).map dM=bH l:=by unfold bH;rw[zaf (l:=l) (i:=i) (by have h:=Sa;omega),zaf (l:=l) (i:=70) (by have h:=Sa;omega)]
 refine Zb3 ?_;exact⟨_,rfl,trivial,by rw[jy]at H5;exact H5.turn⟩
end
def fV (o:jL):jL:=⟨o.name.take 40,bH o.steps⟩
def fJ (p:aZ):aZ:=⟨bH p.wh,(p.cols.take 18).map fV,p.group⟩
/-! A plan that is owned whole:L has each out beside the value of its steps. -/
abbrev jr:=Value×jL
def gK (L:List jr):List (L8×Value):=L.map λb=>(b.2.name,b.1)
abbrev uj (L:List jr):HP:=vH 92 3 aD (·.1) (λb=>b.2.steps) L
def zG (vw vc:Value) (s:List bJ) (L:List jr):HP:=star (bW 92 3 aD vw s) (star (bW 94 2 bZ vc (gK L)) (uj L))
theorem l7: ∀{L:List jr} {F:NP} {w:Wd},(uj L).ok F w->∀b∈L,aM w b.1 aD 3 b.2.steps
 | [],_,_,_=>λ_ h=>zat h zaj
 | b::L,F,w,h=>by
  obtain⟨F1,F2,_,_,h1,h2⟩:=h;intro c hc
  rcases zap.1 hc with rfl | hc
  .exact iE h1
  exact l7 h2 c hc
theorem um {F:NP} {w:Wd} {vw vc:Value} {s:List bJ} {L:List jr} (g:Int) (h:(zG vw vc s L).ok F w):eG w (agg [vw,vc,I g]) ⟨s,L.map (·.2),g⟩:=by
 obtain⟨F1,F2,_,_,h1,F3,F4,_,_,h2,h3⟩:=h;refine⟨vw,vc,rfl,iE h1,gK L,iE h2,?_,λi x o hx ho=>?_⟩
 .unfold gK
  rw[zcy,zcy];rfl
 unfold gK at hx;rw[zcf]at hx ho
 obtain⟨b,hb⟩: ∃b,L[i]? =some b:=by
  cases hb:L[i]? with
  | none=>rw[hb]at hx;cases hx
  | some b=>exact⟨b,rfl⟩
 rw[hb]at hx ho;injection hx with hx
 injection ho with ho
 subst hx;subst ho;exact l7 h3 b (zao hb)
section
variable {w:Wd}
theorem nS {p:aZ} {v:Value} (hp:eG w v p):aN Tryz.prog 15 [v] w λv' w'=>∃x:Value×Value×List jr,v'=agg [x.1,x.2.1,I p.group]/\x.2.2.map (·.2)=(fJ p).cols/\Turn noB (zG x.1 x.2.1 (fJ p).wh x.2.2) w w':=by
 obtain⟨vw,vc,rfl,hw,r,hr,gW⟩:=hp;obtain⟨A,m,rfl,⟨hm,qo⟩,hA⟩:=hr;obtain⟨W,mw,rfl,_,_⟩:=id hw;have xk:=gW.len;have H:=Sep.aL w;refine sI Tryz.func15 rfl rfl rfl rfl ?_;refine Sr (dz H (cs:=[.slice W p.wh.length mw,.slice A r.length m,I p.group]) rfl (h:=λb1 w2 H2 k1=>?_));refine aW H2 (h:=λb2 w4 H4 k3=>?_);refine Qn (iP (λz:Nat×OA×Nat=>[(1,aA b1),(2,aA b2),(3,aA z.1)]) (λz w'=>Mw.Sep w noB [bW 92 3 aD (.slice z.2.1 (bH p.wh).length z.2.2) (bH p.wh),blk z.1 [.slice z.2.1 (bH p.wh).length z.2.2,.slice none 0 0,I p.group] 26,blk b2 [.slice none 0 0,.slice none 0 0,I 0] 26,blk b1 [.slice W p.wh.length mw,.slice A r.length m,I p.group] 26] w') ?_ ?_)
 .refine Ds (λiI w8 H8=>?_)
  refine Zb2 ?_;refine Gp iI 3 rfl rfl (λ_=>(Gives.ou rfl)) (Zb1 ?_);refine jK iI (e1:=2) (e2:=6) kR ?_ ?_
  .refine l9 iI 2 [(4,false),(3,true)] H8 (iB (hw.keep H8.kept)) (h:=λvx wa _ Ha ka=>?_)
   obtain⟨X,cx,rfl,_,_⟩:=Sep.eO Ha At0;refine⟨aY Ha (h:=ah (aK)),?_⟩;refine Gb iI 5 [.slice X (bH p.wh).length cx,.slice none 0 0,I p.group] ?_;refine xE iI 6 [(5,true),(4,false),(3,true)] Ha (h:=λb3 wb Hb=>⟨ah (aY Hb (h:=ah (aK))),?_⟩);refine eH iI 7 _ Hb (h:=λwc Hc=>⟨sT,?_⟩);refine Zb0 ?_;exact aG (b3,X,cx) tR (by first | exact Hc | exact Hc.aJ)
  refine ni iI 6 [(4,false),(3,true),(1,false),(0,true)] H8 (h:=λb3 wd Hd=>⟨aY Hd (h:=ah (aY Hd (h:=ah (aK)))),?_⟩);refine dL iI 2 [(4,false),(3,true)] Hd (iB (hw.keep Hd.kept)) (h:=λvx we _ He kb=>?_);obtain⟨X,cx,rfl,_,_⟩:=Sep.eO He At0;refine⟨aY He (h:=ah (aK)),?_⟩;refine Gb iI 5 [.slice X (bH p.wh).length cx,.slice none 0 0,I p.group] ?_;refine eH iI 7 _ He (h:=λwf Hf=>⟨sT,?_⟩);refine Zb0 ?_;exact aG (b3,X,cx) tR (by first | exact Hf | exact Hf.aJ)
 rintro⟨b3,X,cx⟩ τ wg Hg;dsimp only at Hg;simp only[dA,like,bB,bY];refine Zb2 ?_;have Hh:=Sep.ET (Sep.lZ Hg 94 2 bZ) 92 3 aD (λb:jr=>b.1) (λb=>b.2.steps);refine aP (λx:Nat×(OA×Nat)×List jr=>[(1,aA b1),(2,aA b2),(3,aA b3),(4,.slice x.2.1.1 (gK x.2.2).length x.2.1.2),(5,I x.1)]) (λx w'=>(x.1<=r.length/\x.1<=18/\(gK x.2.2).length=x.1/\x.2.2.map (·.2)=(p.cols.take x.1).map fV)/\Mw.Sep w noB [uj x.2.2,bW 94 2 bZ (.slice x.2.1.1 (gK x.2.2).length x.2.1.2) (gK x.2.2),bW 92 3 aD (.slice X (bH p.wh).length cx) (bH p.wh),blk b3 [.slice X (bH p.wh).length cx,.slice none 0 0,I p.group] 26,blk b2 [.slice none 0 0,.slice none 0 0,I 0] 26,blk b1 [.slice W p.wh.length mw,.slice A r.length m,I p.group] 26] w') (λx _=>r.length-x.1) (0,(none,0),[]) tR ⟨⟨zak _,zak _,rfl,rfl⟩,Hh⟩ (λx τ wi hI=>?_);obtain⟨i,⟨C,cc⟩,q⟩:=x;obtain⟨⟨hi,Wq,Gd,Fg⟩,Hh⟩:=hI;dsimp only at hi Wq Gd Fg Hh
 try simp only[dA,like,bB]
 refine Zb6 ?_;refine aC (t:=17) rfl (λSa=>?_) (λSa=>?_)
 .have Qu:=Sa
  refine Za3 ?_;refine Qn (Cp rfl (λIa=>?_) (λIa=>?_))
  .have bX:i<p.cols.length:=oM
   obtain⟨vx,hx,Cq⟩:=gW.at bX;have rY:p.cols[i]? =some p.cols[i]:=zaa bX;obtain⟨o,ho⟩: ∃o,o=p.cols[i]:=⟨_,rfl⟩;rw[<-ho]at hx Cq rY;have tF:(p.cols.take (i+1)).map fV=(p.cols.take i).map fV++[fV o]:=by rw[zav,rY,zdd,zam];rfl
   refine Zb0 ?_;refine Ds (λSb wj Hi=>?_);refine VZ ?_;refine Gp Sb 14 rfl rfl (λ_=>(Gives.C8 rfl rfl (qA o.name 40))) (Gp Sb 15 rfl rfl (λ_=>(Gives.lV (l:=o.name) (i:=(o.name.take 40).length) rfl rfl (by rw[zag];omega))) ?_);refine Zb6 ?_;refine dL Sb 22 [(15,true),(14,true),(13,true),(12,false),(11,true),(10,true),(9,true),(8,false),(7,true),(6,false),(5,true),(4,true),(3,true),(2,false),(1,true),(0,true)] Hi (iB (Cq.keep Hi.kept)) (h:=λvy wk _ Hj kc=>?_);obtain⟨Y,cy,rfl,_,_⟩:=Sep.eO Hj At0;refine⟨ah (ah (ah ((dN rfl kR (Gives.iJ (f:=0) rfl Hj hA hx rfl) rfl (ah (ah (ah (aY Hj (h:=ah ((dN rfl kR (Gives.iJ (f:=0) rfl Hj hA hx rfl) rfl (ah (ah (ah (aY Hj (h:=ah (ah (aK)))))))))))))))))),?_⟩;refine Gb Sb 23 (bZ (o.name.take (o.name.take 40).length,.slice Y (bH o.steps).length cy)) ?_;refine bU Sb 24 _ Hj (xs:=[.tmp 46]) (out:=[(o.name.take (o.name.take 40).length,Value.slice Y (bH o.steps).length cy)].flatMap bZ) (bE.many rfl rfl bE.nil) (h:=λbs wl Hk=>⟨sT,?_⟩);rw[jY]at Hk;refine jN Sb 25 _ Hk (news:=[(o.name.take 40,Value.slice Y (bH o.steps).length cy)]) At2 (by unfold maxLen;simp;omega) (by simp;omega) (λu hu=>zaz.1 (show([(o.name.take 40,Value.slice Y (bH o.steps).length cy)].flatMap bZ).all Value.oneCell'=true from rfl) u hu) (h:=λv2 wm Hl=>?_);rw[show gK q++[(o.name.take 40,Value.slice Y (bH o.steps).length cy)]=gK (q++[(Value.slice Y (bH o.steps).length cy,fV o)]) by unfold gK;rw[zam];rfl]at Hl
   obtain⟨C2,c2,rfl,_,_⟩:=Sep.eO Hl At2;refine⟨sT,?_⟩;refine yP Sb 26 _ (h:=⟨sT,?_⟩);refine Zb3 ?_;exact ak (i+1,(C2,c2),q++[(Value.slice Y (bH o.steps).length cy,fV o)]) ⟨rfl,rfl,rfl,rfl,by dsimp only;unfold gK;rw[zam];rfl,trivial⟩ ⟨⟨dO,dO,by dsimp only;unfold gK at Gd ⊢;rw[zae]at Gd ⊢;rw[zad,Gd];rfl,by dsimp only;rw[zam,Fg,tF];rfl⟩,Sep.AY (x:=(Value.slice Y (bH o.steps).length cy,fV o)) Hl⟩ dO
  have jy:(p.cols.take i).map fV=(fJ p).cols:=by rw[show i=18 by have h:=Ia;omega];rfl
  refine Zb2 ?_;refine bM (v:=.slice C (gK q).length cc) Hh (hy:=rfl) (h:=λwn Hm=>?_);refine Zb1 ?_;refine au Hm (h:=λwo Hn=>?_);refine Qn (fu (aX (h:=?_)));rw[jy]at Fg;exact⟨_,jg Hn,(.slice X (bH p.wh).length cx,.slice C (gK q).length cc,q),rfl,Fg,Hn.aJ.bI.aJ.bI.first.turn⟩
 have jy:(p.cols.take i).map fV=(fJ p).cols:=by
  show _=(p.cols.take 18).map fV
  rw[zaf (l:=p.cols) (i:=i) (by have h:=Sa;omega),zaf (l:=p.cols) (i:=18) (by have h:=Sa;omega)]
 refine Zb3 ?_;refine bM (v:=.slice C (gK q).length cc) Hh (hy:=rfl) (h:=λwp Ho=>?_);refine Zb1 ?_;refine au Ho (h:=λwq Hp=>?_);refine Qn (fu (aX (h:=?_)));rw[jy]at Fg;exact⟨_,jg Hp,(.slice X (bH p.wh).length cx,.slice C (gK q).length cc,q),rfl,Fg,Hp.aJ.bI.aJ.bI.first.turn⟩
theorem pF {p:aZ} {v:Value} (hp:eG w v p):aN Tryz.prog 15 [v] w λv' w'=>∃x,v'=x/\True/\Turn noB (vZ x (fJ p)) w w':=
 aN.mono (nS hp) λu w' h=>by
  obtain⟨⟨vw,vc,L⟩,rfl,hL,hk,F1,hq,hs⟩:=h;refine⟨_,rfl,trivial,hk,F1,HP.look hq λF w h=>?_,hs⟩;have:=um p.group h
  rwa [show(⟨(fJ p).wh,L.map (·.2),p.group⟩:aZ)=fJ p by dsimp only at hL;rw[hL];rfl]at this
end
section
variable {w w0:Wd} {S:NP} {rs:List HP} {put:HP->List HP}
theorem GX {v:Value} {L:List Held} (H:Mw.Sep w0 S rs w) (hat:At rs (dR v L) put):Mw.Sep w0 S (put (qH v (eU L) (L.map (·.2)))) w:=Sep.look H hat λ_ _ h=>by
 obtain⟨F1,F2,_,_,h1,h2⟩:=h;exact⟨iE h1,qF h2⟩
end
section
variable {w:Wd} {F:NP}
end
theorem oF (l:List aH):(jf l).length<=10:=by unfold jf;rw[zae,zag];omega
theorem oG {l:List aH} (h: ∀x∈l,bR x): ∀x∈jf l,bR x:=λx hx=>by
 obtain⟨y,hy,rfl⟩:=zaq.1 hx;obtain⟨h1,h2⟩:=h y (zbo hy);refine⟨h1,λc hc=>?_⟩;obtain⟨d,hd,rfl⟩:=zaq.1 hc;exact h2 d (zbo hd)
theorem j3 (l:List bJ):(bH l).length<=70:=by unfold bH;rw[zae,zag];omega
theorem j4 {l:List bJ} (h:bK l):bK (bH l):=λx hx=>by
 obtain⟨y,hy,rfl⟩:=zaq.1 hx;exact h y (zbo hy)
theorem qZ {p:aZ} (h:iR p):iR (fJ p)/\(fJ p).cols.length<=18/\(fJ p).wh.length<=70/\∀o∈(fJ p).cols,o.steps.length<=70:=
 ⟨⟨j4 h.1,λo ho=>by
  obtain⟨y,hy,rfl⟩:=zaq.1 ho;exact j4 (h.2 y (zbo hy))⟩,by show((p.cols.take 18).map fV).length<=18;rw[zae,zag];omega,j3 _,λo ho=>by
  obtain⟨y,hy,rfl⟩:=zaq.1 ho;exact j3 _⟩
theorem mE {w:Wd} {v:Value} {p:aZ} (h:eG w v p): ∃A a B b,v=agg [.slice A p.wh.length a,.slice B p.cols.length b,I p.group]:=by
 obtain⟨vw,vc,rfl,⟨A,a,rfl,_⟩,r,⟨B,b,rfl,_⟩,hr⟩:=h;exact⟨A,a,B,b,by rw[hr.len]⟩
theorem xJ {p:aZ} (cols:List bL) (h:iR p):yZ (cols.take 12) (fJ p):=by
 obtain⟨h1,h2,h3,h4⟩:=qZ h;exact⟨h1,by rw[zag];omega,h2,h3,h4⟩
section
variable {w:Wd} {cols:List bL} {p:aZ} {l:List aH} {vc vp v:Value}
theorem Ea (C:yZ cols p) (hc:aM w vc aR 7 cols) (hp:eG w vp p) (hT:fA w):
    aN Tryz.prog 19 [vc,vp] w λu w'=>∃pv:Value,u=.tuple #[pv,I (bQ cols p).2]/\Kept noB w w'/\((bQ cols p).2≠0->pv=.pointer none)/\((bQ cols p).2=0->∃b:Nat,pv=aA b/\Turn noB (jq b cols p []) w w'):=
  Dw hc (by have:=C.cs;omega) hp C.fit.1 C.fit.2 (by have:=C.outs;omega) (by have:=C.wh;omega) (λo ho=>by have:=C.st o ho;omega) hT
end
open Go.Proofs.Tryz
section
variable {w w0:Wd} {S:NP} {rs:List HP} {b:Nat} {cols:List bL} {p:aZ} {T J l:List aH} {v vc vp:Value} {L:List Held}
theorem Eb (H:Mw.Sep w0 S (dR v L::jq b cols p T::rs) w) (hl:L.map (·.2)=l) (hT: ∀wx,Kept S w0 wx->fA wx) (fq:(bQ cols p).2=0) (hf:iR p) (hv:mg p T) (zI: ∀x∈l,bR x) (Uk:l.length<=100):
    aN prog 24 [aA b,v] w λu w'=>∃x:Value×List Held,u=.tuple #[x.1,I (dB cols p T l).2]/\x.2.map (·.2)=(dB cols p T l).1/\Mw.Sep w0 S (dR x.1 x.2::jq b cols p (dw cols p T l)::dR v L::rs) w':=by
  obtain⟨F0,uI,iK,Uq,aQ⟩:=Sep.BM H At0;have CP: ∀w1,Kept F0 w w1->Kept S w0 w1:=λw1 h1=>Mw.Kept.into H.kept iK h1;refine aN.mono (xO uI ⟨eU L,λw1 h1=>?_⟩ (λw1 h1=>hT w1 (CP w1 h1)) fq hf.1 hf.2 hv zI Uk) λu w' hu=>?_
  . obtain⟨Fq,F1,F2,_,_,h1,h2⟩:=Uq w1 h1
    exact⟨iE h1,hl▸qF h2⟩
  obtain⟨x,rfl,hx,jH,F1,jA,jO⟩:=hu;exact⟨x,rfl,hx,(aQ _ F1 _ jH jA jO).aJ.dG⟩
theorem zH (H:Mw.Sep w0 S (jq b cols p T::rs) w) (fq:(bQ cols p).2=0) (hv:mg p T):
    aN prog 27 [aA b] w λu w'=>∃x:Value×List Held,u=x.1/\x.2.map (·.2)=(dK p.group p.cols.length T).1/\Mw.Sep w0 S (dR x.1 x.2::jq b cols p T::rs) w':=by
  obtain⟨F0,uI,iK,aQ⟩:=H.focus At0;refine aN.mono (Dv uI fq hv) λu w' hu=>?_;obtain⟨x,rfl,hx,jH,F1,jA,jO⟩:=hu;exact⟨x,rfl,hx,(aQ _ F1 _ jH jA jO).dG⟩
theorem PW (H:Mw.Sep w0 S rs w) (C:yZ cols p) (hc:aM w vc aR 7 cols) (hp:eG w vp p) (hT:fA w):
    aN prog 19 [vc,vp] w λu w'=>∃pv:Value,u=.tuple #[pv,I (bQ cols p).2]/\Kept noB w w'/\((bQ cols p).2≠0->pv=.pointer none/\Mw.Sep w0 S rs w')/\((bQ cols p).2=0->∃b:Nat,pv=aA b/\Mw.Sep w0 S (jq b cols p []::rs) w'):=
  aN.mono (Ea C hc hp hT) λu w' hu=>by
    obtain⟨pv,rfl,hk,h1,h2⟩:=hu;refine⟨pv,rfl,hk,λh=>⟨h1 h,H.keep hk⟩,λh=>?_⟩;obtain⟨b,rfl,jH,F1,jA,jO⟩:=h2 h;exact⟨b,rfl,H.new jH jA (λb hb=>(jO b hb).resolve_left id)⟩
end
def qj (ok:Prop) [Decidable ok] (pv:Value) (q:Nat->HP):HP:=if ok then exH λb:Nat=>star (jI (pv=aA b)) (q b)else jI (pv=.pointer none)
section
variable {w w0:Wd} {S:NP} {rs:List HP} {ok:Prop} [Decidable ok] {pv:Value} {q:Nat->HP} {b:Nat}
theorem Ec (H:Mw.Sep w0 S (qj ok pv q::rs) w) (h:ok): ∃b:Nat,pv=aA b/\Mw.Sep w0 S (q b::rs) w:=by
 unfold qj at H;rw[zac h]at H;obtain⟨b,H1⟩:=Sep.ex0 H;obtain⟨e,H2⟩:=Sep.tJ H1.dG;exact⟨b,e,H2⟩
theorem uy (H:Mw.Sep w0 S (q b::rs) w) (h:ok):Mw.Sep w0 S (qj ok (aA b) q::rs) w:=by
 unfold qj;rw[zac h];exact Sep.uW (p:=λb':Nat=>star (jI (aA b=aA b')) (q b')) b ((Sep.jT (φ:=aA b=aA b) rfl H).bI)
theorem vL (H:Mw.Sep w0 S rs w) (h: ¬ok):Mw.Sep w0 S (qj ok (.pointer none) q::rs) w:=by
 unfold qj;rw[zab h];exact Sep.jT (φ:=Value.pointer none=.pointer none) rfl H
end
section
variable {w:Wd} {cols:List bL} {p:aZ} {vc vp:Value}
theorem aii (C:yZ cols p) (hc:aM w vc aR 7 cols) (hp:eG w vp p) (hT:fA w):
    aN prog 19 [vc,vp] w λu w'=>∃pv:Value,u=.tuple #[pv,I (bQ cols p).2]/\True/\Turn noB (qj ((bQ cols p).2=0) pv λb=>jq b cols p []) w w':=
  aN.mono (PW (Sep.aL w) C hc hp hT) λu w' hu=>by
    obtain⟨pv,rfl,hk,h1,h2⟩:=hu;refine⟨pv,rfl,trivial,?_⟩
    by_cases h:(bQ cols p).2=0
    . obtain⟨b,rfl,H⟩:=h2 h
      exact(uy H h).first.turn
    obtain⟨rfl,H⟩:=h1 h;exact(vL H h).first.turn
end
/-! Rows of rows of items,given. -/
theorem Bc {cols:List bL} {p:aZ} {T l:List aH}:isZ (dB cols p T l).1:=by
 unfold dB
 split
 .exact⟨List.Pairwise.nil,λx hx=>zat hx zaj,λx hx=>zat hx zaj⟩
 exact PO
section
variable {w w0:Wd} {S:NP} {rs:List HP} {put:HP->List HP} {a b l:List aH} {v va vb:Value} {k m:Nat}
theorem lT {L:List Held} (H:Mw.Sep w0 S (dR v L::rs) w): ∃A c,v=.slice A L.length c:=by
 obtain⟨A,c,e,_,_⟩:=Sep.eO H.dG At0;exact⟨A,c,by rw[e,eU,zae]⟩
end
section
variable {w:Wd}
end
def l8 (r:List (Value×Int)):List (Value×Int):=r.filter λx=>decide (x.2≠ -9223372036854775808)
def zU (r:List (Value×Int)):List (Value×Int):=r.map λx=>(x.1, -x.2)
def pG (l:List aH):List aH:=l.filter λx=>decide (x.w≠ -9223372036854775808)
theorem PX {w:Wd}: ∀{r:List (Value×Int)} {l:List aH},fM w r l->fM w (l8 r) (pG l)
 | [],[],_=>fM.nil
 | [],o::l,h=>zat h.len sM
 | x::r,[],h=>zat h.len sM
 | x::r,o::l,h=>by
  obtain⟨h1,h2,h3⟩:=h.tail;have ih:=PX h3;obtain⟨v,n⟩:=x;dsimp only at h1 h2;subst h1;unfold l8 pG at ih ⊢;rw[zdq,zdq];dsimp only
  split
  .exact ih.cons h2
  exact ih
theorem acU {w:Wd}: ∀{r:List (Value×Int)} {l:List aH},fM w r l->fM w (zU r) (qm l)
 | [],[],_=>fM.nil
 | [],o::l,h=>zat h.len sM
 | x::r,[],h=>zat h.len sM
 | x::r,o::l,h=>by
  obtain⟨h1,h2,h3⟩:=h.tail;obtain⟨v,n⟩:=x;dsimp only at h1 h2;subst h1;exact fM.cons (o:=⟨o.row, -o.w⟩) h2 (acU h3)
theorem afc {r:List (Value×Int)} {i:Nat} {x:Value×Int} (h:r[i]? =some x):l8 (r.take (i+1))=l8 (r.take i)++if x.2≠ -9223372036854775808 then [x]else []:=by
 unfold l8;rw[zav,h,zdd,zfi,zdq]
 split
 .rename_i h;rw[zac (zba h)];rfl
 rename_i h;rw[zab (λh'=>h (zbe h'))];rfl
theorem aij {r:List (Value×Int)}:(l8 r).length<=r.length:=zdw _ _
theorem abB {l:List aH}:(pG l).length<=l.length:=zdw _ _
theorem abC {l:List aH} (h: ∀x∈l,bR x):(∀x∈pG l,bR x)/\∀x∈qm (pG l),bR x:=by
 refine⟨λx hx=>h x (zbw.1 hx).1,λx hx=>?_⟩;unfold qm at hx;obtain⟨y,hy,rfl⟩:=zaq.1 hx;obtain⟨h1,h2⟩:=zbw.1 hy;obtain⟨⟨ha,hb⟩,h3⟩:=h y h1;have h4:y.w≠ -9223372036854775808:=zba h2;exact⟨⟨dO,dO⟩,h3⟩
theorem aik (l:List aH):(qm l).length=l.length:=zae _
def aox (v1 v2:Value) (r:List (Value×Int)) (l:List aH) (w:Wd):Prop:=(aM w v1 av 2 (l8 r)/\fM w (l8 r) (pG l))/\(aM w v2 av 2 (zU (l8 r))/\fM w (zU (l8 r)) (qm (pG l)))
theorem ail {w w0:Wd} {S:NP} {rs:List HP} {v v1 v2:Value} {r:List (Value×Int)} {l:List aH} (H:Mw.Sep w0 S (bW 82 2 av v1 (l8 r)::bW 82 2 av v2 (zU (l8 r))::qH v r l::rs) w):Mw.Sep w0 S (iC (aox v1 v2 r l)::rs) w:=
 Sep.rH (X:=λw=>aM w v1 av 2 (l8 r)/\aM w v2 av 2 (zU (l8 r))) (Sep.rH (iL (iL H At0) At1) λ_ a b=>⟨a,b⟩) λ_ a b=>⟨⟨a.1,PX b.2⟩,⟨a.2,acU (PX b.2)⟩⟩
section
variable {w w0:Wd} {S:NP} {rs:List HP} {b:Nat} {cols:List bL} {p:aZ} {T l:List aH} {v:Value} {r:List (Value×Int)} {X:Wd->Prop}
theorem TW (H:Mw.Sep w0 S (iC X::jq b cols p T::rs) w) (hX: ∀w,X w->aM w v av 2 r/\fM w r l) (hT: ∀wx,Kept S w0 wx->fA wx) (fq:(bQ cols p).2=0) (hf:iR p) (hv:mg p T) (zI: ∀x∈l,bR x) (Uk:l.length<=100):
    aN Tryz.prog 24 [aA b,v] w λu w'=>∃x:Value×List Held,u=.tuple #[x.1,I (dB cols p T l).2]/\x.2.map (·.2)=(dB cols p T l).1/\Mw.Sep w0 S (dR x.1 x.2::jq b cols p (dw cols p T l)::iC X::rs) w':=by
  obtain⟨F0,uI,iK,Uq,aQ⟩:=Sep.BM H At0;have CP: ∀w1,Kept F0 w w1->Kept S w0 w1:=λw1 h1=>Mw.Kept.into H.kept iK h1;refine aN.mono (xO uI ⟨r,λw1 h1=>?_⟩ (λw1 h1=>hT w1 (CP w1 h1)) fq hf.1 hf.2 hv zI Uk) λu w' hu=>?_
  . obtain⟨Fq,hq⟩:=Uq w1 h1
    exact hX _ (tL hq)
  obtain⟨x,rfl,hx,jH,F1,jA,jO⟩:=hu;exact⟨x,rfl,hx,(aQ _ F1 _ jH jA jO).aJ.dG⟩
end
open Go.ChangeShapes Go.WideShapes Go.RowKit
section
variable {H:Type} {enc:Td×Value->H} {W:Wd} {r:Reach} {base:Nat} {v:Value} {d:DataW H} {ps:List MemPlace}
theorem q8 {n:Nat} {cs:LV} {y:DataW H×List MemPlace} (hl:cs.length=2) (hc:DataW.trod enc prog W 0 (λ_=>true) true n 50 cs=some y): ∃x:dJ,cs=bD x:=by
 have hf:=eT underlying50 kR hc kR hl;obtain⟨v0,_,_,rD,h0⟩:=hf 0 _ rfl;obtain⟨v1,_,_,rX,h1⟩:=hf 1 _ rfl;obtain⟨m,hm,_,_⟩:=DataW.trod_int underlying3 h0;obtain⟨b,hb,_⟩:=DataW.trod_bool underlying4 h1;injection hb with hb _
 injection hm with hm _
 subst hb hm
 match cs,hl with
 | [c0,c1],_=>
  simp at rD rX;subst rD rX;exact⟨⟨m,b⟩,rfl⟩
theorem q9 {n:Nat} {cs:LV} {y:DataW H×List MemPlace} (hl:cs.length=3) (hc:DataW.trod enc prog W 0 (λ_=>true) true n 92 cs=some y): ∃x:bJ,cs=aD x/\fits x.n:=by
 have hf:=eT underlying92 kR hc kR hl;obtain⟨v0,_,_,rD,h0⟩:=hf 0 _ rfl;obtain⟨v1,_,_,rX,h1⟩:=hf 1 _ rfl;obtain⟨v2,_,_,Jd,h2⟩:=hf 2 _ rfl;obtain⟨b,hb,_,_⟩:=DataW.trod_int underlying3 h0;obtain⟨m,hm,_,wm⟩:=DataW.trod_int underlying2 h1;obtain⟨s,hs,_⟩:=DataW.trod_string underlying9 h2;injection hb with hb _
 injection hm with hm _
 injection hs with hs _
 subst hb hm hs
 match cs,hl with
 | [c0,c1,c2],_=>
  simp at rD rX Jd;subst rD rX Jd;refine⟨⟨b,m,s.data.toList⟩,?_,BX rfl wm⟩;rw[oZ];rfl
theorem uo {n:Nat} {cs:LV} {y:DataW H×List MemPlace} (hl:cs.length=7) (hc:DataW.trod enc prog W 0 (λ_=>true) true n 54 cs=some y): ∃x:bL,cs=aR x:=by
 obtain⟨ys,n',_,_,_,hyl,hf⟩:=DataW.trod_struct underlying54 hc;have hy: ∀j,j<4->∃z,ys[j]? =some z:=λj hj=>⟨_,zaa (by rw[hyl];exact hj)⟩;obtain⟨z0,e0⟩:=hy 0 dC;obtain⟨z1,e1⟩:=hy 1 dC;obtain⟨z2,e2⟩:=hy 2 dC;obtain⟨z3,e3⟩:=hy 3 dC;have h0:DataW.trod enc prog W 0 (λ_=>true) true n' 3 ((cs.drop 0).take (prog.cellsOf 3))=some z0:=(hf 0 _ rfl).trans e0;have h1:DataW.trod enc prog W 0 (λ_=>true) true n' 9 ((cs.drop 1).take (prog.cellsOf 9))=some z1:=(hf 1 _ rfl).trans e1;have h2:DataW.trod enc prog W 0 (λ_=>true) true n' 50 ((cs.drop 2).take (prog.cellsOf 50))=some z2:=(hf 2 _ rfl).trans e2;have h3:DataW.trod enc prog W 0 (λ_=>true) true n' 52 ((cs.drop 4).take (prog.cellsOf 52))=some z3:=(hf 3 _ rfl).trans e3;have c0:prog.cellsOf 3=1:=kR;have c1:prog.cellsOf 9=1:=kR;have c2:prog.cellsOf 50=2:=kR;have c3:prog.cellsOf 52=3:=kR
 match cs,hl with
 | [a0,a1,a2,a3,a4,a5,a6],_=>
  rw[c0]at h0;rw[c1]at h1;rw[c2]at h2;rw[c3]at h3;obtain⟨i,hi,_,_⟩:=DataW.trod_int (cs:=[a0]) underlying3 h0;obtain⟨s,hs,_⟩:=DataW.trod_string (cs:=[a1]) underlying9 h1;obtain⟨t,ht⟩:=q8 (cs:=[a2,a3]) rfl h2;obtain⟨c,Qw,_⟩:=xR (cs:=[a4,a5,a6]) rfl h3;refine⟨⟨i,s.data.toList,t,c⟩,?_⟩;have ha:[a0,a1,a2,a3,a4,a5,a6]=[a0]++[a1]++[a2,a3]++[a4,a5,a6]:=rfl;rw[ha,hi,hs,ht,Qw,oZ];rfl
theorem ru (hv:Value.okWide prog W r base 22 v) (h:DataW.Trod enc prog W 0 (λ_=>true) true 22 v d ps): ∃l:List bL,aM W v aR 7 l:=by
 obtain⟨A,c,l,rfl,h1,h2,h3,h4⟩:=qY (f:=aR) (good:=λ_:bL=>True) (s:=7) underlying22 kR (λ_=>rfl) (λn cs y hl hc=>(uo hl hc).imp λ_ h=>⟨h,trivial⟩) hv h;exact⟨l,iO h1 h2 h3⟩
end
theorem qh {W:Wd}: ∀r:List (L8×Value),(∀x∈r,∃l,aM W x.2 aD 3 l/\bK l)->∃cols:List jL,nI W r cols/\∀o∈cols,bK o.steps
 | [],_=>⟨[],nI.nil,λo h=>zat h zaj⟩
 | x::r,h=>by
  obtain⟨l,hl,hf⟩:=h x zah;obtain⟨cols,⟨h1,h2⟩,hc⟩:=qh r λy hy=>h y (zai _ hy);refine⟨⟨x.1,l⟩::cols,⟨by rw[zax,zax,h1],λi y o hy ho=>?_⟩,λo ho=>?_⟩
  .cases i with
   | zero=>
    rw[zbp]at hy ho;injection hy with hy
    injection ho with ho
    subst hy ho;exact hl
   | succ i=>exact h2 i y o hy ho
  rcases zap.1 ho with e | e
  .subst e;exact hf
  exact hc o e
section
variable {H:Type} {enc:Td×Value->H} {W:Wd} {r:Reach} {base:Nat} {v:Value} {d:DataW H} {ps:List MemPlace}
theorem nT {n0:Nat} {y:DataW H×List MemPlace} (h:DataW.trod enc prog W 0 (λ_=>true) true n0 23 [v]=some y): ∃l:List bJ,aM W v aD 3 l/\bK l:=by
 obtain⟨A,c,l,rfl,h2,h3,h4,h5⟩:=iy (f:=aD) (good:=λx:bJ=>fits x.n) (s:=3) underlying23 kR (λ_=>rfl) (λn cs y hl hc=>q9 hl hc) h;exact⟨l,iO h2 h3 h4,h5⟩
theorem uq {n:Nat} {cs:LV} {y:DataW H×List MemPlace} (hl:cs.length=2) (hc:DataW.trod enc prog W 0 (λ_=>true) true n 94 cs=some y): ∃x:L8×Value,cs=bZ x/\∃l,aM W x.2 aD 3 l/\bK l:=by
 have hf:=eT underlying94 kR hc kR hl;obtain⟨v0,_,_,rD,h0⟩:=hf 0 _ rfl;obtain⟨v1,_,_,rX,h1⟩:=hf 1 _ rfl;obtain⟨s,hs,_⟩:=DataW.trod_string underlying9 h0;obtain⟨l,hr,Fy⟩:=nT h1;injection hs with hs _
 subst hs
 match cs,hl with
 | [c0,c1],_=>
  simp only[zbp,zby,Option.some.injEq]at rD rX;subst rD rX;exact⟨(s.data.toList,c1),by rw[oZ s];rfl,l,hr,Fy⟩
theorem xK {n0:Nat} {y:DataW H×List MemPlace} (h:DataW.trod enc prog W 0 (λ_=>true) true n0 24 [v]=some y): ∃l:List jL,zO W v l/\∀o∈l,bK o.steps:=by
 obtain⟨A,c,q,rfl,h2,h3,h4,h5⟩:=iy (f:=bZ) (good:=λx:L8×Value=>∃l,aM W x.2 aD 3 l/\bK l) (s:=2) underlying24 kR (λ_=>rfl) (λn cs y hl hc=>uq hl hc) h;obtain⟨cols,hr,hf⟩:=qh q h5;exact⟨cols,⟨q,iO h2 h3 h4,hr⟩,hf⟩
theorem rz (hv:Value.okWide prog W r base 26 v) (h:DataW.Trod enc prog W 0 (λ_=>true) true 26 v d ps): ∃p:aZ,eG W v p/\iR p:=by
 obtain⟨cs,rfl,zV⟩:=okWide_struct underlying26 hv;have hc:prog.cellsOf 26=3:=kR;rw[hc]at zV;obtain⟨fuel,hfu⟩:=h;obtain⟨l⟩:=cs
 match l,zV with
 | [a,b,c],_=>
  have hf:=eT underlying26 kR hfu kR rfl;obtain⟨v0,_,_,rD,h0⟩:=hf 0 _ rfl;obtain⟨v1,_,_,rX,h1⟩:=hf 1 _ rfl;obtain⟨v2,_,_,Jd,h2⟩:=hf 2 _ rfl;have e0:some a=some v0:=rD;have e1:some b=some v1:=rX;have e2:some c=some v2:=Jd;injection e0 with e0
  injection e1 with e1
  injection e2 with e2
  subst e0 e1 e2;obtain⟨wh,hw,hwf⟩:=nT h0;obtain⟨cols,ho,ZP⟩:=xK h1;obtain⟨g,hg,_,_⟩:=DataW.trod_int underlying3 h2;injection hg with hg _
  subst hg;exact⟨⟨wh,cols,g⟩,⟨a,b,rfl,hw,ho⟩,hwf,ZP⟩
end
section
variable {H:Type} {enc:Td×Value->H} {W:Wd} {r:Reach} {base:Nat} {v:Value} {d:DataW H} {ps:List MemPlace}
theorem uw {n0:Nat} {y:DataW H×List MemPlace} (h:DataW.trod enc prog W 0 (λ_=>true) true n0 27 [v]=some y): ∃l:List aH,cZ W v l/\∀x∈l,bR x:=by
 obtain⟨A,c,q,rfl,h2,h3,h4,h5⟩:=iy (f:=av) (good:=λx:Value×Int=>(∃l,aM W x.1 aj 3 l/\jX l)/\fits x.2) (s:=2) underlying27 kR (λ_=>rfl) (λn cs y hl hc=>xS hl hc) h;obtain⟨l,hr,hf⟩:=yK q h5;exact⟨l,⟨q,iO h2 h3 h4,hr⟩,hf⟩
theorem PI (hv:Value.okWide prog W r base 79 v) (h:DataW.Trod enc prog W 0 (λ_=>true) true 79 v d ps): ∃(va vb:Value) (la lb:List aH),v=agg [va,vb]/\(cZ W va la/\cZ W vb lb)/\(∀x∈la,bR x)/\∀x∈lb,bR x:=by
 have Kh:=hv;simp only[Value.okWide,underlying79]at Kh;obtain⟨cs,rfl,zV,_⟩:=Kh;have hc:prog.cellsOf 79=2:=kR;have Je:prog.cellsOf 27=1:=kR;rw[hc]at zV;obtain⟨fuel,hfu⟩:=h;obtain⟨l⟩:=cs
 match l,zV with
 | [a,b],_=>
  obtain⟨xs,m,_,_,_,hxl,hx⟩:=DataW.trod_array underlying79 hfu;have h0:=hx 0 dC;have h1:=hx 1 dC;rw[Je]at h0 h1;have g0:xs[0]? =some (xs[0]'oM):=zaa _;have g1:xs[1]? =some (xs[1]'oM):=zaa _;obtain⟨la,ha,haf⟩:=uw (v:=a) (h0.trans g0);obtain⟨lb,hb,hbf⟩:=uw (v:=b) (h1.trans g1);exact⟨a,b,la,lb,rfl,⟨ha,hb⟩,haf,hbf⟩
end
end Go.Proofs.YtkfpleidaoaonaaGreatDoor
