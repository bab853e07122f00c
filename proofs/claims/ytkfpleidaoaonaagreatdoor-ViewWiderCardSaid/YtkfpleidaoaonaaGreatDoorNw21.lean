/-
 A view looked at:is it none,its columns;walked.
-/
import Derived.Test.YtkfpleidaoaonaaGreatDoorNw1
import Derived.Test.YtkfpleidaoaonaaGreatDoorNw3
import Derived.Test.YtkfpleidaoaonaaGreatDoorNw20
import Derived.Test.YtkfpleidaoaonaaGreatDoorNw17
import Derived.Test.YtkfpleidaoaonaaGreatDoorNw13
import Derived.Test.YtkfpleidaoaonaaGreatDoorNw18
import Derived.Test.YtkfpleidaoaonaaGreatDoorNw2
set_option linter.unusedVariables false
set_option linter.unusedSimpArgs false
namespace Go.Proofs.YtkfpleidaoaonaaGreatDoor
open Go Go.Mw Go.Lib
set_option maxRecDepth 4000
attribute [local irreducible] FW FL FG FGn fZ gG cO gW Qfn Gives
def lM (cv wv pv:Value) (g:Int) (ov kv:Value) (o1 o2 o3:Int) (fv:Value):LV:=[cv,wv,pv,I g,ov,kv,.int .u32 o1,.int .i32 o2,.int .u32 o3,fv]
section
variable {w:Wd}
theorem Us {b:Nat} {E:Td} {cv wv pv ov kv fv:Value} {g o1 o2 o3:Int} {r:Bool} (hb:gU w b (lM cv wv pv g ov kv o1 o2 o3 fv) E) (hk:IsNil kv r):Rk Tryz.prog 51 [av b] w (.bool r):=by
 haveI:IsIface Tryz.prog 60:=⟨by kernel_rfl⟩
 have H:=Sep.aJ w;refine dI Tryz.func51 rfl rfl rfl rfl ?_;refine Zb4 ?_;refine gu (t:=5) rfl (λk=>?_) (λk=>?_)
 .refine Zb2 ?_
  (exfalso;simp at *)
 refine Zb3 ?_;refine fq (hb.keep H.kept) (h:=?_);refine On (Vv (Gives.Qu hk rfl rfl) (Zb2 ?_));exact⟨rfl,H.kept⟩
end
section
variable {w:Wd}
theorem Oy {α:Type} {A:OA} {c k m:Nat} {enc:α->LV} [jf enc k] {l:List α} (h:aQ w (.slice A l.length c) enc k l) (hm:m<=l.length):aQ w (.slice A m c) enc k (l.take m):=by
 obtain⟨A',c',e,⟨h1,h2⟩,hr⟩:=h;injection e with e1 e2 e3
 subst e1 e3;have hl:(l.take m).length=m:=by rw[zaj];omega
 exact⟨A,c,by rw[hl],⟨by rw[hl];omega,h2⟩,hr.cut m⟩
end
open Go.Proofs.Tryz
theorem aef {α:Type} {enc:α->LV} {k:Nat} [hk:jf enc k] {w:Wd} {A:OA} {l:List α} {c j:Nat} (h:aQ w (.slice A l.length c) enc k l) (hj:j<=l.length):aQ w (.slice (if c=j then A else A.map (·.add (j*k))) (l.length-j) (c-j)) enc k (l.drop j):=by
 obtain⟨A',c',e,⟨h1,h2⟩,h3⟩:=h;injection e with e1 e2 e3
 subst e1;subst e3;have h4:=Md (j:=l.length-j) h3 h1 h2 oM;rw[show l.length-(l.length-j)=j from oM]at h4;exact h4
def yx (w:Wd) (F:NP) (v:Value) (m:List aH):Prop:=∃r,∀w1,Kept F w w1->aQ w1 v aG 2 r/\fK w1 r m
theorem yx.is {w:Wd} {F:NP} {v:Value} {m:List aH} (h:yx w F v m): ∀w1,Kept F w w1->eT w1 v m:=λw1 h1=>by
 obtain⟨r,hr⟩:=h;exact⟨r,(hr w1 h1).1,(hr w1 h1).2⟩
section
variable {w:Wd} {F:NP}
theorem MX {bk bg bh keys sums:Nat} {v:Value} {m:List aH} {E:List bQ} (hp:(star (blk bk [av bg,I keys] 112) (star (blk bg (qd keys sums bh) 150) (Ee bh sums E))).ok F w)
    (hm:yx w F v m) (hT: ∀w1,Kept F w w1->gQ w1) (hkm:keys<=16) (ZF:sums<=16) (hr: ∀o∈m,fits o.w/\o.row.length=keys+sums/\fO o.row) (hn:m.length<=100) (hE:yR sums E=true):
    aY prog 392 [av bk,v] w λu w'=>∃x:Value×List Held,u=.tuple #[x.1,I (vQ keys sums E (m.map (fM keys))).2]/\x.2.map (·.2)=(vQ keys sums E (m.map (fM keys))).1/\
      Turn F (star (eU x.1 x.2) (star (blk bk [av bg,I keys] 112) (star (blk bg (qd keys sums bh) 150) (Ee bh sums (if(vQ keys sums E (m.map (fM keys))).2=0 then E++m.map (fM keys)else E))))) w w':=by
  have H:=(Sep.bW hp).bR;obtain⟨r,hrr⟩:=hm;obtain⟨⟨A,c,rfl,⟨hc,hc'⟩,_⟩,VR⟩:=hrr w (Kept.refl _ _);have BD:=VR.len;refine dF func392 rfl rfl rfl rfl ?_;refine Zb6 ?_;refine aR (λx:(OA×Nat)×List D5×Nat=>[(0,av bk),(6,.slice x.1.1 x.2.1.length x.1.2),(9,.slice A r.length c),(10,I r.length),(11,I x.2.2)]) (λx w'=>(x.2.2<=r.length/\x.2.1.map (·.2.2)=(m.take x.2.2).map (fM keys)/\∀w1,Kept F w w1->GK w1 x.2.1)/\Mw.Sep w F [bJ 430 3 xY (.slice x.1.1 x.2.1.length x.1.2) x.2.1,blk bk [av bg,I keys] 112,star (blk bg (qd keys sums bh) 150) (Ee bh sums E)] w') (λx _=>r.length-x.2.2) ((none,0),[],0) tR ⟨⟨zaq _,rfl,λw1 _ z hz=>zap hz zao⟩,Sep.nE H 430 3 xY⟩ (λx τ _ hI=>?_);obtain⟨⟨X,cX⟩,Z,i⟩:=x;obtain⟨⟨hi,hZm,hZi⟩,k⟩:=hI;dsimp only at hi hZm hZi k
  have hZl:Z.length=i:=by
    have h1:=zbb List.length hZm;rw[zaf,zaf,zaj]at h1;omega
  try simp only[cK,like,aS,bK]
  refine Za1 ?_;refine Qn (dW (Cp rfl (λS=>?_) (λS=>?_)))
  . have bH:i<r.length:=oM
    obtain⟨o,ho⟩:=get_some (l:=m) (show i<m.length from oM);obtain⟨arP,arQ,arR⟩:=hr o (zam ho);obtain⟨vo,Ry,VZ⟩:=VR.get ho;obtain⟨V,cv,rfl,⟨hcv,al6⟩,_⟩:=VZ
    have ahV: ∀w1,Kept F w w1->aQ w1 (.slice V o.row.length cv) ah 3 o.row:=λw1 h1=>by
      obtain⟨vo2,RB,akb⟩:=(hrr w1 h1).2.get ho;rw[Ry]at RB;injection RB with RB
      injection RB with e1 e2
      rw[e1];exact akb
    obtain⟨z,hz⟩: ∃z:D5,z=(.slice V keys cv,.slice (if cv=keys then V else V.map (·.add (keys*3))) (o.row.length-keys) (cv-keys),fM keys o):=⟨_,rfl⟩
    have ao0: ∀w1,Kept F w w1->GK w1 (Z++[z]):=λw1 h1 y hy=>by
      rcases zbi.1 hy with hy | hy
      . exact hZi w1 h1 y hy
      rw[zar]at hy;subst hy;rw[hz];refine⟨?_,aef (ahV w1 h1) oM⟩;have h2:=Oy (m:=keys) (ahV w1 h1) oM;exact h2
    have hzm:(Z++[z]).map (·.2.2)=(m.take (i+1)).map (fM keys):=by rw[zau,hZm,zbd,ho,hz,zau];rfl
    refine Zb0 ?_;refine Vv (Gives.jJ rfl rfl (bL (hrr _ k.kept).1) bH) (Vv (Gives.iL rfl (Sep.aJ _) (bL (hrr _ k.kept).1) Ry) ?_);refine aO k (h:=λb8 _ S _=>?_);refine ak S (h:=λ_ _=>?_);refine Qn (Ds (λS _ a=>?_));refine Zb7 ?_;refine GS (Gn rfl (λ_=>Gives.sliceTo (h:=keys) rfl rfl oM) ?_);refine Zb6 ?_;refine GS (Gn rfl (λ_=>Gives.sliceFrom (l:=keys) rfl rfl oM) ?_);refine Zb2 ?_;refine Gp S 17 rfl rfl (λ_=>Gives.build (out:=xY z) (by subst hz;exact(Fills.one rfl rfl rfl sM rfl (Fills.one rfl rfl rfl sM rfl (Fills.one rfl rfl rfl sM rfl Fills.nil))))) (Gz S 18 _ a ([z].flatMap xY) (h:=λbs _ a=>⟨sT,?_⟩));refine jP S 19 _ a (news:=[z]) At1 (by unfold maxLen;simp only[zah];omega) (by simp only[zah];omega) (by subst hz;exact(λu hu=>zbf.1 (show([_].flatMap xY).all Value.oneCell'=true from rfl) u hu)) (h:=λv34 _ a=>?_);obtain⟨X2,cX2,rfl,_,_⟩:=Sep.dQ a At1;refine⟨sT,?_⟩;refine Ja S 20 _ (h:=⟨sT,?_⟩);refine Zb0 ?_;refine Vc ((i+1:Nat):Int) ?_;refine Zb1 ?_;exact aj ((X2,cX2),Z++[z],i+1) tR ⟨⟨dO,hzm,ao0⟩,a.dA⟩ dO
  have oQ:i=m.length:=oM;rw[oQ,zbo]at hZm;refine Zb5 ?_;obtain⟨F0,vC,gH,hQ0,aI⟩:=Sep.KT k At1;have EA: ∀w1,Kept F0 _ w1->Kept F w w1:=λw1 h1=>Mw.Kept.into k.kept gH h1
  have hzo: ∀z∈Z,∃o∈m,z.2.2=fM keys o:=λz hz=>by
    have h1:z.2.2∈Z.map (·.2.2):=zdu hz;rw[hZm]at h1;obtain⟨o,ho,e⟩:=zat.1 h1;exact⟨o,ho,e.symm⟩
  refine aK (Ur vC (λw1 h1=>by obtain⟨Fq,h2⟩:=hQ0 w1 h1;exact nL h2) (λw1 h1=>hZi w1 (EA w1 h1)) (λw1 h1=>hT w1 (EA w1 h1)) hkm ZF (λz hz=>by
      obtain⟨o,ho,e⟩:=hzo z hz;rw[e];exact λc hc=>(hr o ho).2.2 c (zcy hc)) (λz hz=>by
      obtain⟨o,ho,e⟩:=hzo z hz;rw[e];exact⟨(hr o ho).1,λc hc=>((hr o ho).2.2 c (zfp hc)).1⟩) oM hE) rfl rfl (λv' _ Ms=>?_)
  obtain⟨x,rfl,hx,lY,F1,lG,a⟩:=Ms;rw[hZm]at hx lG ⊢;have S:=aI _ F1 _ lY lG a;refine Zb4 ?_;exact⟨x,rfl,hx,(S.dA.aL.bR.aL.aU.bD.aL.bD).turn⟩
theorem K4 {bk bg bh keys sums:Nat} {E:List bQ} (hp:(star (blk bk [av bg,I keys] 112) (star (blk bg (qd keys sums bh) 150) (Ee bh sums E))).ok F w) (hn:E.length<=200) (hEk: ∀x∈E,x.key.length=keys) (ZF:sums<=16):
    aY prog 393 [av bk] w λu w'=>∃x:Value×List Held,u=x.1/\x.2.map (·.2)=mZ sums E/\Turn F (star (eU x.1 x.2) (star (blk bk [av bg,I keys] 112) (star (blk bg (qd keys sums bh) 150) (Ee bh sums E)))) w w':=by
  have H:=(Sep.bW hp).bR;refine dI func393 rfl rfl rfl rfl ?_;refine Zb5 ?_;obtain⟨F0,vC,gH,aI⟩:=H.focus At1;refine aK (Xq vC hn hEk ZF) rfl rfl (λv' _ Ms=>?_);obtain⟨x,rfl,hx,lY,F1,lG,k⟩:=Ms;have S:=aI _ F1 _ lY lG k;refine Zb1 ?_;exact⟨x,rfl,hx,(S.aL.bR.aL.aU.bD.aL.bD).turn⟩
end
def lH (c:ay):ay:=⟨c.null,c.n,c.s.take 200⟩
def MZ (x:aH):aH:=⟨(x.row.take 12).map lH,x.w⟩
def Cg (l:List aH):List aH:=(l.take 10).map MZ
theorem aeg (s:L8) (k:Nat):s.take (s.take k).length=s.take k:=by
 rw[zaj]
 rcases Nat.le_total k s.length with h | h
 .rw[zcv h]
 rw[Nat.min_eq_right h,zax (zbk _),zax h]
section
variable {w:Wd}
theorem aeh {l:List aH} {v:Value} (hl:eT w v l):aY Tryz.prog 12 [v] w λu w'=>∃x:Value×List Held,u=x.1/\x.2.map (·.2)=Cg l/\Turn noB (eU x.1 x.2) w w':=by
 obtain⟨r,hr,iI⟩:=hl;obtain⟨A,m,rfl,⟨hm,qX⟩,hA⟩:=hr;have BD:=iI.len;have H:=Sep.aJ w;refine dI Tryz.func12 rfl rfl rfl rfl ?_;refine Zb3 ?_;refine aR (λx:(OA×Nat)×List Held×Nat=>[(0,.slice A r.length m),(3,.slice x.1.1 (eu x.2.1).length x.1.2),(4,I x.2.2)]) (λx w'=>(x.2.2<=r.length/\x.2.2<=10/\x.2.1.map (·.2)=(l.take x.2.2).map MZ)/\Mw.Sep w noB [bJ 82 2 aG (.slice x.1.1 (eu x.2.1).length x.1.2) (eu x.2.1),GH x.2.1] w') (λx _=>r.length-x.2.2) ((none,0),[],0) tR ⟨⟨zaq _,zaq _,rfl⟩,Sep.jM (dN H) 82 2⟩ (λx τ _ hI=>?_);obtain⟨⟨R,cR⟩,L,i⟩:=x;obtain⟨⟨hi,ao1,hL⟩,S⟩:=hI;dsimp only at hi ao1 hL S;have hLr:(eu L).length=L.length:=zaf _
 have hLi:L.length=i:=by
  have h1:=zbb List.length hL;rw[zaf,zaf,zaj]at h1;omega
 try simp only[cK,like,aS,bK]
 refine Zb5 ?_;refine aF (t:=12) rfl (λa=>?_) (λa=>?_)
 .refine Za3 ?_
  refine Qn (Cp rfl (λa=>?_) (λa=>?_))
  .have bH:i<r.length:=oM
   obtain⟨o,ho⟩:=get_some (l:=l) (show i<l.length from oM);obtain⟨vo,Ry,VZ⟩:=iI.get ho;obtain⟨V,cv,rfl,_,hV⟩:=VZ;refine Zb2 ?_;refine aR (λx:(OA×Nat)×Nat=>[(0,.slice A r.length m),(3,.slice R (eu L).length cR),(4,I i),(5,.slice x.1.1 ((o.row.take x.2).map lH).length x.1.2),(6,I x.2)]) (λx w'=>(x.2<=o.row.length/\x.2<=12)/\Mw.Sep w noB [bJ 52 3 ah (.slice x.1.1 ((o.row.take x.2).map lH).length x.1.2) ((o.row.take x.2).map lH),bJ 82 2 aG (.slice R (eu L).length cR) (eu L),GH L] w') (λx _=>o.row.length-x.2) ((none,0),0) tR ⟨⟨zaq _,zaq _⟩,Sep.nE S 52 3 ah⟩ (λx τ _ hK=>?_);obtain⟨⟨Y,cY⟩,k⟩:=x;obtain⟨⟨hk,ao2⟩,a⟩:=hK;dsimp only at hk ao2 a;have hkl:((o.row.take k).map lH).length=k:=by rw[zaf,zaj];omega
   try simp only[cK,like,aS]
   refine Zb3 ?_;refine Vv (Gives.jJ rfl rfl hA bH) (Zb1 ?_);refine Vv (Gives.jc (f:=0) rfl a hA Ry rfl) (Zb3 ?_);refine aF (t:=26) rfl (λb=>?_) (λb=>?_)
   .refine Za3 ?_
    refine Qn (Cp rfl (λb=>?_) (λb=>?_))
    .have hlk:k<o.row.length:=oM
     obtain⟨c,hc⟩:=get_some hlk;have hks:(o.row.take k).map lH++[lH c]=(o.row.take (k+1)).map lH:=by rw[zbd,hc,zau];rfl
     refine Zb2 ?_;refine Vv (Gives.jJ rfl rfl hA bH) (Zb1 ?_);refine Vv (Gives.jc (f:=0) rfl a hA Ry rfl) (Mv ?_);refine Vv (Gives.jJ rfl rfl hV hlk) (Vv (Gives.iL rfl a hV hc) ?_);refine aO a (h:=λb7 _ b _=>?_);refine ak b (h:=λ_ b=>?_);refine Zb5 ?_;refine Vv (Gives.ac9 rfl rfl (Kh c.s 200)) (Vv (Gives.pR (l:=c.s) (i:=(c.s.take 200).length) rfl rfl (by rw[zaj];omega)) ?_);rw[aeg];refine Vf ?_;refine bB b (h:=λ_ b=>?_);refine Zb1 ?_;refine iB b (cs:=ah (lH c)) (h:=?_);refine Bs b ([lH c].flatMap ah) (λbs _ b _=>?_);refine gP b (news:=[lH c]) At1 (by unfold maxLen;simp only[zah];omega) (by simp only[zah];omega) (cells_one (λ_=>rfl) _) (h:=?_);intro v5 b b;rw[hks]at b;obtain⟨Y2,cY2,rfl,_,_⟩:=Sep.dQ b At1;refine Zb2 ?_;refine Vc ((k+1:Nat):Int) ?_;refine Zb1 ?_;exact aj ((Y2,cY2),k+1) tR ⟨⟨dO,dO⟩,b.dA⟩ dO
    refine Zb4 ?_;refine Vv (Gives.jJ rfl rfl hA bH) (Zb1 ?_)
    have Ak:(o.row.take k).map lH=(MZ o).row:=by
     unfold MZ;dsimp only
     first
     | rw[zax (l:=o.row) (i:=k) oM,zax (l:=o.row) (i:=12) oM]
     | rw[show k=12 from oM]
    refine Vv (Gives.jc (f:=1) rfl a hA Ry rfl) (Vb (aG (.slice Y ((o.row.take k).map lH).length cY,o.w)) ?_);refine Bs a ([(Value.slice Y ((o.row.take k).map lH).length cY,o.w)].flatMap aG) (λbs _ b _=>?_);refine gP b (news:=[(Value.slice Y ((o.row.take k).map lH).length cY,o.w)]) At1 (by unfold maxLen;simp only[zah];omega) (by simp only[zah];omega) (λu hu=>zbf.1 (show([(Value.slice Y ((o.row.take k).map lH).length cY,o.w)].flatMap aG).all Value.oneCell'=true from rfl) u hu) (h:=?_);intro v9 b b;obtain⟨R2,cR2,rfl,_,_⟩:=Sep.dQ b At1;have ZG:=(jV (x:=.slice Y ((o.row.take k).map lH).length cY) (o:=⟨(o.row.take k).map lH,o.w⟩) (b.aU.aL)).aL
    have ZH:eu L++[(Value.slice Y ((o.row.take k).map lH).length cY,o.w)]=eu (L++[(Value.slice Y ((o.row.take k).map lH).length cY,(⟨(o.row.take k).map lH,o.w⟩:aH))]):=by
     unfold eu;rw[zau];rfl
    have Ey:(L++[(Value.slice Y ((o.row.take k).map lH).length cY,(⟨(o.row.take k).map lH,o.w⟩:aH))]).map (·.2)=(l.take (i+1)).map MZ:=by
     rw[zau,hL,zbd,ho,zau,Ak];rfl
    rw[ZH]at ZG ⊢;clear ZH
    generalize L++[(Value.slice Y ((o.row.take k).map lH).length cY,(⟨(o.row.take k).map lH,o.w⟩:aH))]=L2 at ZG Ey |-
    refine Zb2 ?_;refine Vc ((i+1:Nat):Int) ?_;refine Zb1 ?_;exact aj ((R2,cR2),L2,i+1) tR ⟨⟨dO,dO,Ey⟩,ZG⟩ dO
   refine Zb5 ?_;refine Vv (Gives.jJ rfl rfl hA bH) (Zb1 ?_)
   have Ak:(o.row.take k).map lH=(MZ o).row:=by
    unfold MZ;dsimp only
    first
    | rw[zax (l:=o.row) (i:=k) oM,zax (l:=o.row) (i:=12) oM]
    | rw[show k=12 from oM]
   refine Vv (Gives.jc (f:=1) rfl a hA Ry rfl) (Vb (aG (.slice Y ((o.row.take k).map lH).length cY,o.w)) ?_);refine Bs a ([(Value.slice Y ((o.row.take k).map lH).length cY,o.w)].flatMap aG) (λbs _ b _=>?_);refine gP b (news:=[(Value.slice Y ((o.row.take k).map lH).length cY,o.w)]) At1 (by unfold maxLen;simp only[zah];omega) (by simp only[zah];omega) (λu hu=>zbf.1 (show([(Value.slice Y ((o.row.take k).map lH).length cY,o.w)].flatMap aG).all Value.oneCell'=true from rfl) u hu) (h:=?_);intro v9 b b;obtain⟨R2,cR2,rfl,_,_⟩:=Sep.dQ b At1;have ZG:=(jV (x:=.slice Y ((o.row.take k).map lH).length cY) (o:=⟨(o.row.take k).map lH,o.w⟩) (b.aU.aL)).aL
   have ZH:eu L++[(Value.slice Y ((o.row.take k).map lH).length cY,o.w)]=eu (L++[(Value.slice Y ((o.row.take k).map lH).length cY,(⟨(o.row.take k).map lH,o.w⟩:aH))]):=by
    unfold eu;rw[zau];rfl
   have Ey:(L++[(Value.slice Y ((o.row.take k).map lH).length cY,(⟨(o.row.take k).map lH,o.w⟩:aH))]).map (·.2)=(l.take (i+1)).map MZ:=by
    rw[zau,hL,zbd,ho,zau,Ak];rfl
   rw[ZH]at ZG ⊢;clear ZH
   generalize L++[(Value.slice Y ((o.row.take k).map lH).length cY,(⟨(o.row.take k).map lH,o.w⟩:aH))]=L2 at ZG Ey |-
   refine Zb2 ?_;refine Vc ((i+1:Nat):Int) ?_;refine Zb1 ?_;exact aj ((R2,cR2),L2,i+1) tR ⟨⟨dO,dO,Ey⟩,ZG⟩ dO
  refine Zb2 ?_
  have akc:(l.take i).map MZ=Cg l:=by
   unfold Cg
   first
   | rw[zax (l:=l) (i:=i) oM,zax (l:=l) (i:=10) oM]
   | rw[show i=10 from oM]
  exact⟨(_,L),rfl,by dsimp only;rw[hL,akc],S.bD.turn⟩
 refine Zb3 ?_
 have akc:(l.take i).map MZ=Cg l:=by
  unfold Cg
  first
  | rw[zax (l:=l) (i:=i) oM,zax (l:=l) (i:=10) oM]
  | rw[show i=10 from oM]
 exact⟨(_,L),rfl,by dsimp only;rw[hL,akc],S.bD.turn⟩
end
def iR (l:List aZ):List aZ:=(l.take 70).map pG
section
variable {w:Wd}
theorem CX {l:List aZ} {v:Value} (hl:aQ w v aP 3 l):aY Tryz.prog 39 [v] w λv' w'=>∃x,v'=x/\True/\Turn noB (bJ 92 3 aP x (iR l)) w w':=by
 obtain⟨A,m,rfl,⟨hm,qX⟩,hA⟩:=hl;have H:=Sep.aJ w;refine dI Tryz.func39 rfl rfl rfl rfl ?_;refine Zb3 ?_;have k:=Sep.nE H 92 3 aP;refine aR (λx:Nat×Value=>[(0,.slice A l.length m),(3,x.2),(4,I x.1)]) (λx w'=>(x.1<=l.length/\x.1<=70)/\Mw.Sep w noB [bJ 92 3 aP x.2 ((l.take x.1).map pG)] w') (λx _=>l.length-x.1) (0,.slice none 0 0) tR ⟨⟨zaq _,zaq _⟩,k⟩ (λx τ _ hI=>?_);obtain⟨i,v1⟩:=x;obtain⟨⟨hi,ao3⟩,k⟩:=hI;dsimp only at hi ao3 k;have Bz:((l.take i).map pG).length=i:=by rw[zaf,zaj];omega
 try simp only[cK,like,aS,bK]
 refine Zb5 ?_;refine aF (t:=10) rfl (λS=>?_) (λS=>?_)
 .have ao4:=S
  refine Za3 ?_;refine Qn (Cp rfl (λa=>?_) (λa=>?_))
  .have bH:i<l.length:=oM
   obtain⟨x,hx⟩:=get_some bH;have yY:(l.take (i+1)).map pG=(l.take i).map pG++[pG x]:=by rw[zbd,hx,zau];rfl
   refine Zb4 ?_;refine aO k (h:=λb5 _ b _=>?_);refine ak b (h:=λ_ b=>?_);refine Zb5 ?_;refine Vv (Gives.ac9 rfl rfl (Kh x.s 1100)) (Vv (Gives.pR (l:=x.s) (i:=(x.s.take 1100).length) rfl rfl (by rw[zaj];omega)) ?_);rw[Ki];refine Vf ?_;refine bB b (h:=λ_ b=>?_);refine Zb1 ?_;refine iB b (cs:=aP (pG x)) (h:=?_);refine Bs b ([pG x].flatMap aP) (λbs _ b _=>?_);refine gP b (news:=[pG x]) At1 (by rw[Bz];unfold maxLen;simp;omega) (by rw[Bz];show(i+1)*32<=_;omega) (cells_one (λ_=>rfl) _) (h:=?_);intro v2 b b;rw[<-yY]at b;refine Zb2 ?_;refine Vc ((i+1:Nat):Int) ?_;refine Zb1 ?_;exact aj (i+1,v2) tR ⟨⟨dO,dO⟩,(b.aL).firsts (l:=[_])⟩ dO
  have q8:(l.take i).map pG=iR l:=by unfold iR;rw[show i=70 by have h:=a;omega]
  refine Zb2 ?_;exact⟨_,rfl,trivial,by rw[q8]at k;exact k.turn⟩
 have q8:(l.take i).map pG=iR l:=by unfold iR;rw[zax (l:=l) (i:=i) (by have h:=S;omega),zax (l:=l) (i:=70) (by have h:=S;omega)]
 refine Zb3 ?_;exact⟨_,rfl,trivial,by rw[q8]at k;exact k.turn⟩
end
def nZ:List bF:=[⟨1,[],⟨2,false⟩,cell0⟩,⟨2,[],⟨4,true⟩,cell0⟩]
section
variable {w:Wd}
theorem QO:aY Tryz.prog 38 [] w λu w'=>∃x,u=x/\True/\Turn noB (bJ 54 7 aX x nZ) w w':=by
 have H:=Sep.aJ w;refine YL Tryz.func38 rfl rfl rfl ?_;refine Zb1 ?_;refine Vb (aM ⟨2,false⟩) ?_;refine Vv (Gives.build (out:=aX ⟨1,[],⟨2,false⟩,cell0⟩) (Fills.one rfl rfl rfl sM rfl (Fills.many rfl rfl (zaw rfl) rfl Fills.nil))) (Vb (aM ⟨4,true⟩) ?_);refine Vv (Gives.build (out:=aX ⟨2,[],⟨4,true⟩,cell0⟩) (Fills.one rfl rfl rfl sM rfl (Fills.many rfl rfl (zaw rfl) rfl Fills.nil))) (Bs H (nZ.flatMap aX) (λbs _ k _=>?_));refine Zb1 ?_;exact⟨_,rfl,trivial,(Sep.o7 (n:=2) (s:=7) k At0 rfl dC).turn⟩
end
def Ut (s:L8):ay:=if s=[]then⟨true,0,[]⟩else⟨false,0,s⟩
def Y7 (id:Int) (s:L8):List ay:=[⟨false,id,[]⟩,Ut s]
section
variable {w:Wd}
theorem oC (id wt:Int) (s:L8):aY Tryz.prog 36 [I id,str s,I wt] w λu w'=>∃x:Value,u=agg (aG (x,wt))/\True/\Turn noB (bJ 52 3 ah x (Y7 id s)) w w':=by
 have H:=Sep.aJ w;refine Q9 Tryz.func36 rfl rfl rfl rfl ?_;refine Sr (aO H (h:=λb6 _ k _=>?_));refine Zb1 ?_;refine Vb (ah ⟨false,0,s⟩) ?_;refine aO k (h:=λb7 _ k _=>?_);refine ak k (h:=λ_ k=>?_);refine Za2 ?_;refine Qn (Cp rfl (λS=>?_) (λS=>?_))
 .have hs:s=[]:=S
  have ht:Ut s=⟨true,0,[]⟩:=zac hs;refine Zb0 ?_;refine Vb (ah ⟨true,0,[]⟩) ?_;refine ak k (h:=λ_ a=>?_);refine Zb1 ?_;rw[<-ht]at a;refine Vb (ah ⟨false,id,[]⟩) ?_;refine iB a (cs:=ah (Ut s)) (h:=?_);refine Bs a ((Y7 id s).flatMap ah) (λbs _ a _=>?_);refine Mv ?_;refine Vb (aG (.slice (some ⟨bs,0,none⟩) 2 2,wt)) ?_;refine ak a (h:=λ_ a=>?_);refine Qn (dX (aN (h:=?_)));exact⟨_,jh a,_,rfl,trivial,(Sep.o7 (n:=2) (s:=3) a At0 rfl dC).first.turn⟩
 have hs: ¬s=[]:=S;have ht:Ut s=⟨false,0,s⟩:=zab hs;refine Zb1 ?_;rw[<-ht]at k;refine Vb (ah ⟨false,id,[]⟩) ?_;refine iB k (cs:=ah (Ut s)) (h:=?_);refine Bs k ((Y7 id s).flatMap ah) (λbs _ a _=>?_);refine Mv ?_;refine Vb (aG (.slice (some ⟨bs,0,none⟩) 2 2,wt)) ?_;refine ak a (h:=λ_ a=>?_);refine Qn (dX (aN (h:=?_)));exact⟨_,jh a,_,rfl,trivial,(Sep.o7 (n:=2) (s:=3) a At0 rfl dC).first.turn⟩
end
def yN (o:j4):j4:=⟨o.name.take 40,iR o.steps⟩
def vZ (p:aW):aW:=⟨iR p.wh,(p.cols.take 18).map yN,p.group⟩
/-! A plan that is owned whole:L has each out beside the value of its steps. -/
abbrev GN:=Value×j4
def zF (L:List GN):List (L8×Value):=L.map λb=>(b.2.name,b.1)
abbrev aei (L:List GN):HP:=xu 92 3 aP (·.1) (λb=>b.2.steps) L
def aii (vw vc:Value) (s:List aZ) (L:List GN):HP:=star (bJ 92 3 aP vw s) (star (bJ 94 2 dU vc (zF L)) (aei L))
theorem Oz: ∀{L:List GN} {F:NP} {w:Wd},(aei L).ok F w->∀b∈L,aQ w b.1 aP 3 b.2.steps
 | [],_,_,_=>λ_ h=>zap h zao
 | b::L,F,w,h=>by
  obtain⟨F1,F2,_,_,h1,h2⟩:=h;intro c hc
  rcases zan.1 hc with rfl | hc
  .exact nL h1
  exact Oz h2 c hc
theorem aej {F:NP} {w:Wd} {vw vc:Value} {s:List aZ} {L:List GN} (g:Int) (h:(aii vw vc s L).ok F w):ji w (agg [vw,vc,I g]) ⟨s,L.map (·.2),g⟩:=by
 obtain⟨F1,F2,_,_,h1,F3,F4,_,_,h2,h3⟩:=h;refine⟨vw,vc,rfl,nL h1,zF L,nL h2,?_,λi x o hx ho=>?_⟩
 .unfold zF
  rw[zdt,zdt];rfl
 unfold zF at hx;rw[zcr]at hx ho
 obtain⟨b,hb⟩: ∃b,L[i]? =some b:=by
  cases hb:L[i]? with
  | none=>rw[hb]at hx;cases hx
  | some b=>exact⟨b,rfl⟩
 rw[hb]at hx ho;injection hx with hx
 injection ho with ho
 subst hx;subst ho;exact Oz h3 b (zam hb)
section
variable {w:Wd}
theorem Uu {p:aW} {v:Value} (hp:ji w v p):aY Tryz.prog 15 [v] w λv' w'=>∃x:Value×Value×List GN,v'=agg [x.1,x.2.1,I p.group]/\x.2.2.map (·.2)=(vZ p).cols/\Turn noB (aii x.1 x.2.1 (vZ p).wh x.2.2) w w':=by
 obtain⟨vw,vc,rfl,hw,r,hr,iI⟩:=hp;obtain⟨A,m,rfl,⟨hm,qX⟩,hA⟩:=hr;obtain⟨W,mw,rfl,_,_⟩:=id hw;have BD:=iI.len;have H:=Sep.aJ w;refine tQ Tryz.func15 rfl rfl rfl rfl ?_;refine Sr (cB H (cs:=[.slice W p.wh.length mw,.slice A r.length m,I p.group]) rfl (h:=λb1 _ k _=>?_));refine aO k (h:=λb2 _ _ _=>?_);refine Qn (fB (λz:Nat×OA×Nat=>[(1,av b1),(2,av b2),(3,av z.1)]) (λz w'=>Mw.Sep w noB [bJ 92 3 aP (.slice z.2.1 (iR p.wh).length z.2.2) (iR p.wh),blk z.1 [.slice z.2.1 (iR p.wh).length z.2.2,.slice none 0 0,I p.group] 26,blk b2 [.slice none 0 0,.slice none 0 0,I 0] 26,blk b1 [.slice W p.wh.length mw,.slice A r.length m,I p.group] 26] w') ?_ ?_)
 .refine Ds (λk _ S=>?_)
  refine Zb2 ?_;refine Gp k 3 rfl rfl (λ_=>(Gives.uU rfl)) (Zb1 ?_);refine mI k (e1:=2) (e2:=6) kR ?_ ?_
  .refine ng k 2 [(4,false),(3,true)] S (CX (hw.keep S.kept)) (h:=λvx _ _ a _=>?_)
   obtain⟨X,cx,rfl,_,_⟩:=Sep.dQ a At0;refine⟨sL,?_⟩;refine Gb k 5 [.slice X (iR p.wh).length cx,.slice none 0 0,I p.group] ?_;refine Er k 6 [(5,true),(4,false),(3,true)] a (h:=λb3 _ a=>⟨sL,?_⟩);refine dZ k 7 _ a (h:=λ_ a=>⟨sT,?_⟩);refine Zb0 ?_;exact aA (b3,X,cx) tR (by first | exact a | exact a.aL)
  refine oN k 6 [(4,false),(3,true),(1,false),(0,true)] S (h:=λb3 _ a=>⟨sL,?_⟩);refine fV k 2 [(4,false),(3,true)] a (CX (hw.keep a.kept)) (h:=λvx _ _ a _=>?_);obtain⟨X,cx,rfl,_,_⟩:=Sep.dQ a At0;refine⟨sL,?_⟩;refine Gb k 5 [.slice X (iR p.wh).length cx,.slice none 0 0,I p.group] ?_;refine dZ k 7 _ a (h:=λ_ a=>⟨sT,?_⟩);refine Zb0 ?_;exact aA (b3,X,cx) tR (by first | exact a | exact a.aL)
 rintro⟨b3,X,cx⟩ τ a a;dsimp only at a;simp only[cK,like,aS,bK];refine Zb2 ?_;have k:=Sep.Zp (Sep.nE a 94 2 dU) 92 3 aP (λb:GN=>b.1) (λb=>b.2.steps);refine aR (λx:Nat×(OA×Nat)×List GN=>[(1,av b1),(2,av b2),(3,av b3),(4,.slice x.2.1.1 (zF x.2.2).length x.2.1.2),(5,I x.1)]) (λx w'=>(x.1<=r.length/\x.1<=18/\(zF x.2.2).length=x.1/\x.2.2.map (·.2)=(p.cols.take x.1).map yN)/\Mw.Sep w noB [aei x.2.2,bJ 94 2 dU (.slice x.2.1.1 (zF x.2.2).length x.2.1.2) (zF x.2.2),bJ 92 3 aP (.slice X (iR p.wh).length cx) (iR p.wh),blk b3 [.slice X (iR p.wh).length cx,.slice none 0 0,I p.group] 26,blk b2 [.slice none 0 0,.slice none 0 0,I 0] 26,blk b1 [.slice W p.wh.length mw,.slice A r.length m,I p.group] 26] w') (λx _=>r.length-x.1) (0,(none,0),[]) tR ⟨⟨zaq _,zaq _,rfl,rfl⟩,k⟩ (λx τ _ hI=>?_);obtain⟨i,⟨C,cc⟩,q⟩:=x;obtain⟨⟨hi,ao5,hql,hqm⟩,k⟩:=hI;dsimp only at hi ao5 hql hqm k
 try simp only[cK,like,aS]
 refine Zb6 ?_;refine aF (t:=17) rfl (λa=>?_) (λa=>?_)
 .have ao4:=a
  refine Za3 ?_;refine Qn (Cp rfl (λS=>?_) (λS=>?_))
  .have bH:i<p.cols.length:=oM
   obtain⟨vx,hx,Ga⟩:=iI.at bH;have xJ:p.cols[i]? =some p.cols[i]:=zaa bH;obtain⟨o,ho⟩: ∃o,o=p.cols[i]:=⟨_,rfl⟩;rw[<-ho]at hx Ga xJ;have yY:(p.cols.take (i+1)).map yN=(p.cols.take i).map yN++[yN o]:=by rw[zbd,xJ,zed,zau];rfl
   refine Zb0 ?_;refine Ds (λc _ d=>?_);refine ano ?_;refine Gp c 14 rfl rfl (λ_=>(Gives.ac9 rfl rfl (Kh o.name 40))) (Gp c 15 rfl rfl (λ_=>(Gives.pR (l:=o.name) (i:=(o.name.take 40).length) rfl rfl (by rw[zaj];omega))) ?_);refine Zb6 ?_;refine fV c 22 [(15,true),(14,true),(13,true),(12,false),(11,true),(10,true),(9,true),(8,false),(7,true),(6,false),(5,true),(4,true),(3,true),(2,false),(1,true),(0,true)] d (CX (Ga.keep d.kept)) (h:=λvy _ _ d _=>?_);obtain⟨Y,cy,rfl,_,_⟩:=Sep.dQ d At0;refine⟨aC (aC (aC ((dw rfl kR (Gives.jc (f:=0) rfl d hA hx rfl) rfl (aC (aC (aC (iX d (h:=aC ((dw rfl kR (Gives.jc (f:=0) rfl d hA hx rfl) rfl (aC (aC (aC (iX d (h:=aC (aC (eZ)))))))))))))))))),?_⟩;refine Gb c 23 (dU (o.name.take (o.name.take 40).length,.slice Y (iR o.steps).length cy)) ?_;refine Gz c 24 _ d ([(o.name.take (o.name.take 40).length,Value.slice Y (iR o.steps).length cy)].flatMap dU) (h:=λbs _ d=>⟨sT,?_⟩);rw[Ki]at d;refine jP c 25 _ d (news:=[(o.name.take 40,Value.slice Y (iR o.steps).length cy)]) At2 (by unfold maxLen;simp;omega) (by simp;omega) (λu hu=>zbf.1 (show([(o.name.take 40,Value.slice Y (iR o.steps).length cy)].flatMap dU).all Value.oneCell'=true from rfl) u hu) (h:=λv2 _ d=>?_);rw[show zF q++[(o.name.take 40,Value.slice Y (iR o.steps).length cy)]=zF (q++[(Value.slice Y (iR o.steps).length cy,yN o)]) by unfold zF;rw[zau];rfl]at d;obtain⟨C2,c2,rfl,_,_⟩:=Sep.dQ d At2
   refine⟨sT,?_⟩;refine Ja c 26 _ (h:=⟨sT,?_⟩);refine Zb3 ?_;exact aj (i+1,(C2,c2),q++[(Value.slice Y (iR o.steps).length cy,yN o)]) ⟨rfl,rfl,rfl,rfl,by dsimp only;unfold zF;rw[zau];rfl,trivial⟩ ⟨⟨dO,dO,by dsimp only;unfold zF at hql ⊢;rw[zaf]at hql ⊢;rw[zad,hql];rfl,by dsimp only;rw[zau,hqm,yY];rfl⟩,Sep.Vd (x:=(Value.slice Y (iR o.steps).length cy,yN o)) d⟩ dO
  have q8:(p.cols.take i).map yN=(vZ p).cols:=by rw[show i=18 by have h:=S;omega];rfl
  refine Zb2 ?_;refine bB (v:=.slice C (zF q).length cc) k (hy:=rfl) (h:=λ_ d=>?_);refine Zb1 ?_;refine ak d (h:=λ_ d=>?_);refine Qn (dX (aN (h:=?_)));rw[q8]at hqm;exact⟨_,jh d,(.slice X (iR p.wh).length cx,.slice C (zF q).length cc,q),rfl,hqm,d.aL.bD.aL.bD.first.turn⟩
 have q8:(p.cols.take i).map yN=(vZ p).cols:=by
  show _=(p.cols.take 18).map yN
  rw[zax (l:=p.cols) (i:=i) (by have h:=a;omega),zax (l:=p.cols) (i:=18) (by have h:=a;omega)]
 refine Zb3 ?_;refine bB (v:=.slice C (zF q).length cc) k (hy:=rfl) (h:=λ_ d=>?_);refine Zb1 ?_;refine ak d (h:=λ_ d=>?_);refine Qn (dX (aN (h:=?_)));rw[q8]at hqm;exact⟨_,jh d,(.slice X (iR p.wh).length cx,.slice C (zF q).length cc,q),rfl,hqm,d.aL.bD.aL.bD.first.turn⟩
theorem Xr {p:aW} {v:Value} (hp:ji w v p):aY Tryz.prog 15 [v] w λv' w'=>∃x,v'=x/\True/\Turn noB (BR x (vZ p)) w w':=
 aY.mono (Uu hp) λu w' h=>by
  obtain⟨⟨vw,vc,L⟩,rfl,hL,hk,F1,hq,hs⟩:=h;refine⟨_,rfl,trivial,hk,F1,HP.look hq λF w h=>?_,hs⟩;have:=aej p.group h
  rwa [show(⟨(vZ p).wh,L.map (·.2),p.group⟩:aW)=vZ p by dsimp only at hL;rw[hL];rfl]at this
end
def CY (c:ay):Prop:=fits c.n/\c.s.length<=1024
theorem Ef:CY cell0:=⟨⟨dC,dC⟩,dC⟩
theorem aa8 {cols:List bF} {l:List aZ} {r:List ay} (hf:jI r) (hx:bI l):CY (lN cols l r).1:=by
 unfold lN
 split
 .exact Ef
 rename_i h1
 split
 .exact Ef
 rename_i h2;cases hr:zS cols r [] l with
 | none=>exact Ef
 | some st=>
  have ht: ∃t,runT cols [] l=some [t]:=by
   unfold iA at h1
   split at h1
   .exact zap (show(5:Int)≠0 from dC) h1
   split at h1
   .rename_i t ht;exact⟨t,ht⟩
   exact zap (show(220:Int)≠0 from dC) h1
  obtain⟨t,ht⟩:=ht;have hT:=Nt (Decidable.of_not_not h2) hf hx Typed.nil ht hr;show CY (st.getD 0 cell0)
  cases hs:st[0]? with
  | none=>rw[zak,hs];exact Ef
  | some c=>
   rw[zak,hs];have:=hT.2 0 t c rfl hs;exact⟨this.2,Vi this.1⟩
theorem OB {cols:List bF} {r:List ay} (hf:jI r): ∀{l:List j4},(∀o∈l,bI o.steps)->(∀c∈(fA cols r l).1,CY c)/\((fA cols r l).2=0->(fA cols r l).1.length=l.length)
 | [],_=>⟨λc hc=>zap hc zao,λ_=>rfl⟩
 | o::l,h=>by
  obtain⟨i1,i2⟩:=OB hf (l:=l) λo ho=>h o (zag _ ho);rw[fA]
  split
  .rename_i h1;exact⟨λc hc=>zap hc zao,λh2=>zap h2 h1⟩
  split
  .rename_i h1;exact⟨λc hc=>zap hc zao,λh2=>zap h2 h1⟩
  rename_i h1 h2;refine⟨λc hc=>?_,λ_=>?_⟩
  .rcases zan.1 hc with rfl | hc
   .exact aa8 hf (h o zae)
   exact i1 c hc
  show _+1=_+1
  rw[i2 (Decidable.of_not_not h2)]
def K6 (n:Nat) (x:aH):Prop:=fits x.w/\x.row.length=n/\∀c∈x.row,CY c
theorem aek {cols:List bF} {p:aW} {r:List ay} (hf:jI r) (hp: ∀o∈p.cols,bI o.steps):(∀c∈(iG cols p r).1,CY c)/\((iG cols p r).2.1=true->(iG cols p r).1.length=p.cols.length):=by
 obtain⟨i1,i2⟩:=OB (cols:=cols) hf hp;unfold iG
 split
 .exact⟨λc hc=>zap hc zao,λh=>Bool.noConfusion h⟩
 split
 .exact⟨λc hc=>zap hc zao,λh=>Bool.noConfusion h⟩
 split
 .exact⟨λc hc=>zap hc zao,λh=>Bool.noConfusion h⟩
 rename_i h;exact⟨i1,λ_=>i2 (Decidable.of_not_not h)⟩
def eG (x:aH):Prop:=fits x.w/\jI x.row
theorem A9 {cols:List bF} {p:aW} (hp: ∀o∈p.cols,bI o.steps): ∀{l:List aH},(∀x∈l,eG x)->∀x∈(dD cols p l).1,K6 p.cols.length x
 | [],_,x,hx=>zap hx zao
 | y::l,h,x,hx=>by
  have ih:=A9 (cols:=cols) hp (l:=l) λz hz=>h z (zag _ hz);obtain⟨h1,h2⟩:=h y zae;obtain⟨m1,m2⟩:=aek (cols:=cols) (p:=p) h2 hp;rw[dD]at hx
  split at hx
  .exact zap hx zao
  split at hx
  .exact zap hx zao
  split at hx
  .rename_i hb
   rcases zan.1 hx with rfl | hx
   .exact⟨h1,m2 hb,m1⟩
   exact ih x hx
  exact ih x hx
theorem sw {cols:List bF} {p:aW}: ∀l:List aH,(dD cols p l).1.length<=l.length
 | []=>zbk _
 | y::l=>by
  have ih:=sw (cols:=cols) (p:=p) l;rw[dD]
  split
  .exact zaq _
  split
  .exact zaq _
  split
  .simp only[zal];omega
  simp only[zal];omega
theorem ael {g:Int} {n:Nat} {T m:List aH} (hg:g<0) (hT:(cZ T).2=0):KJ (cZ T).1 m=(nQ g n T m,(cZ (if(nQ g n T m).2=0 then T++m else T)).1):=by
  have e: ∀X,gB g n X=cZ X:=λX=>by unfold gB;rw[zac hg]
  have hm:nQ g n T m=if(cZ (T++m)).2≠0 then([],(cZ (T++m)).2)else cZ m:=by unfold nQ;rw[e,zac hg]
  unfold KJ
  by_cases h1:(cZ m).2=0
  . have ea:BJ (cZ T).1 (cZ m).1=cZ (T++m):=by
      rw[YZ vM vM];unfold adg;rw[adh hT,aah h1]
    rw[zab (not_not_intro h1),ea,hm]
    by_cases h2:(cZ (T++m)).2=0
    . rw[zab (not_not_intro h2),zab (not_not_intro h2),zac h1]
      exact Prod.ext (Prod.ext rfl h1.symm) rfl
    rw[zac h2,zac h2,zab h2]
  rw[zac h1,hm,vL h1]
  by_cases h2:(cZ (T++m)).2=0
  . rw[zab (not_not_intro h2),zab dC]
  rw[zac h2,zab h2,vL h2]
def qy (w:Wd) (vw vc:Value) (r:List (L8×Value)) (p:aW):Prop:=aQ w vw aP 3 p.wh/\aQ w vc dU 2 r/\nV w r p.cols
theorem qy.is {w:Wd} {vw vc:Value} {r:List (L8×Value)} {p:aW} (h:qy w vw vc r p):ji w (agg [vw,vc,I p.group]) p:=⟨vw,vc,rfl,h.1,r,h.2.1,h.2.2⟩
theorem qy.keep {w w':Wd} {vw vc:Value} {r:List (L8×Value)} {p:aW} (h:qy w vw vc r p) (hk:Kept noB w w'):qy w' vw vc r p:=⟨h.1.keep hk,h.2.1.keep hk,h.2.2.keep hk⟩
structure GQ where
 cv:Value
 wv:Value
 pv:Value
 ov:Value
 r:List (L8×Value)
def jX (w:Wd) (z:GQ) (cols:List bF) (p:aW) (outs:List bF):Prop:=aQ w z.cv aX 7 cols/\qy w z.wv z.pv z.r p/\aQ w z.ov aX 7 outs
def K7 (v:Value):LV:=[v]
instance:jf K7 1:=⟨λ_=>rfl⟩
def OC (w:Wd) (b1:Nat) (g:Value) (l:List aZ):Prop:=∃(bs:Nat) (sv:Value),g=.func (.func 89) #[] #[av b1,av bs]/\gU w bs [sv] 23/\aQ w sv aP 3 l
def lV (w:Wd) (b1:Nat) (g:Value) (l:List aZ):Prop:=if l=[]then g=.func (.func 91) #[] #[]else OC w b1 g l
def nM (w:Wd) (b1:Nat) (gl:LV) (l:List j4):Prop:=gl.length=l.length/\∀(i:Nat) g o,gl[i]? =some g->l[i]? =some o->OC w b1 g o.steps
def QS (w:Wd) (b b1 bp b4:Nat) (p:aW):Prop:=∃(pf gv:Value) (gl:LV),gU w b1 [av b] 38/\
 (gU w bp [pf] 153/\lV w b1 pf p.wh)/\(gU w b4 [gv] 157/\aQ w gv K7 1 gl)/\nM w b1 gl p.cols
def GR (b1 bp b4:Nat):Value:=.func (.func 92) #[] #[av b1,av bp,av b4]
def oH (w:Wd) (b:Nat) (fv:Value) (p:aW):Prop:=∃b1 bp b4:Nat,fv=GR b1 bp b4/\QS w b b1 bp b4 p
theorem aa9 {w:Wd} {b b1 bp b4:Nat} {p:aW} (h:oH w b (GR b1 bp b4) p):QS w b b1 bp b4 p:=by
 obtain⟨c1,cp,c4,e,h⟩:=h;unfold GR at e;injection e with _ _ e
 simp[av]at e;obtain⟨rfl,rfl,rfl⟩:=e;exact h
theorem OC.keep {w w':Wd} {b1:Nat} {g:Value} {l:List aZ} (h:OC w b1 g l) (hk:Kept noB w w'):OC w' b1 g l:=by
 obtain⟨bs,sv,e,h1,h2⟩:=h;exact⟨bs,sv,e,h1.keep hk,h2.keep hk⟩
theorem lV.keep {w w':Wd} {b1:Nat} {g:Value} {l:List aZ} (h:lV w b1 g l) (hk:Kept noB w w'):lV w' b1 g l:=by
 unfold lV at h |-
 split
 .rename_i e;rw[zac e]at h;exact h
 rename_i e;rw[zab e]at h;exact h.keep hk
theorem nM.nil {w:Wd} {b1:Nat}:nM w b1 [] []:=⟨rfl,λi g o h=>by simp at h⟩
theorem nM.push {w:Wd} {b1:Nat} {gl:LV} {l:List j4} {g:Value} {o:j4} (h:nM w b1 gl l) (hg:OC w b1 g o.steps):nM w b1 (gl++[g]) (l++[o]):=by
 refine⟨by rw[zad,zad,h.1];rfl,λi x y hx hy=>?_⟩
 by_cases hi:i<gl.length
 .rw[zbz hi]at hx
  rw[zbz (by rw[<-h.1];exact hi)]at hy;exact h.2 i x y hx hy
 rw[zbv oM]at hx;rw[zbv (by rw[<-h.1];omega),<-h.1]at hy
 have h0:i-gl.length=0:=by
  cases hj:i-gl.length with
  | zero=>rfl
  | succ j=>rw[hj]at hx;simp at hx
 rw[h0]at hx hy;injection hx with hx
 injection hy with hy
 subst hx;subst hy;exact hg
def qI (z:GQ) (g:Int) (kv:Value) (o1 o2 o3:Int) (fv:Value):LV:=lM z.cv z.wv z.pv g z.ov kv o1 o2 o3 fv
def qJ (kv:Value) (p:aW) (T:List aH):HP:=
 if p.group<0 then exH λx:Nat×Value=>star (jo (kv=.iface 104 (av x.1))) (star (blk x.1 [x.2] 106) (zu x.2 (cZ T).1))
 else exH λx:Nat×Nat×Nat=>star (jo (kv=.iface 110 (av x.1))) (star (blk x.1 [av x.2.1,I (p.group.toNat:Nat)] 112) (star (blk x.2.1 (qd p.group.toNat (p.cols.length-p.group.toNat) x.2.2) 150) (Ee x.2.2 (p.cols.length-p.group.toNat) (T.map (fM p.group.toNat)))))
def qh (b:Nat) (cols:List bF) (p:aW) (T:List aH):HP:=exH λx:GQ×Value×Int×Value=>star (blk b (qI x.1 p.group x.2.1 x.2.2.1 0 0 x.2.2.2) 75) (star (qJ x.2.1 p T)
 (gy λw=>jX w x.1 cols p (dB cols p).1/\((x.2.2.1=0/\x.2.2.2=.nilFunc)\/(x.2.2.1=1/\oH w b x.2.2.2 p))))
section
variable {w:Wd}
theorem Fy {p:aW} {v:Value} (hp:ji w v p) (hn:p.cols.length<=100) (Ai:p.wh.length<=1000) (ZJ: ∀o∈p.cols,o.steps.length<=1000):aY Tryz.prog 47 [v] w λu w'=>∃x:Value×Value×List (L8×Value),u=agg [x.1,x.2.1,I p.group]/\True/\Turn noB (gy λw=>qy w x.1 x.2.1 x.2.2 p) w w':=by
 obtain⟨vw,vc,rfl,hw,hc⟩:=hp;obtain⟨r,hr,iI⟩:=hc;have VN:=hw;obtain⟨W,mw,rfl,⟨hmw,arS⟩,hW⟩:=VN;obtain⟨A,m,rfl,⟨hm,qX⟩,hA⟩:=hr;have BD:=iI.len;have H:=Sep.aJ w;refine tQ Tryz.func47 rfl rfl rfl rfl ?_;refine Sr (cB H (cs:=[.slice W p.wh.length mw,.slice A r.length m,I p.group]) rfl (h:=λb1 _ k _=>?_));refine aO k (h:=λb2 _ _ _=>?_);refine Qn (fB (λz:Nat×OA×Nat=>[(1,av b1),(2,av b2),(3,av z.1)]) (λz w'=>Mw.Sep w noB [EO (.slice z.2.1 p.wh.length z.2.2) aP 3 p.wh,blk z.1 [.slice z.2.1 p.wh.length z.2.2,.slice none 0 0,I p.group] 26,blk b2 [.slice none 0 0,.slice none 0 0,I 0] 26,blk b1 [.slice W p.wh.length mw,.slice A r.length m,I p.group] 26] w') ?_ ?_)
 .refine Ds (λk _ S=>?_)
  refine Zb2 ?_;refine Gp k 3 rfl rfl (λ_=>(Gives.uU rfl)) (Zb1 ?_);refine mI k (e1:=2) (e2:=6) kR ?_ ?_
  .refine ng k 2 [(4,false),(3,true)] S (uZ (hw.keep S.kept) Ai) (h:=λvx _ _ c _=>?_)
   obtain⟨X,cx,rfl,_,_⟩:=Sep.dQ c At0;refine⟨sL,?_⟩;refine Gb k 5 [.slice X p.wh.length cx,.slice none 0 0,I p.group] ?_;refine Er k 6 [(5,true),(4,false),(3,true)] c (h:=λb3 _ c=>⟨sL,?_⟩);refine dZ k 7 _ c (h:=λ_ c=>⟨sT,?_⟩);refine Zb0 ?_;exact aA (b3,X,cx) tR (by first | exact gL c At0 | exact gL c.aL At0)
  refine oN k 6 [(4,false),(3,true),(1,false),(0,true)] S (h:=λb3 _ c=>⟨sL,?_⟩);refine fV k 2 [(4,false),(3,true)] c (uZ (hw.keep c.kept) Ai) (h:=λvx _ _ c _=>?_);obtain⟨X,cx,rfl,_,_⟩:=Sep.dQ c At0;refine⟨sL,?_⟩;refine Gb k 5 [.slice X p.wh.length cx,.slice none 0 0,I p.group] ?_;refine dZ k 7 _ c (h:=λ_ c=>⟨sT,?_⟩);refine Zb0 ?_;exact aA (b3,X,cx) tR (by first | exact gL c At0 | exact gL c.aL At0)
 rintro⟨b3,X,cx⟩ τ c c;dsimp only at c;simp only[cK,like,aS,bK];refine Zb4 ?_;have k:=Ko (Sep.nE c 94 2 dU);refine aR (λx:Nat×(OA×Nat)×List (L8×Value)=>[(2,av b2),(3,av b3),(13,.slice A r.length m),(14,I r.length),(15,I x.1)]) (λx w'=>(x.1<=r.length/\x.2.2.length=x.1)/\Mw.Sep w noB [zm x.2.2 (p.cols.take x.1),bJ 94 2 dU (.slice x.2.1.1 x.2.2.length x.2.1.2) x.2.2,EO (.slice X p.wh.length cx) aP 3 p.wh,blk b3 [.slice X p.wh.length cx,.slice x.2.1.1 x.2.2.length x.2.1.2,I p.group] 26,blk b2 [.slice none 0 0,.slice none 0 0,I 0] 26] w') (λx _=>r.length-x.1) (0,(none,0),[]) tR ⟨⟨zaq _,rfl⟩,k.firsts (l:=[_,_,_,_,_])⟩ (λx τ _ hI=>?_);obtain⟨i,⟨C,cc⟩,q⟩:=x;obtain⟨⟨hi,hql⟩,k⟩:=hI;dsimp only at hi hql k
 try simp only[cK,like,aS]
 refine Za1 ?_;refine Qn (dW (Cp rfl (λc=>?_) (λc=>?_)))
 .have bH:i<p.cols.length:=oM
  obtain⟨vx,hx,Ga⟩:=iI.at bH;have xJ:p.cols[i]? =some p.cols[i]:=zaa bH;obtain⟨o,ho⟩: ∃o,o=p.cols[i]:=⟨_,rfl⟩;rw[<-ho]at hx Ga xJ;have yY:p.cols.take (i+1)=p.cols.take i++[o]:=by rw[zbd,xJ,zed]
  have hol:=ZJ o (zam xJ);have ao6:=Ga;obtain⟨V,cv,rfl,_,_⟩:=ao6;refine Zb0 ?_;refine Vv (Gives.jJ rfl rfl hA oM) (Vv (Gives.iL rfl k hA hx) ?_);refine aO k (h:=λb5 _ c _=>?_);refine ak c (h:=λ_ _=>?_);refine Qn (Ds (λc _ S=>?_));refine Zb6 ?_;refine fV c 6 [(3,false),(2,true),(1,false),(0,true)] S (uZ (l:=o.steps) (Ga.keep S.kept) hol) (h:=λvy _ _ S _=>?_);obtain⟨Y,cy,rfl,_,_⟩:=Sep.dQ S At0;refine⟨sL,?_⟩;refine Gb c 7 (dU (o.name,.slice Y o.steps.length cy)) ?_;refine Gz c 8 [(1,false),(0,true)] S ([(o.name,Value.slice Y o.steps.length cy)].flatMap dU) (h:=λbs _ S=>⟨sL,?_⟩);refine jP c 9 _ S (news:=[(o.name,Value.slice Y o.steps.length cy)]) At3 (by unfold maxLen;simp;omega) (by simp;omega) (λu hu=>zbf.1 (show([(o.name,Value.slice Y o.steps.length cy)].flatMap dU).all Value.oneCell'=true from rfl) u hu) (h:=λv2 _ S=>?_);obtain⟨C2,c2,rfl,_,_⟩:=Sep.dQ S At3;refine⟨sT,?_⟩;refine Zb1 ?_;refine mM c 11 _ S (h:=λ_ S=>⟨sT,?_⟩);refine Zb0 ?_;refine Vc ((i+1:Nat):Int) ?_;refine Zb1 ?_;exact aj (i+1,(C2,c2),q++[(o.name,Value.slice Y o.steps.length cy)]) tR ⟨⟨dO,by dsimp only;rw[zad,hql];rfl⟩,by
  dsimp only;rw[yY];exact Gs S.aL.dA⟩ dO
 have q8:p.cols.take i=p.cols:=zax oM;refine Zb0 ?_;refine iB k (cs:=[.slice X p.wh.length cx,.slice C q.length cc,I p.group]) (h:=?_);refine ak k (h:=λ_ S=>?_);refine Qn (dX (aN (h:=?_)));rw[q8]at S;have h1:=gL S.aL At0;have h2:=Sep.qg (Z:=λw=>aQ w (.slice C q.length cc) dU 2 q/\nV w q p.cols) h1 (λw a b=>⟨a,b⟩);have h3:=Sep.qg (Z:=λw=>qy w (.slice X p.wh.length cx) (.slice C q.length cc) q p) h2.aL (λw a b=>⟨a,b⟩);exact⟨_,jh S,(.slice X p.wh.length cx,.slice C q.length cc,q),rfl,trivial,h3.first.turn⟩
end
section
variable {w:Wd} {F:NP}
theorem GU (A:OA) (n c:Nat) (b1:Nat):aY prog 88 [.slice A n c,av b1] w λu w'=>∃bs:Nat,u=.func (.func 89) #[] #[av b1,av bs]/\True/\Turn noB (blk bs [.slice A n c] 23) w w':=by
 have H:=Sep.aJ w;refine dF func88 rfl rfl rfl rfl ?_;refine Sr (cB H (cs:=[.slice A n c]) rfl (h:=λbs _ k _=>?_));refine Zb3 ?_;exact⟨bs,rfl,trivial,k.turn⟩
theorem Xt {b:Nat} {z:GQ} {kv fv:Value} {o1 o2 o3:Int} {cols outs:List bF} {p:aW} (hp:(star (blk b (qI z p.group kv o1 o2 o3 fv) 75) (gy λw=>jX w z cols p outs)).ok F w) (hn:p.cols.length<=100):
    aY prog 53 [av b] w λ_ w'=>∃gv:Value,Turn F (star (blk b (qI z p.group kv o1 o2 o3 gv) 75) (gy λw=>jX w z cols p outs/\oH w b gv p)) w w':=by
  have H:=(Sep.bW hp).bR;obtain⟨cv,wv,pv,ov,r⟩:=z;have hF0:jX _ ⟨cv,wv,pv,ov,r⟩ cols p outs:=Sep.sees H At1;have VN:aQ _ wv aP 3 p.wh:=hF0.2.1.1;have Yz:aQ _ pv dU 2 r:=hF0.2.1.2.1;obtain⟨W,cw,rfl,_,_⟩:=VN;obtain⟨A,ca,rfl,_,_⟩:=Yz;have BD:=hF0.2.1.2.2.len;dsimp only at BD;unfold qI at H ⊢;dsimp only at H ⊢;refine dI func53 rfl rfl rfl rfl ?_;refine Sr (cB H (cs:=[av b]) rfl (h:=λb1 _ k _=>?_));refine Zb2 ?_;refine aO k (h:=λbp _ k _=>?_);refine bB k (h:=λ_ k=>?_);refine Qn (fB (λx:Value=>[(1,av b1),(2,.func (.func 88) #[] #[av b1]),(3,av bp)]) (λx w'=>Mw.Sep w F [gy λw=>jX w ⟨cv,.slice W p.wh.length cw,.slice A r.length ca,ov,r⟩ cols p outs/\lV w b1 x p.wh,blk bp [x] 153,blk b1 [av b] 38,blk b (lM cv (.slice W p.wh.length cw) (.slice A r.length ca) p.group ov kv o1 o2 o3 fv) 75] w') ?_ ?_)
  . refine Za7 ?_
    refine Qn (Cp rfl (λS=>?_) (λS=>?_))
    . have hwn: ¬p.wh=[]:=λe=>by have h:=S;rw[e]at h;simp at h
      refine Zb6 ?_;refine dP (fs:=[]) (cs:=[av b1]) (vals:=[.slice W p.wh.length cw]) rfl (GU W p.wh.length cw b1) rfl rfl (λv' _ hv=>?_);obtain⟨bs,rfl,_,lY,F1,lG,S⟩:=hv;have c:=k.new lY lG (λb hb=>(S b hb).resolve_left id);refine bB c (h:=λ_ c=>?_);refine Zb0 ?_;have h1:=Sep.look c At0 (X:=λw=>gU w bs [.slice W p.wh.length cw] 23) (λF w h=>h.2);have h2:=Sep.qg (Z:=λw=>jX w ⟨cv,.slice W p.wh.length cw,.slice A r.length ca,ov,r⟩ cols p outs/\lV w b1 (.func (.func 89) #[] #[av b1,av bs]) p.wh) h1.fC (λw g1 g2=>⟨g1,by unfold lV;rw[zab hwn];exact⟨bs,_,rfl,g2,g1.2.1.1⟩⟩);exact aA (.func (.func 89) #[] #[av b1,av bs]) tR h2
    have hwn:p.wh=[]:=zbe oM;refine Zb0 ?_;have h1:=Sep.pJ (Y:=λw=>jX w ⟨cv,.slice W p.wh.length cw,.slice A r.length ca,ov,r⟩ cols p outs/\lV w b1 (.func (.func 91) #[] #[]) p.wh) k At3 (λw h=>⟨h,by unfold lV;rw[zac hwn]⟩);exact aA (.func (.func 91) #[] #[]) tR h1.bE
  rintro pf τ c c;simp only[cK,like,aS,bK];refine Sr (aO c (h:=λb4 _ c _=>?_));refine Zb7 ?_;have k:=Sep.pJ (Y:=λw=>jX w ⟨cv,.slice W p.wh.length cw,.slice A r.length ca,ov,r⟩ cols p outs/\lV w b1 pf p.wh/\nM w b1 [] []) c At1 (λw h=>⟨h.1,h.2,nM.nil⟩);refine aR (λx:(OA×Nat)×LV×Nat=>[(1,av b1),(2,.func (.func 88) #[] #[av b1]),(3,av bp),(4,av b4),(26,.slice A r.length ca),(27,I r.length),(28,I x.2.2)]) (λx w'=>(x.2.2<=r.length/\x.2.1.length=x.2.2)/\Mw.Sep w F [blk b4 [.slice x.1.1 x.2.1.length x.1.2] 157,bJ 153 1 K7 (.slice x.1.1 x.2.1.length x.1.2) x.2.1,gy λw=>jX w ⟨cv,.slice W p.wh.length cw,.slice A r.length ca,ov,r⟩ cols p outs/\lV w b1 pf p.wh/\nM w b1 x.2.1 (p.cols.take x.2.2),blk bp [pf] 153,blk b1 [av b] 38,blk b (lM cv (.slice W p.wh.length cw) (.slice A r.length ca) p.group ov kv o1 o2 o3 fv) 75] w') (λx _=>r.length-x.2.2) ((none,0),[],0) tR ⟨⟨zaq _,rfl⟩,(Sep.nE k 153 1 K7).aL⟩ (λx τ _ hI=>?_);obtain⟨⟨G,cG⟩,gl,i⟩:=x;obtain⟨⟨hi,Rt⟩,k⟩:=hI;dsimp only at hi Rt k
  try simp only[cK,like,aS]
  refine Za1 ?_;refine Qn (dW (Cp rfl (λc=>?_) (λc=>?_)))
  . have bH:i<p.cols.length:=oM
    have hPA:=(Sep.sees k At2).1.2.1;obtain⟨vx,hx,Ga⟩:=hPA.2.2.at bH;have xJ:p.cols[i]? =some p.cols[i]:=zaa bH;obtain⟨o,ho⟩: ∃o,o=p.cols[i]:=⟨_,rfl⟩;rw[<-ho]at hx Ga xJ;have yY:p.cols.take (i+1)=p.cols.take i++[o]:=by rw[zbd,xJ,zed]
    obtain⟨V,cV,rfl,_,_⟩:=Ga;refine Zb0 ?_;refine Vv (Gives.jJ rfl rfl (bL (Sep.sees k At2).1.2.1.2.1) oM) (Vv (Gives.iL rfl (Sep.aJ _) (bL (Sep.sees k At2).1.2.1.2.1) hx) ?_);refine aO k (h:=λb6 _ c _=>?_);refine ak c (h:=λ_ _=>?_);refine Qn (Ds (λc _ d=>?_));refine Zb4 ?_;refine jH c 4 [(0,false)] (y:=.tmp 33) (fs:=[]) (cs:=[av b1]) (vals:=[.slice V o.steps.length cV]) rfl (GU V o.steps.length cV b1) (h:=λv' _ hv=>?_);obtain⟨bs,rfl,_,lY,F1,lG,S⟩:=hv;have f:=d.new lY lG (λb hb=>(S b hb).resolve_left id);refine⟨sL,?_⟩;refine Gz c 5 [(0,false)] f ([Value.func (.func 89) #[] #[av b1,av bs]].flatMap K7) (h:=λbq _ f=>⟨sL,?_⟩);refine jP c 6 _ f (news:=[Value.func (.func 89) #[] #[av b1,av bs]]) At3 (by unfold maxLen;simp only[zah];omega) (by simp only[zah];omega) (λu hu=>zbf.1 (show([Value.func (.func 89) #[] #[av b1,av bs]].flatMap K7).all Value.oneCell'=true from rfl) u hu) (h:=λv38 _ f=>?_);obtain⟨G2,c2,rfl,_,_⟩:=Sep.dQ f At3;refine⟨sT,?_⟩;refine mM c 7 _ f (h:=λ_ f=>⟨sT,?_⟩);refine Zb0 ?_;refine Vc ((i+1:Nat):Int) ?_;refine Zb1 ?_;have h1:=Sep.look f At0 (X:=λw=>gU w bs [.slice V o.steps.length cV] 23) (λF w h=>h.2)
    have h2:=Sep.qg (Z:=λw=>jX w ⟨cv,.slice W p.wh.length cw,.slice A r.length ca,ov,r⟩ cols p outs/\lV w b1 pf p.wh/\nM w b1 (gl++[Value.func (.func 89) #[] #[av b1,av bs]]) (p.cols.take (i+1))) (h1.aL.dA.bE) (λw g1 g2=>⟨g1.1,g1.2.1,by
      rw[yY];refine g1.2.2.push ⟨bs,_,rfl,g2,?_⟩;obtain⟨vy,hy,hsy⟩:=g1.1.2.1.2.2.at bH;rw[<-ho,hx]at hy;injection hy with hy
      injection hy with _ hy
      rw[<-ho,<-hy]at hsy;exact hsy⟩)
    exact aj ((G2,c2),gl++[Value.func (.func 89) #[] #[av b1,av bs]],i+1) tR ⟨⟨dO,by dsimp only;rw[zad,Rt];rfl⟩,h2.aU.aU⟩ dO
  have q8:p.cols.take i=p.cols:=zax oM;refine Zb1 ?_;refine Vv (Gives.makeFunc (us:=[]) (vs:=[av b1,av bp,av b4]) rfl rfl) (Zb2 ?_);refine bB k (h:=λ_ f=>?_);refine Zb0 ?_;rw[q8]at f;have h1:=Sep.look f.bD At0 (X:=λw=>gU w b4 [.slice G gl.length cG] 157/\aQ w (.slice G gl.length cG) K7 1 gl) (λF w h=>by obtain⟨F1,F2,_,_,a,b⟩:=h;exact⟨a.2,nL b⟩);have h2:=Sep.qg (Z:=λw=>(jX w ⟨cv,.slice W p.wh.length cw,.slice A r.length ca,ov,r⟩ cols p outs/\lV w b1 pf p.wh/\nM w b1 gl p.cols)/\gU w b4 [.slice G gl.length cG] 157/\aQ w (.slice G gl.length cG) K7 1 gl) h1 (λw a b=>⟨b,a⟩);have h3:=Sep.look h2 At1 (X:=λw=>gU w bp [pf] 153) (λF w h=>h.2);have h4:=Sep.qg (Z:=λw=>((jX w ⟨cv,.slice W p.wh.length cw,.slice A r.length ca,ov,r⟩ cols p outs/\lV w b1 pf p.wh/\nM w b1 gl p.cols)/\gU w b4 [.slice G gl.length cG] 157/\aQ w (.slice G gl.length cG) K7 1 gl)/\gU w bp [pf] 153) h3 (λw a b=>⟨a,b⟩);have h5:=Sep.look h4 At1 (X:=λw=>gU w b1 [av b] 38) (λF w h=>h.2);have h6:=Sep.qg (Z:=λw=>jX w ⟨cv,.slice W p.wh.length cw,.slice A r.length ca,ov,r⟩ cols p outs/\oH w b (.func (.func 92) #[] #[av b1,av bp,av b4]) p) h5 (λw a b=>⟨a.1.1.1,b1,bp,b4,rfl,pf,_,gl,b,⟨a.2,a.1.1.2.1⟩,a.1.2,a.1.1.2.2⟩);exact⟨_,h6.aL.bD.first.turn⟩
end
end Go.Proofs.YtkfpleidaoaonaaGreatDoor
namespace Go.Mw
open Go.RowKit
section
variable {P:Program} {n:Nat} {ops:AO} {Q:Post} {rest:LO} {σ:St} {w w' w0:Wd} {ty:Td} {pos:String} {after:Array Edge}
def yO (P:Program) (f:FuncId) (args:LV) (w:Wd) (R:Value->Wd->Prop):Prop:=CallsDIn (fen none) 0 P f args.toArray .returning w λe u w'=>u=.returning/\Ret R e w'
def OD (P:Program):List Deferred->Wd->(Wd->Prop)->Prop
 | [],w,R=>R w
 | d::ds,w,R=>∃(f:FuncId) (fs args:LV),d={target:=.fn (.func f) #[],args:=args.toArray}/\fs=args/\(∀w,(callFunc f args.toArray).run P w=.ok (.enter f args.toArray) w)/\yO P f args w λ_ w'=>OD P ds w' R
theorem tH {fn:Func} {tmps:Array Value} {R:Ending->Wd->Prop} {v:Value} (hr: ∀w,(results fn tmps).run P w=.ok v w): ∀(ds:List Deferred) (w:Wd),OD P ds w (λw'=>R (.returned v) w')->LeavesInM (fen none) 0 P fn tmps R ds .returning w
 | [],w,h=>⟨v,hr w,h⟩
 | d::ds,w,⟨f,fs,args,hd,_,he,hc⟩=>by
  subst hd;refine⟨(λe=>by cases e),.inr ⟨(λh=>by cases h),.func f, #[],f,args.toArray,rfl,?_,λ_ _=>trivial,CallsDIn.mono hc λe u' w' hu=>?_⟩⟩
  .have:=he w
   simpa[invoke]using this
  obtain⟨rfl,hr'⟩:=hu;cases e with
  | returned u=>exact tH hr ds w' hr'
  | _=>exact hr'.elim
def ajg (P:Program) (l:List ResultVar) (R:Value->Wd->Prop):Post:=λe σ w=>match e with
 | .normal | .ret=>∃vs,lS σ l=some vs/\OD P σ.ds w (R (eP vs))
 | _=>False
theorem Uv {l:List ResultVar} {R:Value->Wd->Prop} (h: ∃vs,lS σ l=some vs/\OD P σ.ds w (R (eP vs))):ajg P l R .normal σ w:=h
theorem alc {fn:Func} {args:LV} (hn:fn.ntmps=n) (q9:args.length<=n):Rep n (y5 0 args) {tmps:=args.toArray++Array.replicate (fn.ntmps-args.toArray.size) undef,defers:=[]}:=by
 refine⟨?_,(Du args 0).symm,λi=>?_⟩
 .simp[hn];omega
 rw[vF];simp only[zaq,if_true,zfg];simp only[zbl,zdy];rw[zfh]
 split
 .simp
 rename_i hge;simp at hge;rw[zcn oM];rw[zdz]
 split<;>rfl
theorem Uw {f:FuncId} {fn:Func} {c:Code} {args:LV} {R:Value->Wd->Prop} {l:List ResultVar}
    (hf:P.funcs[f]? =some fn) (hb:fn.body=some c) (hn:fn.ntmps=n) (hl:fn.results=l.toArray) (Cz:Nat.ble args.length n=true)
    (h:FW P none n c (ajg P l R) (y5 0 args) w):aY P f args w R:=by
  refine(callsIn_wide (n:=0)).1 (callsIn_of_wp_marks (F:=fen none) hf hb trivial (Go.wpIn_mono (h _ (alc hn (zaw Cz))) ?_));rintro e a' w' ⟨s,hs,hq⟩;cases e with
  | normal=>
    obtain⟨vs,h1,h2⟩:=hq;show LeavesInM _ _ _ _ _ _ _ _ _
    rw[hs.defers];exact tH (λw=>oU hs.get hl h1) _ _ h2
  | ret=>
    obtain⟨vs,h1,h2⟩:=hq;show LeavesInM _ _ _ _ _ _ _ _ _
    rw[hs.defers];exact tH (λw=>oU hs.get hl h1) _ _ h2
  | _=>exact hq.elim
theorem ajh {f:FuncId} {fn:Func} {c:Code} {a0 a1:Value} {R:Value->Wd->Prop} {l:List ResultVar} (hf:P.funcs[f]? =some fn) (hb:fn.body=some c) (hn:fn.ntmps=n) (hl:fn.results=l.toArray) (hk:Nat.ble 2 n=true)
    (h:FW P none n c (ajg P l R) (upd (upd und 1 a1) 0 a0) w):aY P f [a0,a1] w R:=Uw hf hb hn hl hk h
def agX (l:List ResultVar) (R:Value->Wd->Prop):Post:=λe σ w=>match e with
 | .normal | .ret=>σ.ds=[]/\∃vs,lS σ l=some vs/\R (eP vs) w
 | _=>False
theorem GV {l:List ResultVar} {R:Value->Wd->Prop} (h: ∃vs,lS σ l=some vs/\R (eP vs) w) (hd:σ.ds=[]:=by exact rfl):agX l R .normal σ w:=⟨hd,h⟩
theorem GX {f:FuncId} {fn:Func} {c:Code} {args:LV} {R:Value->Wd->Prop} {l:List ResultVar}
    (hf:P.funcs[f]? =some fn) (hb:fn.body=some c) (hn:fn.ntmps=n) (hl:fn.results=l.toArray) (Cz:Nat.ble args.length n=true)
    (h:FW P none n c (agX l R) (y5 0 args) w):yO P f args w R:=by
  refine CallsDIn.mono (callsDIn_of_wp (F:=fen none) (R:=Ret R) hf hb trivial (Go.wpIn_mono (h _ (alc hn (zaw Cz))) ?_)) λe u' w' hu=>hu;rintro e a' w' ⟨s,hs,hq⟩;cases e with
  | normal=>
    obtain⟨hd,vs,h1,h2⟩:=hq;exact⟨by rw[hs.defers,hd],_,oU hs.get hl h1,h2⟩
  | ret=>
    obtain⟨hd,vs,h1,h2⟩:=hq;exact⟨by rw[hs.defers,hd],_,oU hs.get hl h1,h2⟩
  | _=>exact hq.elim
theorem aji {f:FuncId} {fn:Func} {c:Code} {a0:Value} {R:Value->Wd->Prop} {l:List ResultVar} (hf:P.funcs[f]? =some fn) (hb:fn.body=some c) (hn:fn.ntmps=n) (hl:fn.results=l.toArray) (hk:Nat.ble 1 n=true)
    (h:FW P none n c (agX l R) (upd und 0 a0) w):yO P f [a0] w R:=GX hf hb hn hl hk h
theorem ajj {f:FuncId} {fn:Func} {c:Code} {a0 a1:Value} {R:Value->Wd->Prop} {l:List ResultVar} (hf:P.funcs[f]? =some fn) (hb:fn.body=some c) (hn:fn.ntmps=n) (hl:fn.results=l.toArray) (hk:Nat.ble 2 n=true)
    (h:FW P none n c (agX l R) (upd (upd und 1 a1) 0 a0) w):yO P f [a0,a1] w R:=GX hf hb hn hl hk h
theorem Ux {f:FuncId} {xs:List Od} {ats:Array Td} {vals:LV} (hv:xs.map (evF σ)=vals:=by exact rfl) (h:FL P none n ops Q rest ⟨σ.get,{target:=.fn (.func f) #[],args:=vals.toArray}::σ.ds⟩ w):
    FL P none n ops Q (⟨none,.defer {callee:=.value (.func f),args:=xs.toArray,argTypes:=ats},ty,pos,after,none⟩::rest) σ w:=λa ha=>
  wpListIn_plain rfl λK hK=>by
    refine⟨λ_ _=>trivial,?_⟩
    have e:(Oper.semAt none a.eval ⟨none,.defer {callee:=.value (.func f),args:=xs.toArray,argTypes:=ats},ty,pos,after,none⟩).run P w=.ok (.defer {target:=.fn (.func f) #[],args:=vals.toArray}) w:=by
      rw[ha.eval];simp[Oper.semAt,execOp,resolve,Deferred.ofValue,evF,hv]
    rw[show(fen none).round=none from rfl,e,Oper.uponIn_defer];exact hK _ _ (h _ ⟨ha.size,by show _::a.defers=_;rw[ha.defers],ha.get⟩)
theorem yO.mono {f:FuncId} {args:LV} {R R':Value->Wd->Prop} (h:yO P f args w R) (hr: ∀v w',R v w'->R' v w'):yO P f args w R':=
 CallsDIn.mono h λe u w' hu=>⟨hu.1,by
  have h2:=hu.2;cases e<;>first | exact hr _ _ h2 | exact h2⟩
theorem OE {f:FuncId} {args:LV} {ds:List Deferred} {R:Wd->Prop} [he:qb P f] (h:yO P f args w λ_ w'=>OD P ds w' R):OD P ({target:=.fn (.func f) #[],args:=args.toArray}::ds) w R:=
 ⟨f,args,args,rfl,rfl,λw=>he.run _ w,h⟩
end
section
variable {P:Program} {w w0:Wd} {S:NP} {rs:List HP} {put:HP->List HP}
theorem JO {b o:Nat} {cs:LV} {E:Td} {v:Value} (H:Sep w0 S rs w) (hat:At rs (blk b cs E) put) (bH:Nat.blt o cs.length=true):Sep w0 S (put (blk b (cs.set o v) E)) (w.setCell ⟨b,o,none⟩ v):=by
 obtain⟨hk,ho⟩:=yj (v:=v) (H.obj hat) (zaw bH);exact H.setObj hat hk ho
theorem yA {b o:Nat} {cs:LV} {E:Td} (hb:w.heap[b]? =some (.cells cs.toArray E (0,0))):w.frozen? ⟨b,o,none⟩=false:=by simp[World.frozen?,hb]
theorem Gives.Y8 {ρ:Od->Value} {ty:Td} {x:Od} {s d:Td} {a:Addr} (iw:(convert s d (.pointer (some a))).run P w=.ok (.pointer (some a)) w) (hx:ρ x=.pointer (some a)):Gives P ρ (.convert s d x) ty w (.pointer (some a)) w:=λ_ _ _ _=>by
 simp[execOp,hx,iw]
end
end Go.Mw
