/-
 The document's rows of groups;walked.
-/
import Derived.Test.YtjcgliljofbopaaGreatDoorNv24
set_option linter.all false
set_option maxRecDepth 4000
namespace Go.Proofs.Mw
open Go.Lib
attribute [local irreducible] FW FL FG FGn jK jO fI lU Qfn Gives
def ZT {G:List oI} {i:Nat} {g:oI} {wt:Int} (h:G[i]? =some g):xk ((G.take (i+1)).map (·.2.2)) wt=xk ((G.take i).map (·.2.2)) wt++iE g.2.2.2 g.2.2.1 wt:=by
 unfold xk;rw[zay,h,zai,zbt];simp
def rF (ns:List Int) (k:List aC) (wt:Int):(iE ns k wt).length<=1:=by
 unfold iE
 split<;>simp
def CW (wt:Int): ∀L:List (List aC×List Int),(xk L wt).length<=L.length
 | []=>zbj _
 | x::L=>by
  have h1:=CW wt L;have h2:=rF x.2 x.1 wt;unfold xk at h1 ⊢;rw[zbh,zad,zas];omega
def head_tail {ns:List Int} (h: ¬ns.headD 0=0):ns=ns.headD 0::ns.drop 1:=by
 cases ns with
 | nil=>exact zar rfl h
 | cons a t=>rfl
variable {w:Wd}
theorem Nn {G:List oI} {vl:Value} (wt:Int) (hG:aJ w vl grC 3 G) (hR:jT w G) (hn:G.length<=1000) (hl: ∀g∈G,g.2.2.1.length<=400/\g.2.2.2.length<=400):
    aR Tryz.prog 110 [vl,I wt] w λu w'=>∃x:Value×List Held,u=x.1/\x.2.map (·.2)=xk (G.map (·.2.2)) wt/\Turn noB (dV x.1 x.2) w w':=by
  obtain⟨A,m,rfl,⟨hm,om⟩,hA⟩:=hG;have H:=Sep.aF w;refine bQ Tryz.func110 ?_;refine Zb3 ?_;refine aI (λx:(OA×Nat)×List Held×Nat=>[(0,.slice A G.length m),(1,I wt),(5,.slice x.1.1 (aO x.2.1).length x.1.2),(6,I x.2.2)]) (λx w'=>(x.2.2<=G.length/\x.2.1.map (·.2)=xk ((G.take x.2.2).map (·.2.2)) wt)/\Mw.Sep w noB [aY 39 2 aA (.slice x.1.1 (aO x.2.1).length x.1.2) (aO x.2.1),nU x.2.1] w') (λx _=>G.length-x.2.2) ((none,0),[],0) tR ⟨⟨zak _,rfl⟩,Sep.fT (bD H) 39 2⟩ (λx τ _ hI=>?_);obtain⟨⟨R,cR⟩,L,i⟩:=x;obtain⟨⟨hi,hL⟩,S⟩:=hI;dsimp only at hi hL S;refine Lp ?_;refine Cz (λa=>?_) (λa=>?_)
  . have aS:i<G.length:=oM
    obtain⟨g,hg⟩:=get_some aS;have hgm:=zag hg;obtain⟨ar4,ar5⟩:=hl g hgm;obtain⟨hgk,hgn⟩:=hR g hgm;have nu:=ZT (wt:=wt) hg;have hLr:(aO L).length=L.length:=zaf _
    have hLn:L.length<=i:=by
      have h1:=zaw List.length hL;have h2:=CW wt ((G.take i).map (·.2.2));rw[zaf]at h1;rw[zaf,zah]at h2;omega
    obtain⟨kv,sv,k,ns⟩:=g;dsimp only at ar4 ar5 hgk hgn nu;have ao6:=hgk;obtain⟨N,cn,rfl,_,hN⟩:=hgn;unfold iE at nu;refine Zb2 ?_;refine Vv (Gives.fF rfl rfl hA aS) (Zb1 ?_);refine Vv (Gives.dz (f:=1) rfl S hA hg rfl) (Ve ?_);refine Cz (λa=>?_) (λa=>?_)
    . rw[zac a,zbw]at nu
      refine Zb1 ?_;refine Vc ((i+1:Nat):Int) ?_;refine Zb1 ?_
      first
      | exact aj ((R2,cR2),L2,i+1) tR ⟨⟨dO,Dn⟩,Aj⟩ dO
      | exact aj ((R,cR),L,i+1) tR ⟨⟨dO,by dsimp only;rw[nu];exact hL⟩,S⟩ dO
    have hhd: ¬ns.headD 0=0:=a;rw[zab hhd]at nu;have hns:=head_tail hhd;have hdl:(ns.drop 1).length=ns.length-1:=zbo;refine Dz (λa _ b=>?_);refine Zb2 ?_;refine GS (Gn rfl (λ_=>Gives.fF rfl rfl hA aS) ?_);refine Zb1 ?_;refine GS (Gt rfl (Gives.dz (f:=0) rfl b hA hg rfl) ?_);refine Gm a 6 ?_;refine Zb1 ?_;refine GS (Gn rfl (λ_=>Gives.fF rfl rfl hA aS) ?_);refine Zb1 ?_;refine GS (Gt rfl (Gives.dz (f:=1) rfl b hA hg rfl) ?_);refine Gb a 11 (ah (dn (ns.headD 0))) ?_;refine j4 a (e1:=5) (e2:=12) kR ?_ ?_
    . refine mO a 5 [(11,true),(10,false),(9,true),(8,true),(7,true),(6,true)] b (mF (ao6.keep b.kept) oM) (h:=λy _ _ c _=>?_)
      obtain⟨Y,cy,rfl,_,_⟩:=Sep.bJ c At0;refine⟨av ((bK rfl kR (Gives.dz (f:=1) rfl c hA hg rfl) rfl (av (av (av (av (eu))))))),?_⟩;refine Gz a 12 _ c ([dn (ns.headD 0)].flatMap ah) (h:=λbs _ c=>⟨sT,?_⟩);have hB:=(show Mw.Sep w noB (blk bs ([dn (ns.headD 0)].flatMap ah) 41::aY 41 3 ah (.slice Y k.length cy) k::aY 39 2 aA (.slice R (aO L).length cR) (aO L)::nU L::[]) _ by first | exact c | exact c.aG);refine gF a 13 _ hB (news:=[dn (ns.headD 0)]) At0 (by unfold maxLen;simp only[zae];omega) (by simp only[zae];omega) (cells_one (λ_=>rfl) _) (h:=λv7 _ c=>?_);obtain⟨Y1,cy1,rfl,_,_⟩:=Sep.bJ c At0;refine⟨sT,?_⟩;refine Zb2 ?_;have e0:k++[dn (ns.headD 0)]++((ns.drop 1).take 0).map dn=k++[dn (ns.headD 0)]:=sM;refine aI (λx:(OA×Nat)×Nat=>[(0,.slice A G.length m),(1,I wt),(5,.slice R (aO L).length cR),(6,I i),(7,.slice x.1.1 (k++[dn (ns.headD 0)]++((ns.drop 1).take x.2).map dn).length x.1.2),(8,I x.2)]) (λx w'=>x.2<=(ns.drop 1).length/\Mw.Sep w noB [aY 41 3 ah (.slice x.1.1 (k++[dn (ns.headD 0)]++((ns.drop 1).take x.2).map dn).length x.1.2) (k++[dn (ns.headD 0)]++((ns.drop 1).take x.2).map dn),aY 39 2 aA (.slice R (aO L).length cR) (aO L),nU L] w') (λx _=>(ns.drop 1).length-x.2) ((Y1,cy1),0) ⟨rfl,rfl,rfl,rfl,by dsimp only;rw[e0];rfl,rfl,trivial⟩ ⟨zak _,by dsimp only;rw[e0];exact c⟩ (λx τ _ hI=>?_);clear e0;obtain⟨⟨Z,cZ⟩,j⟩:=x;obtain⟨hj,c⟩:=hI;dsimp only at hj c
      refine Lp ?_;refine Zb3 ?_;refine Vv (Gives.fF rfl rfl hA aS) (Zb1 ?_);refine Vv (Gives.dz (f:=2) rfl c hA hg rfl) (Cz (λd=>?_) (λd=>?_))
      . have air:j<(ns.drop 1).length:=oM
        obtain⟨n,hnj⟩:=get_some air;have OT:k++[dn (ns.headD 0)]++((ns.drop 1).take j).map dn++[dn n]=k++[dn (ns.headD 0)]++((ns.drop 1).take (j+1)).map dn:=by rw[zay,hnj,zai,zbm];rfl
        have hlen:(k++[dn (ns.headD 0)]++((ns.drop 1).take j).map dn).length<=900:=by
          rw[zad,zad,zaf,zah,zae];omega
        refine Zb3 ?_;refine Vv (Gives.fF rfl rfl hA aS) (Zb1 ?_);refine Vv (Gives.dz (f:=2) rfl c hA hg rfl) (Mv ?_);refine Vv (Gives.fF (l:=ns.drop 1) rfl rfl hN air) (Vv (Gives.dz (f:=0) rfl c hN hnj rfl) ?_);refine Vb (ah (dn n)) ?_;refine Bs c ([dn n].flatMap ah) (λbs _ d _=>?_);refine dG d (news:=[dn n]) At0 (by unfold maxLen;simp only[zae];omega) (by simp only[zae];omega) (cells_one (λ_=>rfl) _) (h:=?_);intro v5 d d;rw[OT]at d;obtain⟨Z2,cZ2,rfl,_,_⟩:=Sep.bJ d At0;refine Zb2 ?_;refine Vc ((j+1:Nat):Int) ?_;refine Zb1 ?_;exact aj ((Z2,cZ2),j+1) tR ⟨dO,d⟩ dO
      have RN:(ns.drop 1).take j=ns.drop 1:=zaj oM
      have tq:k++[dn (ns.headD 0)]++((ns.drop 1).take j).map dn=k++ns.map dn:=by
        rw[RN,zbm]
        conv=>rhs;rw[hns]
        rw[zav,List.singleton_append]
      refine Zb3 ?_;refine Vb (aA (.slice Z (k++[dn (ns.headD 0)]++((ns.drop 1).take j).map dn).length cZ,wt)) ?_;refine Bs c ([(Value.slice Z (k++[dn (ns.headD 0)]++((ns.drop 1).take j).map dn).length cZ,wt)].flatMap aA) (λbs _ d _=>?_);refine dG d (news:=[(Value.slice Z (k++[dn (ns.headD 0)]++((ns.drop 1).take j).map dn).length cZ,wt)]) At1 (by unfold maxLen;simp only[zae];omega) (by simp only[zae];omega) (λu hu=>zaz.1 (show([(Value.slice Z (k++[dn (ns.headD 0)]++((ns.drop 1).take j).map dn).length cZ,wt)].flatMap aA).all Value.oneCell'=true from rfl) u hu) (h:=?_);intro v9 d d;obtain⟨R2,cR2,rfl,_,_⟩:=Sep.bJ d At1;have Aj:=(iR (x:=Value.slice Z (k++[dn (ns.headD 0)]++((ns.drop 1).take j).map dn).length cZ) (o:=⟨k++[dn (ns.headD 0)]++((ns.drop 1).take j).map dn,wt⟩) (d.aN.aG)).aG
      have Cj:aO L++[(Value.slice Z (k++[dn (ns.headD 0)]++((ns.drop 1).take j).map dn).length cZ,wt)]=aO (L++[(Value.slice Z (k++[dn (ns.headD 0)]++((ns.drop 1).take j).map dn).length cZ,(⟨k++[dn (ns.headD 0)]++((ns.drop 1).take j).map dn,wt⟩:aH))]):=by
        unfold aO;rw[zai];rfl
      have Dn:(L++[(Value.slice Z (k++[dn (ns.headD 0)]++((ns.drop 1).take j).map dn).length cZ,(⟨k++[dn (ns.headD 0)]++((ns.drop 1).take j).map dn,wt⟩:aH))]).map (·.2)=xk ((G.take (i+1)).map (·.2.2)) wt:=by
        rw[zai,hL,nu,<-tq];rfl
      rw[Cj]at Aj ⊢;clear Cj
      generalize L++[(Value.slice Z (k++[dn (ns.headD 0)]++((ns.drop 1).take j).map dn).length cZ,(⟨k++[dn (ns.headD 0)]++((ns.drop 1).take j).map dn,wt⟩:aH))]=L2 at Aj Dn |-
      refine Zb2 ?_;refine Vc ((i+1:Nat):Int) ?_;refine Zb1 ?_
      first
      | exact aj ((R2,cR2),L2,i+1) tR ⟨⟨dO,Dn⟩,Aj⟩ dO
      | exact aj ((R,cR),L,i+1) tR ⟨⟨dO,by dsimp only;rw[nu];exact hL⟩,d⟩ dO
    refine gy a 12 [(4,false),(3,true),(2,true),(1,true),(0,true)] b (xs:=[.tmp 32]) (out:=[dn (ns.headD 0)].flatMap ah) (dZ.many rfl rfl dZ.nil) rfl rfl rfl (h:=λbs _ d=>⟨(bK rfl kR (Gives.dz (f:=0) rfl d hA hg rfl) rfl (av (av (av (av (eu)))))),?_⟩);refine dY a 5 _ d (mF (ao6.keep d.kept) oM) (h:=λy _ _ d _=>?_);obtain⟨Y,cy,rfl,_,_⟩:=Sep.bJ d At0;refine⟨sT,?_⟩;have hB:=(show Mw.Sep w noB (blk bs ([dn (ns.headD 0)].flatMap ah) 41::aY 41 3 ah (.slice Y k.length cy) k::aY 39 2 aA (.slice R (aO L).length cR) (aO L)::nU L::[]) _ by first | exact d | exact d.aG);refine gF a 13 _ hB (news:=[dn (ns.headD 0)]) At0 (by unfold maxLen;simp only[zae];omega) (by simp only[zae];omega) (cells_one (λ_=>rfl) _) (h:=λv7 _ d=>?_);obtain⟨Y1,cy1,rfl,_,_⟩:=Sep.bJ d At0;refine⟨sT,?_⟩;refine Zb2 ?_;have e0:k++[dn (ns.headD 0)]++((ns.drop 1).take 0).map dn=k++[dn (ns.headD 0)]:=sM;refine aI (λx:(OA×Nat)×Nat=>[(0,.slice A G.length m),(1,I wt),(5,.slice R (aO L).length cR),(6,I i),(7,.slice x.1.1 (k++[dn (ns.headD 0)]++((ns.drop 1).take x.2).map dn).length x.1.2),(8,I x.2)]) (λx w'=>x.2<=(ns.drop 1).length/\Mw.Sep w noB [aY 41 3 ah (.slice x.1.1 (k++[dn (ns.headD 0)]++((ns.drop 1).take x.2).map dn).length x.1.2) (k++[dn (ns.headD 0)]++((ns.drop 1).take x.2).map dn),aY 39 2 aA (.slice R (aO L).length cR) (aO L),nU L] w') (λx _=>(ns.drop 1).length-x.2) ((Y1,cy1),0) ⟨rfl,rfl,rfl,rfl,by dsimp only;rw[e0];rfl,rfl,trivial⟩ ⟨zak _,by dsimp only;rw[e0];exact d⟩ (λx τ _ hI=>?_)
    clear e0;obtain⟨⟨Z,cZ⟩,j⟩:=x;obtain⟨hj,d⟩:=hI;dsimp only at hj d;refine Lp ?_;refine Zb3 ?_;refine Vv (Gives.fF rfl rfl hA aS) (Zb1 ?_);refine Vv (Gives.dz (f:=2) rfl d hA hg rfl) (Cz (λa=>?_) (λa=>?_))
    . have air:j<(ns.drop 1).length:=oM
      obtain⟨n,hnj⟩:=get_some air;have OT:k++[dn (ns.headD 0)]++((ns.drop 1).take j).map dn++[dn n]=k++[dn (ns.headD 0)]++((ns.drop 1).take (j+1)).map dn:=by rw[zay,hnj,zai,zbm];rfl
      have hlen:(k++[dn (ns.headD 0)]++((ns.drop 1).take j).map dn).length<=900:=by
        rw[zad,zad,zaf,zah,zae];omega
      refine Zb3 ?_;refine Vv (Gives.fF rfl rfl hA aS) (Zb1 ?_);refine Vv (Gives.dz (f:=2) rfl d hA hg rfl) (Mv ?_);refine Vv (Gives.fF (l:=ns.drop 1) rfl rfl hN air) (Vv (Gives.dz (f:=0) rfl d hN hnj rfl) ?_);refine Vb (ah (dn n)) ?_;refine Bs d ([dn n].flatMap ah) (λbs _ a _=>?_);refine dG a (news:=[dn n]) At0 (by unfold maxLen;simp only[zae];omega) (by simp only[zae];omega) (cells_one (λ_=>rfl) _) (h:=?_);intro v5 a a;rw[OT]at a;obtain⟨Z2,cZ2,rfl,_,_⟩:=Sep.bJ a At0;refine Zb2 ?_;refine Vc ((j+1:Nat):Int) ?_;refine Zb1 ?_;exact aj ((Z2,cZ2),j+1) tR ⟨dO,a⟩ dO
    have RN:(ns.drop 1).take j=ns.drop 1:=zaj oM
    have tq:k++[dn (ns.headD 0)]++((ns.drop 1).take j).map dn=k++ns.map dn:=by
      rw[RN,zbm]
      conv=>rhs;rw[hns]
      rw[zav,List.singleton_append]
    refine Zb3 ?_;refine Vb (aA (.slice Z (k++[dn (ns.headD 0)]++((ns.drop 1).take j).map dn).length cZ,wt)) ?_;refine Bs d ([(Value.slice Z (k++[dn (ns.headD 0)]++((ns.drop 1).take j).map dn).length cZ,wt)].flatMap aA) (λbs _ a _=>?_);refine dG a (news:=[(Value.slice Z (k++[dn (ns.headD 0)]++((ns.drop 1).take j).map dn).length cZ,wt)]) At1 (by unfold maxLen;simp only[zae];omega) (by simp only[zae];omega) (λu hu=>zaz.1 (show([(Value.slice Z (k++[dn (ns.headD 0)]++((ns.drop 1).take j).map dn).length cZ,wt)].flatMap aA).all Value.oneCell'=true from rfl) u hu) (h:=?_);intro v9 a a;obtain⟨R2,cR2,rfl,_,_⟩:=Sep.bJ a At1;have Aj:=(iR (x:=Value.slice Z (k++[dn (ns.headD 0)]++((ns.drop 1).take j).map dn).length cZ) (o:=⟨k++[dn (ns.headD 0)]++((ns.drop 1).take j).map dn,wt⟩) (a.aN.aG)).aG
    have Cj:aO L++[(Value.slice Z (k++[dn (ns.headD 0)]++((ns.drop 1).take j).map dn).length cZ,wt)]=aO (L++[(Value.slice Z (k++[dn (ns.headD 0)]++((ns.drop 1).take j).map dn).length cZ,(⟨k++[dn (ns.headD 0)]++((ns.drop 1).take j).map dn,wt⟩:aH))]):=by
      unfold aO;rw[zai];rfl
    have Dn:(L++[(Value.slice Z (k++[dn (ns.headD 0)]++((ns.drop 1).take j).map dn).length cZ,(⟨k++[dn (ns.headD 0)]++((ns.drop 1).take j).map dn,wt⟩:aH))]).map (·.2)=xk ((G.take (i+1)).map (·.2.2)) wt:=by
      rw[zai,hL,nu,<-tq];rfl
    rw[Cj]at Aj ⊢;clear Cj
    generalize L++[(Value.slice Z (k++[dn (ns.headD 0)]++((ns.drop 1).take j).map dn).length cZ,(⟨k++[dn (ns.headD 0)]++((ns.drop 1).take j).map dn,wt⟩:aH))]=L2 at Aj Dn |-
    refine Zb2 ?_;refine Vc ((i+1:Nat):Int) ?_;refine Zb1 ?_
    first
    | exact aj ((R2,cR2),L2,i+1) tR ⟨⟨dO,Dn⟩,Aj⟩ dO
    | exact aj ((R,cR),L,i+1) tR ⟨⟨dO,by dsimp only;rw[nu];exact hL⟩,a⟩ dO
  have jF:G.take i=G:=zaj oM;refine Zb2 ?_;exact⟨(_,L),rfl,by dsimp only;rw[hL,jF],S.aQ.turn⟩
def Jp {L:List (List aC×List Int)} {wt:Int} {o:aH} (h:o∈xk L wt): ∃g∈L,o.row=g.1++g.2.map dn/\o.w=wt:=by
 unfold xk at h;obtain⟨g,hg,h⟩:=zca.1 h;unfold iE at h
 split at h
 .exact zar h zan
 rw[zau]at h;exact⟨g,hg,by rw[h],by rw[h]⟩
variable {sums:Nat}
def Xh {bg keys:Nat} {E:Td} {G:List oI} {vl:Value} (hg:gM w bg (yN keys sums vl) E) (hG:aJ w vl grC 3 G) (hR:jT w G) (hn:G.length<=1000) (hl: ∀g∈G,g.2.2.1.length<=400/\g.2.2.2.length<=400):
    aR Tryz.prog 66 [ay bg] w λu w'=>∃x:Value×List Held,u=x.1/\x.2.map (·.2)=(dh (xk (G.map (·.2.2)) 1)).1/\Turn noB (dV x.1 x.2) w w':=by
  have hlen:=CW 1 (G.map (·.2.2));rw[zaf]at hlen;have H:=Sep.aF w;refine cK Tryz.func66 ?_;refine Zb4 ?_;refine dM (hg.keep H.kept) (h:=?_);refine Nz (Nn 1 (hG.keep H.kept) (hR.keep H.kept) hn hl) (λx _ hx k _=>?_);have OQ:=fV k At0;rw[hx]at OQ
  refine F6 k (Bz OQ oM (λo ho=>by
    obtain⟨g,_,_,e⟩:=Jp ho;rw[e];show -9223372036854775808<=(1:Int)/\(1:Int)<=9223372036854775807
    decide) (λo ho=>by
    obtain⟨g,UJ,e,_⟩:=Jp ho;obtain⟨g2,hg3,rfl⟩:=zaq.1 UJ;obtain⟨h1,h2⟩:=hl g2 hg3;rw[e,zad,zaf];omega)) (h:=λz _ hz k _=>?_)
  refine Zb7 ?_;exact⟨z,rfl,hz,k.first.turn⟩
open Go.Proofs.Tryz
variable {w0:Wd} {S:NP} {rs:List HP} {L M:List Held} {u v:Value}
def Xi (H:Mw.Sep w0 S (nU L::nU M::rs) w):Mw.Sep w0 S (nU (L++M)::rs) w:=by
 refine Sep.imp H.aQ At0 λF hF=>?_;show(jf ((L++M).map _)).ok F w
 rw[zai];exact zk.1 hF
def DN {ρ:Od->Value} {ty:Td} {x y:Od} (H:Mw.Sep w0 S (dV u M::dV v L::rs) w) (hx:ρ x=v) (hy:ρ y=u) (hn:L.length+M.length<=1000000):
    ∃v' w',Gives prog ρ (.call {callee:=.builtin .append,args:= #[x,y],argTypes:= #[27,27]}) ty w v' w'/\Mw.Sep w0 S (dV v' (L++M)::rs) w':=by
  have k:=H.bL;have qy: ∀z∈(aO M).flatMap aA,z.oneCell'=true:=rM (mG k At1);obtain⟨U,cu,rfl,_,hU⟩:=Sep.bJ k At0;have I:=k.aN.bL;have e1:(aO L).length=L.length:=zaf _;have e2:(aO M).length=M.length:=zaf _;obtain⟨v',w',hg,hs⟩:=zQ (P:=prog) (ρ:=ρ) (ty:=ty) (x:=x) (y:=y) (t:=27) (e:=39) I hx hy At0 hU qy dC rfl (by rw[e1,e2];unfold maxLen;omega) (by rw[e1,e2];omega);refine⟨v',w',hg,?_⟩;have h3:=Xi (hs.aN.bH.aG.aN.aG);have h4:=h3.aG;unfold dV aY;have e3:aO (L++M)=aO L++aO M:=zai;rw[e3,zad,zbt];exact h4.aQ
variable {r:Option Nat} {n:Nat} {ops:AO} {Q:Post} {rest:LO} {σ:St} {ty:Td} {pos:String} {after:Array Edge} {guard:Option (Nat×Bool)} {lv:List Bool} {pd:LNB}
def ZU {d:Nat} {x y:Od} (H:Mw.Sep w0 S (dV u M::dV v L::rs) w) (hn:L.length+M.length<=1000000) (hx:evF σ x=v:=by exact rfl) (hy:evF σ y=u:=by exact rfl) (hd:Nat.blt d n=true:=by exact rfl)
    (h: ∀v' w',Mw.Sep w0 S (dV v' (L++M)::rs) w'->FL prog r n ops Q rest (upd σ d v') w'):
    FL prog r n ops Q (⟨some d,.call {callee:=.builtin .append,args:= #[x,y],argTypes:= #[27,27]},ty,pos,after,none⟩::rest) σ w:=by
  obtain⟨v',w',hg,hs⟩:=DN (ty:=ty) H hx hy hn;exact dw hg hd (h v' w' hs)
def CX (eZ:dS n ops=true) (i:Nat) (pd':LNB) {d:Nat} {x y:Od} (H:Mw.Sep w0 S (dV u M::dV v L::rs) w) (hn:L.length+M.length<=1000000)
    (ho:ops[i]? =some ⟨some d,.call {callee:=.builtin .append,args:= #[x,y],argTypes:= #[27,27]},ty,pos,after,guard⟩:=by exact rfl)
    (hw:Region.wanted ⟨some d,.call {callee:=.builtin .append,args:= #[x,y],argTypes:= #[27,27]},ty,pos,after,guard⟩ (bU ops σ)=true:=by kernel_rfl)
    (hx:evF σ x=v:=by exact rfl) (hy:evF σ y=u:=by exact rfl)
    (dX:fu ops lv (pd.map (·.1)) i=true:=by kernel_rfl) (oo:pd.filter (λp=> !((above ops i).contains p.1))=pd':=by exact pD)
    (h: ∀v' w',Mw.Sep w0 S (dV v' (L++M)::rs) w'->jm prog ops (upd σ d v') w' pd'/\FG prog r n ops Q (lv.set i true) pd' (upd σ d v') w'):FG prog r n ops Q lv pd σ w:=
  uW eZ i pd' ho hw (DN (ty:=ty) H hx hy hn) dX oo h
def FT (w:Wd) (C:List uX):Prop:=∀c∈C,gM w c.b [c.kv,c.sv] 414/\aJ w c.kv ah 3 c.key/\aJ w c.sv bW 3 c.ns
def Xj: ∀{C:List uX} {F:NP} {w:Wd},(jf (C.map Nk)).ok F w->FT w C
 | [],_,_,_=>λc hc=>zar hc zan
 | c::C,F,w,⟨F1,F2,_,_,⟨G1,G2,_,_,hb,G3,G4,_,_,h1,h2⟩,h3⟩=>λd hd=>by
  rcases zba.1 hd with rfl | hd
  .exact⟨hb.2,nL h1,nL h2⟩
  exact Xj h3 d hd
structure mH (f:List aC->Option (List Int)) (L:List gu):Prop where
 nd:(L.map (·.2.2.1)).Nodup
 is: ∀s∈L,f s.2.2.1=some s.2.2.2
 all: ∀k,f k≠none->k∈L.map (·.2.2.1)
 fit: ∀s∈L,gH s.2.2.1/\s.2.2.1.length<=16
def TW (f:List aC->Option (List Int)) (k:List aC) (o:Option (List Int)):List aC->Option (List Int):=λx=>if x=k then o else f x
def xB (L:List gu) (s:gu):List gu:=if s.2.2.1∈L.map (·.2.2.1)then L.map (λt=>if t.2.2.1=s.2.2.1 then s else t)else L++[s]
def QV (L:List gu) (k:List aC):List gu:=L.filter λt=> !decide (t.2.2.1=k)
def QW {a b:List aC} (ha:gH a) (hb:gH b):(eH a==eH b)=decide (a=b):=by
 rw[zdt,beq_iff_eq,decide_eq_true_iff];exact⟨Cw ha hb,λe=>by rw[e]⟩
def FU {k:List aC} (hk:gH k): ∀{L:List gu},(∀s∈L,gH s.2.2.1)->l7 (L.map gZ) (eH k)=(L.find? λs=>decide (s.2.2.1=k)).map λs=>agg [s.1,s.2.1]
 | [],_=>rfl
 | s::L,h=>by
  have ih:=FU hk (L:=L) λt ht=>h t (zat _ ht);have h1:=QW (h s zao) hk;unfold l7 at ih ⊢;rw[zav,zch,zch,show((gZ s).1==eH k)=decide (s.2.2.1=k)from h1];cases hb:decide (s.2.2.1=k)with
  | true=>rfl
  | false=>exact ih
variable {f:List aC->Option (List Int)} {L:List gu} {k:List aC} {ns:List Int} {s:gu}
def mH.fits (h:mH f L): ∀s∈L,gH s.2.2.1:=λs hs=>(h.fit s hs).1
def mH.get (h:mH f L) (hk:gH k) (hf:f k=some ns): ∃s∈L,s.2.2.1=k/\s.2.2.2=ns/\l7 (L.map gZ) (eH k)=some (agg [s.1,s.2.1]):=by
 have hm:=h.all k (by rw[hf];exact λh=>nomatch h);rw[FU hk h.fits];cases hx:L.find? λs=>decide (s.2.2.1=k)with
 | none=>
  obtain⟨s,hs,e⟩:=zaq.1 hm;exact zar (zap e) (zfp.1 hx s hs)
 | some s=>
  have hs:=zev hx;have e0:=List.find?_some hx;have e:s.2.2.1=k:=zbd e0;refine⟨s,hs,e,?_,rfl⟩;have:=h.is s hs;rw[e,hf]at this;injection this with this
  exact this.symm
def mH.ap2 (h:mH f L) (hk:gH k) (hf:f k=none):l7 (L.map gZ) (eH k)=none:=by
 rw[FU hk h.fits,zfn,zfp];intro s hs he;have:=h.is s hs;rw[zbd he,hf]at this;cases this
def Np:(xB L s).map (·.2.2.1)=if s.2.2.1∈L.map (·.2.2.1)then L.map (·.2.2.1)else L.map (·.2.2.1)++[s.2.2.1]:=by
 unfold xB
 split
 .rw[zdh]
  refine zco λt _=>?_;show(if t.2.2.1=s.2.2.1 then s else t).2.2.1=t.2.2.1
  split
  .rename_i e;exact e.symm
  rfl
 rw[zai];rfl
def Jq {t:gu} (ht:t∈xB L s):t=s\/(t∈L/\t.2.2.1≠s.2.2.1):=by
 unfold xB at ht
 split at ht
 .obtain⟨u,hu,rfl⟩:=zaq.1 ht
  split
  .exact .inl rfl
  rename_i e;exact .inr ⟨hu,e⟩
 rename_i hm
 rcases zbk.1 ht with h | h
 .exact .inr ⟨h,λe=>hm (zaq.2 ⟨t,h,e⟩)⟩
 exact .inl (zau.1 h)
def mH.put (h:mH f L) (hs:gH s.2.2.1/\s.2.2.1.length<=16):mH (TW f s.2.2.1 (some s.2.2.2)) (xB L s):=by
 refine⟨?_,λt ht=>?_,λk hk=>?_,λt ht=>?_⟩
 .rw[Np]
  split
  .exact h.nd
  rename_i hm;rw[zeo];exact⟨h.nd,sM,λa ha b hb e=>by rw[zau]at hb;subst hb;subst e;exact hm ha⟩
 .unfold TW
  rcases Jq ht with rfl | ⟨h1,h2⟩
  .rw[zac rfl]
  rw[zab h2];exact h.is t h1
 .rw[Np]
  unfold TW at hk
  by_cases e:k=s.2.2.1
  .subst e
   split
   .assumption
   exact zct _ (zau.2 rfl)
  rw[zab e]at hk;have:=h.all k hk
  split
  .exact this
  exact zcn _ this
 rcases Jq ht with rfl | ⟨h1,_⟩
 .exact hs
 exact h.fit t h1
def mH.del (h:mH f L):mH (TW f k none) (QV L k):=by
 unfold QV;refine⟨h.nd.sublist (List.filter_sublist.map _),λt ht=>?_,λx hx=>?_,λt ht=>h.fit t (zcf.1 ht).1⟩
 .obtain⟨h1,h2⟩:=zcf.1 ht
  have h3: ¬t.2.2.1=k:=by simpa using h2
  unfold TW;rw[zab h3];exact h.is t h1
 unfold TW at hx
 by_cases e:x=k
 .rw[zac e]at hx;exact zar rfl hx
 rw[zab e]at hx;obtain⟨t,ht,rfl⟩:=zaq.1 (h.all x hx);exact zaq.2 ⟨t,zcf.2 ⟨ht,by simpa using e⟩,rfl⟩
def mH.congr {g:List aC->Option (List Int)} (h:mH f L) (e: ∀k,g k=f k):mH g L:=by
 have :g=f:=funext e;rw[this];exact h
def QX (hF: ∀s∈L,gH s.2.2.1) (hs:gH s.2.2.1):AB (L.map gZ) (eH s.2.2.1) (agg [s.1,s.2.1])=(xB L s).map gZ:=by
 unfold AB xB
 have hn:(l7 (L.map gZ) (eH s.2.2.1)).isSome=true↔s.2.2.1∈L.map (·.2.2.1):=by
  rw[FU hs hF,Option.isSome_map,List.find?_isSome];constructor
  .rintro⟨t,ht,e⟩;exact zaq.2 ⟨t,ht,zbd e⟩
  intro hm;obtain⟨t,ht,e⟩:=zaq.1 hm;exact⟨t,ht,zap e⟩
 by_cases hm:s.2.2.1∈L.map (·.2.2.1)
 .rw[zac (hn.2 hm),zac hm,zdh,zdh]
  refine zco λt ht=>?_;show(if(gZ t).1=eH s.2.2.1 then(eH s.2.2.1,agg [s.1,s.2.1])else gZ t)=gZ (if t.2.2.1=s.2.2.1 then s else t)
  by_cases e:t.2.2.1=s.2.2.1
  .rw[zac e,zac (show(gZ t).1=_ by unfold gZ;rw[e])];rfl
  rw[zab e,zab (show ¬(gZ t).1=eH s.2.2.1 from λe2=>e (Cw (hF t ht) hs e2))]
 rw[zab (λe=>hm (hn.1 e)),zab hm,zai];rfl
def adX (hF: ∀s∈L,gH s.2.2.1) (hs:gH s.2.2.1) (hn:s.2.2.1∉L.map (·.2.2.1)):AB (L.map gZ) (eH s.2.2.1) (agg [s.1,s.2.1])=(L++[s]).map gZ:=by
 rw[QX hF hs];unfold xB;rw[zab hn]
def adY (hF: ∀s∈L,gH s.2.2.1) (hk:gH k):XM (L.map gZ) (eH k)=(QV L k).map gZ:=by
 unfold XM QV;rw[List.filter_map]
 congr 1
 refine List.filter_congr λt ht=>?_;show(!((gZ t).1==eH k))=_
 rw[show((gZ t).1==eH k)=decide (t.2.2.1=k)from QW (hF t ht) hk]
def FV (bh sums:Nat) (E:List bC):HP:=exH λL:List gu=>star (gQ bh (L.map gZ)) (star (fQ λw=>gI w L) (jB (mH (stE sums E) L)))
variable {E:List bC} {bh:Nat}
def yO {L:List gu} (H:Mw.Sep w0 S (fQ (λw=>gI w L)::gQ bh (L.map gZ)::rs) w) (hL:mH (stE sums E) L):Mw.Sep w0 S (FV bh sums E::rs) w:=
 Sep.uF (p:=λL:List gu=>star (gQ bh (L.map gZ)) (star (fQ λw=>gI w L) (jB (mH (stE sums E) L)))) L ((Sep.lu hL H).aG.aQ.aG.aQ)
def QY (H:Mw.Sep w0 S (FV bh sums E::rs) w): ∃L,mH (stE sums E) L/\Mw.Sep w0 S (fQ (λw=>gI w L)::gQ bh (L.map gZ)::rs) w:=by
 obtain⟨L,G2⟩:=Sep.ex0 H;obtain⟨hS,G3⟩:=Sep.tC (G2.bL.aG.bL.aG);exact⟨L,hS,G3⟩
def adZ (sums:Nat):mH (stE sums []) []:=⟨List.nodup_nil,λs hs=>zar hs zan,λk hk=>zar (by unfold stE;rw[zab];simp[dW,jD]) hk,λs hs=>zar hs zan⟩
def gI.sub {w:Wd} {M:List gu} (h:gI w M) (hs: ∀s∈L,s∈M):gI w L:=λs hm=>h s (hs s hm)
def gI.app {M:List gu} (h:gI w L) (h2:gI w M):gI w (L++M):=λs hm=>(zbk.1 hm).elim (h s) (h2 s)
def gI.push {s:gu} (h:gI w L) (h1:aJ w s.1 ah 3 s.2.2.1) (h2:aJ w s.2.1 oH 1 s.2.2.2) (h3:gH s.2.2.1):gI w (L++[s]):=h.app λt ht=>by
 rw[zau]at ht;subst ht;exact⟨⟨h1,h2⟩,h3⟩
def Nq (sums:Nat) (E l:List bC) (done:List (List aC)):List aC->Option (List Int):=λk=>if k∈done then stE sums (E++l) k else stE sums E k
variable {l:List bC}
def agQ (k:List aC):Nq sums E l [] k=stE sums E k:=zab zan
def agR {done:List (List aC)} (hd: ∀k∈fU l,k∈done) (k:List aC):stE sums (E++l) k=Nq sums E l done k:=by
 unfold Nq
 split
 .rfl
 rename_i h;exact ac8 λhk=>h (hd k hk)
def QZ {done:List (List aC)} {o:Option (List Int)} (ho:o=stE sums (E++l) k) (x:List aC):Nq sums E l (k::done) x=TW (Nq sums E l done) k o x:=by
 unfold Nq TW;show(if x∈k::done then stE sums (E++l) x else stE sums E x)=if x=k then o else if x∈done then stE sums (E++l) x else stE sums E x
 by_cases e:x=k
 .subst e;rw[zac zao,zac rfl,ho]
 rw[zab e]
 by_cases hm:x∈done
 .rw[zac hm,zac (zat _ hm)]
 rw[zab hm,zab (λh=>(zba.1 h).elim e hm)]
def ad1 {x:bC} (hw:fits x.w) (hv: ∀c∈x.vals,fits c.n) (i:Nat): -85070591730234615865843651857942052864<=EY x i/\EY x i<=85070591730234615865843651857942052864:=by
 unfold EY
 split
 .unfold fits at hw;omega
 split
 .omega
 refine Co hw ?_;rw[zax];cases hc:x.vals[i-1]? with
 | none=>exact⟨dC,dC⟩
 | some c=>exact hv c (zag hc)
def ad2 (h: ∀x∈l,fits x.w/\∀c∈x.vals,fits c.n) (k:List aC) (i:Nat): -(85070591730234615865843651857942052864*(l.length:Int))<=jD l k i/\jD l k i<=85070591730234615865843651857942052864*(l.length:Int):=by
 induction l with
 | nil=>exact⟨by simp[jD],by simp[jD]⟩
 | cons x l ih=>
  have h1:=ih λy hy=>h y (zat _ hy);have h2:=ad1 (h x zao).1 (h x zao).2 i;rw[jD,zas]
  split<;>omega
def ZW (hE:vO sums E=true) (h: ∀x∈l,fits x.w/\∀c∈x.vals,fits c.n) (hn:l.length<=1000) {n:Int} (hm:n∈dW sums (E++l) k): -3138550867693340381917894711603833208051177722232017256448<=n/\n<3138550867693340381917894711603833208051177722232017256448:=by
 unfold dW at hm;obtain⟨i,hi,rfl⟩:=zaq.1 hm;rw[zem]at hi;have h1:=zbd (uK.1 hE k i oM);have h2:=ad2 h k i;rw[uI];omega
structure Nr (sums:Nat) (E l:List bC) (C:List uX) (Ln:List gu) (Lf:List Ent) (LI:List Held):Prop where
 rest: ∃Cl:List uX,(∀c∈Cl,c∈C)/\Lf.Perm (Cl.map TU)/\(C.map (·.key)).Perm (Ln.map (·.2.2.1)++Cl.map (·.key))
 nums: ∀s∈Ln,s.2.2.2=dW sums (E++l) s.2.2.1/\(∀n∈s.2.2.2,aW n=true)/\gH s.2.2.1/\s.2.2.1.length<=16
 its:LI.map (·.2)=(Ln.map (·.2.2.1)).flatMap λk=>iE (dW sums E k) k (-1)++iE (dW sums (E++l) k) k 1
def Jr {α β:Type} {f:α->β} {L:List α} {p:β} {L':List β} (h:(p::L').Perm (L.map f)): ∃c Lr,L.Perm (c::Lr)/\p=f c/\L'.Perm (Lr.map f):=by
 obtain⟨c,hc,e⟩:=zaq.1 (h.mem_iff.1 zao);obtain⟨s,t,dJ⟩:=List.append_of_mem hc;have hp:L.Perm (c::(s++t)):=by rw[dJ];exact List.perm_middle
 refine⟨c,s++t,hp,e.symm,?_⟩;have h2:=h.trans (hp.map f);rw[zav,e]at h2;exact(List.perm_cons p).1 h2
variable {C:List uX} {K:List (List aC)} {Ln:List gu} {LI:List Held}
def Nr.step {D0:List Ent} {Lf Lf':List Ent} {p:Ent} (h:Nr sums E l C Ln Lf LI) (hC:adV sums (E++l) K C D0) (hK:K.Nodup) (hkl: ∀k∈K,k.length<=16) (hp:Lf.Perm (p::Lf')):
    ∃c:uX,c∈C/\p=TU c/\(c.key∉Ln.map (·.2.2.1))/\c.ns=dW sums (E++l) c.key/\(gH c.key/\c.key.length<=16)/\∀(kv nv:Value) (LI':List Held),LI'.map (·.2)=iE (dW sums E c.key) c.key (-1)++iE (dW sums (E++l) c.key) c.key 1->(∀n∈c.ns,aW n=true)->Nr sums E l C (Ln++[(kv,nv,c.key,c.ns)]) Lf' (LI++LI'):=by
  obtain⟨Cl,h1,h2,h3⟩:=h.rest;obtain⟨c,Cr,hq,rfl,hL⟩:=Jr (hp.symm.trans h2);have hcC:c∈C:=h1 c (hq.mem_iff.2 zao);have hnd:(C.map (·.key)).Nodup:=hC.keys.symm.nodup hK;have h4:(C.map (·.key)).Perm (Ln.map (·.2.2.1)++c.key::Cr.map (·.key)):=h3.trans (List.Perm.append_left _ (hq.map _));have h5:(Ln.map (·.2.2.1)++c.key::Cr.map (·.key)).Nodup:=h4.nodup hnd;have hkc:c.key.length<=16:=hkl _ (hC.keys.mem_iff.1 (zdn hcC));refine⟨c,hcC,rfl,λhm=>?_,hC.nums c hcC,⟨hC.fit c hcC,hkc⟩,λkv nv LI' hI hf=>⟨⟨Cr,λd hd=>h1 d (hq.mem_iff.2 (zat _ hd)),hL,?_⟩,λs hs=>?_,?_⟩⟩
  . exact(zeo.1 h5).2.2 _ hm _ zao rfl
  . rw[zai,zbm];exact h4
  . rcases zbk.1 hs with hs | hs
    . exact h.nums s hs
    rw[zau]at hs;subst hs;exact⟨hC.nums c hcC,hf,hC.fit c hcC,hkc⟩
  rw[zai,zai,zbt,h.its,hI];simp
variable {D:List Ent}
def Nr.start (hC:adV sums (E++l) K C D):Nr sums E l C [] D []:=
 ⟨⟨C,λ_ h=>h,hC.data,List.Perm.refl _⟩,λs hs=>zar hs zan,rfl⟩
def Nr.keys {sums:Nat} {E l:List bC} (h:Nr sums E l C Ln [] LI) (hC:adV sums (E++l) K C D):(Ln.map (·.2.2.1)).Perm K:=by
 obtain⟨Cl,_,h2,h3⟩:=h.rest
 have :Cl=[]:=by
  have:=h2.length_eq;rw[zaf]at this;exact zbg this.symm
 subst this;rw[zcl,zbw]at h3;exact h3.symm.trans hC.keys
def Nr.fine {keys:Nat} (h:Nr sums E l C Ln [] LI) (hC:adV sums (E++l) (fU l) C D) (hm:(l.all λx=>qo keys sums x)=true) (hE:vO sums E=true):vO sums (E++l)=true/\yF keys sums E l=dh (LI.map (·.2)):=by
 have hp:=h.keys hC
 have hf:vO sums (E++l)=true:=(adb hE).2 λk hk n hn=>by
  obtain⟨s,hs,e⟩:=zaq.1 (hp.mem_iff.2 hk);obtain⟨h1,h2,_⟩:=h.nums s hs;rw[<-e]at hn;exact h2 n (by rw[h1];exact hn)
 refine⟨hf,?_⟩;unfold yF;rw[zab (by rw[hm];decide),zab (by rw[hf];decide),h.its,Ze hp]
def ad3 {keys:Nat} {n:Int} (hm:(l.all λx=>qo keys sums x)=true) (hn:n∈dW sums (E++l) k) (hf:aW n≠true):yF keys sums E l=([],50):=by
 have :vO sums (E++l)=false:=by
  cases h:vO sums (E++l)with
  | false=>rfl
  | true=>
   unfold dW at hn;obtain⟨i,hi,rfl⟩:=zaq.1 hn;exact zar (uK.1 h k i (by have:=zem.1 hi;omega)) hf
 unfold yF;rw[zab (by rw[hm];decide),zac this]
structure Pd (sums:Nat) (E l:List bC) (L0 Ln L:List gu) (Lf:List Ent) (done:List (List aC)):Prop where
 held:mH (Nq sums E l done) L
 from_: ∀s∈L,s∈Ln\/s∈L0
 rest: ∃Lr:List gu,(∀s∈Lr,s∈Ln)/\Lf.Perm (Lr.map gZ)/\∀s∈Ln,s∈Lr\/s.2.2.1∈done
variable {L0:List gu}
def Pd.start (h:mH (stE sums E) L0):Pd sums E l L0 Ln L0 (Ln.map gZ) []:=
 ⟨h.congr λk=>agQ k,λs hs=>.inr hs,⟨Ln,λ_ h=>h,List.Perm.refl _,λs hs=>.inl hs⟩⟩
def Pd.step {Lf Lf':List Ent} {done:List (List aC)} {p:Ent} (h:Pd sums E l L0 Ln L Lf done) (hn: ∀s∈Ln,s.2.2.2=dW sums (E++l) s.2.2.1/\gH s.2.2.1/\s.2.2.1.length<=16) (hp:Lf.Perm (p::Lf')):
    ∃s:gu,s∈Ln/\p=gZ s/\((s.2.2.2.any λn=>decide (n≠0))=true->Pd sums E l L0 Ln (xB L s) Lf' (s.2.2.1::done))/\((s.2.2.2.any λn=>decide (n≠0))=false->Pd sums E l L0 Ln (QV (xB L s) s.2.2.1) Lf' (s.2.2.1::done)):=by
  obtain⟨Lr,h1,h2,h3⟩:=h.rest;obtain⟨s,Lq,hq,rfl,hL⟩:=Jr (hp.symm.trans h2);have hs:s∈Ln:=h1 s (hq.mem_iff.2 zao);obtain⟨e1,e2,e3⟩:=hn s hs;have j5:=h.held.put ⟨e2,e3⟩
  have ak8: ∀t∈xB L s,t∈Ln\/t∈L0:=λt ht=>by
    rcases Jq ht with rfl | ⟨ht,_⟩
    . exact .inl hs
    exact h.from_ t ht
  have Gs: ∃Lr:List gu,(∀s∈Lr,s∈Ln)/\Lf'.Perm (Lr.map gZ)/\∀t∈Ln,t∈Lr\/t.2.2.1∈s.2.2.1::done:=⟨Lq,λt ht=>h1 t (hq.mem_iff.2 (zat _ ht)),hL,λt ht=>by
    rcases h3 t ht with h4 | h4
    . rcases zba.1 (hq.mem_iff.1 h4)with rfl | h5
      . exact .inr zao
      exact .inl h5
    exact .inr (zat _ h4)⟩
  refine⟨s,hs,rfl,λha=>⟨j5.congr λx=>QZ ?_ x,ak8,Gs⟩,λha=>⟨?_,λt ht=>ak8 t (zcf.1 ht).1,Gs⟩⟩
  . unfold stE
    rw[<-e1,zac ha]
  refine(j5.del (k:=s.2.2.1)).congr λx=>?_;rw[QZ (o:=none) (by unfold stE;rw[<-e1,zab (by rw[ha];decide)])];unfold TW
  split<;>rfl
def Pd.end_ {done:List (List aC)} (h:Pd sums E l L0 Ln L [] done) (hk: ∀k∈fU l,k∈Ln.map (·.2.2.1)):mH (stE sums (E++l)) L:=by
 obtain⟨Lr,_,h2,h3⟩:=h.rest
 have :Lr=[]:=by
  have:=h2.length_eq;rw[zaf]at this;exact zbg this.symm
 subst this;refine h.held.congr λk=>agR (λk Oz=>?_) k;obtain⟨s,hs,e⟩:=zaq.1 (hk k Oz)
 rcases h3 s hs with h4 | h4
 .exact zar h4 zan
 rw[<-e];exact h4
variable {F:NP}
structure ap3 where
 xv:Value
 LI:List Held
 Ln:List gu
 Lf:List Ent
structure ap4 where
 L:List gu
 Lf:List Ent
 done:List (List aC)
def yP (l:List bC):(fU l).length<=l.length:=by
 refine MK (p:=λl=>(fU l).length<=l.length) (zak _) (λl x ih=>?_) l;rw[nT,zad]
 split
 .omega
 rw[zad];simp only[zae];omega
def Q0 (ks:List (List aC)) (f g:List aC->List Int):(ks.flatMap λk=>iE (f k) k (-1)++iE (g k) k 1).length<=2*ks.length:=by
 induction ks with
 | nil=>exact zak _
 | cons k ks ih=>
  have h1:=rF (f k) k (-1);have h2:=rF (g k) k 1;rw[zbh,zad,zad,zas];omega
def yQ {wt:Int} {o:aH} (h:o∈iE ns k wt):o.row=k++ns.map dn/\o.w=wt:=by
 unfold iE at h
 split at h
 .exact zar h zan
 rw[zau]at h;subst h;exact⟨rfl,rfl⟩
def ad4 {ks:List (List aC)} {f g:List aC->List Int} {o:aH} (h:o∈ks.flatMap λk=>iE (f k) k (-1)++iE (g k) k 1): ∃k∈ks,(o.row=k++(f k).map dn\/o.row=k++(g k).map dn)/\(o.w= -1\/o.w=1):=by
 obtain⟨k,hk,h⟩:=zca.1 h
 rcases zbk.1 h with h | h
 .exact⟨k,hk,.inl (yQ h).1,.inl (yQ h).2⟩
 exact⟨k,hk,.inr (yQ h).1,.inr (yQ h).2⟩
def ad5 (n:Int):Rk prog 367 [I n] w (.bool (decide (n≠0))):=by
 have H:=Sep.aF w;refine cK func367 ?_;refine Zb4 ?_;exact⟨rfl,H.kept⟩
def Q5 (h:mH (stE sums E) L0) (hk:gH k) (hE:vO sums E=true):
    ∃(hv nv:Value) (k0:List aC) (ns0:List Int),(l7 (L0.map gZ) (eH k)).getD (agg [.slice none 0 0,.slice none 0 0])=agg [hv,nv]/\(∀w1,gI w1 L0->aJ w1 hv ah 3 k0/\aJ w1 nv oH 1 ns0)/\k0.length<=16/\ns0.length<=sums+1/\(∀n∈ns0,fits n)/\ns0++List.replicate (sums+1-ns0.length) 0=dW sums E k/\∀wt,iE ns0 k0 wt=iE (dW sums E k) k wt:=by
  have hns: ∀n∈dW sums E k,fits n:=λn hn=>by
    unfold dW at hn;obtain⟨i,hi,rfl⟩:=zaq.1 hn;have:=zbd (uK.1 hE k i (by have:=zem.1 hi;omega));unfold fits;omega
  cases hs:stE sums E k with
  | none=>
    rw[h.ap2 hk hs];refine⟨_,_,[],[],rfl,λw1 _=>⟨qd _ _ _,qd _ _ _⟩,zak _,zak _,λn hn=>zar hn zan,?_,λwt=>?_⟩
    . refine zey λi=>?_
      rw[zbu,zcb,Nat.sub_zero,List.getElem?_replicate]
      by_cases hi:i<sums+1
      . rw[zac hi,yE oM,zG hs oM]
      rw[zab hi,zdl (by rw[lg];omega)]
    unfold iE;rw[zF,zG hs (zak _),zac rfl];rfl
  | some ns=>
    obtain⟨s,hm,e1,e2,e3⟩:=h.get hk hs;have e4:=ML hs;rw[e3];refine⟨s.1,s.2.1,k,ns,rfl,λw1 hw=>?_,?_,?_,?_,?_,λwt=>by rw[e4]⟩
    . have:=(hw s hm).1
      rw[e1,e2]at this;exact this
    . have:=(h.fit s hm).2
      rw[e1]at this;exact this
    . rw[e4,lg];exact zbj _
    . rw[e4];exact hns
    rw[e4,lg,zen];simp
set_option maxHeartbeats 1000000 in
theorem Xk {bg keys:Nat} {Z:List vR} (hp:(star (blk bg (qR keys sums bh) 118) (FV bh sums E)).ok F w)
    (hv: ∀w1,Kept F w w1->aJ w1 v qw 3 Z) (hZ: ∀w1,Kept F w w1->yM w1 Z) (hT: ∀w1,Kept F w w1->iB w1) (hkm:keys<=16) (Lv:sums<=16) (hkf: ∀z∈Z,gH z.2.2.key)
    (hf: ∀z∈Z,fits z.2.2.w/\∀c∈z.2.2.vals,fits c.n) (hn:Z.length<=100) (hE:vO sums E=true):
    aR prog 359 [ay bg,v] w λu w'=>∃x:Value×List Held,u=.tuple #[x.1,I (yF keys sums E (Z.map (·.2.2))).2]/\x.2.map (·.2)=(yF keys sums E (Z.map (·.2.2))).1/\
      Turn F (star (dV x.1 x.2) (star (blk bg (qR keys sums bh) 118) (FV bh sums (if(yF keys sums E (Z.map (·.2.2))).2=0 then E++Z.map (·.2.2)else E)))) w w':=by
  have G1:=(Sep.bR hp).bL;obtain⟨L0,hS,H⟩:=QY G1.aG;obtain⟨gl,JQ⟩: ∃gl,gl=Z.map (λz=>z.2.2):=⟨_,rfl⟩;rw[<-JQ]
  have Ll: ∀x∈gl,fits x.w/\∀c∈x.vals,fits c.n:=λx hx=>by
    rw[JQ]at hx;obtain⟨z,hz,rfl⟩:=zaq.1 hx;exact hf z hz
  have hgn:gl.length<=100:=by rw[JQ,zaf];exact hn
  obtain⟨A,m,rfl,⟨hm,om⟩,_⟩:=hv w (Kept.refl _ _);refine bQ func359 ?_;refine Sr (bB H (cs:=[ay bg]) rfl (h:=λb2 w2 H2 k1=>?_));refine Kz (Ng (H2.obj At3)) (λw7 H7 k6=>?_);refine Qn (Cd rfl (λYw=>?_) (λYw=>?_))
  . exact Bool.noConfusion Yw
  refine Kz (adU (Z:=Z) (H7.obj At3) (H7.obj At0) (hZ _ H7.kept) (hv _ H7.kept)) (λwa Ha ka=>?_);refine Qn (Cd rfl (λIe=>?_) (λIe=>?_))
  . have jN:(gl.all λx=>qo keys sums x)=false:=by
      have hc:(Z.any λz=> !qo keys sums z.2.2)=true:=by simpa using Ie
      rw[JQ,zgg];rw[List.any_eq_not_all_not]at hc;simpa[Function.comp_def]using hc
    have OJ:yF keys sums E gl=([],2):=by unfold yF;rw[zac jN]
    refine Zb2 ?_;exact⟨(.slice none 0 0,[]),by rw[OJ];rfl,by rw[OJ];rfl,by
    rw[OJ,zab dC];exact(Sep.fT (bD (yO Ha.bH hS).aG.aQ) 39 2).aQ.aQ.turn⟩
  have xZ:(gl.all λx=>qo keys sums x)=true:=by
    have hc:(Z.any λz=> !qo keys sums z.2.2)=false:=by simpa using Ie
    rw[JQ,zgg];rw[List.any_eq_not_all_not]at hc;simpa[Function.comp_def]using hc
  have hmz: ∀z∈Z,z.2.2.key.length=keys/\z.2.2.vals.length=sums:=λz hz=>by
    have:=zaz.1 xZ z.2.2 (by rw[JQ];exact zdn hz);unfold qo at this;rw[zbq,decide_eq_true_iff]at this;exact this.1
  have hkl: ∀k∈fU gl,k.length<=16:=λk hk=>by
    obtain⟨x,hx,e⟩:=(oF gl).1 hk;rw[JQ]at hx;obtain⟨z,hz,rfl⟩:=zaq.1 hx;have:=(hmz z hz).1;rw[<-e];omega
  refine Zb0 ?_;refine uT Ha (h:=λbn wb Hb kb=>?_);have Hb:=Sep.Uq Hb At0;refine Zb4 ?_;obtain⟨F0,vN,gV,hQ0,aK⟩:=Sep.Ja (Hb.gG.aX.aQ) At2;have EK: ∀w1,Kept F0 _ w1->Kept F w w1:=λw1 h1=>Mw.Kept.into Hb.kept gV h1;have D8: ∀w1,Kept F0 _ w1->gI w1 L0:=λw1 h1=>by obtain⟨Fq,F1,F2,_,_,h2,_⟩:=hQ0 w1 h1;exact rW h2
  refine aL (ZP (bg:=bg) (keys:=keys) (sums:=sums) (bh:=bh) (E:=E) (λw1 h1=>by obtain⟨Fq,F1,F2,_,_,_,h2⟩:=hQ0 w1 h1;exact h2.2) (λw1 h1=>hv w1 (EK w1 h1)) (λw1 h1=>hZ w1 (EK w1 h1)) (λw1 h1=>hT w1 (EK w1 h1)) Lv (λz hz=>⟨by rw[(hmz z hz).1];exact hkm,hkf z hz⟩) (λz hz=>(hmz z hz).2) hf oM
    (λz hz=>by
      obtain⟨KY,nv0,k0,ns0,e1,e2,_,e4,e5,e6,_⟩:=Q5 hS (hkf z hz) hE;exact⟨KY,nv0,ns0,e1,λw1 h1=>(e2 w1 (D8 w1 h1)).2,e4,e5,e6⟩) vN) rfl rfl (λv' wc KZ=>?_)
  obtain⟨bm,D,C,rfl,hC,lI,F1,lq,yc⟩:=KZ;rw[<-JQ]at hC;have Hc:=aK _ F1 (jf (gQ bm D::gQ bh (L0.map gZ)::C.map Nk)) lI lq yc;have Hc:Mw.Sep w F (star (gQ bm D) (star (gQ bh (L0.map gZ)) (jf (C.map Nk)))::star (fQ λw=>gI w L0) (blk bg (qR keys sums bh) 118)::gQ bn []::blk b2 [ay bg] 88::[]) _:=Hc.aX;have Hc:=Sep.look (X:=λw=>FT w C) (Hc.bL.aG.bL.aG) At0 (λF w h=>Xj h);have Hc:=Sep.l6 (Z:=λw=>gI w ([]:List gu)/\FT w C/\gI w L0) (Hc.aX.bL.aN) (λw h1 h2=>⟨λs hs=>zar hs zan,h1,h2⟩);have Hc:Mw.Sep w F [blk b2 [ay bg] 88,blk bg (qR keys sums bh) 118,gQ bm D,gQ bn [],gQ bh (L0.map gZ),fQ λw=>gI w ([]:List gu)/\FT w C/\gI w L0] _:=Hc.aN.gG.gG.gG.jY;refine Jo Hc At2 (h:=?_);intro q wd Hd;refine Zb0 ?_;have ar6:=Fv gl;refine aI (λx:ap3=>[(2,ay b2),(6,.map (some bn)),(7,x.xv),(28,ay q)]) (λx w'=>Nr sums E gl C x.Ln x.Lf x.LI/\Mw.Sep w F [blk b2 [ay bg] 88,blk bg (qR keys sums bh) 118,dV x.xv x.LI,vE q bm D x.Lf,gQ bn (x.Ln.map gZ),gQ bh (L0.map gZ),fQ λw=>gI w x.Ln/\FT w C/\gI w L0] w') (λx _=>x.Lf.length) ⟨.slice none 0 0,[],[],D⟩ tR ⟨Nr.start hC,(Sep.fT (bD Hd) 39 2).aQ.aN.aN⟩ (λx τ we hI=>?_);obtain⟨xv,LI,Ln,Lf⟩:=x;obtain⟨hJ,He⟩:=hI;dsimp only at hJ He;refine Lp ?_;refine Sr (Nj He At3 (h1:=λp Lf' wf akv Hf=>?_) (h2:=λakv=>?_))
  . obtain⟨⟨bc,kv,sv,key,ns⟩,hcC,rfl,dX,LA,Ah,sI⟩:=hJ.step hC ar6 hkl akv
    have hLt:Lf'.length<Lf.length:=by have:=(akv).length_eq;simp only[zas]at this;omega
    dsimp only at dX LA Ah sI;have hcg:FT _ C:=(Sep.sees Hf At6).2.1;have amW:aJ _ kv ah 3 key:=(hcg _ hcC).2.1;have amX:aJ _ sv bW 3 ns:=(hcg _ hcC).2.2;obtain⟨K,ck,rfl,_,_⟩:=amW;obtain⟨V,cv,rfl,_,_⟩:=amX;have Lj:ns.length=sums+1:=by rw[LA,lg]
    obtain⟨KY,nv0,k0,ns0,hz1,hz2,hz3,hz4,hz5,hz6,hz7⟩:=Q5 hS Ah.1 hE
    have ar7:LI.length<=200:=by
      have h1:=zaw List.length hJ.its;rw[zaf]at h1;have h2:=Q0 (Ln.map (·.2.2.1)) (dW sums E) (dW sums (E++gl))
      have h3:(Ln.map (·.2.2.1)).length<=(fU gl).length:=by
        obtain⟨Cl,_,_,h4⟩:=hJ.rest;have h5:=h4.length_eq;have h6:=hC.keys.length_eq;rw[zad]at h5;omega
      have h7:=yP gl;omega
    refine Zb1 ?_;refine Vv (Gives.aah Hf At3 rfl) ?_;have Hg:=Sep.Ut Hf At3;refine Zb7 ?_;refine dM ((Sep.sees Hg At6).2.1 _ hcC).1 (h:=?_);refine Vb [.slice K key.length ck,.slice none 0 0] ?_;refine Az (λb10 wg Hh kc=>?_);refine Tz (λwh Hi=>?_);refine Zb3 ?_;refine dM ((Sep.sees Hi At7).2.1 _ hcC).1 (h:=?_);refine Zb2 ?_;refine aI (λx:(OA×Nat)×Nat=>[(2,ay b2),(6,.map (some bn)),(7,xv),(8,str (eH key)),(10,ay b10),(28,ay q),(42,.slice V ns.length cv),(43,I ns.length),(44,I x.2)]) (λx w'=>(x.2<=ns.length/\∀n∈ns.take x.2,aW n=true)/\Mw.Sep w F [blk b10 [.slice K key.length ck,.slice x.1.1 (ns.take x.2).length x.1.2] 416,aY 2 1 oH (.slice x.1.1 (ns.take x.2).length x.1.2) (ns.take x.2),blk b2 [ay bg] 88,blk bg (qR keys sums bh) 118,dV xv LI,vE q bm D Lf',gQ bn (Ln.map gZ),gQ bh (L0.map gZ),fQ λw=>gI w Ln/\FT w C/\gI w L0] w') (λx _=>ns.length-x.2) ((none,0),0) tR ⟨⟨zak _,λn hn=>zar hn zan⟩,(Sep.iW Hi 2 1 oH).aG⟩ (λx τ wi hI=>?_);obtain⟨⟨X,cX⟩,j⟩:=x;obtain⟨⟨hj,hfj⟩,Hj⟩:=hI;dsimp only at hj hfj Hj;have RN:(ns.take j).length=j:=by rw[zah];omega
    refine Lp ?_;refine Cz (λIf=>?_) (λIf=>?_)
    . have aS:j<ns.length:=oM
      obtain⟨nj,hnj⟩:=get_some aS;have hbn:=ZW hE Ll oM (show nj∈dW sums (E++gl) key by rw[<-LA];exact zag hnj);have OT:ns.take j++[nj]=ns.take (j+1):=by rw[zay,hnj];rfl
      refine Zb0 ?_;refine Vv (Gives.fF rfl rfl (eO ((Sep.sees Hj At8).2.1 _ hcC).2.2) aS) (Vv (Gives.iH rfl (Sep.aF _) (eO ((Sep.sees Hj At8).2.1 _ hcC).2.2) hnj) ?_);refine Az (λb12 wj Hk kd=>?_);refine Tz (λwk Hl=>?_);refine Nx (fE Hl (cs:=bW nj) (h:=?_));refine Kz (TF nj hbn.1 hbn.2) (λwl Hm ke=>?_);obtain⟨n1,Ag⟩: ∃n1:Int,n1=if aW nj=true then nj else 0:=⟨_,rfl⟩
      obtain⟨e1,KH⟩: ∃e1:Int,e1=if aW nj=true then 0 else 50:=⟨_,rfl⟩
      rw[<-Ag,<-KH];refine Cz (λIg=>?_) (λIg=>?_)
      . have Yp:aW nj≠true:=λh=>Ig (by rw[KH,zac h])
        rw[zab Yp]at KH;have OJ:yF keys sums E gl=([],50):=ad3 xZ (show nj∈dW sums (E++gl) key by rw[<-LA];exact zag hnj) Yp;refine Zb3 ?_;subst KH
        exact⟨(.slice none 0 0,[]),by rw[OJ];rfl,by rw[OJ];rfl,by
          rw[OJ,zab dC];have h1:=Sep.qF (Y:=λw=>gI w L0) Hm At9 (λw h=>h.2.2);exact(Sep.fT (bD (yO h1.gG.alZ.al0 hS).aG.aQ.first) 39 2).aQ.aQ.turn⟩
      have he0:e1=0:=Decidable.of_not_not Ig
      have Yp:aW nj=true:=by
        cases h:aW nj with
        | true=>rfl
        | false=>rw[h,zab dC]at KH;omega
      rw[zac Yp]at Ag;subst Ag;refine Zb3 ?_;refine Bs Hm ([n1].flatMap oH) (λbs wm Hn kf=>?_);refine dG Hn (news:=[n1]) At2 (by unfold maxLen;simp only[zae];omega) (by simp only[zae];omega) (cells_one (λ_=>rfl) _) (h:=?_);intro v60 wn Ho;rw[OT]at Ho;obtain⟨X2,cX2,rfl,_,_⟩:=Sep.bJ Ho At2;refine Vf ?_;refine Uz (λwo Hp=>?_);refine Zb0 ?_;refine Vc ((j+1:Nat):Int) ?_;refine Zb1 ?_;exact aj ((X2,cX2),j+1) tR ⟨⟨dO,λn hn=>by
      dsimp only at hn;rw[<-OT]at hn
      rcases zbk.1 hn with hn | hn
      . exact hfj n hn
      rw[zau]at hn;rw[hn];exact Yp⟩,Hp.bH⟩ dO
    have hjn:j=ns.length:=oM;rw[hjn,zbr]at hfj Hj;refine Zb2 ?_;refine fE Hj (cs:=[.slice K key.length ck,.slice X ns.length cX]) (h:=?_);refine DK (i:=eH key) (v:=agg [.slice K key.length ck,.slice X ns.length cX]) Hj At6 (h:=λwp Hq=>?_);rw[adX (s:=(.slice K key.length ck,.slice X ns.length cX,key,ns)) (λs hs=>(hJ.nums s hs).2.2.1) Ah.1 dX]at Hq;have hrk: ∀wx,FT wx C->aJ wx (.slice K key.length ck) ah 3 key:=λwx h=>(h _ hcC).2.1;refine Dz (λSa wq Hr=>?_);refine Zb6 ?_;refine FGl Sa 6 (v:=agg [KY,nv0]) rfl rfl (by rw[<-hz1];exact nE (i:=eH key) Hr At7 rfl rfl) kR ?_;refine jM Sa 9 Hr (h:=?_);refine dY Sa 7 [(9,false),(0,true)] Hr (TS (-1) (hz2 _ (by first | exact(Sep.sees Hr At8).2.2 | exact(Sep.sees Hr At9).2.2)).1 (hz2 _ (by first | exact(Sep.sees Hr At8).2.2 | exact(Sep.sees Hr At9).2.2)).2 oM oM) (h:=λy wr hy Hs kg=>?_);obtain⟨yv,Ly⟩:=y;dsimp only at hy Hs
    have hyl:Ly.length<=1:=by
      have h1:=zaw List.length hy;rw[zaf]at h1;have h2:=rF ns0 k0 (-1);omega
    refine⟨sU,?_⟩;refine CX Sa 8 [(9,false)] (Hs.jY.aG) oM (h:=λv74 ws Ht=>⟨sU,?_⟩);refine dY Sa 10 _ Ht (TS 1 (hrk _ (by first | exact(Sep.sees Ht At8).2.1 | exact(Sep.sees Ht At9).2.1)) (by first | exact jG Ht At2 | exact jG Ht At1) oM oM) (h:=λz wt hz Hu kh=>?_);obtain⟨zv,Lz⟩:=z;dsimp only at hz Hu
    have hzl:Lz.length<=1:=by
      have h1:=zaw List.length hz;rw[zaf]at h1;have h2:=rF ns key 1;omega
    refine⟨sT,?_⟩
    first | refine CX Sa 11 _ Hu (by rw[zad];omega) (h:=λv77 wu Hv=>⟨sT,?_⟩) | refine CX Sa 11 _ (Hu.aG) (by rw[zad];omega) (h:=λv77 wu Hv=>⟨sT,?_⟩)
    refine sH Sa 12 _ (h:=⟨sT,?_⟩);refine Zb0 ?_;have h1:=dU (Hv.aG.bH) At1;have h2:=Sep.l6 (Z:=λw=>gI w (Ln++[((.slice K key.length ck,.slice X ns.length cX,key,ns):gu)])/\FT w C/\gI w L0) (h1.BJ.aN) (λw g1 g2=>⟨g2.1.push (s:=(.slice K key.length ck,.slice X ns.length cX,key,ns)) (hrk _ g2.2.1) g1 Ah.1,g2.2⟩)
    exact aj ⟨v77,LI++Ly++Lz,Ln++[(.slice K key.length ck,.slice X ns.length cX,key,ns)],Lf'⟩ tR ⟨by
      dsimp only;rw[zbm];exact sI _ _ (Ly++Lz) (by rw[zai,hy,hz,hz7,<-LA]) hfj,h2.jZ.jZ.jZ.gG.jZ.jZ⟩ hLt
  subst akv;obtain⟨ala,OJ⟩:=hJ.fine hC xZ hE;have qX:=hJ.keys hC
  have ar7:LI.length<=200:=by
    have h1:=zaw List.length hJ.its;rw[zaf]at h1;have h2:=Q0 (Ln.map (·.2.2.1)) (dW sums E) (dW sums (E++gl));have h3:=qX.length_eq;have h7:=yP gl;omega
  refine Zb2 ?_
  have ais: ∀o∈LI.map (·.2),fits o.w/\o.row.length<=1000:=λo ho=>by
    rw[hJ.its]at ho;obtain⟨k,hk,h1,h2⟩:=ad4 ho;have h3:=hkl k (qX.mem_iff.1 hk);have h4:=lg (sums:=sums) (E:=E) (k:=k);have h5:=lg (sums:=sums) (E:=E++gl) (k:=k);refine⟨by unfold fits;omega,?_⟩
    rcases h1 with h1 | h1<;>rw[h1,zad,zaf]<;>omega
  refine Nz (FP (fV He At2) (by rw[zaf];omega) (λo ho=>(ais o ho).1) (λo ho=>(ais o ho).2)) (λy wv hy Hw ki=>?_);obtain⟨yv,Ly⟩:=y;rw[<-OJ];rw[<-OJ]at hy;dsimp only at hy Hw ⊢;refine Cz (λIh=>?_) (λIh=>?_)
  . have Ii:=Ih
    have hb:(yF keys sums E gl).1=[]:=by
      have h1:=Ih;rw[OJ]at h1 ⊢;rw[qz h1]
    refine Zb3 ?_;exact⟨(.slice none 0 0,[]),rfl,by rw[hb];rfl,by
    rw[zab Ii];have h1:=Sep.qF (Y:=λw=>gI w L0) Hw At7 (λw h=>h.2.2);exact(Sep.fT (bD (yO h1.aN.jZ.BJ hS).aG.aQ.first) 39 2).aQ.aQ.turn⟩
  have he0:(yF keys sums E gl).2=0:=Decidable.of_not_not Ih;refine Zb1 ?_;refine Jo Hw At5 (h:=?_);intro q2 ww Hx;have Hx:=Sep.qF (Y:=λw=>gI w (Ln++L0)) (Hx.gG.bH.aX.bH) At5 (λw h=>h.1.app h.2.2);refine Zb0 ?_;refine aI (λx:ap4=>[(2,ay b2),(15,yv),(87,ay q2)]) (λx w'=>Pd sums E gl L0 Ln x.L x.Lf x.done/\Mw.Sep w F [blk b2 [ay bg] 88,blk bg (qR keys sums bh) 118,dV yv Ly,vE q2 bn (Ln.map gZ) x.Lf,gQ bh (x.L.map gZ),fQ λw=>gI w (Ln++L0)] w') (λx _=>x.Lf.length) ⟨L0,Ln.map gZ,[]⟩ tR ⟨Pd.start hS,Hx.aN.aN⟩ (λx τ wy hI=>?_);obtain⟨L,Lf,done⟩:=x;obtain⟨hQ,Hy⟩:=hI;dsimp only at hQ Hy;refine Lp ?_;refine Sr (Nj Hy At3 (h1:=λp Lf' wz aci Hz=>?_) (h2:=λaci=>?_))
  . obtain⟨⟨kv,nv,key,ns⟩,nu,rfl,hqy,hqn⟩:=hQ.step (λs hs=>⟨(hJ.nums s hs).1,(hJ.nums s hs).2.2⟩) aci
    have hLt:Lf'.length<Lf.length:=by have:=(aci).length_eq;simp only[zas]at this;omega
    have Ah:=(hJ.nums _ nu).2.2;dsimp only at hqy hqn Ah;have alb:aJ _ kv ah 3 key/\aJ _ nv oH 1 ns:=(Sep.sees Hz At5 _ (zcn _ nu)).1;obtain⟨K,ck,rfl,_,_⟩:=alb.1;obtain⟨X,cX,rfl,_,_⟩:=alb.2;have vN: ∀t∈xB L (.slice K key.length ck,.slice X ns.length cX,key,ns),gH t.2.2.1:=(hQ.held.put (s:=(.slice K key.length ck,.slice X ns.length cX,key,ns)) Ah).fits;refine Zb1 ?_;refine Vv (Gives.aah Hz At3 rfl) ?_;have HA:=Sep.Ut Hz At3;refine Az (λb18 wD HB kj=>?_);refine Am ?_;refine Tz (λwE HC=>?_);refine Dz (λSb wF HD=>?_);refine Zb6 ?_;refine TT Sb 6 _ (i:=eH key) (v:=agg [.slice K key.length ck,.slice X ns.length cX]) HD At5 (h:=λwG HE=>⟨sT,?_⟩);rw[QX (s:=(.slice K key.length ck,.slice X ns.length cX,key,ns)) hQ.held.fits Ah.1]at HE;refine Zb2 ?_;have hnr:aJ _ (.slice X ns.length cX) oH 1 ns:=(Sep.sees HE At6 _ (zcn _ nu)).1.2;refine Kz (W9 (p:=λn=>decide (n≠0)) (fv:=.func (.func 367) #[] #[]) hnr ⟨367,[],[],rfl,eT,λx _ w' _=>ad5 x⟩) (λwH HF kk=>?_);refine Vv (Gives.not rfl) (Qn ?_);refine Cd rfl (λIj=>?_) (λIj=>?_)
    . have KU:(ns.any λn=>decide (n≠0))=false:=by simpa using Ij
      refine Zb5 ?_;refine ZN (i:=eH key) HF At5 (h:=λwI HG=>?_);rw[adY vN Ah.1]at HG;refine Zb0 ?_;exact aj ⟨QV (xB L (.slice K key.length ck,.slice X ns.length cX,key,ns)) key,Lf',key::done⟩ tR ⟨hqn KU,HG.bH⟩ hLt
    have KU:(ns.any λn=>decide (n≠0))=true:=by simpa using Ij
    refine Zb0 ?_;exact aj ⟨xB L (.slice K key.length ck,.slice X ns.length cX,key,ns),Lf',key::done⟩ tR ⟨hqy KU,HF.bH⟩ hLt
  subst aci;have bT:=hQ.end_ (λk hk=>qX.mem_iff.2 hk);refine Zb4 ?_;exact⟨(yv,Ly),by rw[he0];rfl,hy,by
  rw[zac he0];have h1:=Sep.qF (Y:=λw=>gI w L) Hy At5 (λw h=>h.sub λs hs=>(hQ.from_ s hs).elim (zcn _) (zct _));exact((yO h1.aN.aN.gG.jY bT).aG.aQ.aG.aQ.first).turn⟩
end Go.Proofs.Mw
