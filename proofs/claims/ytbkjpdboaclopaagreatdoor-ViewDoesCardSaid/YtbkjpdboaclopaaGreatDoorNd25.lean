/-
 The document's rows of groups;walked.
-/
import Derived.Test.YtbkjpdboaclopaaGreatDoorNd24
set_option linter.all false
set_option maxRecDepth 4000
namespace Go.Proofs.Mw
variable {i:Nat} {L:List Held} {v:Value}
open Go.Lib Go.Proofs.Tryz
section
attribute [local irreducible] FW FL FG FGn jJ jO fC lJ Qfn Gives
def aaE {G:List oU} {g:oU} {wt:Int} (h:G[i]? =some g):xP ((G.take (i+1)).map (·.2.2)) wt=xP ((G.take i).map (·.2.2)) wt++iG g.2.2.2 g.2.2.1 wt:=by
 unfold xP;rw[zat,h,zak,zbv];simp
def rT (ns:List Int) (k:List aC) (wt:Int):(iG ns k wt).length<=1:=by
 unfold iG
 split<;>simp
def Dt (wt:Int): ∀L:List (List aC×List Int),(xP L wt).length<=L.length
 | []=>zbi _
 | x::L=>by
  have h1:=Dt wt L;have h2:=rT x.2 x.1 wt;unfold xP at h1 ⊢;rw[zbh,zad,zaq];omega
def head_tail {ns:List Int} (h: ¬ns.headD 0=0):ns=ns.headD 0::ns.drop 1:=by
 cases ns with
 | nil=>exact zas rfl h
 | cons a t=>rfl
section
variable {w:Wd}
theorem NT {G:List oU} {vl:Value} (wt:Int) (hG:aJ w vl grC 3 G) (hR:jY w G) (hn:G.length<=1000) (hl: ∀g∈G,g.2.2.1.length<=400/\g.2.2.2.length<=400):
    aQ Tryz.prog 131 [vl,I wt] w λu w'=>∃x:Value×List Held,u=x.1/\x.2.map (·.2)=xP (G.map (·.2.2)) wt/\Turn noB (dz x.1 x.2) w w':=by
  obtain⟨A,m,rfl,⟨hm,nX⟩,hA⟩:=hG;have H:=Sep.aH w;refine bU Tryz.func131 ?_;refine V3 ?_;refine aI (λx:(OA×Nat)×List Held×Nat=>[(0,.slice A G.length m),(1,I wt),(5,.slice x.1.1 (aP x.2.1).length x.1.2),(6,I x.2.2)]) (λx w'=>(x.2.2<=G.length/\x.2.1.map (·.2)=xP ((G.take x.2.2).map (·.2.2)) wt)/\Mw.Sep w noB [aU 60 2 aA (.slice x.1.1 (aP x.2.1).length x.1.2) (aP x.2.1),lQ x.2.1] w') (λx _=>G.length-x.2.2) ((none,0),[],0) tR ⟨⟨zai _,rfl⟩,Sep.gy (bJ H) 60 2⟩ (λx τ _ hI=>?_);obtain⟨⟨R,cR⟩,L,i⟩:=x;obtain⟨⟨hi,hL⟩,S⟩:=hI;dsimp only at hi hL S;refine Lp ?_;refine Cz (λa=>?_) (λa=>?_)
  . have aX:i<G.length:=oM
    obtain⟨g,hg⟩:=get_some aX;have hgm:=zag hg;obtain⟨ath,ati⟩:=hl g hgm;obtain⟨hgk,hgn⟩:=hR g hgm;have nH:=aaE (wt:=wt) hg;have hLr:(aP L).length=L.length:=zae _
    have hLn:L.length<=i:=by
      have h1:=zay List.length hL;have h2:=Dt wt ((G.take i).map (·.2.2));rw[zae]at h1;rw[zae,zah]at h2;omega
    obtain⟨kv,sv,k,ns⟩:=g;dsimp only at ath ati hgk hgn nH;have aqe:=hgk;obtain⟨N,cn,rfl,_,hN⟩:=hgn;unfold iG at nH;refine V2 ?_;refine Vv (Gives.fA rfl rfl hA aX) (V1 ?_);refine Vv (Gives.dG (f:=1) rfl S hA hg rfl) (Ve ?_);refine Cz (λa=>?_) (λa=>?_)
    . rw[zac a,zbt]at nH
      refine V1 ?_;refine Vc ((i+1:Nat):Int) ?_;refine V1 ?_
      first
      | exact aj ((R2,cR2),L2,i+1) tR ⟨⟨dO,CU⟩,zK⟩ dO
      | exact aj ((R,cR),L,i+1) tR ⟨⟨dO,by dsimp only;rw[nH];exact hL⟩,S⟩ dO
    have hhd: ¬ns.headD 0=0:=a;rw[zaa hhd]at nH;have hns:=head_tail hhd;have hdl:(ns.drop 1).length=ns.length-1:=zbo;refine Dz (λa _ b=>?_);refine V2 ?_;refine GS (Gn rfl (λ_=>Gives.fA rfl rfl hA aX) ?_);refine V1 ?_;refine GS (Gt rfl (Gives.dG (f:=0) rfl b hA hg rfl) ?_);refine Gm a 6 ?_;refine V1 ?_;refine GS (Gn rfl (λ_=>Gives.fA rfl rfl hA aX) ?_);refine V1 ?_;refine GS (Gt rfl (Gives.dG (f:=1) rfl b hA hg rfl) ?_);refine Gb a 11 (ah (dw (ns.headD 0))) ?_;refine jQ a (e1:=5) (e2:=12) kR ?_ ?_
    . refine j3 a 5 [(11,true),(10,false),(9,true),(8,true),(7,true),(6,true)] b (mM (aqe.keep b.kept) oM) (h:=λy _ _ c _=>?_)
      obtain⟨Y,cy,rfl,_,_⟩:=Sep.bH c At0;refine⟨ay ((bQ rfl kR (Gives.dG (f:=1) rfl c hA hg rfl) rfl (ay (ay (ay (ay (eF))))))),?_⟩;refine Gz a 12 _ c ([dw (ns.headD 0)].flatMap ah) (h:=λbs _ c=>⟨sT,?_⟩);have hB:=(show Mw.Sep w noB (blk bs ([dw (ns.headD 0)].flatMap ah) 47::aU 47 3 ah (.slice Y k.length cy) k::aU 60 2 aA (.slice R (aP L).length cR) (aP L)::lQ L::[]) _ by first | exact c | exact c.aF);refine gH a 13 _ hB (news:=[dw (ns.headD 0)]) At0 (by unfold maxLen;simp only[zaf];omega) (by simp only[zaf];omega) (cells_one (λ_=>rfl) _) (h:=λv7 _ c=>?_);obtain⟨Y1,cy1,rfl,_,_⟩:=Sep.bH c At0;refine⟨sT,?_⟩;refine V2 ?_;have e0:k++[dw (ns.headD 0)]++((ns.drop 1).take 0).map dw=k++[dw (ns.headD 0)]:=sM;refine aI (λx:(OA×Nat)×Nat=>[(0,.slice A G.length m),(1,I wt),(5,.slice R (aP L).length cR),(6,I i),(7,.slice x.1.1 (k++[dw (ns.headD 0)]++((ns.drop 1).take x.2).map dw).length x.1.2),(8,I x.2)]) (λx w'=>x.2<=(ns.drop 1).length/\Mw.Sep w noB [aU 47 3 ah (.slice x.1.1 (k++[dw (ns.headD 0)]++((ns.drop 1).take x.2).map dw).length x.1.2) (k++[dw (ns.headD 0)]++((ns.drop 1).take x.2).map dw),aU 60 2 aA (.slice R (aP L).length cR) (aP L),lQ L] w') (λx _=>(ns.drop 1).length-x.2) ((Y1,cy1),0) ⟨rfl,rfl,rfl,rfl,by dsimp only;rw[e0];rfl,rfl,trivial⟩ ⟨zai _,by dsimp only;rw[e0];exact c⟩ (λx τ _ hI=>?_);clear e0;obtain⟨⟨Z,cZ⟩,j⟩:=x;obtain⟨hj,c⟩:=hI;dsimp only at hj c
      refine Lp ?_;refine V3 ?_;refine Vv (Gives.fA rfl rfl hA aX) (V1 ?_);refine Vv (Gives.dG (f:=2) rfl c hA hg rfl) (Cz (λd=>?_) (λd=>?_))
      . have ajo:j<(ns.drop 1).length:=oM
        obtain⟨n,hnj⟩:=get_some ajo;have Px:k++[dw (ns.headD 0)]++((ns.drop 1).take j).map dw++[dw n]=k++[dw (ns.headD 0)]++((ns.drop 1).take (j+1)).map dw:=by rw[zat,hnj,zak,zbm];rfl
        have hlen:(k++[dw (ns.headD 0)]++((ns.drop 1).take j).map dw).length<=900:=by
          rw[zad,zad,zae,zah,zaf];omega
        refine V3 ?_;refine Vv (Gives.fA rfl rfl hA aX) (V1 ?_);refine Vv (Gives.dG (f:=2) rfl c hA hg rfl) (Mv ?_);refine Vv (Gives.fA (l:=ns.drop 1) rfl rfl hN ajo) (Vv (Gives.dG (f:=0) rfl c hN hnj rfl) ?_);refine Vb (ah (dw n)) ?_;refine Bs c ([dw n].flatMap ah) (λbs _ d _=>?_);refine dJ d (news:=[dw n]) At0 (by unfold maxLen;simp only[zaf];omega) (by simp only[zaf];omega) (cells_one (λ_=>rfl) _) (h:=?_);intro v5 d d;rw[Px]at d;obtain⟨Z2,cZ2,rfl,_,_⟩:=Sep.bH d At0;refine V2 ?_;refine Vc ((j+1:Nat):Int) ?_;refine V1 ?_;exact aj ((Z2,cZ2),j+1) tR ⟨dO,d⟩ dO
      have Tv:(ns.drop 1).take j=ns.drop 1:=zaj oM
      have tV:k++[dw (ns.headD 0)]++((ns.drop 1).take j).map dw=k++ns.map dw:=by
        rw[Tv,zbm]
        conv=>rhs;rw[hns]
        rw[zav,List.singleton_append]
      refine V3 ?_;refine Vb (aA (.slice Z (k++[dw (ns.headD 0)]++((ns.drop 1).take j).map dw).length cZ,wt)) ?_;refine Bs c ([(Value.slice Z (k++[dw (ns.headD 0)]++((ns.drop 1).take j).map dw).length cZ,wt)].flatMap aA) (λbs _ d _=>?_);refine dJ d (news:=[(Value.slice Z (k++[dw (ns.headD 0)]++((ns.drop 1).take j).map dw).length cZ,wt)]) At1 (by unfold maxLen;simp only[zaf];omega) (by simp only[zaf];omega) (λu hu=>zba.1 (show([(Value.slice Z (k++[dw (ns.headD 0)]++((ns.drop 1).take j).map dw).length cZ,wt)].flatMap aA).all Value.oneCell'=true from rfl) u hu) (h:=?_);intro v9 d d;obtain⟨R2,cR2,rfl,_,_⟩:=Sep.bH d At1;have zK:=(iF (x:=Value.slice Z (k++[dw (ns.headD 0)]++((ns.drop 1).take j).map dw).length cZ) (o:=⟨k++[dw (ns.headD 0)]++((ns.drop 1).take j).map dw,wt⟩) (d.aO.aF)).aF
      have CV:aP L++[(Value.slice Z (k++[dw (ns.headD 0)]++((ns.drop 1).take j).map dw).length cZ,wt)]=aP (L++[(Value.slice Z (k++[dw (ns.headD 0)]++((ns.drop 1).take j).map dw).length cZ,(⟨k++[dw (ns.headD 0)]++((ns.drop 1).take j).map dw,wt⟩:aG))]):=by
        unfold aP;rw[zak];rfl
      have CU:(L++[(Value.slice Z (k++[dw (ns.headD 0)]++((ns.drop 1).take j).map dw).length cZ,(⟨k++[dw (ns.headD 0)]++((ns.drop 1).take j).map dw,wt⟩:aG))]).map (·.2)=xP ((G.take (i+1)).map (·.2.2)) wt:=by
        rw[zak,hL,nH,<-tV];rfl
      rw[CV]at zK ⊢;clear CV
      generalize L++[(Value.slice Z (k++[dw (ns.headD 0)]++((ns.drop 1).take j).map dw).length cZ,(⟨k++[dw (ns.headD 0)]++((ns.drop 1).take j).map dw,wt⟩:aG))]=L2 at zK CU |-
      refine V2 ?_;refine Vc ((i+1:Nat):Int) ?_;refine V1 ?_
      first
      | exact aj ((R2,cR2),L2,i+1) tR ⟨⟨dO,CU⟩,zK⟩ dO
      | exact aj ((R,cR),L,i+1) tR ⟨⟨dO,by dsimp only;rw[nH];exact hL⟩,d⟩ dO
    refine gD a 12 [(4,false),(3,true),(2,true),(1,true),(0,true)] b (xs:=[.tmp 32]) (out:=[dw (ns.headD 0)].flatMap ah) (eu.many rfl rfl eu.nil) rfl rfl rfl (h:=λbs _ d=>⟨(bQ rfl kR (Gives.dG (f:=0) rfl d hA hg rfl) rfl (ay (ay (ay (ay (eF)))))),?_⟩);refine eB a 5 _ d (mM (aqe.keep d.kept) oM) (h:=λy _ _ d _=>?_);obtain⟨Y,cy,rfl,_,_⟩:=Sep.bH d At0;refine⟨sT,?_⟩;have hB:=(show Mw.Sep w noB (blk bs ([dw (ns.headD 0)].flatMap ah) 47::aU 47 3 ah (.slice Y k.length cy) k::aU 60 2 aA (.slice R (aP L).length cR) (aP L)::lQ L::[]) _ by first | exact d | exact d.aF);refine gH a 13 _ hB (news:=[dw (ns.headD 0)]) At0 (by unfold maxLen;simp only[zaf];omega) (by simp only[zaf];omega) (cells_one (λ_=>rfl) _) (h:=λv7 _ d=>?_);obtain⟨Y1,cy1,rfl,_,_⟩:=Sep.bH d At0;refine⟨sT,?_⟩;refine V2 ?_;have e0:k++[dw (ns.headD 0)]++((ns.drop 1).take 0).map dw=k++[dw (ns.headD 0)]:=sM;refine aI (λx:(OA×Nat)×Nat=>[(0,.slice A G.length m),(1,I wt),(5,.slice R (aP L).length cR),(6,I i),(7,.slice x.1.1 (k++[dw (ns.headD 0)]++((ns.drop 1).take x.2).map dw).length x.1.2),(8,I x.2)]) (λx w'=>x.2<=(ns.drop 1).length/\Mw.Sep w noB [aU 47 3 ah (.slice x.1.1 (k++[dw (ns.headD 0)]++((ns.drop 1).take x.2).map dw).length x.1.2) (k++[dw (ns.headD 0)]++((ns.drop 1).take x.2).map dw),aU 60 2 aA (.slice R (aP L).length cR) (aP L),lQ L] w') (λx _=>(ns.drop 1).length-x.2) ((Y1,cy1),0) ⟨rfl,rfl,rfl,rfl,by dsimp only;rw[e0];rfl,rfl,trivial⟩ ⟨zai _,by dsimp only;rw[e0];exact d⟩ (λx τ _ hI=>?_)
    clear e0;obtain⟨⟨Z,cZ⟩,j⟩:=x;obtain⟨hj,d⟩:=hI;dsimp only at hj d;refine Lp ?_;refine V3 ?_;refine Vv (Gives.fA rfl rfl hA aX) (V1 ?_);refine Vv (Gives.dG (f:=2) rfl d hA hg rfl) (Cz (λa=>?_) (λa=>?_))
    . have ajo:j<(ns.drop 1).length:=oM
      obtain⟨n,hnj⟩:=get_some ajo;have Px:k++[dw (ns.headD 0)]++((ns.drop 1).take j).map dw++[dw n]=k++[dw (ns.headD 0)]++((ns.drop 1).take (j+1)).map dw:=by rw[zat,hnj,zak,zbm];rfl
      have hlen:(k++[dw (ns.headD 0)]++((ns.drop 1).take j).map dw).length<=900:=by
        rw[zad,zad,zae,zah,zaf];omega
      refine V3 ?_;refine Vv (Gives.fA rfl rfl hA aX) (V1 ?_);refine Vv (Gives.dG (f:=2) rfl d hA hg rfl) (Mv ?_);refine Vv (Gives.fA (l:=ns.drop 1) rfl rfl hN ajo) (Vv (Gives.dG (f:=0) rfl d hN hnj rfl) ?_);refine Vb (ah (dw n)) ?_;refine Bs d ([dw n].flatMap ah) (λbs _ a _=>?_);refine dJ a (news:=[dw n]) At0 (by unfold maxLen;simp only[zaf];omega) (by simp only[zaf];omega) (cells_one (λ_=>rfl) _) (h:=?_);intro v5 a a;rw[Px]at a;obtain⟨Z2,cZ2,rfl,_,_⟩:=Sep.bH a At0;refine V2 ?_;refine Vc ((j+1:Nat):Int) ?_;refine V1 ?_;exact aj ((Z2,cZ2),j+1) tR ⟨dO,a⟩ dO
    have Tv:(ns.drop 1).take j=ns.drop 1:=zaj oM
    have tV:k++[dw (ns.headD 0)]++((ns.drop 1).take j).map dw=k++ns.map dw:=by
      rw[Tv,zbm]
      conv=>rhs;rw[hns]
      rw[zav,List.singleton_append]
    refine V3 ?_;refine Vb (aA (.slice Z (k++[dw (ns.headD 0)]++((ns.drop 1).take j).map dw).length cZ,wt)) ?_;refine Bs d ([(Value.slice Z (k++[dw (ns.headD 0)]++((ns.drop 1).take j).map dw).length cZ,wt)].flatMap aA) (λbs _ a _=>?_);refine dJ a (news:=[(Value.slice Z (k++[dw (ns.headD 0)]++((ns.drop 1).take j).map dw).length cZ,wt)]) At1 (by unfold maxLen;simp only[zaf];omega) (by simp only[zaf];omega) (λu hu=>zba.1 (show([(Value.slice Z (k++[dw (ns.headD 0)]++((ns.drop 1).take j).map dw).length cZ,wt)].flatMap aA).all Value.oneCell'=true from rfl) u hu) (h:=?_);intro v9 a a;obtain⟨R2,cR2,rfl,_,_⟩:=Sep.bH a At1;have zK:=(iF (x:=Value.slice Z (k++[dw (ns.headD 0)]++((ns.drop 1).take j).map dw).length cZ) (o:=⟨k++[dw (ns.headD 0)]++((ns.drop 1).take j).map dw,wt⟩) (a.aO.aF)).aF
    have CV:aP L++[(Value.slice Z (k++[dw (ns.headD 0)]++((ns.drop 1).take j).map dw).length cZ,wt)]=aP (L++[(Value.slice Z (k++[dw (ns.headD 0)]++((ns.drop 1).take j).map dw).length cZ,(⟨k++[dw (ns.headD 0)]++((ns.drop 1).take j).map dw,wt⟩:aG))]):=by
      unfold aP;rw[zak];rfl
    have CU:(L++[(Value.slice Z (k++[dw (ns.headD 0)]++((ns.drop 1).take j).map dw).length cZ,(⟨k++[dw (ns.headD 0)]++((ns.drop 1).take j).map dw,wt⟩:aG))]).map (·.2)=xP ((G.take (i+1)).map (·.2.2)) wt:=by
      rw[zak,hL,nH,<-tV];rfl
    rw[CV]at zK ⊢;clear CV
    generalize L++[(Value.slice Z (k++[dw (ns.headD 0)]++((ns.drop 1).take j).map dw).length cZ,(⟨k++[dw (ns.headD 0)]++((ns.drop 1).take j).map dw,wt⟩:aG))]=L2 at zK CU |-
    refine V2 ?_;refine Vc ((i+1:Nat):Int) ?_;refine V1 ?_
    first
    | exact aj ((R2,cR2),L2,i+1) tR ⟨⟨dO,CU⟩,zK⟩ dO
    | exact aj ((R,cR),L,i+1) tR ⟨⟨dO,by dsimp only;rw[nH];exact hL⟩,a⟩ dO
  have jG:G.take i=G:=zaj oM;refine V2 ?_;exact⟨(_,L),rfl,by dsimp only;rw[hL,jG],S.aR.turn⟩
end
def JR {L:List (List aC×List Int)} {wt:Int} {o:aG} (h:o∈xP L wt): ∃g∈L,o.row=g.1++g.2.map dw/\o.w=wt:=by
 unfold xP at h;obtain⟨g,hg,h⟩:=zcc.1 h;unfold iG at h
 split at h
 .exact zas h zam
 rw[zaw]at h;exact⟨g,hg,by rw[h],by rw[h]⟩
section
variable {w:Wd}
def Yc {bg keys sums:Nat} {E:Td} {G:List oU} {vl:Value} (hg:gJ w bg (zi keys sums vl) E) (hG:aJ w vl grC 3 G) (hR:jY w G) (hn:G.length<=1000) (hl: ∀g∈G,g.2.2.1.length<=400/\g.2.2.2.length<=400):
    aQ Tryz.prog 78 [av bg] w λu w'=>∃x:Value×List Held,u=x.1/\x.2.map (·.2)=(cO (xP (G.map (·.2.2)) 1)).1/\Turn noB (dz x.1 x.2) w w':=by
  have hlen:=Dt 1 (G.map (·.2.2));rw[zae]at hlen;have H:=Sep.aH w;refine dh Tryz.func78 ?_;refine V4 ?_;refine dM (hg.keep H.kept) (h:=?_);refine Nz (NT 1 (hG.keep H.kept) (hR.keep H.kept) hn hl) (λx _ hx k _=>?_);have Pw:=gU k At0;rw[hx]at Pw
  refine GL k (BU Pw oM (λo ho=>by
    obtain⟨g,_,_,e⟩:=JR ho;rw[e];show -9223372036854775808<=(1:Int)/\(1:Int)<=9223372036854775807
    decide) (λo ho=>by
    obtain⟨g,Vk,e,_⟩:=JR ho;obtain⟨g2,hg3,rfl⟩:=zar.1 Vk;obtain⟨h1,h2⟩:=hl g2 hg3;rw[e,zad,zae];omega)) (h:=λz _ hz k _=>?_)
  refine V7 ?_;exact⟨z,rfl,hz,k.first.turn⟩
end
def qN:aC:=⟨false, -9,[115,112,111,105,108,116]⟩
def vN (b:Held):Held:=(b.1,⟨b.2.row.map λ_=>qN, -9⟩)
def om (L:List Held) (i:Nat):List (Value×Int):=aP ((L.take i).map vN)++aP (L.drop i)
def aaF (h:i<=L.length):(om L i).length=L.length:=by
 unfold om aP;rw[zad,zae,zae,zae,zah,zbo];omega
def BX {α:Type} {L:List α} {b:α} (h:L[i]? =some b):L.drop i=b::L.drop (i+1):=by
 have hi:i<L.length:=(zax.1 h).1;rw[zbn hi]
 congr 1
 exact(zax.1 h).2
def aeQ {b:Held} (h:L[i]? =some b):(om L i)[i]? =some (b.1,b.2.w):=by
 have hi:=fI h;unfold om aP;rw[zby (by rw[zae,zae,zah];omega),zae,zae,zah,zcp oM,zec,BX h];rfl
def aaG {b:Held} (h:L[i]? =some b):(om L i).set i (b.1, -9)=om L (i+1):=by
 have hi:=fI h;unfold om aP;rw[zed _ _ (by rw[zae,zae,zah];omega),zae,zae,zah,zcp oM,zec,BX h,zav,zdf,zat,h];simp[vN]
section
variable {w:Wd} {F:NP}
def ahH (hp:(dz v L).ok F w) (hn:L.length<=100000) (mU: ∀b∈L,b.2.row.length<=100000):aQ Tryz.prog 16 [v] w λu w'=>u=.tuple #[]/\Turn F (dz v (L.map vN)) w w':=by
 have H:=(Sep.bW hp).bE;obtain⟨A,c,rfl,hc,_⟩:=Sep.bH H At0;have hL0:(aP L).length=L.length:=zae _;refine dh Tryz.func16 ?_;refine V1 ?_;refine aI (λi:Nat=>[(0,.slice A (aP L).length c),(2,I i)]) (λi w'=>i<=L.length/\Mw.Sep w F [aU 60 2 aA (.slice A (aP L).length c) (om L i),lQ ((L.take i).map vN),lQ (L.drop i)] w') (λi _=>L.length-i) 0 tR ⟨zai _,(bJ H).aF⟩ (λi τ _ hI=>?_);obtain⟨hi,S⟩:=hI;have hm:(aP L).length=(om L i).length:=by rw[aaF hi,hL0]
 refine Lp ?_;refine Cz (λa=>?_) (λa=>?_)
 .have aX:i<L.length:=oM
  obtain⟨b,hb⟩:=get_some aX;have hri:=aeQ hb;have hbl:=mU b (zag hb);have xk:=aaG hb;rw[BX hb]at S;obtain⟨y,o⟩:=b;dsimp only at hri hbl xk;have a:Mw.Sep w F (aU 47 3 ah y o.row::lQ (L.drop (i+1))::aU 60 2 aA (.slice A (aP L).length c) (om L i)::lQ ((L.take i).map vN)::[]) _:=S.aO.bE;obtain⟨Y,cy,rfl,_,_⟩:=Sep.bH a At0;refine V1 ?_;have e0:(o.row.take 0).map (λ_=>qN)++o.row.drop 0=o.row:=sM;refine aI (λk:Nat=>[(0,.slice A (aP L).length c),(2,I i),(3,I k)]) (λk w'=>k<=o.row.length/\Mw.Sep w F [aU 47 3 ah (.slice Y o.row.length cy) ((o.row.take k).map (λ_=>qN)++o.row.drop k),lQ (L.drop (i+1)),aU 60 2 aA (.slice A (aP L).length c) (om L i),lQ ((L.take i).map vN)] w') (λk _=>o.row.length-k) 0 tR ⟨zai _,by rw[e0];exact a⟩ (λk τ _ hK=>?_);clear e0;obtain⟨hk,a⟩:=hK;have hkm:o.row.length=((o.row.take k).map (λ_=>qN)++o.row.drop k).length:=by rw[zad,zae,zah,zbo];omega
  refine Lp ?_;refine V3 ?_;refine Vv (Gives.LB (l:=om L i) (enc:=aA) hm rfl rfl (j5 hm a At2) oM) (Vv (Gives.AX rfl (j5 hm a At2) oM) ?_);refine Vv (Gives.CJ (i:=i) (f:=0) rfl (j5 hm a At2) hri rfl) (Cz (λd=>?_) (λd=>?_))
  .have hlk:k<o.row.length:=oM
   have Py:((o.row.take k).map (λ_=>qN)++o.row.drop k).set k qN=(o.row.take (k+1)).map (λ_=>qN)++o.row.drop (k+1):=by
    obtain⟨q,hq⟩:=get_some hlk;rw[zed _ _ (by rw[zae,zah];omega),zae,zah,zcp hk,zec,BX hq,zdf,zat,hq];simp
   refine V2 ?_;refine Vv (Gives.LB (l:=om L i) (enc:=aA) hm rfl rfl (j5 hm a At2) oM) (Vv (Gives.AX rfl (j5 hm a At2) oM) ?_);refine Vv (Gives.CJ (i:=i) (f:=0) rfl (j5 hm a At2) hri rfl) (Mv ?_);refine Vb (ah qN) ?_;refine Vv (Gives.LB (enc:=ah) hkm rfl rfl (j5 hkm a At0) oM) (rP (i:=k) qN hkm a At0 oM rfl (h:=λ_ d=>?_));rw[Py]at d;refine V1 ?_;refine Vc ((k+1:Nat):Int) ?_;refine V1 ?_;exact aj (k+1) tR ⟨oM,d⟩ oM
  have hkl:(o.row.take k).map (λ_=>qN)++o.row.drop k=o.row.map (λ_=>qN):=by
   rw[zaj oM,zbu oM,zbt]
  rw[hkl]at a;refine V2 ?_;refine Vv (Gives.LB (l:=om L i) (enc:=aA) hm rfl rfl (j5 hm a At2) oM) (Vv (Gives.AX rfl (j5 hm a At2) oM) ?_);refine QL (enc:=aA) (l:=om L i) (f:=1) (.slice Y o.row.length cy, -9) hm a At2 hri dC rfl rfl rfl rfl (h:=λ_ d=>?_);rw[xk]at d;have hlm:(o.row.map λ_=>qN).length=o.row.length:=zae _;have zK:=(iF (x:=.slice Y o.row.length cy) (o:=⟨o.row.map λ_=>qN, -9⟩) d.aS.aF).aO;refine V1 ?_;refine Vc ((i+1:Nat):Int) ?_;refine V1 ?_;exact aj (i+1) tR ⟨oM,by
  have e1:(L.take (i+1)).map vN=(L.take i).map vN++[(Value.slice Y o.row.length cy,(⟨o.row.map λ_=>qN, -9⟩:aG))]:=by rw[zat,hb,zak];rfl
  rw[e1];exact zK⟩ oM
 have jG:i=L.length:=oM;refine V0 ?_
 have e1:om L i=aP (L.map vN):=by
  unfold om;rw[jG,zbq,zdz];unfold aP;rw[zci,zbt]
 have e2:(L.take i).map vN=L.map vN:=by rw[jG,zbq]
 rw[e1,e2]at S;exact⟨rfl,S.aR.first.turn⟩
end
def mo (cv wv pv:Value) (g:Int) (ov kv:Value) (o1 o2 o3:Int) (fv:Value):LV:=[cv,wv,pv,I g,ov,kv,.int .u32 o1,.int .i32 o2,.int .u32 o3,fv]
section
variable {w:Wd}
def NU {b:Nat} {E:Td} {cv wv pv ov kv fv:Value} {g o1 o2 o3:Int} {r:Bool} (hb:gJ w b (mo cv wv pv g ov kv o1 o2 o3 fv) E) (hk:IsNil kv r):Rk prog 39 [av b] w (.bool r):=by
 haveI:IsIface prog 77:=⟨by kernel_rfl⟩
 have H:=Sep.aH w;refine dh func39 ?_;refine V4 ?_;refine dL (t:=5) rfl (λk=>?_) (λk=>?_)
 .refine V2 ?_
  (exfalso;simp at *)
 refine V3 ?_;refine dM (hb.keep H.kept) (h:=?_);refine On (Vv (Gives.UZ hk rfl rfl) (V2 ?_));exact⟨rfl,H.kept⟩
def ahI {b:Nat} {E:Td} {cv wv pv ov kv fv:Value} {g o1 o2 o3:Int} {outs:List bT} (hb:gJ w b (mo cv wv pv g ov kv o1 o2 o3 fv) E) (hk:IsNil kv false) (ho:aJ w ov aM 7 outs) (hl:outs.length<=1000):aQ prog 11 [av b] w λu w'=>∃x,u=x/\True/\Turn noB (aU 49 7 aM x outs) w w':=by
 have H:=Sep.aH w;refine dh func11 ?_;refine Kz (NU (hb.keep H.kept) hk) (λ_ k _=>?_);refine Qn (Cd rfl (λS=>?_) (λS=>?_))
 .exact Bool.noConfusion S
 refine V3 ?_;refine dM (hb.keep k.kept) (h:=?_);refine Nz (Ah (ho.keep k.kept) hl) (λx _ _ S _=>?_);refine V1 ?_;exact⟨_,rfl,trivial,S.turn⟩
def JU {α:Type} {A:OA} {c k m:Nat} {enc:α->LV} [jd enc k] {l:List α} (h:aJ w (.slice A l.length c) enc k l) (hm:m<=l.length):aJ w (.slice A m c) enc k (l.take m):=by
 obtain⟨A',c',e,⟨h1,h2⟩,hr⟩:=h;injection e with e1 e2 e3
 subst e1 e3;have hl:(l.take m).length=m:=by rw[zah];omega
 exact⟨A,c,by rw[hl],⟨by rw[hl];omega,h2⟩,hr.cut m⟩
def BZ {l:List bT} (hl:aJ w v aM 7 l):aQ Tryz.prog 5 [v] w λu w'=>∃x,u=x/\True/\Turn noB (aU 49 7 aM x (l.take 12)) w w':=by
 have Jb:=hl;obtain⟨A,m,rfl,⟨hm,nX⟩,hA⟩:=hl;obtain⟨n,hn⟩: ∃n:Nat,n=min l.length 12:=⟨_,rfl⟩;have alf:min (l.length:Int) 12=(n:Int):=oM
 have yH:l.take n=l.take 12:=by
  rcases Nat.le_total l.length 12 with h | h
  .rw[zaj oM,zaj h]
  rw[show n=12 from oM]
 have H:=Sep.aH w;refine dh Tryz.func5 ?_;refine V4 ?_;refine Vv (Gives.agS rfl rfl alf) (Vv (Gives.sliceTo (h:=n) rfl rfl oM) ?_);refine Nz (Gy (JU (m:=n) (Jb.keep H.kept) oM) (by rw[zah];omega)) (λx _ _ k _=>?_);rw[yH]at k;refine V1 ?_;exact⟨_,rfl,trivial,k.turn⟩
end
def mF (c:aC):aC:=⟨c.null,c.n,c.s.take 200⟩
def P5 (x:aG):aG:=⟨(x.row.take 12).map mF,x.w⟩
def uf (l:List aG):List aG:=(l.take 10).map P5
def ahJ (s:L8) (k:Nat):s.take (s.take k).length=s.take k:=by
 rw[zah]
 rcases Nat.le_total k s.length with h | h
 .rw[zcp h]
 rw[Nat.min_eq_right h,zaj (zbi _),zaj h]
section
variable {w:Wd}
theorem Yd {l:List aG} (hl:dS w v l):aQ Tryz.prog 13 [v] w λu w'=>∃x:Value×List Held,u=x.1/\x.2.map (·.2)=uf l/\Turn noB (dz x.1 x.2) w w':=by
 obtain⟨r,hr,eP⟩:=hl;obtain⟨A,m,rfl,⟨hm,nX⟩,hA⟩:=hr;have yL:=eP.len;have H:=Sep.aH w;refine dh Tryz.func13 ?_;refine V3 ?_;refine aI (λx:(OA×Nat)×List Held×Nat=>[(0,.slice A r.length m),(3,.slice x.1.1 (aP x.2.1).length x.1.2),(4,I x.2.2)]) (λx w'=>(x.2.2<=r.length/\x.2.2<=10/\x.2.1.map (·.2)=(l.take x.2.2).map P5)/\Mw.Sep w noB [aU 60 2 aA (.slice x.1.1 (aP x.2.1).length x.1.2) (aP x.2.1),lQ x.2.1] w') (λx _=>r.length-x.2.2) ((none,0),[],0) tR ⟨⟨zai _,zai _,rfl⟩,Sep.gy (bJ H) 60 2⟩ (λx τ _ hI=>?_);obtain⟨⟨R,cR⟩,L,i⟩:=x;obtain⟨⟨hi,atj,hL⟩,S⟩:=hI;dsimp only at hi atj hL S;have hLr:(aP L).length=L.length:=zae _
 have hLi:L.length=i:=by
  have h1:=zay List.length hL;rw[zae,zae,zah]at h1;omega
 refine Lp ?_;refine Sz (λa=>?_) (λa=>?_)
 .refine Cz (λa=>?_) (λa=>?_)
  .have aX:i<r.length:=oM
   obtain⟨o,ho⟩:=get_some (l:=l) (show i<l.length from oM);obtain⟨vo,zJ,DU⟩:=eP.get ho;obtain⟨V,cv,rfl,_,hV⟩:=DU;refine V2 ?_;refine aI (λx:(OA×Nat)×Nat=>[(0,.slice A r.length m),(3,.slice R (aP L).length cR),(4,I i),(5,.slice x.1.1 ((o.row.take x.2).map mF).length x.1.2),(6,I x.2)]) (λx w'=>(x.2<=o.row.length/\x.2<=12)/\Mw.Sep w noB [aU 47 3 ah (.slice x.1.1 ((o.row.take x.2).map mF).length x.1.2) ((o.row.take x.2).map mF),aU 60 2 aA (.slice R (aP L).length cR) (aP L),lQ L] w') (λx _=>o.row.length-x.2) ((none,0),0) tR ⟨⟨zai _,zai _⟩,Sep.iW S 47 3 ah⟩ (λx τ _ hK=>?_);obtain⟨⟨Y,cY⟩,k⟩:=x;obtain⟨⟨hk,atl⟩,a⟩:=hK;dsimp only at hk atl a;have hkl:((o.row.take k).map mF).length=k:=by rw[zae,zah];omega
   refine Lp ?_;refine V3 ?_;refine Vv (Gives.fA rfl rfl hA aX) (V1 ?_);refine Vv (Gives.dG (f:=0) rfl a hA zJ rfl) (Sz (λb=>?_) (λb=>?_))
   .refine Cz (λb=>?_) (λb=>?_)
    .have hlk:k<o.row.length:=oM
     obtain⟨c,hc⟩:=get_some hlk;have Py:(o.row.take k).map mF++[mF c]=(o.row.take (k+1)).map mF:=by rw[zat,hc,zak];rfl
     refine V2 ?_;refine Vv (Gives.fA rfl rfl hA aX) (V1 ?_);refine Vv (Gives.dG (f:=0) rfl a hA zJ rfl) (Mv ?_);refine Vv (Gives.fA rfl rfl hV hlk) (Vv (Gives.iA rfl a hV hc) ?_);refine Az (λb7 _ _ _=>?_);refine Tz (λ_ _=>?_);refine V5 ?_;refine Vv (Gives.agS rfl rfl (M6 c.s 200)) (Vv (Gives.sQ (l:=c.s) (i:=(c.s.take 200).length) rfl rfl (by rw[zah];omega)) ?_);rw[ahJ];refine Vf ?_;refine Uz (λ_ b=>?_);refine V1 ?_;refine fQ b (cs:=ah (mF c)) (h:=?_);refine Bs b ([mF c].flatMap ah) (λbs _ b _=>?_);refine dJ b (news:=[mF c]) At1 (by unfold maxLen;simp only[zaf];omega) (by simp only[zaf];omega) (cells_one (λ_=>rfl) _) (h:=?_);intro v5 b b;rw[Py]at b;obtain⟨Y2,cY2,rfl,_,_⟩:=Sep.bH b At1;refine V2 ?_;refine Vc ((k+1:Nat):Int) ?_;refine V1 ?_;exact aj ((Y2,cY2),k+1) tR ⟨⟨dO,dO⟩,b.bI⟩ dO
    refine V4 ?_;refine Vv (Gives.fA rfl rfl hA aX) (V1 ?_)
    have tV:(o.row.take k).map mF=(P5 o).row:=by
     unfold P5;dsimp only
     first
     | rw[zaj (l:=o.row) (i:=k) oM,zaj (l:=o.row) (i:=12) oM]
     | rw[show k=12 from oM]
    refine Vv (Gives.dG (f:=1) rfl a hA zJ rfl) (Vb (aA (.slice Y ((o.row.take k).map mF).length cY,o.w)) ?_);refine Bs a ([(Value.slice Y ((o.row.take k).map mF).length cY,o.w)].flatMap aA) (λbs _ b _=>?_);refine dJ b (news:=[(Value.slice Y ((o.row.take k).map mF).length cY,o.w)]) At1 (by unfold maxLen;simp only[zaf];omega) (by simp only[zaf];omega) (λu hu=>zba.1 (show([(Value.slice Y ((o.row.take k).map mF).length cY,o.w)].flatMap aA).all Value.oneCell'=true from rfl) u hu) (h:=?_);intro v9 b b;obtain⟨R2,cR2,rfl,_,_⟩:=Sep.bH b At1;have zK:=(iF (x:=.slice Y ((o.row.take k).map mF).length cY) (o:=⟨(o.row.take k).map mF,o.w⟩) (b.aO.aF)).aF
    have CV:aP L++[(Value.slice Y ((o.row.take k).map mF).length cY,o.w)]=aP (L++[(Value.slice Y ((o.row.take k).map mF).length cY,(⟨(o.row.take k).map mF,o.w⟩:aG))]):=by
     unfold aP;rw[zak];rfl
    have CU:(L++[(Value.slice Y ((o.row.take k).map mF).length cY,(⟨(o.row.take k).map mF,o.w⟩:aG))]).map (·.2)=(l.take (i+1)).map P5:=by
     rw[zak,hL,zat,ho,zak,tV];rfl
    rw[CV]at zK ⊢;clear CV
    generalize L++[(Value.slice Y ((o.row.take k).map mF).length cY,(⟨(o.row.take k).map mF,o.w⟩:aG))]=L2 at zK CU |-
    refine V2 ?_;refine Vc ((i+1:Nat):Int) ?_;refine V1 ?_;exact aj ((R2,cR2),L2,i+1) tR ⟨⟨dO,dO,CU⟩,zK⟩ dO
   refine V5 ?_;refine Vv (Gives.fA rfl rfl hA aX) (V1 ?_)
   have tV:(o.row.take k).map mF=(P5 o).row:=by
    unfold P5;dsimp only
    first
    | rw[zaj (l:=o.row) (i:=k) oM,zaj (l:=o.row) (i:=12) oM]
    | rw[show k=12 from oM]
   refine Vv (Gives.dG (f:=1) rfl a hA zJ rfl) (Vb (aA (.slice Y ((o.row.take k).map mF).length cY,o.w)) ?_);refine Bs a ([(Value.slice Y ((o.row.take k).map mF).length cY,o.w)].flatMap aA) (λbs _ b _=>?_);refine dJ b (news:=[(Value.slice Y ((o.row.take k).map mF).length cY,o.w)]) At1 (by unfold maxLen;simp only[zaf];omega) (by simp only[zaf];omega) (λu hu=>zba.1 (show([(Value.slice Y ((o.row.take k).map mF).length cY,o.w)].flatMap aA).all Value.oneCell'=true from rfl) u hu) (h:=?_);intro v9 b b;obtain⟨R2,cR2,rfl,_,_⟩:=Sep.bH b At1;have zK:=(iF (x:=.slice Y ((o.row.take k).map mF).length cY) (o:=⟨(o.row.take k).map mF,o.w⟩) (b.aO.aF)).aF
   have CV:aP L++[(Value.slice Y ((o.row.take k).map mF).length cY,o.w)]=aP (L++[(Value.slice Y ((o.row.take k).map mF).length cY,(⟨(o.row.take k).map mF,o.w⟩:aG))]):=by
    unfold aP;rw[zak];rfl
   have CU:(L++[(Value.slice Y ((o.row.take k).map mF).length cY,(⟨(o.row.take k).map mF,o.w⟩:aG))]).map (·.2)=(l.take (i+1)).map P5:=by
    rw[zak,hL,zat,ho,zak,tV];rfl
   rw[CV]at zK ⊢;clear CV
   generalize L++[(Value.slice Y ((o.row.take k).map mF).length cY,(⟨(o.row.take k).map mF,o.w⟩:aG))]=L2 at zK CU |-
   refine V2 ?_;refine Vc ((i+1:Nat):Int) ?_;refine V1 ?_;exact aj ((R2,cR2),L2,i+1) tR ⟨⟨dO,dO,CU⟩,zK⟩ dO
  refine V2 ?_
  have abz:(l.take i).map P5=uf l:=by
   unfold uf
   first
   | rw[zaj (l:=l) (i:=i) oM,zaj (l:=l) (i:=10) oM]
   | rw[show i=10 from oM]
  exact⟨(_,L),rfl,by dsimp only;rw[hL,abz],S.aR.turn⟩
 refine V3 ?_
 have abz:(l.take i).map P5=uf l:=by
  unfold uf
  first
  | rw[zaj (l:=l) (i:=i) oM,zaj (l:=l) (i:=10) oM]
  | rw[show i=10 from oM]
 exact⟨(_,L),rfl,by dsimp only;rw[hL,abz],S.aR.turn⟩
end
def iZ (l:List bL):List bL:=(l.take 70).map qI
section
variable {w:Wd}
def EL {l:List bL} (hl:aJ w v aN 3 l):aQ Tryz.prog 27 [v] w λv' w'=>∃x,v'=x/\True/\Turn noB (aU 66 3 aN x (iZ l)) w w':=by
 obtain⟨A,m,rfl,⟨hm,nX⟩,hA⟩:=hl;have H:=Sep.aH w;refine dh Tryz.func27 ?_;refine V3 ?_;have k:=Sep.iW H 66 3 aN;refine aI (λx:Nat×Value=>[(0,.slice A l.length m),(3,x.2),(4,I x.1)]) (λx w'=>(x.1<=l.length/\x.1<=70)/\Mw.Sep w noB [aU 66 3 aN x.2 ((l.take x.1).map qI)] w') (λx _=>l.length-x.1) (0,.slice none 0 0) tR ⟨⟨zai _,zai _⟩,k⟩ (λx τ _ hI=>?_);obtain⟨i,v1⟩:=x;obtain⟨⟨hi,atm⟩,k⟩:=hI;dsimp only at hi atm k;have Jc:((l.take i).map qI).length=i:=by rw[zae,zah];omega
 refine Lp ?_;refine Sz (λS=>?_) (λS=>?_)
 .have aqg:=S
  refine Cz (λa=>?_) (λa=>?_)
  .have aX:i<l.length:=oM
   obtain⟨x,hx⟩:=get_some aX;have yH:(l.take (i+1)).map qI=(l.take i).map qI++[qI x]:=by rw[zat,hx,zak];rfl
   refine Az (λb5 _ _ _=>?_);refine Tz (λ_ _=>?_);refine V5 ?_;refine Vv (Gives.agS rfl rfl (M6 x.s 1100)) (Vv (Gives.sQ (l:=x.s) (i:=(x.s.take 1100).length) rfl rfl (by rw[zah];omega)) ?_);rw[M7];refine Vf ?_;refine Uz (λ_ b=>?_);refine V1 ?_;refine fQ b (cs:=aN (qI x)) (h:=?_);refine Bs b ([qI x].flatMap aN) (λbs _ b _=>?_);refine dJ b (news:=[qI x]) At1 (by rw[Jc];unfold maxLen;simp;omega) (by rw[Jc];show(i+1)*32<=_;omega) (cells_one (λ_=>rfl) _) (h:=?_);intro v2 b b;rw[<-yH]at b;refine V2 ?_;refine Vc ((i+1:Nat):Int) ?_;refine V1 ?_;exact aj (i+1,v2) tR ⟨⟨dO,dO⟩,(b.aF).firsts (l:=[_])⟩ dO
  have q9:(l.take i).map qI=iZ l:=by unfold iZ;rw[show i=70 by have h:=a;omega]
  refine V2 ?_;exact⟨_,rfl,trivial,by rw[q9]at k;exact k.turn⟩
 have q9:(l.take i).map qI=iZ l:=by unfold iZ;rw[zaj (l:=l) (i:=i) (by have h:=S;omega),zaj (l:=l) (i:=70) (by have h:=S;omega)]
 refine V3 ?_;exact⟨_,rfl,trivial,by rw[q9]at k;exact k.turn⟩
end
def pO:List bT:=[⟨1,[],⟨2,false⟩,cell0⟩,⟨2,[],⟨4,true⟩,cell0⟩]
section
variable {w:Wd}
def UF:aQ Tryz.prog 22 [] w λu w'=>∃x,u=x/\True/\Turn noB (aU 49 7 aM x pO) w w':=by
 have H:=Sep.aH w;refine abR Tryz.func22 ?_;refine V1 ?_;refine Vb (aD ⟨2,false⟩) ?_;refine Vv (Gives.build (out:=aM ⟨1,[],⟨2,false⟩,cell0⟩) (Fills.one rfl rfl rfl sM rfl (Fills.many rfl rfl (zbe rfl) rfl Fills.nil))) (Vb (aD ⟨4,true⟩) ?_);refine Vv (Gives.build (out:=aM ⟨2,[],⟨4,true⟩,cell0⟩) (Fills.one rfl rfl rfl sM rfl (Fills.many rfl rfl (zbe rfl) rfl Fills.nil))) (Bs H (pO.flatMap aM) (λbs _ k _=>?_));refine V1 ?_;exact⟨_,rfl,trivial,(Sep.nU (n:=2) (s:=7) k At0 rfl dC).turn⟩
end
def Ye (s:L8):aC:=if s=[]then⟨true,0,[]⟩else⟨false,0,s⟩
def acG (id:Int) (s:L8):List aC:=[⟨false,id,[]⟩,Ye s]
section
variable {w:Wd}
def pU (id wt:Int) (s:L8):aQ Tryz.prog 20 [I id,str s,I wt] w λu w'=>∃x:Value,u=agg (aA (x,wt))/\True/\Turn noB (aU 47 3 ah x (acG id s)) w w':=by
 have H:=Sep.aH w;refine AJ Tryz.func20 ?_;refine Az (λb6 _ _ _=>?_);refine V1 ?_;refine Vb (ah ⟨false,0,s⟩) ?_;refine Az (λb7 _ _ _=>?_);refine Tz (λ_ k=>?_);refine Cz (λS=>?_) (λS=>?_)
 .have hs:s=[]:=S
  have ht:Ye s=⟨true,0,[]⟩:=zac hs;refine V0 ?_;refine Vb (ah ⟨true,0,[]⟩) ?_;refine Tz (λ_ a=>?_);refine V1 ?_;rw[<-ht]at a;refine Vb (ah ⟨false,id,[]⟩) ?_;refine fQ a (cs:=ah (Ye s)) (h:=?_);refine Bs a ((acG id s).flatMap ah) (λbs _ _ _=>?_);refine Mv ?_;refine Vb (aA (.slice (some ⟨bs,0,none⟩) 2 2,wt)) ?_;refine Tz (λ_ a=>?_);refine V0 ?_;exact⟨_,fG a,_,rfl,trivial,(Sep.nU (n:=2) (s:=3) a At0 rfl dC).first.turn⟩
 have hs: ¬s=[]:=S;have ht:Ye s=⟨false,0,s⟩:=zaa hs;refine V1 ?_;rw[<-ht]at k;refine Vb (ah ⟨false,id,[]⟩) ?_;refine fQ k (cs:=ah (Ye s)) (h:=?_);refine Bs k ((acG id s).flatMap ah) (λbs _ _ _=>?_);refine Mv ?_;refine Vb (aA (.slice (some ⟨bs,0,none⟩) 2 2,wt)) ?_;refine Tz (λ_ a=>?_);refine V0 ?_;exact⟨_,fG a,_,rfl,trivial,(Sep.nU (n:=2) (s:=3) a At0 rfl dC).first.turn⟩
end
def Bc (o:nQ):nQ:=⟨o.name.take 40,iZ o.steps⟩
def zk (p:aW):aW:=⟨iZ p.wh,(p.cols.take 18).map Bc,p.group⟩
abbrev zl:=Value×nQ
def mG (L:List zl):List (L8×Value):=L.map λb=>(b.2.name,b.1)
abbrev NV (L:List zl):HP:=vZ 66 3 aN (·.1) (λb=>b.2.steps) L
def NW (vw vc:Value) (s:List bL) (L:List zl):HP:=star (aU 66 3 aN vw s) (star (aU 68 2 dx vc (mG L)) (NV L))
def Rz: ∀{L:List zl} {F:NP} {w:Wd},(NV L).ok F w->∀b∈L,aJ w b.1 aN 3 b.2.steps
 | [],_,_,_=>λ_ h=>zas h zam
 | b::L,F,w,h=>by
  obtain⟨F1,F2,_,_,h1,h2⟩:=h;intro c hc
  rcases zbb.1 hc with rfl | hc
  .exact mW h1
  exact Rz h2 c hc
def Yf {F:NP} {w:Wd} {vw vc:Value} {s:List bL} {L:List zl} (g:Int) (h:(NW vw vc s L).ok F w):fZ w (agg [vw,vc,I g]) ⟨s,L.map (·.2),g⟩:=by
 obtain⟨F1,F2,_,_,h1,F3,F4,_,_,h2,h3⟩:=h;refine⟨vw,vc,rfl,mW h1,mG L,mW h2,?_,λi x o hx ho=>?_⟩
 .unfold mG
  rw[zdj,zdj];rfl
 unfold mG at hx;rw[zbz]at hx ho
 obtain⟨b,hb⟩: ∃b,L[i]? =some b:=by
  cases hb:L[i]? with
  | none=>rw[hb]at hx;cases hx
  | some b=>exact⟨b,rfl⟩
 rw[hb]at hx ho;injection hx with hx
 injection ho with ho
 subst hx;subst ho;exact Rz h3 b (zag hb)
section
variable {w:Wd}
theorem xV {p:aW} (hp:fZ w v p):aQ Tryz.prog 6 [v] w λv' w'=>∃x:Value×Value×List zl,v'=agg [x.1,x.2.1,I p.group]/\x.2.2.map (·.2)=(zk p).cols/\Turn noB (NW x.1 x.2.1 (zk p).wh x.2.2) w w':=by
 obtain⟨vw,vc,rfl,hw,r,hr,eP⟩:=hp;obtain⟨A,m,rfl,⟨hm,nX⟩,hA⟩:=hr;obtain⟨W,mw,rfl,_,_⟩:=id hw;have yL:=eP.len;have H:=Sep.aH w;refine pE Tryz.func6 ?_;refine Sr (bB H (cs:=[.slice W p.wh.length mw,.slice A r.length m,I p.group]) rfl (h:=λb1 _ _ _=>?_));refine Az (λb2 _ _ _=>?_);refine Qn (dB (λz:Nat×OA×Nat=>[(1,av b1),(2,av b2),(3,av z.1)]) (λz w'=>Mw.Sep w noB [aU 66 3 aN (.slice z.2.1 (iZ p.wh).length z.2.2) (iZ p.wh),blk z.1 [.slice z.2.1 (iZ p.wh).length z.2.2,.slice none 0 0,I p.group] 26,blk b2 [.slice none 0 0,.slice none 0 0,I 0] 26,blk b1 [.slice W p.wh.length mw,.slice A r.length m,I p.group] 26] w') ?_ ?_)
 .refine Dz (λk _ S=>?_)
  refine V2 ?_;refine Gp k 3 rfl rfl (λ_=>(Gives.yt rfl)) (V1 ?_);refine jQ k (e1:=2) (e2:=6) kR ?_ ?_
  .refine j3 k 2 [(4,false),(3,true)] S (EL (hw.keep S.kept)) (h:=λvx _ _ a _=>?_)
   obtain⟨X,cx,rfl,_,_⟩:=Sep.bH a At0;refine⟨sL,?_⟩;refine Gb k 5 [.slice X (iZ p.wh).length cx,.slice none 0 0,I p.group] ?_;refine r9 k 6 [(5,true),(4,false),(3,true)] a (h:=λb3 _ a=>⟨sL,?_⟩);refine bM k 7 _ a (h:=λ_ a=>⟨sT,?_⟩);refine V0 ?_;exact au (b3,X,cx) tR (by first | exact a | exact a.aF)
  refine jE k 6 [(4,false),(3,true),(1,false),(0,true)] S (h:=λb3 _ a=>⟨sL,?_⟩);refine eB k 2 [(4,false),(3,true)] a (EL (hw.keep a.kept)) (h:=λvx _ _ a _=>?_);obtain⟨X,cx,rfl,_,_⟩:=Sep.bH a At0;refine⟨sL,?_⟩;refine Gb k 5 [.slice X (iZ p.wh).length cx,.slice none 0 0,I p.group] ?_;refine bM k 7 _ a (h:=λ_ a=>⟨sT,?_⟩);refine V0 ?_;exact au (b3,X,cx) tR (by first | exact a | exact a.aF)
 rintro⟨b3,X,cx⟩ τ a a;dsimp only at a;refine Lp ?_;refine V2 ?_;have k:=Sep.acZ (Sep.iW a 68 2 dx) 66 3 aN (λb:zl=>b.1) (λb=>b.2.steps);refine aI (λx:Nat×(OA×Nat)×List zl=>[(1,av b1),(2,av b2),(3,av b3),(4,.slice x.2.1.1 (mG x.2.2).length x.2.1.2),(5,I x.1)]) (λx w'=>(x.1<=r.length/\x.1<=18/\(mG x.2.2).length=x.1/\x.2.2.map (·.2)=(p.cols.take x.1).map Bc)/\Mw.Sep w noB [NV x.2.2,aU 68 2 dx (.slice x.2.1.1 (mG x.2.2).length x.2.1.2) (mG x.2.2),aU 66 3 aN (.slice X (iZ p.wh).length cx) (iZ p.wh),blk b3 [.slice X (iZ p.wh).length cx,.slice none 0 0,I p.group] 26,blk b2 [.slice none 0 0,.slice none 0 0,I 0] 26,blk b1 [.slice W p.wh.length mw,.slice A r.length m,I p.group] 26] w') (λx _=>r.length-x.1) (0,(none,0),[]) tR ⟨⟨zai _,zai _,rfl,rfl⟩,k⟩ (λx τ _ hI=>?_);obtain⟨i,⟨C,cc⟩,q⟩:=x;obtain⟨⟨hi,atn,Zl,hqm⟩,k⟩:=hI;dsimp only at hi atn Zl hqm k;refine Lp ?_;refine Sz (λa=>?_) (λa=>?_)
 .have aqg:=a
  refine Cz (λS=>?_) (λS=>?_)
  .have aX:i<p.cols.length:=oM
   obtain⟨vx,hx,CS⟩:=eP.at aX;have qy:p.cols[i]? =some p.cols[i]:=zab aX;obtain⟨o,ho⟩: ∃o,o=p.cols[i]:=⟨_,rfl⟩;rw[<-ho]at hx CS qy;have yH:(p.cols.take (i+1)).map Bc=(p.cols.take i).map Bc++[Bc o]:=by rw[zat,qy,zcz,zak];rfl
   refine Dz (λc _ d=>?_);refine V14 ?_;refine Gp c 14 rfl rfl (λ_=>(Gives.agS rfl rfl (M6 o.name 40))) (Gp c 15 rfl rfl (λ_=>(Gives.sQ (l:=o.name) (i:=(o.name.take 40).length) rfl rfl (by rw[zah];omega))) ?_);refine V6 ?_;refine eB c 22 [(15,true),(14,true),(13,true),(12,false),(11,true),(10,true),(9,true),(8,false),(7,true),(6,false),(5,true),(4,true),(3,true),(2,false),(1,true),(0,true)] d (EL (CS.keep d.kept)) (h:=λvy _ _ d _=>?_);obtain⟨Y,cy,rfl,_,_⟩:=Sep.bH d At0;refine⟨ay (ay (ay ((bQ rfl kR (Gives.dG (f:=0) rfl d hA hx rfl) rfl (ay (ay (ay (iL d (h:=ay ((bQ rfl kR (Gives.dG (f:=0) rfl d hA hx rfl) rfl (ay (ay (ay (iL d (h:=ay (ay (eF)))))))))))))))))),?_⟩;refine Gb c 23 (dx (o.name.take (o.name.take 40).length,.slice Y (iZ o.steps).length cy)) ?_;refine Gz c 24 _ d ([(o.name.take (o.name.take 40).length,Value.slice Y (iZ o.steps).length cy)].flatMap dx) (h:=λbs _ d=>⟨sT,?_⟩);rw[M7]at d;refine gH c 25 _ d (news:=[(o.name.take 40,Value.slice Y (iZ o.steps).length cy)]) At2 (by unfold maxLen;simp;omega) (by simp;omega) (λu hu=>zba.1 (show([(o.name.take 40,Value.slice Y (iZ o.steps).length cy)].flatMap dx).all Value.oneCell'=true from rfl) u hu) (h:=λv2 _ d=>?_);rw[show mG q++[(o.name.take 40,Value.slice Y (iZ o.steps).length cy)]=mG (q++[(Value.slice Y (iZ o.steps).length cy,Bc o)]) by unfold mG;rw[zak];rfl]at d;obtain⟨C2,c2,rfl,_,_⟩:=Sep.bH d At2
   refine⟨sT,?_⟩;refine tq c 26 _ (h:=⟨sT,?_⟩);refine V3 ?_;exact aj (i+1,(C2,c2),q++[(Value.slice Y (iZ o.steps).length cy,Bc o)]) ⟨rfl,rfl,rfl,rfl,by dsimp only;unfold mG;rw[zak];rfl,trivial⟩ ⟨⟨dO,dO,by dsimp only;unfold mG at Zl ⊢;rw[zae]at Zl ⊢;rw[zad,Zl];rfl,by dsimp only;rw[zak,hqm,yH];rfl⟩,Sep.YL (x:=(Value.slice Y (iZ o.steps).length cy,Bc o)) d⟩ dO
  have q9:(p.cols.take i).map Bc=(zk p).cols:=by rw[show i=18 by have h:=S;omega];rfl
  refine V2 ?_;refine sK (v:=.slice C (mG q).length cc) k (hy:=rfl) (h:=λ_ _=>?_);refine Tz (λ_ d=>?_);refine V0 ?_;rw[q9]at hqm;exact⟨_,fG d,(.slice X (iZ p.wh).length cx,.slice C (mG q).length cc,q),rfl,hqm,d.aF.aR.aF.aR.first.turn⟩
 have q9:(p.cols.take i).map Bc=(zk p).cols:=by
  show _=(p.cols.take 18).map Bc
  rw[zaj (l:=p.cols) (i:=i) (by have h:=a;omega),zaj (l:=p.cols) (i:=18) (by have h:=a;omega)]
 refine V3 ?_;refine sK (v:=.slice C (mG q).length cc) k (hy:=rfl) (h:=λ_ _=>?_);refine Tz (λ_ d=>?_);refine V0 ?_;rw[q9]at hqm;exact⟨_,fG d,(.slice X (iZ p.wh).length cx,.slice C (mG q).length cc,q),rfl,hqm,d.aF.aR.aF.aR.first.turn⟩
def aaH {p:aW} (hp:fZ w v p):aQ Tryz.prog 6 [v] w λv' w'=>∃x,v'=x/\True/\Turn noB (QW x (zk p)) w w':=
 aQ.mono (xV hp) λu w' h=>by
  obtain⟨⟨vw,vc,L⟩,rfl,hL,hk,F1,hq,hs⟩:=h;refine⟨_,rfl,trivial,hk,F1,HP.look hq λF w h=>?_,hs⟩;have:=Yf p.group h
  rwa [show(⟨(zk p).wh,L.map (·.2),p.group⟩:aW)=zk p by dsimp only at hL;rw[hL];rfl]at this
end
end
variable {w0 w:Wd} {S:NP} {rs:List HP} {L M:List Held} {u v:Value}
def Yg (H:Mw.Sep w0 S (lQ L::lQ M::rs) w):Mw.Sep w0 S (lQ (L++M)::rs) w:=by
 refine Sep.imp H.aR At0 λF hF=>?_;show(je ((L++M).map _)).ok F w
 rw[zak];exact zL.1 hF
def Eh {ρ:Od->Value} {ty:Td} {x y:Od} (H:Mw.Sep w0 S (dz u M::dz v L::rs) w) (hx:ρ x=v) (hy:ρ y=u) (hn:L.length+M.length<=1000000):
    ∃v' w',Gives prog ρ (.call {callee:=.builtin .append,args:= #[x,y],argTypes:= #[41,41]}) ty w v' w'/\Mw.Sep w0 S (dz v' (L++M)::rs) w':=by
  have k:=H.bE;have qF: ∀z∈(aP M).flatMap aA,z.oneCell'=true:=rY (mO k At1);obtain⟨U,cu,rfl,_,hU⟩:=Sep.bH k At0;have I:=k.aO.bE;have e1:(aP L).length=L.length:=zae _;have e2:(aP M).length=M.length:=zae _;obtain⟨v',w',hg,hs⟩:=Ap (P:=prog) (ρ:=ρ) (ty:=ty) (x:=x) (y:=y) (t:=41) (e:=60) I hx hy At0 hU qF dC rfl (by rw[e1,e2];unfold maxLen;omega) (by rw[e1,e2];omega);refine⟨v',w',hg,?_⟩;have h3:=Yg (hs.aO.bI.aF.aO.aF);have h4:=h3.aF;unfold dz aU;have e3:aP (L++M)=aP L++aP M:=zak;rw[e3,zad,zbv];exact h4.aR
variable {r:Option Nat} {n:Nat} {ops:AO} {Q:Post} {rest:LO} {σ:St} {ty:Td} {pos:String} {after:Array Edge} {guard:Option (Nat×Bool)} {lv:List Bool} {pd:LNB}
def aaI {d:Nat} {x y:Od} (H:Mw.Sep w0 S (dz u M::dz v L::rs) w) (hn:L.length+M.length<=1000000) (hx:evF σ x=v:=by exact rfl) (hy:evF σ y=u:=by exact rfl) (hd:Nat.blt d n=true:=by exact rfl)
    (h: ∀v' w',Mw.Sep w0 S (dz v' (L++M)::rs) w'->FL prog r n ops Q rest (upd σ d v') w'):
    FL prog r n ops Q (⟨some d,.call {callee:=.builtin .append,args:= #[x,y],argTypes:= #[41,41]},ty,pos,after,none⟩::rest) σ w:=by
  obtain⟨v',w',hg,hs⟩:=Eh (ty:=ty) H hx hy hn;exact dD hg hd (h v' w' hs)
def Du (fB:dX n ops=true) (i:Nat) (pd':LNB) {d:Nat} {x y:Od} (H:Mw.Sep w0 S (dz u M::dz v L::rs) w) (hn:L.length+M.length<=1000000)
    (ho:ops[i]? =some ⟨some d,.call {callee:=.builtin .append,args:= #[x,y],argTypes:= #[41,41]},ty,pos,after,guard⟩:=by exact rfl)
    (hw:Region.wanted ⟨some d,.call {callee:=.builtin .append,args:= #[x,y],argTypes:= #[41,41]},ty,pos,after,guard⟩ (bY ops σ)=true:=by kernel_rfl)
    (hx:evF σ x=v:=by exact rfl) (hy:evF σ y=u:=by exact rfl)
    (dN:fE ops lv (pd.map (·.1)) i=true:=by kernel_rfl) (oH:pd.filter (λp=> !((above ops i).contains p.1))=pd':=by exact pD)
    (h: ∀v' w',Mw.Sep w0 S (dz v' (L++M)::rs) w'->jo prog ops (upd σ d v') w' pd'/\FG prog r n ops Q (lv.set i true) pd' (upd σ d v') w'):FG prog r n ops Q lv pd σ w:=
  vK fB i pd' ho hw (Eh (ty:=ty) H hx hy hn) dN oH h
end Go.Proofs.Mw
