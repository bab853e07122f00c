/-
 The document's normal form;walked.
-/
import Derived.Test.YtbkjpdboaclopaaGreatDoorNd22
set_option linter.all false
set_option maxRecDepth 4000
namespace Go.Proofs.Mw
variable {w:Wd} {fv v:Value} {bg bm sums:Nat} {E:Td}
open Go.Lib Go.Proofs.Tryz
section
attribute [local irreducible] FW FL FG FGn jJ jO fC lJ Qfn Gives
def nzH (b:Held):Bool:=decide (b.2.w≠0)
abbrev lQ (L:List Held):HP:=vZ 47 3 ah (·.1) (λb:Held=>b.2.row) L
def BS {w0:Wd} {S:NP} {y:Value} {o:aG}: ∀{L:List Held} {a:Nat} {rs:List HP},a<=L.length->Mw.Sep w0 S (aU 47 3 ah y o.row::lQ L::rs) w->Mw.Sep w0 S (lQ (L.take a++(y,o)::L.drop a)::rs) w
 | L,0,rs,_,H=>H.aR
 | [],a+1,rs,ha,_=>zas ha sM
 | b::L,a+1,rs,ha,H=>by
  have h1:=(((H.aF.bE).aO).aO).aF;have h2:=BS (L:=L) (a:=a) (by simpa using ha) h1;exact h2.aF.aR
def Aq {w0:Wd} {S:NP} (p:Held->Bool): ∀{L:List Held} {rs:List HP},Mw.Sep w0 S (lQ L::rs) w->Mw.Sep w0 S (lQ (L.filter p)::rs) w
 | [],rs,H=>H
 | b::L,rs,H=>by
  have h1:=H.bE;rw[zeh]
  split
  .exact(Aq p (L:=L) h1.aF).aF.aR
  exact Aq p (L:=L) h1.bI
def mO {w0:Wd} {S:NP} {rs:List HP} {put:HP->List HP} {L:List Held} (H:Mw.Sep w0 S rs w) (hat:At rs (lQ L) put):gN w (aP L) (L.map (·.2)):=by
 obtain⟨F,hp,_,_⟩:=H.focus hat;exact vD hp
def acB {L:List Held} {a:Nat} {b:Held} (h:gN w (aP L) (L.map (·.2))) (hb:L[a]? =some b):aJ w b.1 ah 3 b.2.row:=
 h.2 a (b.1,b.2.w) b.2 (by unfold aP;rw[zbz,hb];rfl) (by rw[zbz,hb];rfl)
section
variable {w:Wd}
theorem BU {l:List aG} (hl:dS w v l) (hn:l.length<=1000) (hf: ∀o∈l,fits o.w) (mU: ∀o∈l,o.row.length<=1000):
    aQ Tryz.prog 45 [v] w λu w'=>∃x:Value×List Held,u=.tuple #[x.1,I (cO l).2]/\x.2.map (·.2)=(cO l).1/\Turn noB (dz x.1 x.2) w w':=by
  have Jb:=hl;obtain⟨r,hr,eP⟩:=hl;obtain⟨A,m,rfl,⟨hm,nX⟩,hA⟩:=hr;have yL:=eP.len;have H:=Sep.aH w;refine dh Tryz.func45 ?_;refine V4 ?_;refine aI (λx:(OA×Nat)×List Held×Nat=>[(0,.slice A r.length m),(4,.slice x.1.1 (aP x.2.1).length x.1.2),(5,I x.2.2)]) (λx w'=>(x.2.2<=r.length/\x.2.1.map (·.2)=A9 l (lY (l.take x.2.2))/\∀k∈lY (l.take x.2.2),aY (wtL l k)=true)/\Mw.Sep w noB [aU 60 2 aA (.slice x.1.1 (aP x.2.1).length x.1.2) (aP x.2.1),lQ x.2.1] w') (λx _=>r.length-x.2.2) ((none,0),[],0) tR ⟨⟨zai _,rfl,λk hk=>zas hk zam⟩,Sep.gy (bJ H) 60 2⟩ (λx τ w6 hI=>?_);obtain⟨⟨R,cR⟩,L,i⟩:=x;obtain⟨⟨hi,hL,hfk⟩,H6⟩:=hI;dsimp only at hi hL hfk H6;obtain⟨ks,Py⟩: ∃ks,ks=lY (l.take i):=⟨_,rfl⟩;have hLr:(aP L).length=L.length:=zae _
  have hLk:L.length=ks.length:=by
    have h1:=zay List.length hL;rw[zae,ad7,<-Py]at h1;exact h1
  have hLb:L.length<=1000:=by
    have h1:=JN (l.take i);rw[<-Py,zah]at h1;omega
  have hkb: ∀{a:Nat} {b:Held},L[a]? =some b->ks[a]? =some b.2.row:=λ{a b} hb=>by
    have h1:(L.map (·.2))[a]? =some b.2:=by rw[zbz,hb];rfl
    rw[hL]at h1;rw[Py];exact(agZ h1).1
  have Zc: ∀{a:Nat} {b:Held},L[a]? =some b->(aP L)[a]? =some (b.1,b.2.w):=λ{a b} hb=>by unfold aP;rw[zbz,hb];rfl
  refine Lp ?_;refine Cz (λIe=>?_) (λIe=>?_)
  . have aX:i<r.length:=oM
    obtain⟨o,ho⟩:=get_some (l:=l) (show i<l.length from oM);have hom:=zag ho;obtain⟨vo,zJ,DU⟩:=eP.get ho;have Qj:lY (l.take (i+1))=yN o.row ks:=by rw[zat,ho,Py];exact Z0 _ _
    refine O1 ?_;refine Qn (dB (λa:Nat=>[(0,.slice A r.length m),(4,.slice R (aP L).length cR),(5,I i),(6,I a)]) (λa w'=>(a<=L.length/\(∀(j:Nat) k,j<a->ks[j]? =some k->jK k o.row<0)/\∀k,ks[a]? =some k->¬jK k o.row<0)/\Mw.Sep w noB [aU 60 2 aA (.slice R (aP L).length cR) (aP L),lQ L] w') ?_ ?_)
    . refine V0 ?_
      refine aI (λa:Nat=>[(0,.slice A r.length m),(4,.slice R (aP L).length cR),(5,I i),(6,I a)]) (λa w'=>(a<=L.length/\∀(j:Nat) k,j<a->ks[j]? =some k->jK k o.row<0)/\Mw.Sep w noB [aU 60 2 aA (.slice R (aP L).length cR) (aP L),lQ L] w') (λa _=>L.length-a) 0 tR ⟨⟨zai _,λj k hj=>zas hj (zdw _)⟩,H6⟩ (λa τ wa hJ=>?_);obtain⟨⟨ha,uQ⟩,Ha⟩:=hJ;refine Lp ?_;refine Dz (λSa wb Hb=>?_);refine V5 ?_;refine fK (t:=22) rfl (λSb=>?_) (λSb=>?_)
      . have VE:a<L.length:=oM
        obtain⟨b,hb⟩:=get_some VE;refine Gm Sa 5 ?_;refine V1 ?_;refine GS (Gn rfl (λ_=>Gives.fA (l:=aP L) (enc:=aA) rfl rfl (dP Hb At0) oM) ?_);refine GS (Gn rfl (λ_=>Gives.AX rfl (dP Hb At0) oM) ?_);refine GS (Gt rfl (Gives.CJ (i:=a) (f:=0) rfl (dP Hb At0) (Zc hb) rfl) ?_);refine V2 ?_;refine GS (Gn rfl (λ_=>Gives.fA rfl rfl hA aX) ?_);refine V1 ?_;refine GS (Gt rfl (Gives.dG (f:=0) rfl Hb hA zJ rfl) ?_);refine dA Sa 15 _ Hb (KT (acB (mO Hb At1) hb) (DU.keep Hb.kept)) (h:=λwc Hc ka=>⟨sT,?_⟩);refine O2 ?_;refine fO Sa kR ?_;refine Cz (λIf=>?_) (λIf=>?_)
        . refine V1 ?_
          refine Vc ((a+1:Nat):Int) ?_;refine V1 ?_;exact aj (a+1) tR ⟨⟨oM,λj k hj hk=>by
          by_cases e:j=a
          . subst e;rw[hkb hb]at hk;injection hk with hk;rw[<-hk];omega
          exact uQ j k oM hk⟩,Hc⟩ oM
        refine V0 ?_;exact au a tR ⟨⟨ha,uQ,by first | exact λk hk=>zas (fI hk) oM | exact λk hk=>by(rw[hkb hb]at hk;injection hk with hk;rw[<-hk];omega)⟩,Hc⟩
      refine V1 ?_;exact au a tR ⟨⟨ha,uQ,by first | exact λk hk=>zas (fI hk) oM | exact λk hk=>by(rw[hkb hb]at hk;injection hk with hk;rw[<-hk];omega)⟩,Hb⟩
    rintro a τ wd ⟨⟨ha,uQ,hx6⟩,Hd⟩;refine Lp ?_;refine Dz (λSc we He=>?_);refine V5 ?_;refine fK (t:=42) rfl (λSd=>?_) (λSd=>?_)
    . have VE:a<L.length:=oM
      obtain⟨b,hb⟩:=get_some VE;refine Gm Sc 5 ?_;refine V1 ?_;refine GS (Gn rfl (λ_=>Gives.fA (l:=aP L) (enc:=aA) rfl rfl (dP He At0) oM) ?_);refine GS (Gn rfl (λ_=>Gives.AX rfl (dP He At0) oM) ?_);refine GS (Gt rfl (Gives.CJ (i:=a) (f:=0) rfl (dP He At0) (Zc hb) rfl) ?_);refine V2 ?_;refine GS (Gn rfl (λ_=>Gives.fA rfl rfl hA aX) ?_);refine V1 ?_;refine GS (Gt rfl (Gives.dG (f:=0) rfl He hA zJ rfl) ?_);refine dA Sc 15 _ He (uM (acB (mO He At1) hb) (DU.keep He.kept)) (h:=λwf Hf kb=>⟨sT,?_⟩);refine O1 ?_;refine fO Sc kR ?_;refine Cz (λIg=>?_) (λIg=>?_)
      . have Kw:yN o.row ks=ks:=Xm (by rw[Py];exact mH _) (by have h:=zag (hkb hb);rw[Ig]at h;exact h)
        refine V1 ?_;refine Vc ((i+1:Nat):Int) ?_;refine V1 ?_
        first
        | exact aj ((N3,c3),L2,i+1) tR ⟨⟨dO,hL2,alz⟩,zK⟩ dO
        | exact aj ((R,cR),L,i+1) tR ⟨⟨dO,by dsimp only;rw[Qj,Kw,Py];exact hL,λk hk=>hfk k (by dsimp only at hk;rw[Qj,Kw,Py]at hk;exact hk)⟩,Hf⟩ dO
      refine V6 ?_
      have anX: ∀k,ks[a]? =some k->k≠o.row:=by
        first
        | exact λk hk=>zas (fI hk) oM
        | exact λk hk e=>by(rw[hkb hb]at hk;injection hk with hk;rw[<-hk]at e;contradiction)
      have anY:yN o.row ks=ks.take a++o.row::ks.drop a:=Uc uQ oM λk hk=>fT.gt (hx6 k hk) (anX k hk);refine Kz (Rv (Jb.keep Hf.kept) (DU.keep Hf.kept) hn hf) (λwg Hg kc=>?_);obtain⟨n,tX⟩: ∃n,n=(if aY (wtL l o.row)=true then wtL l o.row else 0):=⟨_,rfl⟩;obtain⟨er,her⟩: ∃n:Int,n=(if aY (wtL l o.row)=true then 0 else 50):=⟨_,rfl⟩;rw[<-tX,<-her];refine Cz (λIh=>?_) (λIh=>?_)
      . have Lh: ¬aY (wtL l o.row)=true:=λh=>Ih (by rw[her,zac h])
        have jV:=Ng Lh;have ajk:er=50:=by rw[her,zaa Lh]
        refine V3 ?_;exact⟨(.slice none 0 0,[]),by rw[jV,ajk];rfl,by rw[jV];rfl,(Sep.gy (bJ Hg) 60 2).aR.first.turn⟩
      have Lh:aY (wtL l o.row)=true:=Decidable.of_not_not λh=>by
        have h1:=Ih;rw[her,zaa h]at h1;exact h1 dC
      have Ms:n=wtL l o.row:=by rw[tX,zac Lh]
      have Zd: ∀u∈(aP L).flatMap aA,u.oneCell'=true:=rY (mO Hg At1)
      have hcR:(aP L).length<=cR:=by
        obtain⟨_,_,he,rW,_⟩:=Sep.bH Hg At0;injection he with e1 e2 e3
        rw[e3];exact rW
      have Zh:((aP L).take a).length=a:=by rw[zah];omega
      have htd:((aP L).drop a).length=(aP L).length-a:=zbo;refine Dz (λSe wh Hh=>?_);refine V3 ?_;refine FGp Se 3 (v:=.slice R ((aP L).take a).length cR) rfl rfl (λ_=>by rw[Zh];exact Gives.sliceTo rfl rfl oM) kR ?_;refine Gm Se 5 ?_;refine V1 ?_;refine GS (Gn rfl (λ_=>Gives.fA rfl rfl hA aX) ?_);refine V1 ?_;refine GS (Gt rfl (Gives.dG (f:=0) rfl Hh hA zJ rfl) ?_);refine Gm Se 11 ?_;refine Gm Se 15 ?_;refine V1 ?_;refine FGp Se 17 (v:=.slice (if cR=a then R else R.map (·.add (a*2))) ((aP L).drop a).length (cR-a)) rfl rfl (λ_=>by rw[htd];exact Gives.sliceFrom rfl rfl oM) kR ?_;have Hi:=Sep.iW Hh 60 2 aA;refine zB Se 4 [(17,true),(16,true),(15,true),(11,true),(9,false),(8,true),(7,true),(6,true),(5,true)] Hi (news:=(aP L).take a) At0 ((dP (A:=R) (l:=aP L) (c:=cR) Hi (by first | exact At1 | exact At2 | exact At3)).cut a) (by unfold maxLen;simp only[zcd];omega) (by simp only[zcd];omega) (λu hu=>Zd u (by obtain⟨q,hq,hu⟩:=zcc.1 hu;exact zcc.2 ⟨q,zcg hq,hu⟩)) (h:=λv4 wi Hi=>?_);rw[zbw]at Hi;obtain⟨N1,c1,rfl,_,_⟩:=Sep.bH Hi At0;refine⟨ay (ay (ay (ay ((bQ rfl kR (Gives.dG (f:=0) rfl Hi hA zJ rfl) rfl (ay (ay (ay (ay (eF)))))))))),?_⟩;refine eB Se 10 _ Hi (mM (DU.keep Hi.kept) (mU o hom)) (h:=λy wj _ Hj kd=>?_);obtain⟨Y,cy,rfl,_,_⟩:=Sep.bH Hj At0;refine⟨sT,?_⟩;refine Gb Se 12 (aA (.slice Y o.row.length cy,n)) ?_;refine Gz Se 13 _ Hj ([(Value.slice Y o.row.length cy,n)].flatMap aA) (h:=λbs wk Hk=>⟨sT,?_⟩)
      have hB:=(show Mw.Sep w noB (blk bs ([(Value.slice Y o.row.length cy,n)].flatMap aA) 60::aU 60 2 aA (.slice N1 ((aP L).take a).length c1) ((aP L).take a)::aU 47 3 ah (.slice Y o.row.length cy) o.row::aU 60 2 aA (.slice R (aP L).length cR) (aP L)::lQ L::[]) _ by first | exact Hk | exact Hk.aO.aF | exact Hk.aF);refine gH Se 14 _ hB (news:=[(Value.slice Y o.row.length cy,n)]) At0 (by unfold maxLen;simp only[zaf];omega) (by simp only[zaf];omega) (λu hu=>zba.1 (show([(Value.slice Y o.row.length cy,n)].flatMap aA).all Value.oneCell'=true from rfl) u hu) (h:=λv5 wl Hl=>?_);obtain⟨N2,c2,rfl,_,_⟩:=Sep.bH Hl At0;refine⟨sT,?_⟩;have ajl:((aP L).take a++[(Value.slice Y o.row.length cy,n)]).length=a+1:=by rw[zad,Zh];rfl
      refine zB Se 18 _ Hl (news:=(aP L).drop a) At0 (Us (dP (A:=R) (l:=aP L) (c:=cR) Hl At2) oM hcR) (by unfold maxLen;omega) oM (λu hu=>Zd u (by obtain⟨q,hq,hu⟩:=zcc.1 hu;exact zcc.2 ⟨q,zeg hq,hu⟩)) (h:=λv6 wm Hm=>?_);obtain⟨N3,c3,rfl,_,_⟩:=Sep.bH Hm At0;have zK:=(BS (a:=a) (y:=.slice Y o.row.length cy) (o:=⟨o.row,n⟩) ha (Hm.aO.bI.aF.aO.aF)).aF
      have CV:(aP L).take a++[(Value.slice Y o.row.length cy,n)]++(aP L).drop a=aP (L.take a++(Value.slice Y o.row.length cy,(⟨o.row,n⟩:aG))::L.drop a):=by
        unfold aP;rw[zak,zav,zfe,zff,zbm];rfl
      have hL2:(L.take a++(Value.slice Y o.row.length cy,(⟨o.row,n⟩:aG))::L.drop a).map (·.2)=A9 l (lY (l.take (i+1))):=by
        rw[Qj,anY,zak,zav,zfe,zff,hL,<-Py];unfold A9;rw[zak,zav,zfe,zff,Ms]
      have alz: ∀k∈lY (l.take (i+1)),aY (wtL l k)=true:=λk hk=>by
        rw[Qj]at hk
        rcases zN.1 hk with e | e
        . rw[e];exact Lh
        exact hfk k (by rw[<-Py];exact e)
      rw[CV]at zK |-
      generalize L.take a++(Value.slice Y o.row.length cy,(⟨o.row,n⟩:aG))::L.drop a=L2 at zK hL2 |-
      refine⟨sT,?_⟩;refine tq Se 19 _ (h:=⟨sT,?_⟩);refine V1 ?_;refine Vc ((i+1:Nat):Int) ?_;refine V1 ?_
      first
      | exact aj ((N3,c3),L2,i+1) tR ⟨⟨dO,hL2,alz⟩,zK⟩ dO
      | exact aj ((R,cR),L,i+1) tR ⟨⟨dO,by dsimp only;rw[Qj,Kw,Py];exact hL,λk hk=>hfk k (by dsimp only at hk;rw[Qj,Kw,Py]at hk;exact hk)⟩,Hm⟩ dO
    refine V7 ?_
    have anX: ∀k,ks[a]? =some k->k≠o.row:=by
      first
      | exact λk hk=>zas (fI hk) oM
      | exact λk hk e=>by(rw[hkb hb]at hk;injection hk with hk;rw[<-hk]at e;contradiction)
    have anY:yN o.row ks=ks.take a++o.row::ks.drop a:=Uc uQ oM λk hk=>fT.gt (hx6 k hk) (anX k hk);refine Kz (Rv (Jb.keep He.kept) (DU.keep He.kept) hn hf) (λwn Hn ke=>?_);obtain⟨n,tX⟩: ∃n,n=(if aY (wtL l o.row)=true then wtL l o.row else 0):=⟨_,rfl⟩;obtain⟨er,her⟩: ∃n:Int,n=(if aY (wtL l o.row)=true then 0 else 50):=⟨_,rfl⟩;rw[<-tX,<-her];refine Cz (λIi=>?_) (λIi=>?_)
    . have Lh: ¬aY (wtL l o.row)=true:=λh=>Ii (by rw[her,zac h])
      have jV:=Ng Lh;have ajk:er=50:=by rw[her,zaa Lh]
      refine V3 ?_;exact⟨(.slice none 0 0,[]),by rw[jV,ajk];rfl,by rw[jV];rfl,(Sep.gy (bJ Hn) 60 2).aR.first.turn⟩
    have Lh:aY (wtL l o.row)=true:=Decidable.of_not_not λh=>by
      have h1:=Ii;rw[her,zaa h]at h1;exact h1 dC
    have Ms:n=wtL l o.row:=by rw[tX,zac Lh]
    have Zd: ∀u∈(aP L).flatMap aA,u.oneCell'=true:=rY (mO Hn At1)
    have hcR:(aP L).length<=cR:=by
      obtain⟨_,_,he,rW,_⟩:=Sep.bH Hn At0;injection he with e1 e2 e3
      rw[e3];exact rW
    have Zh:((aP L).take a).length=a:=by rw[zah];omega
    have htd:((aP L).drop a).length=(aP L).length-a:=zbo;refine Dz (λSf wo Ho=>?_);refine V3 ?_;refine FGp Sf 3 (v:=.slice R ((aP L).take a).length cR) rfl rfl (λ_=>by rw[Zh];exact Gives.sliceTo rfl rfl oM) kR ?_;refine Gm Sf 5 ?_;refine V1 ?_;refine GS (Gn rfl (λ_=>Gives.fA rfl rfl hA aX) ?_);refine V1 ?_;refine GS (Gt rfl (Gives.dG (f:=0) rfl Ho hA zJ rfl) ?_);refine Gm Sf 11 ?_;refine Gm Sf 15 ?_;refine V1 ?_;refine FGp Sf 17 (v:=.slice (if cR=a then R else R.map (·.add (a*2))) ((aP L).drop a).length (cR-a)) rfl rfl (λ_=>by rw[htd];exact Gives.sliceFrom rfl rfl oM) kR ?_;have Hp:=Sep.iW Ho 60 2 aA;refine zB Sf 4 [(17,true),(16,true),(15,true),(11,true),(9,false),(8,true),(7,true),(6,true),(5,true)] Hp (news:=(aP L).take a) At0 ((dP (A:=R) (l:=aP L) (c:=cR) Hp (by first | exact At1 | exact At2 | exact At3)).cut a) (by unfold maxLen;simp only[zcd];omega) (by simp only[zcd];omega) (λu hu=>Zd u (by obtain⟨q,hq,hu⟩:=zcc.1 hu;exact zcc.2 ⟨q,zcg hq,hu⟩)) (h:=λv4 wp Hp=>?_);rw[zbw]at Hp;obtain⟨N1,c1,rfl,_,_⟩:=Sep.bH Hp At0;refine⟨ay (ay (ay (ay ((bQ rfl kR (Gives.dG (f:=0) rfl Hp hA zJ rfl) rfl (ay (ay (ay (ay (eF)))))))))),?_⟩;refine eB Sf 10 _ Hp (mM (DU.keep Hp.kept) (mU o hom)) (h:=λy wq _ Hq kf=>?_);obtain⟨Y,cy,rfl,_,_⟩:=Sep.bH Hq At0;refine⟨sT,?_⟩;refine Gb Sf 12 (aA (.slice Y o.row.length cy,n)) ?_;refine Gz Sf 13 _ Hq ([(Value.slice Y o.row.length cy,n)].flatMap aA) (h:=λbs wr Hr=>⟨sT,?_⟩)
    have hB:=(show Mw.Sep w noB (blk bs ([(Value.slice Y o.row.length cy,n)].flatMap aA) 60::aU 60 2 aA (.slice N1 ((aP L).take a).length c1) ((aP L).take a)::aU 47 3 ah (.slice Y o.row.length cy) o.row::aU 60 2 aA (.slice R (aP L).length cR) (aP L)::lQ L::[]) _ by first | exact Hr | exact Hr.aO.aF | exact Hr.aF);refine gH Sf 14 _ hB (news:=[(Value.slice Y o.row.length cy,n)]) At0 (by unfold maxLen;simp only[zaf];omega) (by simp only[zaf];omega) (λu hu=>zba.1 (show([(Value.slice Y o.row.length cy,n)].flatMap aA).all Value.oneCell'=true from rfl) u hu) (h:=λv5 ws Hs=>?_);obtain⟨N2,c2,rfl,_,_⟩:=Sep.bH Hs At0;refine⟨sT,?_⟩;have ajl:((aP L).take a++[(Value.slice Y o.row.length cy,n)]).length=a+1:=by rw[zad,Zh];rfl
    refine zB Sf 18 _ Hs (news:=(aP L).drop a) At0 (Us (dP (A:=R) (l:=aP L) (c:=cR) Hs At2) oM hcR) (by unfold maxLen;omega) oM (λu hu=>Zd u (by obtain⟨q,hq,hu⟩:=zcc.1 hu;exact zcc.2 ⟨q,zeg hq,hu⟩)) (h:=λv6 wt Ht=>?_);obtain⟨N3,c3,rfl,_,_⟩:=Sep.bH Ht At0;have zK:=(BS (a:=a) (y:=.slice Y o.row.length cy) (o:=⟨o.row,n⟩) ha (Ht.aO.bI.aF.aO.aF)).aF
    have CV:(aP L).take a++[(Value.slice Y o.row.length cy,n)]++(aP L).drop a=aP (L.take a++(Value.slice Y o.row.length cy,(⟨o.row,n⟩:aG))::L.drop a):=by
      unfold aP;rw[zak,zav,zfe,zff,zbm];rfl
    have hL2:(L.take a++(Value.slice Y o.row.length cy,(⟨o.row,n⟩:aG))::L.drop a).map (·.2)=A9 l (lY (l.take (i+1))):=by
      rw[Qj,anY,zak,zav,zfe,zff,hL,<-Py];unfold A9;rw[zak,zav,zfe,zff,Ms]
    have alz: ∀k∈lY (l.take (i+1)),aY (wtL l k)=true:=λk hk=>by
      rw[Qj]at hk
      rcases zN.1 hk with e | e
      . rw[e];exact Lh
      exact hfk k (by rw[<-Py];exact e)
    rw[CV]at zK |-
    generalize L.take a++(Value.slice Y o.row.length cy,(⟨o.row,n⟩:aG))::L.drop a=L2 at zK hL2 |-
    refine⟨sT,?_⟩;refine tq Sf 19 _ (h:=⟨sT,?_⟩);refine V1 ?_;refine Vc ((i+1:Nat):Int) ?_;refine V1 ?_
    first
    | exact aj ((N3,c3),L2,i+1) tR ⟨⟨dO,hL2,alz⟩,zK⟩ dO
    | exact aj ((R,cR),L,i+1) tR ⟨⟨dO,by dsimp only;rw[Qj,Kw,Py];exact hL,λk hk=>hfk k (by dsimp only at hk;rw[Qj,Kw,Py]at hk;exact hk)⟩,Ht⟩ dO
  have jG:l.take i=l:=zaj oM;rw[jG]at hL hfk;have CW:=Z4 hfk;refine V2 ?_;refine aI (λx:(OA×Nat)×Nat=>[(4,.slice R (aP L).length cR),(10,.slice x.1.1 (aP ((L.take x.2).filter nzH)).length x.1.2),(11,I x.2)]) (λx w'=>x.2<=L.length/\Mw.Sep w noB [aU 60 2 aA (.slice x.1.1 (aP ((L.take x.2).filter nzH)).length x.1.2) (aP ((L.take x.2).filter nzH)),aU 60 2 aA (.slice R (aP L).length cR) (aP L),lQ L] w') (λx _=>L.length-x.2) ((none,0),0) tR ⟨zai _,Sep.iW H6 60 2 aA⟩ (λx τ wu hI=>?_);obtain⟨⟨Q,cQ⟩,j⟩:=x;obtain⟨hj,Hu⟩:=hI;dsimp only at hj Hu;refine Lp ?_;refine Cz (λIj=>?_) (λIj=>?_)
  . have Tv:j<L.length:=oM
    obtain⟨b,hb⟩:=get_some Tv
    have hfs:(L.take (j+1)).filter nzH=(L.take j).filter nzH++(if b.2.w≠0 then [b]else []):=by
      rw[zat,hb,zfr]
      congr 1
      by_cases h2:b.2.w≠0
      . rw[zac h2];simp[nzH,h2]
      rw[zaa h2];simp[nzH,h2]
    have Mr:(aP ((L.take j).filter nzH)).length<=1000:=by
      unfold aP;rw[zae];have h1:=zfs nzH (L.take j);rw[zah]at h1;omega
    refine V2 ?_;refine Vv (Gives.fA (l:=aP L) (enc:=aA) rfl rfl (dP Hu At1) oM) (Vv (Gives.AX rfl (dP Hu At1) oM) ?_);refine Vv (Gives.CJ (i:=j) (f:=1) rfl (dP Hu At1) (Zc hb) rfl) (Vn ?_);refine Cz (λIk=>?_) (λIk=>?_)
    . rw[zac Ik]at hfs
      refine V3 ?_;refine Vv (Gives.fA (l:=aP L) (enc:=aA) rfl rfl (dP Hu At1) oM) (Vv (Gives.pF (i:=j) rfl (dP Hu At1) (Zc hb)) ?_);refine Bs Hu ([(b.1,b.2.w)].flatMap aA) (λbs wv Hv kg=>?_);have ap5: ∀u∈[(b.1,b.2.w)].flatMap aA,u.oneCell'=true:=λu hu=>rY (mO Hv At3) u (zcc.2 ⟨(b.1,b.2.w),zag (Zc hb),by simpa using hu⟩);refine dJ Hv (news:=[(b.1,b.2.w)]) At0 (by unfold maxLen;simp only[zaf];omega) (by simp only[zaf];omega) ap5 (h:=?_);intro v9 ww Hw
      have CV:aP ((L.take j).filter nzH)++[(b.1,b.2.w)]=aP ((L.take (j+1)).filter nzH):=by
        rw[hfs];unfold aP;rw[zak];rfl
      rw[CV]at Hw;obtain⟨Q2,cQ2,rfl,_,_⟩:=Sep.bH Hw At0;refine V2 ?_;refine Vc ((j+1:Nat):Int) ?_;refine V1 ?_;exact aj ((Q2,cQ2),j+1) tR ⟨dO,Hw⟩ dO
    rw[zaa Ik,zbt]at hfs;refine V1 ?_;refine Vc ((j+1:Nat):Int) ?_;refine V1 ?_;exact aj ((Q,cQ),j+1) ⟨rfl,by dsimp only;rw[hfs];rfl,rfl,trivial⟩ ⟨dO,by dsimp only;rw[hfs];exact Hu⟩ dO
  have amd:L.take j=L:=zaj oM;refine V3 ?_;have h1:=(Aq nzH Hu.aO).aF.aR.first;rw[amd]at h1
  have hfm:(L.filter nzH).map (·.2)=(A9 l (lY l)).filter λx=>decide (x.w≠0):=by
    rw[<-hL,List.filter_map];rfl
  exact⟨(.slice Q (aP (L.filter nzH)).length cQ,L.filter nzH),by rw[amd,CW];rfl,by rw[CW];exact hfm,h1.turn⟩
def akq {a b:List aG} {va vb:Value} (ha:dS w va a) (hb:dS w vb b) (VE:a.length<=500) (hbl:b.length<=500) (haf: ∀o∈a,fits o.w) (hbf: ∀o∈b,fits o.w) (har: ∀o∈a,o.row.length<=1000) (hbr: ∀o∈b,o.row.length<=1000):
    aQ Tryz.prog 47 [va,vb] w λu w'=>∃x:Value×List Held,u=.tuple #[x.1,I (uF a b).2]/\x.2.map (·.2)=(uF a b).1/\Turn noB (dz x.1 x.2) w w':=by
  have H:=Sep.aH w;have ha0:=ha;have Et:=hb;obtain⟨r,hr,eP⟩:=ha;obtain⟨s,hs,Qq⟩:=hb;obtain⟨A,c,rfl,⟨hc,hc'⟩,hA⟩:=hr;obtain⟨B,d,rfl,⟨hd,hd'⟩,hB⟩:=hs;have yL:=eP.len;have YS:=Qq.len;refine bU Tryz.func47 ?_;refine Kz (JM (ha0.keep H.kept) oM) (λ_ k _=>?_);refine Sz (λS=>?_) (λS=>?_)
  . refine V3 ?_
    have hk: ¬(iy a=true/\iy b=true):=λh=>by
      have h1:=h.1;have h2:=h.2;simp[h1,h2]at *
    exact⟨(.slice none 0 0,[]),by unfold uF;rw[zaa hk];rfl,by unfold uF;rw[zaa hk];rfl,(Sep.gy (bJ k) 60 2).aR.first.turn⟩
  refine Kz (JM (Et.keep k.kept) oM) (λ_ S _=>?_);refine Cz (λk=>?_) (λk=>?_)
  . refine V2 ?_
    have hk: ¬(iy a=true/\iy b=true):=λh=>by
      have h1:=h.1;have h2:=h.2;simp[h1,h2]at *
    exact⟨(.slice none 0 0,[]),by unfold uF;rw[zaa hk];rfl,by unfold uF;rw[zaa hk];rfl,(Sep.gy (bJ S) 60 2).aR.first.turn⟩
  refine V3 ?_;have k:=Sep.iW S 60 2 aA;refine ni k (news:=r) At0 (hA.keep S.kept) (by unfold maxLen;simp only[zcd];omega) (by simp only[zcd];omega) (rY eP) (h:=?_);intro v4 S k;rw[zbw]at k;obtain⟨N1,c1,rfl,_,_⟩:=Sep.bH k At0;refine Mv ?_;refine ni k (news:=s) At0 (hB.keep k.kept) (by unfold maxLen;omega) oM (rY Qq) (h:=?_);intro v5 S S;obtain⟨N2,c2,rfl,_,_⟩:=Sep.bH S At0;refine Nz (BU (l:=a++b) ⟨r++s,jq S At0,(eP.app Qq).keep S.kept⟩ (by rw[zad];omega) (λo ho=>(zbk.1 ho).elim (haf o) (hbf o)) (λo ho=>(zbk.1 ho).elim (har o) (hbr o))) (λz _ hz S _=>?_);refine V4 ?_
  have hk:iy a=true/\iy b=true:=by
    refine⟨Decidable.of_not_not λh=>?_,Decidable.of_not_not λh=>?_⟩
    . simp[h]at *
    simp[h]at *
  exact⟨z,by unfold uF;rw[zac hk];rfl,by unfold uF;rw[zac hk];exact hz,S.first.turn⟩
end
def acC {n:Int} (h: -9223372036854775808<=n/\n<=9223372036854775807):(itoa n).length<=20:=Cx h.1 h.2
def Rx {k:List aC} (h:gI k):(eU k).length<=k.length*1000100:=by
 induction k with
 | nil=>exact zbi _
 | cons c k ih=>
  have h1:=ih λd hd=>h d (zau _ hd);have h2:=Qw c (h c zao);show(yQ c++eU k).length<=_
  rw[zad,zaq];omega
def aay {k:List aC} {i:Nat} {c:aC} (h:k[i]? =some c):eU (k.take (i+1))=eU (k.take i)++yQ c:=by
 unfold eU;rw[zat,h,zbv];simp
section
variable {w:Wd}
def acD {k:List aC} (hk:aJ w v ah 3 k) (hn:k.length<=64) (D5:gI k) (hT:gT w):Rk Tryz.prog 404 [v] w (str (eU k)):=by
 obtain⟨A,m,rfl,⟨hm,nX⟩,hA⟩:=hk;have H:=Sep.aH w;refine dh Tryz.func404 ?_;refine Az (λb3 _ S _=>?_);have S:=Sep.ajU S;refine V3 ?_;refine aI (λi:Nat=>[(0,.slice A k.length m),(3,av b3),(6,.slice A k.length m),(7,I k.length),(8,I i)]) (λi w'=>i<=k.length/\Mw.Sep w noB [xB b3 (eU (k.take i))] w') (λi _=>k.length-i) 0 tR ⟨zai _,S⟩ (λi τ _ hI=>?_);obtain⟨hi,S⟩:=hI;refine Lp ?_;refine Cz (λa=>?_) (λa=>?_)
 .have aX:i<k.length:=oM
  obtain⟨c,hc⟩:=get_some aX;have hcf:=D5 c (zag hc);have Px:=aay hc;have hl1:=Rx (k:=k.take i) λd hd=>D5 d (zcg hd);have hl2:=Qw c hcf;have hl3:=acC hcf.1;have hl4:=acC (n:=(c.s.length:Int)) ⟨oM,oM⟩;rw[zah,zcp hi]at hl1;have hbl:(Ea c.null).length<=5:=by unfold Ea;split<;>decide
  refine Az (λb5 _ _ _=>?_);refine Tz (λ_ _=>?_);refine Dz (λa _ b=>?_);refine V2 ?_;refine Gp a 4 rfl rfl (λ_=>(Gives.yt rfl)) (V1 ?_);refine Gp a 9 rfl rfl (λ_=>(Gives.yt rfl)) (V2 ?_);refine Gp a 15 rfl rfl (λ_=>(Gives.yt rfl)) (V1 ?_);refine dA (v:=str (Ea c.null)) a 2 [(16,false),(15,true),(11,true),(10,false),(9,true),(5,false),(4,true)] b (aQ.mono (Ec c.null) λu w' h=>⟨h.1,h.2▸Kept.refl _ _⟩) (h:=λ_ b _=>⟨sL,?_⟩);refine GS (Gn rfl (λ_=>(Gives.Yr rfl rfl (by simp only[zad,zaq,zcd];omega))) ?_);refine dA a 6 [(3,true),(16,false),(15,true),(11,true),(10,false),(9,true)] b (zX c.n hcf.1 (hT.keep b.kept)) (h:=λ_ b _=>⟨sL,?_⟩);refine GS (Gn rfl (λ_=>(Gives.Yr rfl rfl (by simp only[zad,zaq,zcd];omega))) ?_);refine GS (Gn rfl (λ_=>(Gives.Yr rfl rfl (by simp only[zad,zaq,zcd];omega))) ?_);refine dA a 12 [(8,true),(7,true),(3,true),(16,false),(15,true)] b (Uh (c.s.length:Int) (by unfold fits;omega) (hT.keep b.kept)) (h:=λ_ b _=>⟨sL,?_⟩);refine GS (Gn rfl (λ_=>(Gives.Yr rfl rfl (by simp only[zad,zaq,zcd];omega))) ?_);refine GS (Gn rfl (λ_=>(Gives.Yr rfl rfl (by simp only[zad,zaq,zcd];omega))) ?_);refine Gp a 17 rfl rfl (λ_=>(Gives.Yr rfl rfl (by simp only[zad,zaq,zcd];omega))) ?_;have e:Ea c.null++[32]++itoa c.n++[32]++itoa (c.s.length:Int)++[32]++c.s=yQ c:=by unfold yQ;simp
  rw[e];obtain⟨F0,eO,gQ,aK⟩:=b.focus At1;refine p8 a 18 [] rfl kR (tJ (news:=yQ c) eO oM) rfl kR kR (λv' _ hv=>?_);obtain⟨rfl,cK,F1,qD,hs⟩:=hv;have b:=aK _ F1 _ cK qD hs;rw[<-Px]at b;refine⟨sT,?_⟩;refine V0 ?_;refine Vc ((i+1:Nat):Int) ?_;refine V1 ?_;exact aj (i+1) tR ⟨oM,b.bI⟩ oM
 have jG:i=k.length:=oM;rw[jG,zbq]at S;refine V0 ?_;have hl5:=Rx D5;obtain⟨F0,eO,gQ,aK⟩:=S.focus At0;refine aL (Dj eO oM) rfl rfl (λv' _ hv=>?_);obtain⟨rfl,cK,F1,qD,hs⟩:=hv;have b:=aK _ F1 _ cK qD hs;refine V1 ?_;exact⟨rfl,b.kept⟩
end
abbrev xC:=Value×Value×bD
def qC (z:xC):LV:=[z.1,z.2.1,I z.2.2.w]
instance:jd qC 3:=⟨λ_=>rfl⟩
def zh (w:Wd) (Z:List xC):Prop:=∀z∈Z,aJ w z.1 ah 3 z.2.2.key/\aJ w z.2.1 ah 3 z.2.2.vals
def zh.keep {w w':Wd} {Z:List xC} (h:zh w Z) (hk:Kept noB w w'):zh w' Z:=λz hz=>⟨(h z hz).1.keep hk,(h z hz).2.keep hk⟩
def oQ (n:Int):LV:=[I n]
instance:jd oQ 1:=⟨λ_=>rfl⟩
def Ar {α:Type} (w:Wd) (fv:Value) (enc:α->Value) (l:List α) (p:α->Bool):Prop:=
 ∃f fs cs,fv=.func (.func f) (List.toArray fs) (List.toArray cs)/\qz prog f/\∀x∈l,∀w',Kept noB w w'->aQ prog f (fs++[enc x]++cs) w' λv w''=>v=.bool (p x)/\Kept noB w' w''
def Ar.keep {α:Type} {w w':Wd} {enc:α->Value} {l:List α} {p:α->Bool} (h:Ar w fv enc l p) (hk:Kept noB w w'):Ar w' fv enc l p:=by
 obtain⟨f,fs,cs,h1,h2,h3⟩:=h;exact⟨f,fs,cs,h1,h2,λx hx w'' Pe=>h3 x hx w'' (hk.MF Pe)⟩
section
variable {w:Wd}
def ahC {l:List xC} {p:xC->Bool} (hl:aJ w v qC 3 l) (hp:Ar w fv (λx=>agg (qC x)) l p):Rk prog 400 [v,fv] w (I (zR (l.findIdx? p))):=by
 obtain⟨A,m,rfl,⟨hm,nX⟩,hA⟩:=hl;obtain⟨f,fs,cs,rfl,Fe,qY⟩:=hp;have H:=Sep.aH w;refine bU func400 ?_;refine V4 ?_;refine aI (λi:Nat=>[(0,.slice A l.length m),(1,.func (.func f) fs.toArray cs.toArray),(7,I l.length),(8,I i)]) (λi w'=>(i<=l.length/\∀(j:Nat) y,j<i->l[j]? =some y->p y=false)/\Sep w noB [] w') (λi _=>l.length-i) 0 tR ⟨⟨zai _,λj y hj=>oM⟩,H⟩ (λi τ w6 hI=>?_);obtain⟨⟨hi,uQ⟩,H6⟩:=hI;refine Lp ?_;refine Cz (λZg=>?_) (λZg=>?_)
 .have aX:i<l.length:=oM
  obtain⟨x,hx⟩:=get_some aX;refine V7 ?_;refine eY rfl (qY x (zag hx) _ H6.kept) rfl rfl (λv' wa hv=>?_);obtain⟨rfl,cK⟩:=hv;have Ha:=H6.keep cK;refine Qn (Cd rfl (λIe=>?_) (λIe=>?_))
  .have bX:l.findIdx? p=some i:=uJ uQ hx Ie
   refine V2 ?_;exact⟨by rw[bX];rfl,Ha.kept⟩
  have G9:=Ie;refine V0 ?_;refine Vc ((i+1:Nat):Int) ?_;refine V1 ?_;exact aj (i+1) tR ⟨⟨oM,λj y hj hy=>by
  by_cases e:j=i
  .subst e;rw[hx]at hy;injection hy with hy;rw[<-hy];exact zdq _▸G9
  exact uQ j y oM hy⟩,Ha⟩ oM
 have jG:i=l.length:=oM;have bX:l.findIdx? p=none:=qX λj y hy=>uQ j y (by have:=fI hy;omega) hy;refine V1 ?_;exact⟨by rw[bX];rfl,H6.kept⟩
def X4 {l:List xC} {p:xC->Bool} (hl:aJ w v qC 3 l) (hp:Ar w fv (λx=>agg (qC x)) l p):Rk prog 392 [v,fv] w (.bool (l.any p)):=by
 have H:=Sep.aH w;refine bU func392 ?_;refine Kz (ahC (hl.keep H.kept) (hp.keep H.kept)) (λ_ k _=>?_);refine V2 ?_;exact⟨by rw[<-Dc];rfl,k.kept⟩
def aeK {l:List aC} {p:aC->Bool} (hl:aJ w v ah 3 l) (hp:Ar w fv (λx=>agg (ah x)) l p):Rk prog 408 [v,fv] w (I (zR (l.findIdx? p))):=by
 obtain⟨A,m,rfl,⟨hm,nX⟩,hA⟩:=hl;obtain⟨f,fs,cs,rfl,Fe,qY⟩:=hp;have H:=Sep.aH w;refine bU func408 ?_;refine V4 ?_;refine aI (λi:Nat=>[(0,.slice A l.length m),(1,.func (.func f) fs.toArray cs.toArray),(7,I l.length),(8,I i)]) (λi w'=>(i<=l.length/\∀(j:Nat) y,j<i->l[j]? =some y->p y=false)/\Sep w noB [] w') (λi _=>l.length-i) 0 tR ⟨⟨zai _,λj y hj=>oM⟩,H⟩ (λi τ w6 hI=>?_);obtain⟨⟨hi,uQ⟩,H6⟩:=hI;refine Lp ?_;refine Cz (λZg=>?_) (λZg=>?_)
 .have aX:i<l.length:=oM
  obtain⟨x,hx⟩:=get_some aX;refine V7 ?_;refine eY rfl (qY x (zag hx) _ H6.kept) rfl rfl (λv' wa hv=>?_);obtain⟨rfl,cK⟩:=hv;have Ha:=H6.keep cK;refine Qn (Cd rfl (λIe=>?_) (λIe=>?_))
  .have bX:l.findIdx? p=some i:=uJ uQ hx Ie
   refine V2 ?_;exact⟨by rw[bX];rfl,Ha.kept⟩
  have G9:=Ie;refine V0 ?_;refine Vc ((i+1:Nat):Int) ?_;refine V1 ?_;exact aj (i+1) tR ⟨⟨oM,λj y hj hy=>by
  by_cases e:j=i
  .subst e;rw[hx]at hy;injection hy with hy;rw[<-hy];exact zdq _▸G9
  exact uQ j y oM hy⟩,Ha⟩ oM
 have jG:i=l.length:=oM;have bX:l.findIdx? p=none:=qX λj y hy=>uQ j y (by have:=fI hy;omega) hy;refine V1 ?_;exact⟨by rw[bX];rfl,H6.kept⟩
def Ux {l:List aC} {v fv:Value} {p:aC->Bool} (hl:aJ w v ah 3 l) (hp:Ar w fv (λx=>agg (ah x)) l p):Rk prog 402 [v,fv] w (.bool (l.any p)):=by
 have H:=Sep.aH w;refine bU func402 ?_;refine Kz (aeK (hl.keep H.kept) (hp.keep H.kept)) (λ_ k _=>?_);refine V2 ?_;exact⟨by rw[<-Dc];rfl,k.kept⟩
def ahD {l:List Int} {p:Int->Bool} (hl:aJ w v oQ 1 l) (hp:Ar w fv (λx=>I x) l p):Rk prog 406 [v,fv] w (I (zR (l.findIdx? p))):=by
 obtain⟨A,m,rfl,⟨hm,nX⟩,hA⟩:=hl;obtain⟨f,fs,cs,rfl,Fe,qY⟩:=hp;have H:=Sep.aH w;refine bU func406 ?_;refine V4 ?_;refine aI (λi:Nat=>[(0,.slice A l.length m),(1,.func (.func f) fs.toArray cs.toArray),(7,I l.length),(8,I i)]) (λi w'=>(i<=l.length/\∀(j:Nat) y,j<i->l[j]? =some y->p y=false)/\Sep w noB [] w') (λi _=>l.length-i) 0 tR ⟨⟨zai _,λj y hj=>oM⟩,H⟩ (λi τ w6 hI=>?_);obtain⟨⟨hi,uQ⟩,H6⟩:=hI;refine Lp ?_;refine Cz (λZg=>?_) (λZg=>?_)
 .have aX:i<l.length:=oM
  obtain⟨x,hx⟩:=get_some aX;refine V7 ?_;refine eY rfl (qY x (zag hx) _ H6.kept) rfl rfl (λv' wa hv=>?_);obtain⟨rfl,cK⟩:=hv;have Ha:=H6.keep cK;refine Qn (Cd rfl (λIe=>?_) (λIe=>?_))
  .have bX:l.findIdx? p=some i:=uJ uQ hx Ie
   refine V2 ?_;exact⟨by rw[bX];rfl,Ha.kept⟩
  have G9:=Ie;refine V0 ?_;refine Vc ((i+1:Nat):Int) ?_;refine V1 ?_;exact aj (i+1) tR ⟨⟨oM,λj y hj hy=>by
  by_cases e:j=i
  .subst e;rw[hx]at hy;injection hy with hy;rw[<-hy];exact zdq _▸G9
  exact uQ j y oM hy⟩,Ha⟩ oM
 have jG:i=l.length:=oM;have bX:l.findIdx? p=none:=qX λj y hy=>uQ j y (by have:=fI hy;omega) hy;refine V1 ?_;exact⟨by rw[bX];rfl,H6.kept⟩
def X5 {l:List Int} {v fv:Value} {p:Int->Bool} (hl:aJ w v oQ 1 l) (hp:Ar w fv (λx=>I x) l p):Rk prog 397 [v,fv] w (.bool (l.any p)):=by
 have H:=Sep.aH w;refine bU func397 ?_;refine Kz (ahD (hl.keep H.kept) (hp.keep H.kept)) (λ_ k _=>?_);refine V2 ?_;exact⟨by rw[<-Dc];rfl,k.kept⟩
def Au (c:aC):Bool:=decide (c.s≠[]\/(c.null=true/\c.n≠0))
def akr (c:aC):Rk prog 401 [agg (ah c)] w (.bool (Au c)):=by
 have H:=Sep.aH w;refine dh func401 ?_;refine Sr (bB H (cs:=ah c) rfl (h:=λb1 _ k _=>?_));refine Sz (λS=>?_) (λS=>?_)
 .refine V2 ?_
  exact⟨by unfold Au;simp only[*,fJ];simp[*],k.kept⟩
 refine V3 ?_;refine dL (t:=9) rfl (λS=>?_) (λS=>?_)
 .refine V6 ?_
  exact⟨by unfold Au;simp only[*,fJ];simp[*],k.kept⟩
 refine V3 ?_;exact⟨by unfold Au;simp only[*,fJ];simp[*],k.kept⟩
end
def X6 {keys:Nat} {x:bD}:qA keys sums x=(decide (x.key.length=keys/\x.vals.length=sums)&& !x.vals.any Au):=by
 unfold qA
 congr 1
 rw[List.not_any_eq_all_not]
 congr 1
 funext c
 unfold Au;rw[<-decide_not];exact zbf.2 (by simp[not_or])
def Uy {ns:List Int} {n:Int} (h:ns[0]? =some n):ns.headD 0=n:=by
 cases ns with
 | nil=>cases h
 | cons a t=>injection h
section
variable {w:Wd}
def UA {k:List aC} {ns:List Int} {kv nv:Value} (wt:Int) (hk:aJ w kv ah 3 k) (hn:aJ w nv oQ 1 ns) (hl:k.length<=400) (hl2:ns.length<=400):
    aQ Tryz.prog 396 [agg [kv,nv],I wt] w λu w'=>∃x:Value×List Held,u=x.1/\x.2.map (·.2)=iG ns k wt/\Turn noB (dz x.1 x.2) w w':=by
  have zF:=hk;obtain⟨K,ck,rfl,⟨dN,anZ⟩,hK⟩:=hk;obtain⟨N,cn,rfl,⟨Pz,as6⟩,hN⟩:=hn;have H:=Sep.aH w;refine bU Tryz.func396 ?_;refine Sr (bB H (cs:=[.slice K k.length ck,.slice N ns.length cn]) rfl (h:=λb2 _ S _=>?_));refine Sz (λa=>?_) (λa=>?_)
  . refine V2 ?_
    have h0:ns.headD 0=0:=by
      first
      | (have hz:ns.length=0:=oM
         rw[zbg hz];rfl)
      | (rw[Uy zG];omega)
    exact⟨(.slice none 0 0,[]),rfl,by unfold iG;rw[zac h0];rfl,(Sep.gy (bJ S) 60 2).aR.first.turn⟩
  refine V2 ?_;have Y4:0<ns.length:=oM;obtain⟨n0,zG⟩:=get_some Y4;refine Vv (Gives.fA (i:=0) rfl rfl hN Y4) (On ?_);refine Vv (Gives.dG (i:=0) (f:=0) rfl S hN zG rfl) (Cz (λa=>?_) (λa=>?_))
  . refine V1 ?_
    have h0:ns.headD 0=0:=by
      first
      | (have hz:ns.length=0:=oM
         rw[zbg hz];rfl)
      | (rw[Uy zG];omega)
    exact⟨(.slice none 0 0,[]),rfl,by unfold iG;rw[zac h0];rfl,(Sep.gy (bJ S) 60 2).aR.first.turn⟩
  refine V2 ?_;have iJ: ¬ns.headD 0=0:=by rw[Uy zG];omega
  refine Nz (qp (zF.keep S.kept) oM) (λy _ _ a _=>?_);obtain⟨Y,cy,rfl,_,_⟩:=Sep.bH a At0;refine V5 ?_;have e0:k++(ns.take 0).map dw=k:=sM;refine aI (λx:(OA×Nat)×Nat=>[(1,I wt),(5,.slice x.1.1 (k++(ns.take x.2).map dw).length x.1.2),(23,.slice N ns.length cn),(24,I ns.length),(25,I x.2)]) (λx w'=>x.2<=ns.length/\Mw.Sep w noB [aU 47 3 ah (.slice x.1.1 (k++(ns.take x.2).map dw).length x.1.2) (k++(ns.take x.2).map dw)] w') (λx _=>ns.length-x.2) ((Y,cy),0) ⟨rfl,by dsimp only;rw[e0];rfl,rfl,rfl,rfl,trivial⟩ ⟨zai _,by dsimp only;rw[e0];exact a.first⟩ (λx τ _ hI=>?_);obtain⟨⟨R,cR⟩,i⟩:=x;obtain⟨hi,a⟩:=hI;dsimp only at hi a;refine Lp ?_;refine Cz (λS=>?_) (λS=>?_)
  . have aX:i<ns.length:=oM
    obtain⟨m,hm⟩:=get_some aX;have Px:k++(ns.take i).map dw++[dw m]=k++(ns.take (i+1)).map dw:=by rw[zat,hm,zak,zbm];rfl
    have hlen:(k++(ns.take i).map dw).length<=800:=by rw[zad,zae,zah];omega
    refine V0 ?_;refine Vv (Gives.fA rfl rfl hN aX) (Vv (Gives.dG (f:=0) rfl a hN hm rfl) ?_);refine V3 ?_;refine Vb (ah (dw m)) ?_;refine Bs a ([dw m].flatMap ah) (λbs _ S _=>?_);refine dJ S (news:=[dw m]) At0 (by unfold maxLen;simp only[zaf];omega) (by simp only[zaf];omega) (cells_one (λ_=>rfl) _) (h:=?_);intro v5 S S;rw[Px]at S;obtain⟨R2,cR2,rfl,_,_⟩:=Sep.bH S At0;refine V1 ?_;refine Vc ((i+1:Nat):Int) ?_;refine V1 ?_;exact aj ((R2,cR2),i+1) tR ⟨dO,S⟩ dO
  have jG:i=ns.length:=oM;refine V2 ?_;refine Vb (aA (.slice R (k++(ns.take i).map dw).length cR,wt)) ?_;refine Bs a ([(Value.slice R (k++(ns.take i).map dw).length cR,wt)].flatMap aA) (λbs _ S _=>?_);refine V1 ?_;have h1:=Sep.nU (n:=1) (s:=2) S At0 rfl dC;have h2:=iF (x:=.slice R (k++(ns.take i).map dw).length cR) (o:=⟨k++(ns.take i).map dw,wt⟩) (bJ h1).aO;exact⟨(.slice (some ⟨bs,0,none⟩) 1 1,[(.slice R (k++(ns.take i).map dw).length cR,⟨k++(ns.take i).map dw,wt⟩)]),rfl,by rw[jG,zbq];unfold iG;rw[zaa iJ];rfl,h2.aF.aR.first.turn⟩
end
def q8 (keys sums bm:Nat):LV:=[.bool true,I keys,I sums,.map (some bm)]
def gJ (w:Wd) (b:Nat) (cs:LV) (E:Td):Prop:=w.heap[b]? =some (.cells cs.toArray E (0,0))
def gJ.keep {w w':Wd} {b:Nat} {cs:LV} (h:gJ w b cs E) (hk:Kept noB w w'):gJ w' b cs E:=Kept.get hk h id
section
variable {w:Wd}
def NI {keys:Nat} (hg:gJ w bg (q8 keys sums bm) E):Rk prog 387 [av bg] w (.bool false):=by
 have H:=Sep.aH w;refine dh func387 ?_;refine V4 ?_;refine dL (t:=5) rfl (λk=>?_) (λk=>?_)
 .refine V2 ?_
  (exfalso;simp at *)
 refine V3 ?_;refine dM (hg.keep H.kept) (h:=?_);refine V3 ?_;exact⟨rfl,H.kept⟩
def aeL {keys:Nat} {z:xC} (hg:gJ w bg (q8 keys sums bm) E) (hk:aJ w z.1 ah 3 z.2.2.key) (hv:aJ w z.2.1 ah 3 z.2.2.vals):
    Rk prog 394 [av bg,agg (qC z)] w (.bool (qA keys sums z.2.2)):=by
  obtain⟨kv,vv,e⟩:=z;dsimp only at hk hv ⊢;have LY:=hv;obtain⟨K,ck,rfl,⟨dN,anZ⟩,hK⟩:=hk;obtain⟨V,cv,rfl,⟨hcv,alA⟩,hV⟩:=hv;rw[X6];have H:=Sep.aH w;refine bU func394 ?_;refine Sr (bB H (cs:=qC (.slice K e.key.length ck,.slice V e.vals.length cv,e)) rfl (h:=λb3 _ _ _=>?_));refine Dz (λk _ S=>?_);refine V6 ?_;refine GS (Gt rfl (Gives.nu rfl (hg.keep S.kept) rfl) ?_);refine V2 ?_;refine fK (t:=14) rfl (λI=>?_) (λI=>?_)
  . refine V6 ?_
    refine GS (Gt rfl (Gives.nu rfl (hg.keep S.kept) rfl) ?_);refine V3 ?_;refine fK (t:=24) rfl (λI=>?_) (λI=>?_)
    . refine V3 ?_
      refine dA k 22 _ S (Ux (p:=Au) (fv:=.func (.func 401) #[] #[]) (LY.keep S.kept) ⟨401,[],[],rfl,eT,λx _ w' _=>akr x⟩) (h:=λ_ I _=>⟨sT,?_⟩);refine V3 ?_
      first
      | exact⟨by rw[zap (show e.key.length=keys/\e.vals.length=sums from⟨oM,oM⟩),zen];rfl,I.kept⟩
      | exact⟨by rw[zal (show ¬(e.key.length=keys/\e.vals.length=sums)from λh=>by have h1:=h.1;have h2:=h.2;omega),zdx];rfl,I.kept⟩
    refine V2 ?_
    first
    | exact⟨by rw[zap (show e.key.length=keys/\e.vals.length=sums from⟨oM,oM⟩),zen];rfl,S.kept⟩
    | exact⟨by rw[zal (show ¬(e.key.length=keys/\e.vals.length=sums)from λh=>by have h1:=h.1;have h2:=h.2;omega),zdx];rfl,S.kept⟩
  refine V4 ?_
  first
  | exact⟨by rw[zap (show e.key.length=keys/\e.vals.length=sums from⟨oM,oM⟩),zen];rfl,S.kept⟩
  | exact⟨by rw[zal (show ¬(e.key.length=keys/\e.vals.length=sums)from λh=>by have h1:=h.1;have h2:=h.2;omega),zdx];rfl,S.kept⟩
def aeM {b2 keys:Nat} {E2:Td} {z:xC} (hg:gJ w bg (q8 keys sums bm) E) (h2:gJ w b2 [av bg] E2) (hk:aJ w z.1 ah 3 z.2.2.key) (hv:aJ w z.2.1 ah 3 z.2.2.vals):
    Rk prog 393 [agg (qC z),av b2] w (.bool (!qA keys sums z.2.2)):=by
  obtain⟨kv,vv,e⟩:=z;have zF:=hk;have LY:=hv;dsimp only at hk hv;obtain⟨K,ck,rfl,⟨dN,anZ⟩,hK⟩:=hk;obtain⟨V,cv,rfl,⟨hcv,alA⟩,hV⟩:=hv;have H:=Sep.aH w;refine bU func393 ?_;refine Sr (bB H (cs:=qC (.slice K e.key.length ck,.slice V e.vals.length cv,e)) rfl (h:=λb3 _ k _=>?_));refine V1 ?_;refine dM (h2.keep k.kept) (h:=?_);refine Kz (aeL (hg.keep k.kept) (zF.keep k.kept) (LY.keep k.kept)) (λ_ k _=>?_);refine Vv (Gives.not rfl) (V1 ?_);exact⟨rfl,k.kept⟩
def aeN {b2 keys:Nat} {E2:Td} {Z:List xC} (hg:gJ w bg (q8 keys sums bm) E) (h2:gJ w b2 [av bg] E2) (hZ:zh w Z) (hl:aJ w v qC 3 Z):
    Rk prog 392 [v,.func (.func 393) #[] #[av b2]] w (.bool (Z.any λz=> !qA keys sums z.2.2)):=
  X4 hl ⟨393,[],[av b2],rfl,eT,λz hz w' hk=>aeM (hg.keep hk) (h2.keep hk) ((hZ z hz).1.keep hk) ((hZ z hz).2.keep hk)⟩
end
def ahE {g:Int} {n:Nat} {T m:List aG} (hg:g<0) (hT:(cO T).2=0):NH (cO T).1 m=(jM g n T m,(cO (if(jM g n T m).2=0 then T++m else T)).1):=by
  have e: ∀X,d9 g n X=cO X:=λX=>by unfold d9;rw[zac hg]
  have hm:jM g n T m=if(cO (T++m)).2≠0 then([],(cO (T++m)).2)else cO m:=by unfold jM;rw[e,zac hg]
  unfold NH
  by_cases h1:(cO m).2=0
  . have ea:uF (cO T).1 (cO m).1=cO (T++m):=by
      rw[acA uW uW];unfold ajN;rw[agc hT,ado h1]
    rw[zaa (not_not_intro h1),ea,hm]
    by_cases h2:(cO (T++m)).2=0
    . rw[zaa (not_not_intro h2),zaa (not_not_intro h2),zac h1]
      exact Prod.ext (Prod.ext rfl h1.symm) rfl
    rw[zac h2,zac h2,zaa h2]
  rw[zac h1,hm,qG h1]
  by_cases h2:(cO (T++m)).2=0
  . rw[zaa (not_not_intro h2),zaa dC]
  rw[zac h2,zaa h2,qG h2]
end
variable {b d:Nat} {x y:Od} {T:Td} {D:List Ent}
open Go.RowKit
section
variable {P:Program} {r:Option Nat} {n:Nat} {ops:AO} {Q:Post} {rest:LO} {σ:St} {w w0:Wd} {S:NP} {rs:List HP} {put:HP->List HP} {ty:Td} {pos:String} {after:Array Edge} {lv:List Bool} {pd:LNB} {guard:Option (Nat×Bool)}
def acE (fB:dX n ops=true) (i:Nat) (pd':LNB) {t e:Td} [hs:dn P t e] {size bytes:Nat} [hc:Cells P e size bytes] {z:Value} [hz:Zero P e z] {k:Nat} {cs:LV} (H:Sep w0 S rs w)
    (ho:ops[i]? =some ⟨some d,.makeSlice t x y,ty,pos,after,guard⟩:=by exact rfl) (hcs:madeCells z.cells (k*size)=cs.toArray) (hk:k<=maxLen) (hb:bytes*k<=281474976710656)
    (hw:Region.wanted ⟨some d,.makeSlice t x y,ty,pos,after,guard⟩ (bY ops σ)=true:=by kernel_rfl) (hx:evF σ x=.int .i64 k:=by exact rfl) (hy:evF σ y=.int .i64 k:=by exact rfl)
    (dN:fE ops lv (pd.map (·.1)) i=true:=by kernel_rfl) (oH:pd.filter (λp=> !((above ops i).contains p.1))=pd':=by exact pD)
    (h: ∀b w',Sep w0 S (blk b cs e::rs) w'->jo P ops (upd σ d (.slice (some ⟨b,0,none⟩) k k)) w' pd'/\FG P r n ops Q (lv.set i true) pd' (upd σ d (.slice (some ⟨b,0,none⟩) k k)) w'):FG P r n ops Q lv pd σ w:=
  vK (C:=λv w'=>∃b,v=.slice (some ⟨b,0,none⟩) k k/\Sep w0 S (blk b cs e::rs) w') fB i pd' ho hw ⟨_,_,Gives.alP hx hy hcs hb hk,_,rfl,H.alloc _⟩ dN oH (λv w' hv=>by obtain⟨b,rfl,hs⟩:=hv;exact h b w' hs)
def NJ (fB:dX n ops=true) (i:Nat) (pd':LNB) {t e:Td} [hs:dn P t e] {size bytes:Nat} [hc:Cells P e size bytes] {z:Value} [hz:Zero P e z] {k:Nat} {cs:LV} (H:Sep w0 S rs w)
    (ho:ops[i]? =some ⟨some d,.makeSlice t x y,ty,pos,after,guard⟩:=by exact rfl) (hcs:madeCells z.cells (k*size)=cs.toArray) (hk:k<=maxLen) (hb:bytes*k<=281474976710656)
    (hw:Region.wanted ⟨some d,.makeSlice t x y,ty,pos,after,guard⟩ (bY ops σ)=true:=by kernel_rfl) (hx:evF σ x=.int .i64 k:=by exact rfl) (hy:evF σ y=.int .i64 k:=by exact rfl)
    (dN:ow ops lv (pd.map (·.1)) i=true:=by kernel_rfl) (oH:pd.filter (λp=> !((above ops i).contains p.1))=pd':=by exact pD)
    (h: ∀b w',Sep w0 S (blk b cs e::rs) w'->jo P ops (upd σ d (.slice (some ⟨b,0,none⟩) k k)) w' pd'/\FG P r n ops Q (lv.set i true) pd' (upd σ d (.slice (some ⟨b,0,none⟩) k k)) w'):pV P r n ops Q lv pd σ w i:=
  GR (C:=λv w'=>∃b,v=.slice (some ⟨b,0,none⟩) k k/\Sep w0 S (blk b cs e::rs) w') fB i pd' ho hw ⟨_,_,Gives.alP hx hy hcs hb hk,_,rfl,H.alloc _⟩ dN oH (λv w' hv=>by obtain⟨b,rfl,hs⟩:=hv;exact h b w' hs)
def Gives.ao0 {ρ:Od->Value} {cs:LV} (hx:ρ x=v) (hcs:v.cells=cs.toArray):Gives P ρ (.box T x) ty w (.pointer (some ⟨w.heap.size,0,none⟩)) (w.alloc (.cells cs.toArray T)):=λ_ _ _ _=>by
 simp[execOp,Instr.box,hx,newVar,newRow,hcs]
def NK (fB:dX n ops=true) (i:Nat) (pd':LNB) {cs:LV} (H:Sep w0 S rs w)
    (hx:evF σ x=v) (hcs:v.cells=cs.toArray) (ho:ops[i]? =some ⟨some d,.box T x,ty,pos,after,guard⟩:=by exact rfl)
    (hw:Region.wanted ⟨some d,.box T x,ty,pos,after,guard⟩ (bY ops σ)=true:=by kernel_rfl)
    (dN:fE ops lv (pd.map (·.1)) i=true:=by kernel_rfl) (oH:pd.filter (λp=> !((above ops i).contains p.1))=pd':=by exact pD)
    (h: ∀b w',Sep w0 S (blk b cs T::rs) w'->jo P ops (upd σ d (.pointer (some ⟨b,0,none⟩))) w' pd'/\FG P r n ops Q (lv.set i true) pd' (upd σ d (.pointer (some ⟨b,0,none⟩))) w'):FG P r n ops Q lv pd σ w:=
  vK (C:=λv w'=>∃b,v=.pointer (some ⟨b,0,none⟩)/\Sep w0 S (blk b cs T::rs) w') fB i pd' ho hw ⟨_,_,Gives.ao0 hx hcs,_,rfl,H.alloc _⟩ dN oH (λv w' hv=>by obtain⟨b,rfl,hs⟩:=hv;exact h b w' hs)
def Ee {z:Od} {k e:Td} [hm:IsMap P T k e] [hk:lX P k] {i:L8} {v:Value} (H:Sep w0 S rs w) (hat:At rs (gV b D) put) (hx:evF σ x=.map (some b):=by exact rfl) (hy:evF σ y=str i:=by exact rfl) (hz:evF σ z=v:=by exact rfl)
    (h: ∀w',Sep w0 S (put (gV b (Bh D i v))) w'->FL P r n ops Q rest σ w'):
    FL P r n ops Q (⟨none,.mapUpdate T x y z,ty,pos,after,none⟩::rest) σ w:=by
  obtain⟨w',ha,hs⟩:=Bf (P:=P) (ty:=ty) (T:=T) (k:=k) (e:=e) H hat hx hy hz;exact Ey ha rfl (h w' hs)
end
def rZ {α:Type} {enc:α->LV} {s:Nat} [hk:jd enc s] (hs:0<s) (a:α) (k:Nat):madeCells (enc a).toArray (k*s)=((List.replicate k a).flatMap enc).toArray:=by
 apply Array.ext
 .rw[size_madeCells]
  simp only[zft];rw[jw hk.len,zcx]
 intro i h1 h2;rw[size_madeCells]at h1;have hq:i/s<k:=Nat.div_lt_of_lt_mul (by rw[Nat.mul_comm];exact h1);have hm:i%s<s:=Nat.mod_lt _ hs;have hg:(List.replicate k a)[i/s]? =some a:=by rw[List.getElem?_replicate];simp[hq]
 have h3:=flat_get hk.len hg hm;rw[Nat.div_add_mod']at h3;have h4:(enc a)[i%s]? =some ((enc a)[i%s]'(by rw[hk.len];exact hm)):=zab _;rw[h4]at h3;obtain⟨h5,h6⟩:=zax.1 h3;simp only[madeCells,Array.getElem_map,Array.getElem_range,zft,hk.len,List.getElem_toArray];rw[h6,getElem!_pos _ _ (by simp only[zft,hk.len];exact hm)];rfl
section
variable {P:Program} {r:Option Nat} {n:Nat} {ops:AO} {Q:Post} {rest:LO} {σ:St} {w w' w0:Wd} {S:NP} {rs:List HP} {put:HP->List HP} {op:Op} {ty:Td} {pos:String} {after:Array Edge} {guard:Option (Nat×Bool)} {lv:List Bool} {pd:LNB}
def aks (hg:Gives P (evF σ) op ty w v w') (h:FL P r n ops Q rest σ w'):
    FL P r n ops Q (⟨none,op,ty,pos,after,none⟩::rest) σ w:=λa ha=>
  wpListIn_plain rfl λK hK=>by
    refine⟨λ_ _=>trivial,?_⟩;rw[ha.eval,Jh (hg _ _ _ _)];exact hK _ _ (h _ ha)
def JQ {k e:Td} [hm:IsMap P T k e] (H:Sep w0 S rs w) (hat:At rs (gV b D) put) (hx:evF σ x=.map (some b):=by exact rfl) (hd:Nat.blt d n=true:=by exact rfl)
    (h: ∀q w',Sep w0 S (put (vU q b D D)) w'->FL P r n ops Q rest (upd σ d (.pointer (some ⟨q,0,none⟩))) w'):
    FL P r n ops Q (⟨some d,.range T x,ty,pos,after,none⟩::rest) σ w:=by
  obtain⟨q,w',hg,hs,_⟩:=U5 (P:=P) (ty:=ty) (T:=T) (k:=k) (e:=e) H hat hx;exact dD hg hd (h q w' hs)
def NM {q:Nat} {L:List Ent} (H:Sep w0 S rs w) (hat:At rs (vU q b D L) put)
    (h1: ∀p L' w',L.Perm (p::L')->Sep w0 S (put (U3 q b D L' p)) w'->FL P r n ops Q rest (upd σ d (.tuple #[.bool true,str p.1,p.2])) w')
    (h2:L=[]->FL P r n ops Q rest (upd σ d (.tuple #[.bool false])) w) (hx:evF σ x=.pointer (some ⟨q,0,none⟩):=by exact rfl) (hd:Nat.blt d n=true:=by exact rfl):
    FL P r n ops Q (⟨some d,.next x false,ty,pos,after,none⟩::rest) σ w:=by
  rcases LK (P:=P) (ty:=ty) H hat hx with⟨h0,hg⟩ | ⟨p,L',w',hp,hg,hs⟩
  . exact dD hg hd (h2 h0)
  exact dD hg hd (h1 p L' w' hp hs)
def aaz {U k e:Td} [hm:IsMap P T k e] [hk:lX P k] {i:L8} (H:Sep w0 S rs w) (hat:At rs (gV b D) put) (hx:evF σ x=.map (some b):=by exact rfl) (hy:evF σ y=str i:=by exact rfl)
    (h: ∀w',Sep w0 S (put (gV b (YC D i))) w'->FL P r n ops Q rest σ w'):
    FL P r n ops Q (⟨none,.call {callee:=.builtin .delete,args:= #[x,y],argTypes:= #[T,U]},ty,pos,after,none⟩::rest) σ w:=by
  obtain⟨w',hg,hs⟩:=Qd (P:=P) (ty:=ty) (T:=T) (U:=U) (k:=k) (e:=e) H hat hx hy;exact aks hg (h w' hs)
def UC (fB:dX n ops=true) (e:Nat) (pd':LNB) {z:Od} {k el:Td} [IsMap P T k el] [lX P k] {i:L8} {v:Value} (H:Sep w0 S rs w) (hat:At rs (gV b D) put)
    (ho:ops[e]? =some ⟨none,.mapUpdate T x y z,ty,pos,after,guard⟩:=by exact rfl)
    (hw:Region.wanted ⟨none,.mapUpdate T x y z,ty,pos,after,guard⟩ (bY ops σ)=true:=by kernel_rfl) (hx:evF σ x=.map (some b):=by exact rfl) (hy:evF σ y=str i:=by exact rfl) (hz:evF σ z=v:=by exact rfl)
    (dN:fE ops lv (pd.map (·.1)) e=true:=by kernel_rfl) (oH:pd.filter (λp=> !((above ops e).contains p.1))=pd':=by exact pD)
    (h: ∀w',Sep w0 S (put (gV b (Bh D i v))) w'->jo P ops σ w' pd'/\FG P r n ops Q (lv.set e true) pd' σ w'):FG P r n ops Q lv pd σ w:=
  XL fB e pd' ho hw (Bf (P:=P) (T:=T) (k:=k) (e:=el) H hat hx hy hz) dN oH h
end
variable {P:Program} {r:Option Nat} {n:Nat} {ops:AO} {Q:Post} {σ:St} {w w0:Wd} {S:NP} {rs:List HP} {ty:Td} {pos:String} {after:Array Edge} {guard:Option (Nat×Bool)} {lv:List Bool} {pd:LNB}
def X7 (fB:dX n ops=true) (i:Nat) (pd':LNB) {cs:LV} (H:Sep w0 S rs w)
    (hx:evF σ x=v) (hcs:v.cells=cs.toArray) (ho:ops[i]? =some ⟨some d,.box T x,ty,pos,after,guard⟩:=by exact rfl)
    (hw:Region.wanted ⟨some d,.box T x,ty,pos,after,guard⟩ (bY ops σ)=true:=by kernel_rfl)
    (dN:ow ops lv (pd.map (·.1)) i=true:=by kernel_rfl) (oH:pd.filter (λp=> !((above ops i).contains p.1))=pd':=by exact pD)
    (h: ∀b w',Sep w0 S (blk b cs T::rs) w'->jo P ops (upd σ d (.pointer (some ⟨b,0,none⟩))) w' pd'/\FG P r n ops Q (lv.set i true) pd' (upd σ d (.pointer (some ⟨b,0,none⟩))) w'):pV P r n ops Q lv pd σ w i:=
  GR (C:=λv w'=>∃b,v=.pointer (some ⟨b,0,none⟩)/\Sep w0 S (blk b cs T::rs) w') fB i pd' ho hw ⟨_,_,Gives.ao0 hx hcs,_,rfl,H.alloc _⟩ dN oH (λv w' hv=>by obtain⟨b,rfl,hs⟩:=hv;exact h b w' hs)
end Go.Proofs.Mw
