/-
 The document's normal form;walked.
-/
import Derived.Test.YtjcgliljofbopaaGreatDoorNv22
set_option linter.all false
set_option maxRecDepth 4000
namespace Go.Proofs.Mw
variable {w:Wd} {fv v:Value} {bg bm sums:Nat} {E:Td}
open Go.Lib Go.Proofs.Tryz
section
attribute [local irreducible] FW FL FG FGn jK jO fI lU Qfn Gives
def nzH (b:Held):Bool:=decide (b.2.w≠0)
abbrev nU (L:List Held):HP:=vJ 41 3 ah (·.1) (λb:Held=>b.2.row) L
def Bw {w0:Wd} {S:NP} {y:Value} {o:aH}: ∀{L:List Held} {a:Nat} {rs:List HP},a<=L.length->Mw.Sep w0 S (aY 41 3 ah y o.row::nU L::rs) w->Mw.Sep w0 S (nU (L.take a++(y,o)::L.drop a)::rs) w
 | L,0,rs,_,H=>H.aQ
 | [],a+1,rs,ha,_=>zar ha sM
 | b::L,a+1,rs,ha,H=>by
  have h1:=(((H.aG.bL).aN).aN).aG;have h2:=Bw (L:=L) (a:=a) (by simpa using ha) h1;exact h2.aG.aQ
def zR {w0:Wd} {S:NP} (p:Held->Bool): ∀{L:List Held} {rs:List HP},Mw.Sep w0 S (nU L::rs) w->Mw.Sep w0 S (nU (L.filter p)::rs) w
 | [],rs,H=>H
 | b::L,rs,H=>by
  have h1:=H.bL;rw[zee]
  split
  .exact(zR p (L:=L) h1.aG).aG.aQ
  exact zR p (L:=L) h1.bH
def mG {w0:Wd} {S:NP} {rs:List HP} {put:HP->List HP} {L:List Held} (H:Mw.Sep w0 S rs w) (hat:At rs (nU L) put):gL w (aO L) (L.map (·.2)):=by
 obtain⟨F,hp,_,_⟩:=H.focus hat;exact yG hp
def abE {L:List Held} {a:Nat} {b:Held} (h:gL w (aO L) (L.map (·.2))) (hb:L[a]? =some b):aJ w b.1 ah 3 b.2.row:=
 h.2 a (b.1,b.2.w) b.2 (by unfold aO;rw[zbz,hb];rfl) (by rw[zbz,hb];rfl)
section
variable {w:Wd}
theorem Bz {l:List aH} (hl:dI w v l) (hn:l.length<=1000) (hf: ∀o∈l,fits o.w) (oP: ∀o∈l,o.row.length<=1000):
    aR Tryz.prog 39 [v] w λu w'=>∃x:Value×List Held,u=.tuple #[x.1,I (dh l).2]/\x.2.map (·.2)=(dh l).1/\Turn noB (dV x.1 x.2) w w':=by
  have Gx:=hl;obtain⟨r,hr,eF⟩:=hl;obtain⟨A,m,rfl,⟨hm,om⟩,hA⟩:=hr;have zi:=eF.len;have H:=Sep.aF w;refine cK Tryz.func39 ?_;refine Zb4 ?_;refine aI (λx:(OA×Nat)×List Held×Nat=>[(0,.slice A r.length m),(4,.slice x.1.1 (aO x.2.1).length x.1.2),(5,I x.2.2)]) (λx w'=>(x.2.2<=r.length/\x.2.1.map (·.2)=Ak l (lS (l.take x.2.2))/\∀k∈lS (l.take x.2.2),aW (wtL l k)=true)/\Mw.Sep w noB [aY 39 2 aA (.slice x.1.1 (aO x.2.1).length x.1.2) (aO x.2.1),nU x.2.1] w') (λx _=>r.length-x.2.2) ((none,0),[],0) tR ⟨⟨zak _,rfl,λk hk=>zar hk zan⟩,Sep.fT (bD H) 39 2⟩ (λx τ w6 hI=>?_);obtain⟨⟨R,cR⟩,L,i⟩:=x;obtain⟨⟨hi,hL,hfk⟩,H6⟩:=hI;dsimp only at hi hL hfk H6;obtain⟨ks,RI⟩: ∃ks,ks=lS (l.take i):=⟨_,rfl⟩;have hLr:(aO L).length=L.length:=zaf _
  have hLk:L.length=ks.length:=by
    have h1:=zaw List.length hL;rw[zaf,ade,<-RI]at h1;exact h1
  have hLb:L.length<=1000:=by
    have h1:=Jl (l.take i);rw[<-RI,zah]at h1;omega
  have hkb: ∀{a:Nat} {b:Held},L[a]? =some b->ks[a]? =some b.2.row:=λ{a b} hb=>by
    have h1:(L.map (·.2))[a]? =some b.2:=by rw[zbz,hb];rfl
    rw[hL]at h1;rw[RI];exact(af5 h1).1
  have Yq: ∀{a:Nat} {b:Held},L[a]? =some b->(aO L)[a]? =some (b.1,b.2.w):=λ{a b} hb=>by unfold aO;rw[zbz,hb];rfl
  refine Lp ?_;refine Cz (λIe=>?_) (λIe=>?_)
  . have aS:i<r.length:=oM
    obtain⟨o,ho⟩:=get_some (l:=l) (show i<l.length from oM);have hom:=zag ho;obtain⟨vo,zh,Dp⟩:=eF.get ho;have Px:lS (l.take (i+1))=yh o.row ks:=by rw[zay,ho,RI];exact Zf _ _
    refine Za1 ?_;refine Qn (dD (λa:Nat=>[(0,.slice A r.length m),(4,.slice R (aO L).length cR),(5,I i),(6,I a)]) (λa w'=>(a<=L.length/\(∀(j:Nat) k,j<a->ks[j]? =some k->jC k o.row<0)/\∀k,ks[a]? =some k->¬jC k o.row<0)/\Mw.Sep w noB [aY 39 2 aA (.slice R (aO L).length cR) (aO L),nU L] w') ?_ ?_)
    . refine Zb0 ?_
      refine aI (λa:Nat=>[(0,.slice A r.length m),(4,.slice R (aO L).length cR),(5,I i),(6,I a)]) (λa w'=>(a<=L.length/\∀(j:Nat) k,j<a->ks[j]? =some k->jC k o.row<0)/\Mw.Sep w noB [aY 39 2 aA (.slice R (aO L).length cR) (aO L),nU L] w') (λa _=>L.length-a) 0 tR ⟨⟨zak _,λj k hj=>zar hj (zdv _)⟩,H6⟩ (λa τ wa hJ=>?_);obtain⟨⟨ha,sZ⟩,Ha⟩:=hJ;refine Lp ?_;refine Dz (λSa wb Hb=>?_);refine Zb5 ?_;refine fM (t:=22) rfl (λSb=>?_) (λSb=>?_)
      . have U1:a<L.length:=oM
        obtain⟨b,hb⟩:=get_some U1;refine Gm Sa 5 ?_;refine Zb1 ?_;refine GS (Gn rfl (λ_=>Gives.fF (l:=aO L) (enc:=aA) rfl rfl (eX Hb At0) oM) ?_);refine GS (Gn rfl (λ_=>Gives.UC rfl (eX Hb At0) oM) ?_);refine GS (Gt rfl (Gives.Om (i:=a) (f:=0) rfl (eX Hb At0) (Yq hb) rfl) ?_);refine Zb2 ?_;refine GS (Gn rfl (λ_=>Gives.fF rfl rfl hA aS) ?_);refine Zb1 ?_;refine GS (Gt rfl (Gives.dz (f:=0) rfl Hb hA zh rfl) ?_);refine dB Sa 15 _ Hb (Ki (abE (mG Hb At1) hb) (Dp.keep Hb.kept)) (h:=λwc Hc ka=>⟨sT,?_⟩);refine Za2 ?_;refine fK Sa kR ?_;refine Cz (λIf=>?_) (λIf=>?_)
        . refine Zb1 ?_
          refine Vc ((a+1:Nat):Int) ?_;refine Zb1 ?_;exact aj (a+1) tR ⟨⟨oM,λj k hj hk=>by
          by_cases e:j=a
          . subst e;rw[hkb hb]at hk;injection hk with hk;rw[<-hk];omega
          exact sZ j k oM hk⟩,Hc⟩ oM
        refine Zb0 ?_;exact au a tR ⟨⟨ha,sZ,by first | exact λk hk=>zar (fO hk) oM | exact λk hk=>by(rw[hkb hb]at hk;injection hk with hk;rw[<-hk];omega)⟩,Hc⟩
      refine Zb1 ?_;exact au a tR ⟨⟨ha,sZ,by first | exact λk hk=>zar (fO hk) oM | exact λk hk=>by(rw[hkb hb]at hk;injection hk with hk;rw[<-hk];omega)⟩,Hb⟩
    rintro a τ wd ⟨⟨ha,sZ,hx6⟩,Hd⟩;refine Lp ?_;refine Dz (λSc we He=>?_);refine Zb5 ?_;refine fM (t:=42) rfl (λSd=>?_) (λSd=>?_)
    . have U1:a<L.length:=oM
      obtain⟨b,hb⟩:=get_some U1;refine Gm Sc 5 ?_;refine Zb1 ?_;refine GS (Gn rfl (λ_=>Gives.fF (l:=aO L) (enc:=aA) rfl rfl (eX He At0) oM) ?_);refine GS (Gn rfl (λ_=>Gives.UC rfl (eX He At0) oM) ?_);refine GS (Gt rfl (Gives.Om (i:=a) (f:=0) rfl (eX He At0) (Yq hb) rfl) ?_);refine Zb2 ?_;refine GS (Gn rfl (λ_=>Gives.fF rfl rfl hA aS) ?_);refine Zb1 ?_;refine GS (Gt rfl (Gives.dz (f:=0) rfl He hA zh rfl) ?_);refine dB Sc 15 _ He (um (abE (mG He At1) hb) (Dp.keep He.kept)) (h:=λwf Hf kb=>⟨sT,?_⟩);refine Za1 ?_;refine fK Sc kR ?_;refine Cz (λIg=>?_) (λIg=>?_)
      . have Lv:yh o.row ks=ks:=V9 (by rw[RI];exact mh _) (by have h:=zag (hkb hb);rw[Ig]at h;exact h)
        refine Zb1 ?_;refine Vc ((i+1:Nat):Int) ?_;refine Zb1 ?_
        first
        | exact aj ((N3,c3),L2,i+1) tR ⟨⟨dO,hL2,akr⟩,Aj⟩ dO
        | exact aj ((R,cR),L,i+1) tR ⟨⟨dO,by dsimp only;rw[Px,Lv,RI];exact hL,λk hk=>hfk k (by dsimp only at hk;rw[Px,Lv,RI]at hk;exact hk)⟩,Hf⟩ dO
      refine Zb6 ?_
      have amT: ∀k,ks[a]? =some k->k≠o.row:=by
        first
        | exact λk hk=>zar (fO hk) oM
        | exact λk hk e=>by(rw[hkb hb]at hk;injection hk with hk;rw[<-hk]at e;contradiction)
      have amU:yh o.row ks=ks.take a++o.row::ks.drop a:=Tn sZ oM λk hk=>fP.gt (hx6 k hk) (amT k hk);refine Kz (QO (Gx.keep Hf.kept) (Dp.keep Hf.kept) hn hf) (λwg Hg kc=>?_);obtain⟨n,tu⟩: ∃n,n=(if aW (wtL l o.row)=true then wtL l o.row else 0):=⟨_,rfl⟩;obtain⟨er,her⟩: ∃n:Int,n=(if aW (wtL l o.row)=true then 0 else 50):=⟨_,rfl⟩;rw[<-tu,<-her];refine Cz (λIh=>?_) (λIh=>?_)
      . have KF: ¬aW (wtL l o.row)=true:=λh=>Ih (by rw[her,zac h])
        have jN:=MO KF;have ail:er=50:=by rw[her,zab KF]
        refine Zb3 ?_;exact⟨(.slice none 0 0,[]),by rw[jN,ail];rfl,by rw[jN];rfl,(Sep.fT (bD Hg) 39 2).aQ.first.turn⟩
      have KF:aW (wtL l o.row)=true:=Decidable.of_not_not λh=>by
        have h1:=Ih;rw[her,zab h]at h1;exact h1 dC
      have Lm:n=wtL l o.row:=by rw[tu,zac KF]
      have Yr: ∀u∈(aO L).flatMap aA,u.oneCell'=true:=rM (mG Hg At1)
      have hcR:(aO L).length<=cR:=by
        obtain⟨_,_,he,rG,_⟩:=Sep.bJ Hg At0;injection he with e1 e2 e3
        rw[e3];exact rG
      have Yx:((aO L).take a).length=a:=by rw[zah];omega
      have htd:((aO L).drop a).length=(aO L).length-a:=zbo;refine Dz (λSe wh Hh=>?_);refine Zb3 ?_;refine FGp Se 3 (v:=.slice R ((aO L).take a).length cR) rfl rfl (λ_=>by rw[Yx];exact Gives.sliceTo rfl rfl oM) kR ?_;refine Gm Se 5 ?_;refine Zb1 ?_;refine GS (Gn rfl (λ_=>Gives.fF rfl rfl hA aS) ?_);refine Zb1 ?_;refine GS (Gt rfl (Gives.dz (f:=0) rfl Hh hA zh rfl) ?_);refine Gm Se 11 ?_;refine Gm Se 15 ?_;refine Zb1 ?_;refine FGp Se 17 (v:=.slice (if cR=a then R else R.map (·.add (a*2))) ((aO L).drop a).length (cR-a)) rfl rfl (λ_=>by rw[htd];exact Gives.sliceFrom rfl rfl oM) kR ?_;have Hi:=Sep.iW Hh 39 2 aA;refine yZ Se 4 [(17,true),(16,true),(15,true),(11,true),(9,false),(8,true),(7,true),(6,true),(5,true)] Hi (news:=(aO L).take a) At0 ((eX (A:=R) (l:=aO L) (c:=cR) Hi (by first | exact At1 | exact At2 | exact At3)).cut a) (by unfold maxLen;simp only[zcb];omega) (by simp only[zcb];omega) (λu hu=>Yr u (by obtain⟨q,hq,hu⟩:=zca.1 hu;exact zca.2 ⟨q,zcg hq,hu⟩)) (h:=λv4 wi Hi=>?_);rw[zbu]at Hi;obtain⟨N1,c1,rfl,_,_⟩:=Sep.bJ Hi At0;refine⟨av (av (av (av ((bK rfl kR (Gives.dz (f:=0) rfl Hi hA zh rfl) rfl (av (av (av (av (eu)))))))))),?_⟩;refine dY Se 10 _ Hi (mF (Dp.keep Hi.kept) (oP o hom)) (h:=λy wj _ Hj kd=>?_);obtain⟨Y,cy,rfl,_,_⟩:=Sep.bJ Hj At0;refine⟨sT,?_⟩;refine Gb Se 12 (aA (.slice Y o.row.length cy,n)) ?_;refine Gz Se 13 _ Hj ([(Value.slice Y o.row.length cy,n)].flatMap aA) (h:=λbs wk Hk=>⟨sT,?_⟩)
      have hB:=(show Mw.Sep w noB (blk bs ([(Value.slice Y o.row.length cy,n)].flatMap aA) 39::aY 39 2 aA (.slice N1 ((aO L).take a).length c1) ((aO L).take a)::aY 41 3 ah (.slice Y o.row.length cy) o.row::aY 39 2 aA (.slice R (aO L).length cR) (aO L)::nU L::[]) _ by first | exact Hk | exact Hk.aN.aG | exact Hk.aG);refine gF Se 14 _ hB (news:=[(Value.slice Y o.row.length cy,n)]) At0 (by unfold maxLen;simp only[zae];omega) (by simp only[zae];omega) (λu hu=>zaz.1 (show([(Value.slice Y o.row.length cy,n)].flatMap aA).all Value.oneCell'=true from rfl) u hu) (h:=λv5 wl Hl=>?_);obtain⟨N2,c2,rfl,_,_⟩:=Sep.bJ Hl At0;refine⟨sT,?_⟩;have aio:((aO L).take a++[(Value.slice Y o.row.length cy,n)]).length=a+1:=by rw[zad,Yx];rfl
      refine yZ Se 18 _ Hl (news:=(aO L).drop a) At0 (TK (eX (A:=R) (l:=aO L) (c:=cR) Hl At2) oM hcR) (by unfold maxLen;omega) oM (λu hu=>Yr u (by obtain⟨q,hq,hu⟩:=zca.1 hu;exact zca.2 ⟨q,zed hq,hu⟩)) (h:=λv6 wm Hm=>?_);obtain⟨N3,c3,rfl,_,_⟩:=Sep.bJ Hm At0;have Aj:=(Bw (a:=a) (y:=.slice Y o.row.length cy) (o:=⟨o.row,n⟩) ha (Hm.aN.bH.aG.aN.aG)).aG
      have Cj:(aO L).take a++[(Value.slice Y o.row.length cy,n)]++(aO L).drop a=aO (L.take a++(Value.slice Y o.row.length cy,(⟨o.row,n⟩:aH))::L.drop a):=by
        unfold aO;rw[zai,zav,zfe,zff,zbm];rfl
      have hL2:(L.take a++(Value.slice Y o.row.length cy,(⟨o.row,n⟩:aH))::L.drop a).map (·.2)=Ak l (lS (l.take (i+1))):=by
        rw[Px,amU,zai,zav,zfe,zff,hL,<-RI];unfold Ak;rw[zai,zav,zfe,zff,Lm]
      have akr: ∀k∈lS (l.take (i+1)),aW (wtL l k)=true:=λk hk=>by
        rw[Px]at hk
        rcases zm.1 hk with e | e
        . rw[e];exact KF
        exact hfk k (by rw[<-RI];exact e)
      rw[Cj]at Aj |-
      generalize L.take a++(Value.slice Y o.row.length cy,(⟨o.row,n⟩:aH))::L.drop a=L2 at Aj hL2 |-
      refine⟨sT,?_⟩;refine sH Se 19 _ (h:=⟨sT,?_⟩);refine Zb1 ?_;refine Vc ((i+1:Nat):Int) ?_;refine Zb1 ?_
      first
      | exact aj ((N3,c3),L2,i+1) tR ⟨⟨dO,hL2,akr⟩,Aj⟩ dO
      | exact aj ((R,cR),L,i+1) tR ⟨⟨dO,by dsimp only;rw[Px,Lv,RI];exact hL,λk hk=>hfk k (by dsimp only at hk;rw[Px,Lv,RI]at hk;exact hk)⟩,Hm⟩ dO
    refine Zb7 ?_
    have amT: ∀k,ks[a]? =some k->k≠o.row:=by
      first
      | exact λk hk=>zar (fO hk) oM
      | exact λk hk e=>by(rw[hkb hb]at hk;injection hk with hk;rw[<-hk]at e;contradiction)
    have amU:yh o.row ks=ks.take a++o.row::ks.drop a:=Tn sZ oM λk hk=>fP.gt (hx6 k hk) (amT k hk);refine Kz (QO (Gx.keep He.kept) (Dp.keep He.kept) hn hf) (λwn Hn ke=>?_);obtain⟨n,tu⟩: ∃n,n=(if aW (wtL l o.row)=true then wtL l o.row else 0):=⟨_,rfl⟩;obtain⟨er,her⟩: ∃n:Int,n=(if aW (wtL l o.row)=true then 0 else 50):=⟨_,rfl⟩;rw[<-tu,<-her];refine Cz (λIi=>?_) (λIi=>?_)
    . have KF: ¬aW (wtL l o.row)=true:=λh=>Ii (by rw[her,zac h])
      have jN:=MO KF;have ail:er=50:=by rw[her,zab KF]
      refine Zb3 ?_;exact⟨(.slice none 0 0,[]),by rw[jN,ail];rfl,by rw[jN];rfl,(Sep.fT (bD Hn) 39 2).aQ.first.turn⟩
    have KF:aW (wtL l o.row)=true:=Decidable.of_not_not λh=>by
      have h1:=Ii;rw[her,zab h]at h1;exact h1 dC
    have Lm:n=wtL l o.row:=by rw[tu,zac KF]
    have Yr: ∀u∈(aO L).flatMap aA,u.oneCell'=true:=rM (mG Hn At1)
    have hcR:(aO L).length<=cR:=by
      obtain⟨_,_,he,rG,_⟩:=Sep.bJ Hn At0;injection he with e1 e2 e3
      rw[e3];exact rG
    have Yx:((aO L).take a).length=a:=by rw[zah];omega
    have htd:((aO L).drop a).length=(aO L).length-a:=zbo;refine Dz (λSf wo Ho=>?_);refine Zb3 ?_;refine FGp Sf 3 (v:=.slice R ((aO L).take a).length cR) rfl rfl (λ_=>by rw[Yx];exact Gives.sliceTo rfl rfl oM) kR ?_;refine Gm Sf 5 ?_;refine Zb1 ?_;refine GS (Gn rfl (λ_=>Gives.fF rfl rfl hA aS) ?_);refine Zb1 ?_;refine GS (Gt rfl (Gives.dz (f:=0) rfl Ho hA zh rfl) ?_);refine Gm Sf 11 ?_;refine Gm Sf 15 ?_;refine Zb1 ?_;refine FGp Sf 17 (v:=.slice (if cR=a then R else R.map (·.add (a*2))) ((aO L).drop a).length (cR-a)) rfl rfl (λ_=>by rw[htd];exact Gives.sliceFrom rfl rfl oM) kR ?_;have Hp:=Sep.iW Ho 39 2 aA;refine yZ Sf 4 [(17,true),(16,true),(15,true),(11,true),(9,false),(8,true),(7,true),(6,true),(5,true)] Hp (news:=(aO L).take a) At0 ((eX (A:=R) (l:=aO L) (c:=cR) Hp (by first | exact At1 | exact At2 | exact At3)).cut a) (by unfold maxLen;simp only[zcb];omega) (by simp only[zcb];omega) (λu hu=>Yr u (by obtain⟨q,hq,hu⟩:=zca.1 hu;exact zca.2 ⟨q,zcg hq,hu⟩)) (h:=λv4 wp Hp=>?_);rw[zbu]at Hp;obtain⟨N1,c1,rfl,_,_⟩:=Sep.bJ Hp At0;refine⟨av (av (av (av ((bK rfl kR (Gives.dz (f:=0) rfl Hp hA zh rfl) rfl (av (av (av (av (eu)))))))))),?_⟩;refine dY Sf 10 _ Hp (mF (Dp.keep Hp.kept) (oP o hom)) (h:=λy wq _ Hq kf=>?_);obtain⟨Y,cy,rfl,_,_⟩:=Sep.bJ Hq At0;refine⟨sT,?_⟩;refine Gb Sf 12 (aA (.slice Y o.row.length cy,n)) ?_;refine Gz Sf 13 _ Hq ([(Value.slice Y o.row.length cy,n)].flatMap aA) (h:=λbs wr Hr=>⟨sT,?_⟩)
    have hB:=(show Mw.Sep w noB (blk bs ([(Value.slice Y o.row.length cy,n)].flatMap aA) 39::aY 39 2 aA (.slice N1 ((aO L).take a).length c1) ((aO L).take a)::aY 41 3 ah (.slice Y o.row.length cy) o.row::aY 39 2 aA (.slice R (aO L).length cR) (aO L)::nU L::[]) _ by first | exact Hr | exact Hr.aN.aG | exact Hr.aG);refine gF Sf 14 _ hB (news:=[(Value.slice Y o.row.length cy,n)]) At0 (by unfold maxLen;simp only[zae];omega) (by simp only[zae];omega) (λu hu=>zaz.1 (show([(Value.slice Y o.row.length cy,n)].flatMap aA).all Value.oneCell'=true from rfl) u hu) (h:=λv5 ws Hs=>?_);obtain⟨N2,c2,rfl,_,_⟩:=Sep.bJ Hs At0;refine⟨sT,?_⟩;have aio:((aO L).take a++[(Value.slice Y o.row.length cy,n)]).length=a+1:=by rw[zad,Yx];rfl
    refine yZ Sf 18 _ Hs (news:=(aO L).drop a) At0 (TK (eX (A:=R) (l:=aO L) (c:=cR) Hs At2) oM hcR) (by unfold maxLen;omega) oM (λu hu=>Yr u (by obtain⟨q,hq,hu⟩:=zca.1 hu;exact zca.2 ⟨q,zed hq,hu⟩)) (h:=λv6 wt Ht=>?_);obtain⟨N3,c3,rfl,_,_⟩:=Sep.bJ Ht At0;have Aj:=(Bw (a:=a) (y:=.slice Y o.row.length cy) (o:=⟨o.row,n⟩) ha (Ht.aN.bH.aG.aN.aG)).aG
    have Cj:(aO L).take a++[(Value.slice Y o.row.length cy,n)]++(aO L).drop a=aO (L.take a++(Value.slice Y o.row.length cy,(⟨o.row,n⟩:aH))::L.drop a):=by
      unfold aO;rw[zai,zav,zfe,zff,zbm];rfl
    have hL2:(L.take a++(Value.slice Y o.row.length cy,(⟨o.row,n⟩:aH))::L.drop a).map (·.2)=Ak l (lS (l.take (i+1))):=by
      rw[Px,amU,zai,zav,zfe,zff,hL,<-RI];unfold Ak;rw[zai,zav,zfe,zff,Lm]
    have akr: ∀k∈lS (l.take (i+1)),aW (wtL l k)=true:=λk hk=>by
      rw[Px]at hk
      rcases zm.1 hk with e | e
      . rw[e];exact KF
      exact hfk k (by rw[<-RI];exact e)
    rw[Cj]at Aj |-
    generalize L.take a++(Value.slice Y o.row.length cy,(⟨o.row,n⟩:aH))::L.drop a=L2 at Aj hL2 |-
    refine⟨sT,?_⟩;refine sH Sf 19 _ (h:=⟨sT,?_⟩);refine Zb1 ?_;refine Vc ((i+1:Nat):Int) ?_;refine Zb1 ?_
    first
    | exact aj ((N3,c3),L2,i+1) tR ⟨⟨dO,hL2,akr⟩,Aj⟩ dO
    | exact aj ((R,cR),L,i+1) tR ⟨⟨dO,by dsimp only;rw[Px,Lv,RI];exact hL,λk hk=>hfk k (by dsimp only at hk;rw[Px,Lv,RI]at hk;exact hk)⟩,Ht⟩ dO
  have jF:l.take i=l:=zaj oM;rw[jF]at hL hfk;have Ck:=Zg hfk;refine Zb2 ?_;refine aI (λx:(OA×Nat)×Nat=>[(4,.slice R (aO L).length cR),(10,.slice x.1.1 (aO ((L.take x.2).filter nzH)).length x.1.2),(11,I x.2)]) (λx w'=>x.2<=L.length/\Mw.Sep w noB [aY 39 2 aA (.slice x.1.1 (aO ((L.take x.2).filter nzH)).length x.1.2) (aO ((L.take x.2).filter nzH)),aY 39 2 aA (.slice R (aO L).length cR) (aO L),nU L] w') (λx _=>L.length-x.2) ((none,0),0) tR ⟨zak _,Sep.iW H6 39 2 aA⟩ (λx τ wu hI=>?_);obtain⟨⟨Q,cQ⟩,j⟩:=x;obtain⟨hj,Hu⟩:=hI;dsimp only at hj Hu;refine Lp ?_;refine Cz (λIj=>?_) (λIj=>?_)
  . have RN:j<L.length:=oM
    obtain⟨b,hb⟩:=get_some RN
    have hfs:(L.take (j+1)).filter nzH=(L.take j).filter nzH++(if b.2.w≠0 then [b]else []):=by
      rw[zay,hb,zfr]
      congr 1
      by_cases h2:b.2.w≠0
      . rw[zac h2];simp[nzH,h2]
      rw[zab h2];simp[nzH,h2]
    have Ll:(aO ((L.take j).filter nzH)).length<=1000:=by
      unfold aO;rw[zaf];have h1:=zfs nzH (L.take j);rw[zah]at h1;omega
    refine Zb2 ?_;refine Vv (Gives.fF (l:=aO L) (enc:=aA) rfl rfl (eX Hu At1) oM) (Vv (Gives.UC rfl (eX Hu At1) oM) ?_);refine Vv (Gives.Om (i:=j) (f:=1) rfl (eX Hu At1) (Yq hb) rfl) (Vn ?_);refine Cz (λIk=>?_) (λIk=>?_)
    . rw[zac Ik]at hfs
      refine Zb3 ?_;refine Vv (Gives.fF (l:=aO L) (enc:=aA) rfl rfl (eX Hu At1) oM) (Vv (Gives.oW (i:=j) rfl (eX Hu At1) (Yq hb)) ?_);refine Bs Hu ([(b.1,b.2.w)].flatMap aA) (λbs wv Hv kg=>?_);have aoX: ∀u∈[(b.1,b.2.w)].flatMap aA,u.oneCell'=true:=λu hu=>rM (mG Hv At3) u (zca.2 ⟨(b.1,b.2.w),zag (Yq hb),by simpa using hu⟩);refine dG Hv (news:=[(b.1,b.2.w)]) At0 (by unfold maxLen;simp only[zae];omega) (by simp only[zae];omega) aoX (h:=?_);intro v9 ww Hw
      have Cj:aO ((L.take j).filter nzH)++[(b.1,b.2.w)]=aO ((L.take (j+1)).filter nzH):=by
        rw[hfs];unfold aO;rw[zai];rfl
      rw[Cj]at Hw;obtain⟨Q2,cQ2,rfl,_,_⟩:=Sep.bJ Hw At0;refine Zb2 ?_;refine Vc ((j+1:Nat):Int) ?_;refine Zb1 ?_;exact aj ((Q2,cQ2),j+1) tR ⟨dO,Hw⟩ dO
    rw[zab Ik,zbw]at hfs;refine Zb1 ?_;refine Vc ((j+1:Nat):Int) ?_;refine Zb1 ?_;exact aj ((Q,cQ),j+1) ⟨rfl,by dsimp only;rw[hfs];rfl,rfl,trivial⟩ ⟨dO,by dsimp only;rw[hfs];exact Hu⟩ dO
  have ak6:L.take j=L:=zaj oM;refine Zb3 ?_;have h1:=(zR nzH Hu.aN).aG.aQ.first;rw[ak6]at h1
  have hfm:(L.filter nzH).map (·.2)=(Ak l (lS l)).filter λx=>decide (x.w≠0):=by
    rw[<-hL,List.filter_map];rfl
  exact⟨(.slice Q (aO (L.filter nzH)).length cQ,L.filter nzH),by rw[ak6,Ck];rfl,by rw[Ck];exact hfm,h1.turn⟩
def ajp {a b:List aH} {va vb:Value} (ha:dI w va a) (hb:dI w vb b) (U1:a.length<=500) (hbl:b.length<=500) (haf: ∀o∈a,fits o.w) (hbf: ∀o∈b,fits o.w) (har: ∀o∈a,o.row.length<=1000) (hbr: ∀o∈b,o.row.length<=1000):
    aR Tryz.prog 41 [va,vb] w λu w'=>∃x:Value×List Held,u=.tuple #[x.1,I (tX a b).2]/\x.2.map (·.2)=(tX a b).1/\Turn noB (dV x.1 x.2) w w':=by
  have H:=Sep.aF w;have ha0:=ha;have D6:=hb;obtain⟨r,hr,eF⟩:=ha;obtain⟨s,hs,PG⟩:=hb;obtain⟨A,c,rfl,⟨hc,hc'⟩,hA⟩:=hr;obtain⟨B,d,rfl,⟨hd,hd'⟩,hB⟩:=hs;have zi:=eF.len;have X9:=PG.len;refine bQ Tryz.func41 ?_;refine Kz (Jk (ha0.keep H.kept) oM) (λ_ k _=>?_);refine Sz (λS=>?_) (λS=>?_)
  . refine Zb3 ?_
    have hk: ¬(iw a=true/\iw b=true):=λh=>by
      have h1:=h.1;have h2:=h.2;simp[h1,h2]at *
    exact⟨(.slice none 0 0,[]),by unfold tX;rw[zab hk];rfl,by unfold tX;rw[zab hk];rfl,(Sep.fT (bD k) 39 2).aQ.first.turn⟩
  refine Kz (Jk (D6.keep k.kept) oM) (λ_ S _=>?_);refine Cz (λk=>?_) (λk=>?_)
  . refine Zb2 ?_
    have hk: ¬(iw a=true/\iw b=true):=λh=>by
      have h1:=h.1;have h2:=h.2;simp[h1,h2]at *
    exact⟨(.slice none 0 0,[]),by unfold tX;rw[zab hk];rfl,by unfold tX;rw[zab hk];rfl,(Sep.fT (bD S) 39 2).aQ.first.turn⟩
  refine Zb3 ?_;have k:=Sep.iW S 39 2 aA;refine mU k (news:=r) At0 (hA.keep S.kept) (by unfold maxLen;simp only[zcb];omega) (by simp only[zcb];omega) (rM eF) (h:=?_);intro v4 S k;rw[zbu]at k;obtain⟨N1,c1,rfl,_,_⟩:=Sep.bJ k At0;refine Mv ?_;refine mU k (news:=s) At0 (hB.keep k.kept) (by unfold maxLen;omega) oM (rM PG) (h:=?_);intro v5 S S;obtain⟨N2,c2,rfl,_,_⟩:=Sep.bJ S At0;refine Nz (Bz (l:=a++b) ⟨r++s,jG S At0,(eF.app PG).keep S.kept⟩ (by rw[zad];omega) (λo ho=>(zbk.1 ho).elim (haf o) (hbf o)) (λo ho=>(zbk.1 ho).elim (har o) (hbr o))) (λz _ hz S _=>?_);refine Zb4 ?_
  have hk:iw a=true/\iw b=true:=by
    refine⟨Decidable.of_not_not λh=>?_,Decidable.of_not_not λh=>?_⟩
    . simp[h]at *
    simp[h]at *
  exact⟨z,by unfold tX;rw[zac hk];rfl,by unfold tX;rw[zac hk];exact hz,S.first.turn⟩
end
def abF {n:Int} (h: -9223372036854775808<=n/\n<=9223372036854775807):(itoa n).length<=20:=BS h.1 h.2
def QT {k:List aC} (h:gH k):(eH k).length<=k.length*1000100:=by
 induction k with
 | nil=>exact zbj _
 | cons c k ih=>
  have h1:=ih λd hd=>h d (zat _ hd);have h2:=PW c (h c zao);show(yu c++eH k).length<=_
  rw[zad,zas];omega
def ZM {k:List aC} {i:Nat} {c:aC} (h:k[i]? =some c):eH (k.take (i+1))=eH (k.take i)++yu c:=by
 unfold eH;rw[zay,h,zbt];simp
section
variable {w:Wd}
def abG {k:List aC} (hk:aJ w v ah 3 k) (hn:k.length<=64) (Dw:gH k) (hT:iB w):Rk Tryz.prog 373 [v] w (str (eH k)):=by
 obtain⟨A,m,rfl,⟨hm,om⟩,hA⟩:=hk;have H:=Sep.aF w;refine cK Tryz.func373 ?_;refine Az (λb3 _ S _=>?_);have S:=Sep.aiT S;refine Zb3 ?_;refine aI (λi:Nat=>[(0,.slice A k.length m),(3,ay b3),(6,.slice A k.length m),(7,I k.length),(8,I i)]) (λi w'=>i<=k.length/\Mw.Sep w noB [vQ b3 (eH (k.take i))] w') (λi _=>k.length-i) 0 tR ⟨zak _,S⟩ (λi τ _ hI=>?_);obtain⟨hi,S⟩:=hI;refine Lp ?_;refine Cz (λa=>?_) (λa=>?_)
 .have aS:i<k.length:=oM
  obtain⟨c,hc⟩:=get_some aS;have hcf:=Dw c (zag hc);have OT:=ZM hc;have hl1:=QT (k:=k.take i) λd hd=>Dw d (zcg hd);have hl2:=PW c hcf;have hl3:=abF hcf.1;have hl4:=abF (n:=(c.s.length:Int)) ⟨oM,oM⟩;rw[zah,zdc hi]at hl1;have hbl:(DC c.null).length<=5:=by unfold DC;split<;>decide
  refine Az (λb5 _ _ _=>?_);refine Tz (λ_ _=>?_);refine Dz (λa _ b=>?_);refine Zb2 ?_;refine Gp a 4 rfl rfl (λ_=>(Gives.xL rfl)) (Zb1 ?_);refine Gp a 9 rfl rfl (λ_=>(Gives.xL rfl)) (Zb2 ?_);refine Gp a 15 rfl rfl (λ_=>(Gives.xL rfl)) (Zb1 ?_);refine dB (v:=str (DC c.null)) a 2 [(16,false),(15,true),(11,true),(10,false),(9,true),(5,false),(4,true)] b (aR.mono (DI c.null) λu w' h=>⟨h.1,h.2▸Kept.refl _ _⟩) (h:=λ_ b _=>⟨sL,?_⟩);refine GS (Gn rfl (λ_=>(Gives.XG rfl rfl (by simp only[zad,zas,zcb];omega))) ?_);refine dB a 6 [(3,true),(16,false),(15,true),(11,true),(10,false),(9,true)] b (zB c.n hcf.1 (hT.keep b.kept)) (h:=λ_ b _=>⟨sL,?_⟩);refine GS (Gn rfl (λ_=>(Gives.XG rfl rfl (by simp only[zad,zas,zcb];omega))) ?_);refine GS (Gn rfl (λ_=>(Gives.XG rfl rfl (by simp only[zad,zas,zcb];omega))) ?_);refine dB a 12 [(8,true),(7,true),(3,true),(16,false),(15,true)] b (Tw (c.s.length:Int) (by unfold fits;omega) (hT.keep b.kept)) (h:=λ_ b _=>⟨sL,?_⟩);refine GS (Gn rfl (λ_=>(Gives.XG rfl rfl (by simp only[zad,zas,zcb];omega))) ?_);refine GS (Gn rfl (λ_=>(Gives.XG rfl rfl (by simp only[zad,zas,zcb];omega))) ?_);refine Gp a 17 rfl rfl (λ_=>(Gives.XG rfl rfl (by simp only[zad,zas,zcb];omega))) ?_;have e:DC c.null++[32]++itoa c.n++[32]++itoa (c.s.length:Int)++[32]++c.s=yu c:=by unfold yu;simp
  rw[e];obtain⟨F0,eD,gV,aK⟩:=b.focus At1;refine qG a 18 [] rfl kR (sO (news:=yu c) eD oM) rfl kR kR (λv' _ hv=>?_);obtain⟨rfl,bZ,F1,p8,hs⟩:=hv;have b:=aK _ F1 _ bZ p8 hs;rw[<-OT]at b;refine⟨sT,?_⟩;refine Zb0 ?_;refine Vc ((i+1:Nat):Int) ?_;refine Zb1 ?_;exact aj (i+1) tR ⟨oM,b.bH⟩ oM
 have jF:i=k.length:=oM;rw[jF,zbr]at S;refine Zb0 ?_;have hl5:=QT Dw;obtain⟨F0,eD,gV,aK⟩:=S.focus At0;refine aL (CG eD oM) rfl rfl (λv' _ hv=>?_);obtain⟨rfl,bZ,F1,p8,hs⟩:=hv;have b:=aK _ F1 _ bZ p8 hs;refine Zb1 ?_;exact⟨rfl,b.kept⟩
end
abbrev vR:=Value×Value×bC
def qw (z:vR):LV:=[z.1,z.2.1,I z.2.2.w]
instance:je qw 3:=⟨λ_=>rfl⟩
def yM (w:Wd) (Z:List vR):Prop:=∀z∈Z,aJ w z.1 ah 3 z.2.2.key/\aJ w z.2.1 ah 3 z.2.2.vals
def yM.keep {w w':Wd} {Z:List vR} (h:yM w Z) (hk:Kept noB w w'):yM w' Z:=λz hz=>⟨(h z hz).1.keep hk,(h z hz).2.keep hk⟩
def oH (n:Int):LV:=[I n]
instance:je oH 1:=⟨λ_=>rfl⟩
def zS {α:Type} (w:Wd) (fv:Value) (enc:α->Value) (l:List α) (p:α->Bool):Prop:=
 ∃f fs cs,fv=.func (.func f) (List.toArray fs) (List.toArray cs)/\qm prog f/\∀x∈l,∀w',Kept noB w w'->aR prog f (fs++[enc x]++cs) w' λv w''=>v=.bool (p x)/\Kept noB w' w''
def zS.keep {α:Type} {w w':Wd} {enc:α->Value} {l:List α} {p:α->Bool} (h:zS w fv enc l p) (hk:Kept noB w w'):zS w' fv enc l p:=by
 obtain⟨f,fs,cs,h1,h2,h3⟩:=h;exact⟨f,fs,cs,h1,h2,λx hx w'' Oz=>h3 x hx w'' (hk.LZ Oz)⟩
section
variable {w:Wd}
def agL {l:List vR} {p:vR->Bool} (hl:aJ w v qw 3 l) (hp:zS w fv (λx=>agg (qw x)) l p):Rk prog 369 [v,fv] w (I (zq (l.findIdx? p))):=by
 obtain⟨A,m,rfl,⟨hm,om⟩,hA⟩:=hl;obtain⟨f,fs,cs,rfl,EG,qP⟩:=hp;have H:=Sep.aF w;refine bQ func369 ?_;refine Zb4 ?_;refine aI (λi:Nat=>[(0,.slice A l.length m),(1,.func (.func f) fs.toArray cs.toArray),(7,I l.length),(8,I i)]) (λi w'=>(i<=l.length/\∀(j:Nat) y,j<i->l[j]? =some y->p y=false)/\Sep w noB [] w') (λi _=>l.length-i) 0 tR ⟨⟨zak _,λj y hj=>oM⟩,H⟩ (λi τ w6 hI=>?_);obtain⟨⟨hi,sZ⟩,H6⟩:=hI;refine Lp ?_;refine Cz (λYw=>?_) (λYw=>?_)
 .have aS:i<l.length:=oM
  obtain⟨x,hx⟩:=get_some aS;refine Zb7 ?_;refine eP rfl (qP x (zag hx) _ H6.kept) rfl rfl (λv' wa hv=>?_);obtain⟨rfl,bZ⟩:=hv;have Ha:=H6.keep bZ;refine Qn (Cd rfl (λIe=>?_) (λIe=>?_))
  .have bT:l.findIdx? p=some i:=uf sZ hx Ie
   refine Zb2 ?_;exact⟨by rw[bT];rfl,Ha.kept⟩
  have Gr:=Ie;refine Zb0 ?_;refine Vc ((i+1:Nat):Int) ?_;refine Zb1 ?_;exact aj (i+1) tR ⟨⟨oM,λj y hj hy=>by
  by_cases e:j=i
  .subst e;rw[hx]at hy;injection hy with hy;rw[<-hy];exact zdo _▸Gr
  exact sZ j y oM hy⟩,Ha⟩ oM
 have jF:i=l.length:=oM;have bT:l.findIdx? p=none:=qO λj y hy=>sZ j y (by have:=fO hy;omega) hy;refine Zb1 ?_;exact⟨by rw[bT];rfl,H6.kept⟩
def WZ {l:List vR} {p:vR->Bool} (hl:aJ w v qw 3 l) (hp:zS w fv (λx=>agg (qw x)) l p):Rk prog 361 [v,fv] w (.bool (l.any p)):=by
 have H:=Sep.aF w;refine bQ func361 ?_;refine Kz (agL (hl.keep H.kept) (hp.keep H.kept)) (λ_ k _=>?_);refine Zb2 ?_;exact⟨by rw[<-Cx];rfl,k.kept⟩
def adR {l:List aC} {p:aC->Bool} (hl:aJ w v ah 3 l) (hp:zS w fv (λx=>agg (ah x)) l p):Rk prog 377 [v,fv] w (I (zq (l.findIdx? p))):=by
 obtain⟨A,m,rfl,⟨hm,om⟩,hA⟩:=hl;obtain⟨f,fs,cs,rfl,EG,qP⟩:=hp;have H:=Sep.aF w;refine bQ func377 ?_;refine Zb4 ?_;refine aI (λi:Nat=>[(0,.slice A l.length m),(1,.func (.func f) fs.toArray cs.toArray),(7,I l.length),(8,I i)]) (λi w'=>(i<=l.length/\∀(j:Nat) y,j<i->l[j]? =some y->p y=false)/\Sep w noB [] w') (λi _=>l.length-i) 0 tR ⟨⟨zak _,λj y hj=>oM⟩,H⟩ (λi τ w6 hI=>?_);obtain⟨⟨hi,sZ⟩,H6⟩:=hI;refine Lp ?_;refine Cz (λYw=>?_) (λYw=>?_)
 .have aS:i<l.length:=oM
  obtain⟨x,hx⟩:=get_some aS;refine Zb7 ?_;refine eP rfl (qP x (zag hx) _ H6.kept) rfl rfl (λv' wa hv=>?_);obtain⟨rfl,bZ⟩:=hv;have Ha:=H6.keep bZ;refine Qn (Cd rfl (λIe=>?_) (λIe=>?_))
  .have bT:l.findIdx? p=some i:=uf sZ hx Ie
   refine Zb2 ?_;exact⟨by rw[bT];rfl,Ha.kept⟩
  have Gr:=Ie;refine Zb0 ?_;refine Vc ((i+1:Nat):Int) ?_;refine Zb1 ?_;exact aj (i+1) tR ⟨⟨oM,λj y hj hy=>by
  by_cases e:j=i
  .subst e;rw[hx]at hy;injection hy with hy;rw[<-hy];exact zdo _▸Gr
  exact sZ j y oM hy⟩,Ha⟩ oM
 have jF:i=l.length:=oM;have bT:l.findIdx? p=none:=qO λj y hy=>sZ j y (by have:=fO hy;omega) hy;refine Zb1 ?_;exact⟨by rw[bT];rfl,H6.kept⟩
def TQ {l:List aC} {v fv:Value} {p:aC->Bool} (hl:aJ w v ah 3 l) (hp:zS w fv (λx=>agg (ah x)) l p):Rk prog 371 [v,fv] w (.bool (l.any p)):=by
 have H:=Sep.aF w;refine bQ func371 ?_;refine Kz (adR (hl.keep H.kept) (hp.keep H.kept)) (λ_ k _=>?_);refine Zb2 ?_;exact⟨by rw[<-Cx];rfl,k.kept⟩
def agM {l:List Int} {p:Int->Bool} (hl:aJ w v oH 1 l) (hp:zS w fv (λx=>I x) l p):Rk prog 375 [v,fv] w (I (zq (l.findIdx? p))):=by
 obtain⟨A,m,rfl,⟨hm,om⟩,hA⟩:=hl;obtain⟨f,fs,cs,rfl,EG,qP⟩:=hp;have H:=Sep.aF w;refine bQ func375 ?_;refine Zb4 ?_;refine aI (λi:Nat=>[(0,.slice A l.length m),(1,.func (.func f) fs.toArray cs.toArray),(7,I l.length),(8,I i)]) (λi w'=>(i<=l.length/\∀(j:Nat) y,j<i->l[j]? =some y->p y=false)/\Sep w noB [] w') (λi _=>l.length-i) 0 tR ⟨⟨zak _,λj y hj=>oM⟩,H⟩ (λi τ w6 hI=>?_);obtain⟨⟨hi,sZ⟩,H6⟩:=hI;refine Lp ?_;refine Cz (λYw=>?_) (λYw=>?_)
 .have aS:i<l.length:=oM
  obtain⟨x,hx⟩:=get_some aS;refine Zb7 ?_;refine eP rfl (qP x (zag hx) _ H6.kept) rfl rfl (λv' wa hv=>?_);obtain⟨rfl,bZ⟩:=hv;have Ha:=H6.keep bZ;refine Qn (Cd rfl (λIe=>?_) (λIe=>?_))
  .have bT:l.findIdx? p=some i:=uf sZ hx Ie
   refine Zb2 ?_;exact⟨by rw[bT];rfl,Ha.kept⟩
  have Gr:=Ie;refine Zb0 ?_;refine Vc ((i+1:Nat):Int) ?_;refine Zb1 ?_;exact aj (i+1) tR ⟨⟨oM,λj y hj hy=>by
  by_cases e:j=i
  .subst e;rw[hx]at hy;injection hy with hy;rw[<-hy];exact zdo _▸Gr
  exact sZ j y oM hy⟩,Ha⟩ oM
 have jF:i=l.length:=oM;have bT:l.findIdx? p=none:=qO λj y hy=>sZ j y (by have:=fO hy;omega) hy;refine Zb1 ?_;exact⟨by rw[bT];rfl,H6.kept⟩
def W9 {l:List Int} {v fv:Value} {p:Int->Bool} (hl:aJ w v oH 1 l) (hp:zS w fv (λx=>I x) l p):Rk prog 366 [v,fv] w (.bool (l.any p)):=by
 have H:=Sep.aF w;refine bQ func366 ?_;refine Kz (agM (hl.keep H.kept) (hp.keep H.kept)) (λ_ k _=>?_);refine Zb2 ?_;exact⟨by rw[<-Cx];rfl,k.kept⟩
def zT (c:aC):Bool:=decide (c.s≠[]\/(c.null=true/\c.n≠0))
def ajq (c:aC):Rk prog 370 [agg (ah c)] w (.bool (zT c)):=by
 have H:=Sep.aF w;refine cK func370 ?_;refine Sr (bB H (cs:=ah c) rfl (h:=λb1 _ k _=>?_));refine Sz (λS=>?_) (λS=>?_)
 .refine Zb2 ?_
  exact⟨by unfold zT;simp only[*,fG];simp[*],k.kept⟩
 refine Zb3 ?_;refine dH (t:=9) rfl (λS=>?_) (λS=>?_)
 .refine Zb6 ?_
  exact⟨by unfold zT;simp only[*,fG];simp[*],k.kept⟩
 refine Zb3 ?_;exact⟨by unfold zT;simp only[*,fG];simp[*],k.kept⟩
end
def Xa {keys:Nat} {x:bC}:qo keys sums x=(decide (x.key.length=keys/\x.vals.length=sums)&& !x.vals.any zT):=by
 unfold qo
 congr 1
 rw[List.not_any_eq_all_not]
 congr 1
 funext c
 unfold zT;rw[<-decide_not];exact zbf.2 (by simp[not_or])
def TR {ns:List Int} {n:Int} (h:ns[0]? =some n):ns.headD 0=n:=by
 cases ns with
 | nil=>cases h
 | cons a t=>injection h
section
variable {w:Wd}
def TS {k:List aC} {ns:List Int} {kv nv:Value} (wt:Int) (hk:aJ w kv ah 3 k) (hn:aJ w nv oH 1 ns) (hl:k.length<=400) (hl2:ns.length<=400):
    aR Tryz.prog 365 [agg [kv,nv],I wt] w λu w'=>∃x:Value×List Held,u=x.1/\x.2.map (·.2)=iE ns k wt/\Turn noB (dV x.1 x.2) w w':=by
  have y8:=hk;obtain⟨K,ck,rfl,⟨dX,amV⟩,hK⟩:=hk;obtain⟨N,cn,rfl,⟨LA,arU⟩,hN⟩:=hn;have H:=Sep.aF w;refine bQ Tryz.func365 ?_;refine Sr (bB H (cs:=[.slice K k.length ck,.slice N ns.length cn]) rfl (h:=λb2 _ S _=>?_));refine Sz (λa=>?_) (λa=>?_)
  . refine Zb2 ?_
    have h0:ns.headD 0=0:=by
      first
      | (have hz:ns.length=0:=oM
         rw[zbg hz];rfl)
      | (rw[TR za];omega)
    exact⟨(.slice none 0 0,[]),rfl,by unfold iE;rw[zac h0];rfl,(Sep.fT (bD S) 39 2).aQ.first.turn⟩
  refine Zb2 ?_;have Yj:0<ns.length:=oM;obtain⟨n0,za⟩:=get_some Yj;refine Vv (Gives.fF (i:=0) rfl rfl hN Yj) (On ?_);refine Vv (Gives.dz (i:=0) (f:=0) rfl S hN za rfl) (Cz (λa=>?_) (λa=>?_))
  . refine Zb1 ?_
    have h0:ns.headD 0=0:=by
      first
      | (have hz:ns.length=0:=oM
         rw[zbg hz];rfl)
      | (rw[TR za];omega)
    exact⟨(.slice none 0 0,[]),rfl,by unfold iE;rw[zac h0];rfl,(Sep.fT (bD S) 39 2).aQ.first.turn⟩
  refine Zb2 ?_;have iN: ¬ns.headD 0=0:=by rw[TR za];omega
  refine Nz (qg (y8.keep S.kept) oM) (λy _ _ a _=>?_);obtain⟨Y,cy,rfl,_,_⟩:=Sep.bJ a At0;refine Zb5 ?_;have e0:k++(ns.take 0).map dn=k:=sM;refine aI (λx:(OA×Nat)×Nat=>[(1,I wt),(5,.slice x.1.1 (k++(ns.take x.2).map dn).length x.1.2),(23,.slice N ns.length cn),(24,I ns.length),(25,I x.2)]) (λx w'=>x.2<=ns.length/\Mw.Sep w noB [aY 41 3 ah (.slice x.1.1 (k++(ns.take x.2).map dn).length x.1.2) (k++(ns.take x.2).map dn)] w') (λx _=>ns.length-x.2) ((Y,cy),0) ⟨rfl,by dsimp only;rw[e0];rfl,rfl,rfl,rfl,trivial⟩ ⟨zak _,by dsimp only;rw[e0];exact a.first⟩ (λx τ _ hI=>?_);obtain⟨⟨R,cR⟩,i⟩:=x;obtain⟨hi,a⟩:=hI;dsimp only at hi a;refine Lp ?_;refine Cz (λS=>?_) (λS=>?_)
  . have aS:i<ns.length:=oM
    obtain⟨m,hm⟩:=get_some aS;have OT:k++(ns.take i).map dn++[dn m]=k++(ns.take (i+1)).map dn:=by rw[zay,hm,zai,zbm];rfl
    have hlen:(k++(ns.take i).map dn).length<=800:=by rw[zad,zaf,zah];omega
    refine Zb0 ?_;refine Vv (Gives.fF rfl rfl hN aS) (Vv (Gives.dz (f:=0) rfl a hN hm rfl) ?_);refine Zb3 ?_;refine Vb (ah (dn m)) ?_;refine Bs a ([dn m].flatMap ah) (λbs _ S _=>?_);refine dG S (news:=[dn m]) At0 (by unfold maxLen;simp only[zae];omega) (by simp only[zae];omega) (cells_one (λ_=>rfl) _) (h:=?_);intro v5 S S;rw[OT]at S;obtain⟨R2,cR2,rfl,_,_⟩:=Sep.bJ S At0;refine Zb1 ?_;refine Vc ((i+1:Nat):Int) ?_;refine Zb1 ?_;exact aj ((R2,cR2),i+1) tR ⟨dO,S⟩ dO
  have jF:i=ns.length:=oM;refine Zb2 ?_;refine Vb (aA (.slice R (k++(ns.take i).map dn).length cR,wt)) ?_;refine Bs a ([(Value.slice R (k++(ns.take i).map dn).length cR,wt)].flatMap aA) (λbs _ S _=>?_);refine Zb1 ?_;have h1:=Sep.nM (n:=1) (s:=2) S At0 rfl dC;have h2:=iR (x:=.slice R (k++(ns.take i).map dn).length cR) (o:=⟨k++(ns.take i).map dn,wt⟩) (bD h1).aN;exact⟨(.slice (some ⟨bs,0,none⟩) 1 1,[(.slice R (k++(ns.take i).map dn).length cR,⟨k++(ns.take i).map dn,wt⟩)]),rfl,by rw[jF,zbr];unfold iE;rw[zab iN];rfl,h2.aG.aQ.first.turn⟩
end
def qR (keys sums bm:Nat):LV:=[.bool true,I keys,I sums,.map (some bm)]
def gM (w:Wd) (b:Nat) (cs:LV) (E:Td):Prop:=w.heap[b]? =some (.cells cs.toArray E (0,0))
def gM.keep {w w':Wd} {b:Nat} {cs:LV} (h:gM w b cs E) (hk:Kept noB w w'):gM w' b cs E:=Kept.get hk h id
section
variable {w:Wd}
def Ng {keys:Nat} (hg:gM w bg (qR keys sums bm) E):Rk prog 356 [ay bg] w (.bool false):=by
 have H:=Sep.aF w;refine cK func356 ?_;refine Zb4 ?_;refine dH (t:=5) rfl (λk=>?_) (λk=>?_)
 .refine Zb2 ?_
  (exfalso;simp at *)
 refine Zb3 ?_;refine dM (hg.keep H.kept) (h:=?_);refine Zb3 ?_;exact⟨rfl,H.kept⟩
def adS {keys:Nat} {z:vR} (hg:gM w bg (qR keys sums bm) E) (hk:aJ w z.1 ah 3 z.2.2.key) (hv:aJ w z.2.1 ah 3 z.2.2.vals):
    Rk prog 363 [ay bg,agg (qw z)] w (.bool (qo keys sums z.2.2)):=by
  obtain⟨kv,vv,e⟩:=z;dsimp only at hk hv ⊢;have KY:=hv;obtain⟨K,ck,rfl,⟨dX,amV⟩,hK⟩:=hk;obtain⟨V,cv,rfl,⟨hcv,aks⟩,hV⟩:=hv;rw[Xa];have H:=Sep.aF w;refine bQ func363 ?_;refine Sr (bB H (cs:=qw (.slice K e.key.length ck,.slice V e.vals.length cv,e)) rfl (h:=λb3 _ _ _=>?_));refine Dz (λk _ S=>?_);refine Zb6 ?_;refine GS (Gt rfl (Gives.mW rfl (hg.keep S.kept) rfl) ?_);refine Zb2 ?_;refine fM (t:=14) rfl (λI=>?_) (λI=>?_)
  . refine Zb6 ?_
    refine GS (Gt rfl (Gives.mW rfl (hg.keep S.kept) rfl) ?_);refine Zb3 ?_;refine fM (t:=24) rfl (λI=>?_) (λI=>?_)
    . refine Zb3 ?_
      refine dB k 22 _ S (TQ (p:=zT) (fv:=.func (.func 370) #[] #[]) (KY.keep S.kept) ⟨370,[],[],rfl,eT,λx _ w' _=>ajq x⟩) (h:=λ_ I _=>⟨sT,?_⟩);refine Zb3 ?_
      first
      | exact⟨by rw[zap (show e.key.length=keys/\e.vals.length=sums from⟨oM,oM⟩),zel];rfl,I.kept⟩
      | exact⟨by rw[zal (show ¬(e.key.length=keys/\e.vals.length=sums)from λh=>by have h1:=h.1;have h2:=h.2;omega),zdw];rfl,I.kept⟩
    refine Zb2 ?_
    first
    | exact⟨by rw[zap (show e.key.length=keys/\e.vals.length=sums from⟨oM,oM⟩),zel];rfl,S.kept⟩
    | exact⟨by rw[zal (show ¬(e.key.length=keys/\e.vals.length=sums)from λh=>by have h1:=h.1;have h2:=h.2;omega),zdw];rfl,S.kept⟩
  refine Zb4 ?_
  first
  | exact⟨by rw[zap (show e.key.length=keys/\e.vals.length=sums from⟨oM,oM⟩),zel];rfl,S.kept⟩
  | exact⟨by rw[zal (show ¬(e.key.length=keys/\e.vals.length=sums)from λh=>by have h1:=h.1;have h2:=h.2;omega),zdw];rfl,S.kept⟩
def adT {b2 keys:Nat} {E2:Td} {z:vR} (hg:gM w bg (qR keys sums bm) E) (h2:gM w b2 [ay bg] E2) (hk:aJ w z.1 ah 3 z.2.2.key) (hv:aJ w z.2.1 ah 3 z.2.2.vals):
    Rk prog 362 [agg (qw z),ay b2] w (.bool (!qo keys sums z.2.2)):=by
  obtain⟨kv,vv,e⟩:=z;have y8:=hk;have KY:=hv;dsimp only at hk hv;obtain⟨K,ck,rfl,⟨dX,amV⟩,hK⟩:=hk;obtain⟨V,cv,rfl,⟨hcv,aks⟩,hV⟩:=hv;have H:=Sep.aF w;refine bQ func362 ?_;refine Sr (bB H (cs:=qw (.slice K e.key.length ck,.slice V e.vals.length cv,e)) rfl (h:=λb3 _ k _=>?_));refine Zb1 ?_;refine dM (h2.keep k.kept) (h:=?_);refine Kz (adS (hg.keep k.kept) (y8.keep k.kept) (KY.keep k.kept)) (λ_ k _=>?_);refine Vv (Gives.not rfl) (Zb1 ?_);exact⟨rfl,k.kept⟩
def adU {b2 keys:Nat} {E2:Td} {Z:List vR} (hg:gM w bg (qR keys sums bm) E) (h2:gM w b2 [ay bg] E2) (hZ:yM w Z) (hl:aJ w v qw 3 Z):
    Rk prog 361 [v,.func (.func 362) #[] #[ay b2]] w (.bool (Z.any λz=> !qo keys sums z.2.2)):=
  WZ hl ⟨362,[],[ay b2],rfl,eT,λz hz w' hk=>adT (hg.keep hk) (h2.keep hk) ((hZ z hz).1.keep hk) ((hZ z hz).2.keep hk)⟩
end
def agN {g:Int} {n:Nat} {T m:List aH} (hg:g<0) (hT:(dh T).2=0):Nf (dh T).1 m=(jR g n T m,(dh (if(jR g n T m).2=0 then T++m else T)).1):=by
  have e: ∀X,fq g n X=dh X:=λX=>by unfold fq;rw[zac hg]
  have hm:jR g n T m=if(dh (T++m)).2≠0 then([],(dh (T++m)).2)else dh m:=by unfold jR;rw[e,zac hg]
  unfold Nf
  by_cases h1:(dh m).2=0
  . have ea:tX (dh T).1 (dh m).1=dh (T++m):=by
      rw[abD yj yj];unfold aiM;rw[afj hT,acs h1]
    rw[zab (not_not_intro h1),ea,hm]
    by_cases h2:(dh (T++m)).2=0
    . rw[zab (not_not_intro h2),zab (not_not_intro h2),zac h1]
      exact Prod.ext (Prod.ext rfl h1.symm) rfl
    rw[zac h2,zac h2,zab h2]
  rw[zac h1,hm,qz h1]
  by_cases h2:(dh (T++m)).2=0
  . rw[zab (not_not_intro h2),zab dC]
  rw[zac h2,zab h2,qz h2]
end
variable {b d:Nat} {x y:Od} {T:Td} {D:List Ent}
open Go.RowKit
section
variable {P:Program} {r:Option Nat} {n:Nat} {ops:AO} {Q:Post} {rest:LO} {σ:St} {w w0:Wd} {S:NP} {rs:List HP} {put:HP->List HP} {ty:Td} {pos:String} {after:Array Edge} {lv:List Bool} {pd:LNB} {guard:Option (Nat×Bool)}
def abH (eZ:dS n ops=true) (i:Nat) (pd':LNB) {t e:Td} [hs:cO P t e] {size bytes:Nat} [hc:Cells P e size bytes] {z:Value} [hz:Zero P e z] {k:Nat} {cs:LV} (H:Sep w0 S rs w)
    (ho:ops[i]? =some ⟨some d,.makeSlice t x y,ty,pos,after,guard⟩:=by exact rfl) (hcs:madeCells z.cells (k*size)=cs.toArray) (hk:k<=maxLen) (hb:bytes*k<=281474976710656)
    (hw:Region.wanted ⟨some d,.makeSlice t x y,ty,pos,after,guard⟩ (bU ops σ)=true:=by kernel_rfl) (hx:evF σ x=.int .i64 k:=by exact rfl) (hy:evF σ y=.int .i64 k:=by exact rfl)
    (dX:fu ops lv (pd.map (·.1)) i=true:=by kernel_rfl) (oo:pd.filter (λp=> !((above ops i).contains p.1))=pd':=by exact pD)
    (h: ∀b w',Sep w0 S (blk b cs e::rs) w'->jm P ops (upd σ d (.slice (some ⟨b,0,none⟩) k k)) w' pd'/\FG P r n ops Q (lv.set i true) pd' (upd σ d (.slice (some ⟨b,0,none⟩) k k)) w'):FG P r n ops Q lv pd σ w:=
  uW (C:=λv w'=>∃b,v=.slice (some ⟨b,0,none⟩) k k/\Sep w0 S (blk b cs e::rs) w') eZ i pd' ho hw ⟨_,_,Gives.akG hx hy hcs hb hk,_,rfl,H.alloc _⟩ dX oo (λv w' hv=>by obtain⟨b,rfl,hs⟩:=hv;exact h b w' hs)
def Nh (eZ:dS n ops=true) (i:Nat) (pd':LNB) {t e:Td} [hs:cO P t e] {size bytes:Nat} [hc:Cells P e size bytes] {z:Value} [hz:Zero P e z] {k:Nat} {cs:LV} (H:Sep w0 S rs w)
    (ho:ops[i]? =some ⟨some d,.makeSlice t x y,ty,pos,after,guard⟩:=by exact rfl) (hcs:madeCells z.cells (k*size)=cs.toArray) (hk:k<=maxLen) (hb:bytes*k<=281474976710656)
    (hw:Region.wanted ⟨some d,.makeSlice t x y,ty,pos,after,guard⟩ (bU ops σ)=true:=by kernel_rfl) (hx:evF σ x=.int .i64 k:=by exact rfl) (hy:evF σ y=.int .i64 k:=by exact rfl)
    (dX:nX ops lv (pd.map (·.1)) i=true:=by kernel_rfl) (oo:pd.filter (λp=> !((above ops i).contains p.1))=pd':=by exact pD)
    (h: ∀b w',Sep w0 S (blk b cs e::rs) w'->jm P ops (upd σ d (.slice (some ⟨b,0,none⟩) k k)) w' pd'/\FG P r n ops Q (lv.set i true) pd' (upd σ d (.slice (some ⟨b,0,none⟩) k k)) w'):pI P r n ops Q lv pd σ w i:=
  F8 (C:=λv w'=>∃b,v=.slice (some ⟨b,0,none⟩) k k/\Sep w0 S (blk b cs e::rs) w') eZ i pd' ho hw ⟨_,_,Gives.akG hx hy hcs hb hk,_,rfl,H.alloc _⟩ dX oo (λv w' hv=>by obtain⟨b,rfl,hs⟩:=hv;exact h b w' hs)
def Gives.anY {ρ:Od->Value} {cs:LV} (hx:ρ x=v) (hcs:v.cells=cs.toArray):Gives P ρ (.box T x) ty w (.pointer (some ⟨w.heap.size,0,none⟩)) (w.alloc (.cells cs.toArray T)):=λ_ _ _ _=>by
 simp[execOp,Instr.box,hx,newVar,newRow,hcs]
def Ni (eZ:dS n ops=true) (i:Nat) (pd':LNB) {cs:LV} (H:Sep w0 S rs w)
    (hx:evF σ x=v) (hcs:v.cells=cs.toArray) (ho:ops[i]? =some ⟨some d,.box T x,ty,pos,after,guard⟩:=by exact rfl)
    (hw:Region.wanted ⟨some d,.box T x,ty,pos,after,guard⟩ (bU ops σ)=true:=by kernel_rfl)
    (dX:fu ops lv (pd.map (·.1)) i=true:=by kernel_rfl) (oo:pd.filter (λp=> !((above ops i).contains p.1))=pd':=by exact pD)
    (h: ∀b w',Sep w0 S (blk b cs T::rs) w'->jm P ops (upd σ d (.pointer (some ⟨b,0,none⟩))) w' pd'/\FG P r n ops Q (lv.set i true) pd' (upd σ d (.pointer (some ⟨b,0,none⟩))) w'):FG P r n ops Q lv pd σ w:=
  uW (C:=λv w'=>∃b,v=.pointer (some ⟨b,0,none⟩)/\Sep w0 S (blk b cs T::rs) w') eZ i pd' ho hw ⟨_,_,Gives.anY hx hcs,_,rfl,H.alloc _⟩ dX oo (λv w' hv=>by obtain⟨b,rfl,hs⟩:=hv;exact h b w' hs)
def DK {z:Od} {k e:Td} [hm:IsMap P T k e] [hk:lQ P k] {i:L8} {v:Value} (H:Sep w0 S rs w) (hat:At rs (gQ b D) put) (hx:evF σ x=.map (some b):=by exact rfl) (hy:evF σ y=str i:=by exact rfl) (hz:evF σ z=v:=by exact rfl)
    (h: ∀w',Sep w0 S (put (gQ b (AB D i v))) w'->FL P r n ops Q rest σ w'):
    FL P r n ops Q (⟨none,.mapUpdate T x y z,ty,pos,after,none⟩::rest) σ w:=by
  obtain⟨w',ha,hs⟩:=Ar (P:=P) (ty:=ty) (T:=T) (k:=k) (e:=e) H hat hx hy hz;exact Eb ha rfl (h w' hs)
end
def rO {α:Type} {enc:α->LV} {s:Nat} [hk:je enc s] (hs:0<s) (a:α) (k:Nat):madeCells (enc a).toArray (k*s)=((List.replicate k a).flatMap enc).toArray:=by
 apply Array.ext
 .rw[size_madeCells]
  simp only[zft];rw[jq hk.len,zcv]
 intro i h1 h2;rw[size_madeCells]at h1;have hq:i/s<k:=Nat.div_lt_of_lt_mul (by rw[Nat.mul_comm];exact h1);have hm:i%s<s:=Nat.mod_lt _ hs;have hg:(List.replicate k a)[i/s]? =some a:=by rw[List.getElem?_replicate];simp[hq]
 have h3:=flat_get hk.len hg hm;rw[Nat.div_add_mod']at h3;have h4:(enc a)[i%s]? =some ((enc a)[i%s]'(by rw[hk.len];exact hm)):=zaa _;rw[h4]at h3;obtain⟨h5,h6⟩:=zbb.1 h3;simp only[madeCells,Array.getElem_map,Array.getElem_range,zft,hk.len,List.getElem_toArray];rw[h6,getElem!_pos _ _ (by simp only[zft,hk.len];exact hm)];rfl
section
variable {P:Program} {r:Option Nat} {n:Nat} {ops:AO} {Q:Post} {rest:LO} {σ:St} {w w' w0:Wd} {S:NP} {rs:List HP} {put:HP->List HP} {op:Op} {ty:Td} {pos:String} {after:Array Edge} {guard:Option (Nat×Bool)} {lv:List Bool} {pd:LNB}
def ajr (hg:Gives P (evF σ) op ty w v w') (h:FL P r n ops Q rest σ w'):
    FL P r n ops Q (⟨none,op,ty,pos,after,none⟩::rest) σ w:=λa ha=>
  wpListIn_plain rfl λK hK=>by
    refine⟨λ_ _=>trivial,?_⟩;rw[ha.eval,GH (hg _ _ _ _)];exact hK _ _ (h _ ha)
def Jo {k e:Td} [hm:IsMap P T k e] (H:Sep w0 S rs w) (hat:At rs (gQ b D) put) (hx:evF σ x=.map (some b):=by exact rfl) (hd:Nat.blt d n=true:=by exact rfl)
    (h: ∀q w',Sep w0 S (put (vE q b D D)) w'->FL P r n ops Q rest (upd σ d (.pointer (some ⟨q,0,none⟩))) w'):
    FL P r n ops Q (⟨some d,.range T x,ty,pos,after,none⟩::rest) σ w:=by
  obtain⟨q,w',hg,hs,_⟩:=Uu (P:=P) (ty:=ty) (T:=T) (k:=k) (e:=e) H hat hx;exact dw hg hd (h q w' hs)
def Nj {q:Nat} {L:List Ent} (H:Sep w0 S rs w) (hat:At rs (vE q b D L) put)
    (h1: ∀p L' w',L.Perm (p::L')->Sep w0 S (put (Us q b D L' p)) w'->FL P r n ops Q rest (upd σ d (.tuple #[.bool true,str p.1,p.2])) w')
    (h2:L=[]->FL P r n ops Q rest (upd σ d (.tuple #[.bool false])) w) (hx:evF σ x=.pointer (some ⟨q,0,none⟩):=by exact rfl) (hd:Nat.blt d n=true:=by exact rfl):
    FL P r n ops Q (⟨some d,.next x false,ty,pos,after,none⟩::rest) σ w:=by
  rcases KR (P:=P) (ty:=ty) H hat hx with⟨h0,hg⟩ | ⟨p,L',w',hp,hg,hs⟩
  . exact dw hg hd (h2 h0)
  exact dw hg hd (h1 p L' w' hp hs)
def ZN {U k e:Td} [hm:IsMap P T k e] [hk:lQ P k] {i:L8} (H:Sep w0 S rs w) (hat:At rs (gQ b D) put) (hx:evF σ x=.map (some b):=by exact rfl) (hy:evF σ y=str i:=by exact rfl)
    (h: ∀w',Sep w0 S (put (gQ b (XM D i))) w'->FL P r n ops Q rest σ w'):
    FL P r n ops Q (⟨none,.call {callee:=.builtin .delete,args:= #[x,y],argTypes:= #[T,U]},ty,pos,after,none⟩::rest) σ w:=by
  obtain⟨w',hg,hs⟩:=Po (P:=P) (ty:=ty) (T:=T) (U:=U) (k:=k) (e:=e) H hat hx hy;exact ajr hg (h w' hs)
def TT (eZ:dS n ops=true) (e:Nat) (pd':LNB) {z:Od} {k el:Td} [IsMap P T k el] [lQ P k] {i:L8} {v:Value} (H:Sep w0 S rs w) (hat:At rs (gQ b D) put)
    (ho:ops[e]? =some ⟨none,.mapUpdate T x y z,ty,pos,after,guard⟩:=by exact rfl)
    (hw:Region.wanted ⟨none,.mapUpdate T x y z,ty,pos,after,guard⟩ (bU ops σ)=true:=by kernel_rfl) (hx:evF σ x=.map (some b):=by exact rfl) (hy:evF σ y=str i:=by exact rfl) (hz:evF σ z=v:=by exact rfl)
    (dX:fu ops lv (pd.map (·.1)) e=true:=by kernel_rfl) (oo:pd.filter (λp=> !((above ops e).contains p.1))=pd':=by exact pD)
    (h: ∀w',Sep w0 S (put (gQ b (AB D i v))) w'->jm P ops σ w' pd'/\FG P r n ops Q (lv.set e true) pd' σ w'):FG P r n ops Q lv pd σ w:=
  WK eZ e pd' ho hw (Ar (P:=P) (T:=T) (k:=k) (e:=el) H hat hx hy hz) dX oo h
end
variable {P:Program} {r:Option Nat} {n:Nat} {ops:AO} {Q:Post} {σ:St} {w w0:Wd} {S:NP} {rs:List HP} {ty:Td} {pos:String} {after:Array Edge} {guard:Option (Nat×Bool)} {lv:List Bool} {pd:LNB}
def Xb (eZ:dS n ops=true) (i:Nat) (pd':LNB) {cs:LV} (H:Sep w0 S rs w)
    (hx:evF σ x=v) (hcs:v.cells=cs.toArray) (ho:ops[i]? =some ⟨some d,.box T x,ty,pos,after,guard⟩:=by exact rfl)
    (hw:Region.wanted ⟨some d,.box T x,ty,pos,after,guard⟩ (bU ops σ)=true:=by kernel_rfl)
    (dX:nX ops lv (pd.map (·.1)) i=true:=by kernel_rfl) (oo:pd.filter (λp=> !((above ops i).contains p.1))=pd':=by exact pD)
    (h: ∀b w',Sep w0 S (blk b cs T::rs) w'->jm P ops (upd σ d (.pointer (some ⟨b,0,none⟩))) w' pd'/\FG P r n ops Q (lv.set i true) pd' (upd σ d (.pointer (some ⟨b,0,none⟩))) w'):pI P r n ops Q lv pd σ w i:=
  F8 (C:=λv w'=>∃b,v=.pointer (some ⟨b,0,none⟩)/\Sep w0 S (blk b cs T::rs) w') eZ i pd' ho hw ⟨_,_,Gives.anY hx hcs,_,rfl,H.alloc _⟩ dX oo (λv w' hv=>by obtain⟨b,rfl,hs⟩:=hv;exact h b w' hs)
end Go.Proofs.Mw
