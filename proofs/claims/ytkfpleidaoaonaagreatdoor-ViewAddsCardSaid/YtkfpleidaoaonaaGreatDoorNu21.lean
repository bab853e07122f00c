/-
 What changes at the keys of entries;walked.
-/
import Derived.Test.YtkfpleidaoaonaaGreatDoorNu1
import Derived.Test.YtkfpleidaoaonaaGreatDoorNu3
import Derived.Test.YtkfpleidaoaonaaGreatDoorNu20
import Derived.Test.YtkfpleidaoaonaaGreatDoorNu18
set_option linter.unusedVariables false
set_option linter.unusedSimpArgs false
namespace Go.Proofs.YtkfpleidaoaonaaGreatDoor
open Go Go.Mw Go.Lib
set_option maxRecDepth 4000
attribute [local irreducible] FW FL FG FGn gu gy dh gH Qfn Gives
structure ad9 (sums:Nat) (E:List dH) (K:List (List aI)) (C:List yE) (D:List Ent):Prop where
 keys:(C.map (·.key)).Perm K
 nums: ∀c∈C,c.ns=gL sums E c.key
 fit: ∀c∈C,iM c.key
 data:D.Perm (C.map Vt)
theorem X5 {C:List yE} {D:List Ent} {k:List aI} {v:Value} (hD:D.Perm (C.map Vt)) (hF: ∀c∈C,iM c.key) (hk:iM k) (h:ow D (gB k)=some v): ∃(i:Nat) (c:yE),C[i]? =some c/\c.key=k/\v=aA c.b:=by
 obtain⟨c,hc,e⟩:=zaq.1 (hD.mem_iff.1 (agT h));obtain⟨i,hi,e2⟩:=zgd hc;unfold Vt at e;injection e with e3 e4
 exact⟨i,c,by rw[zaa hi,e2],Ey (hF c hc) hk e3,e4.symm⟩
theorem agZ {C:List yE} {D:List Ent} {k:List aI} (hD:D.Perm (C.map Vt)) (h:ow D (gB k)=none): ∀c∈C,c.key≠k:=λc hc e=>
 EB.1 h (zaq.2 ⟨Vt c,hD.mem_iff.2 (zeb hc),by rw[<-e];rfl⟩)
theorem aaE {α:Type} {L:List α} {i:Nat} {x:α} (h:L[i]? =some x):(x::L.eraseIdx i).Perm L:=by
 have hi:i<L.length:=(zbd.1 h).1;have h1:=zbx i L
 have h2:L.drop i=x::L.drop (i+1):=by
  rw[zbq hi]
  congr 1
  exact(zbd.1 h).2
 rw[List.eraseIdx_eq_take_drop_succ L i]
 conv=>rhs;rw[<-h1,h2]
 exact List.perm_middle.symm
section
variable {w:Wd} {F:NP}
theorem X6 {k:List aI} {v:Value} {b2 b5 bg bm bh keys sums:Nat} {E2 E5 Eg:Td} {D Dh:List Ent} {hv nv:Value} {ns:List Int} (hk: ∀w1,Kept F w w1->aM w1 v aj 3 k) (hn:k.length<=64) (Fz:iM k) (hT: ∀w1,Kept F w w1->fA w1)
    (h2: ∀w1,Kept F w w1->jo w1 b2 [aA bg] E2) (h5: ∀w1,Kept F w w1->jo w1 b5 [.map (some bm)] E5) (hg: ∀w1,Kept F w w1->jo w1 bg (uF keys sums bh) Eg) (hsm:sums<=64)
    (hz:(ow Dh (gB k)).getD (agg [.slice none 0 0,.slice none 0 0])=agg [hv,nv]) (hns: ∀w1,Kept F w w1->aM w1 nv CG 1 ns) (hnl:ns.length<=sums+1) (hnf: ∀n∈ns,fits n)
    (hp:(star (iX bm D) (iX bh Dh)).ok F w) (hd:ow D (gB k)=none\/∃bc,ow D (gB k)=some (aA bc)):
    aN Tryz.prog 407 [v,aA b5,aA b2] w λu w'=>(∃bc,ow D (gB k)=some (aA bc)/\u=aA bc/\Turn F (star (iX bm D) (iX bh Dh)) w w')\/
      (ow D (gB k)=none/\∃c:yE,u=aA c.b/\(c.key=k/\c.ns=ns++List.replicate (sums+1-ns.length) 0)/\Turn F (star (OI c) (star (iX bm (CK D (gB k) (aA c.b))) (iX bh Dh))) w w'):=by
  rcases hd with hd | ⟨bc,hd⟩
  . exact aN.mono (X4 hk hn Fz hT h2 h5 hg hsm hz hns hnl hnf hp hd) λu w' h=>.inr ⟨hd,h⟩
  exact aN.mono (X3 (keys:=keys) (sums:=sums) (Eg:=Eg) hk hn Fz hT h2 h5 hp hd) λu w' h=>.inl ⟨bc,hd,h⟩
theorem aaF {bg bh keys sums:Nat} {Eg:Td} {Dh:List Ent} {Z:List JD} {v:Value} {E:List dH} (hg: ∀w1,Kept F w w1->jo w1 bg (uF keys sums bh) Eg)
    (hv: ∀w1,Kept F w w1->aM w1 v BD 3 Z) (hZ: ∀w1,Kept F w w1->Mf w1 Z) (hT: ∀w1,Kept F w w1->fA w1)
    (hsm:sums<=16) (hkl: ∀z∈Z,z.2.2.key.length<=16/\iM z.2.2.key) (hvl: ∀z∈Z,z.2.2.vals.length=sums) (hf: ∀z∈Z,fits z.2.2.w/\∀c∈z.2.2.vals,fits c.n) (hn:Z.length<=1000)
    (ar7: ∀z∈Z,∃hv nv ns,(ow Dh (gB z.2.2.key)).getD (agg [.slice none 0 0,.slice none 0 0])=agg [hv,nv]/\(∀w1,Kept F w w1->aM w1 nv CG 1 ns)/\ns.length<=sums+1/\(∀n∈ns,fits n)/\ns++List.replicate (sums+1-ns.length) 0=gL sums E z.2.2.key)
    (hp:(iX bh Dh).ok F w):
    aN Tryz.prog 399 [aA bg,v] w λu w'=>∃(bm:Nat) (D:List Ent) (C:List yE),u=.map (some bm)/\ad9 sums (E++Z.map (·.2.2)) (mH (Z.map (·.2.2))) C D/\Mw.Sep w F (iX bm D::iX bh Dh::C.map OI) w':=by
  have H:=Sep.dZ hp;obtain⟨A,m,rfl,⟨hm,qo⟩,_⟩:=hv w (Kept.refl _ _);refine dS Tryz.func399 rfl rfl rfl rfl ?_;refine Sr (dz H (cs:=[aA bg]) rfl (h:=λb2 w2 H2 k1=>?_));refine Zb1 ?_;refine yA H2 (h:=λbm w5 H5 k4=>?_);have H5:=Sep.Vk H5 At0;refine aW H5 (h:=λb5 w7 H7 k6=>?_);refine bM H7 (h:=λw9 H9=>?_);refine Zb5 ?_;refine aP (λx:(List yE×List Ent)×Nat=>[(1,.slice A Z.length m),(2,aA b2),(5,aA b5),(6,.func (.func 407) #[] #[aA b5,aA b2]),(14,.slice A Z.length m),(15,I Z.length),(16,I x.2)]) (λx w'=>(x.2<=Z.length/\ad9 sums (E++(Z.take x.2).map (·.2.2)) (mH ((Z.take x.2).map (·.2.2))) x.1.1 x.1.2)/\Mw.Sep w F (star (blk b5 [.map (some bm)] 434) (blk b2 [aA bg] 107)::star (iX bm x.1.2) (iX bh Dh)::x.1.1.map OI) w') (λx _=>Z.length-x.2) (([],[]),0) tR ⟨⟨zak _,⟨List.Perm.refl _,λc hc=>by simp at hc,λc hc=>by simp at hc,List.Perm.refl _⟩⟩,H9.bF.aJ.bI.bF.bF.bI.aJ⟩ (λx τ wa hI=>?_);obtain⟨⟨C,D⟩,i⟩:=x;obtain⟨⟨hi,hC⟩,Ha⟩:=hI;dsimp only at hi hC Ha
  try simp only[dA,like,bB,bY]
  refine Za1 ?_;refine Qn (fC (Cp rfl (λIa=>?_) (λIa=>?_)))
  . have bX:i<Z.length:=oM
    obtain⟨z,hz⟩:=get_some bX;have hzm:=zao hz;obtain⟨kv,vv,e⟩:=z;have hKw: ∀w1,Kept F w w1->aM w1 kv aj 3 e.key:=λw1 h1=>(hZ w1 h1 _ hzm).1;have hVw: ∀w1,Kept F w w1->aM w1 vv aj 3 e.vals:=λw1 h1=>(hZ w1 h1 _ hzm).2;obtain⟨K,ck,rfl,_,_⟩:=hKw w (Kept.refl _ _);obtain⟨V,cv,rfl,_,_⟩:=hVw w (Kept.refl _ _);obtain⟨ar9,aiU⟩:=hkl _ hzm;have asa:=hvl _ hzm;obtain⟨MU,hfv⟩:=hf _ hzm;obtain⟨rD,nv0,ns0,hi1,Bf,hi3,hi4,hi5⟩:=ar7 _ hzm;dsimp only at ar9 aiU asa MU hfv hi1 hi5;have hT1:(Z.take (i+1)).map (λz=>z.2.2)=(Z.take i).map (λz=>z.2.2)++[e]:=by rw[zav,hz,zam];rfl
    refine Zb0 ?_;refine Vv (Gives.mK rfl rfl (cO (hv _ Ha.kept)) bX) (Vv (Gives.jQ rfl (Sep.aL _) (cO (hv _ Ha.kept)) hz) ?_);refine aW Ha (h:=λb8 wb Hb ka=>?_);refine au Hb (h:=λwc Hc=>?_);refine Zb3 ?_;have hnd:=Sep.an8 (Hc.bF.dG) At0;obtain⟨F0,uI,iK,Uq,aQ⟩:=Sep.BM (Hc.aJ) At1;have CP: ∀w1,Kept F0 _ w1->Kept F w w1:=λw1 h1=>Mw.Kept.into Hc.kept iK h1
    have hd:ow D (gB e.key)=none\/∃bc,ow D (gB e.key)=some (aA bc):=by
      cases hdg:ow D (gB e.key)with
      | none=>exact .inl rfl
      | some u=>
        obtain⟨j,c,_,_,rfl⟩:=X5 hC.data hC.fit aiU hdg;exact .inr ⟨c.b,rfl⟩
    refine fB (fs:=[]) (cs:=[aA b5,aA b2]) (vals:=[.slice K e.key.length ck]) rfl (X6 (keys:=keys) (sums:=sums) (bg:=bg) (Eg:=Eg) (λw1 h1=>hKw w1 (CP w1 h1)) oM aiU (λw1 h1=>hT w1 (CP w1 h1)) (λw1 h1=>by obtain⟨Fq,F1,F2,_,_,_,h2⟩:=Uq w1 h1;exact h2.2) (λw1 h1=>by obtain⟨Fq,F1,F2,_,_,h2,_⟩:=Uq w1 h1;exact h2.2) (λw1 h1=>hg w1 (CP w1 h1)) oM hi1 (λw1 h1=>Bf w1 (CP w1 h1)) hi3 hi4 uI hd) rfl rfl (λv' wd hv=>?_)
    have lQ: ∃(c:yE) (Cr:List yE) (D2:List Ent),v'=aA c.b/\c.key=e.key/\c.ns=gL sums (E++(Z.take i).map (λz=>z.2.2)) e.key/\((c::Cr).map (λd=>d.key)).Perm (mH ((Z.take (i+1)).map λz=>z.2.2))/\(∀d∈Cr,d.key≠e.key/\d.ns=gL sums (E++(Z.take i).map (λz=>z.2.2)) d.key/\iM d.key)/\D2.Perm ((c::Cr).map Vt)/\Mw.Sep w F (OI c::star (blk b5 [.map (some bm)] 434) (blk b2 [aA bg] 107)::blk b8 (BD (.slice K e.key.length ck,.slice V e.vals.length cv,e)) 430::star (iX bm D2) (iX bh Dh)::Cr.map OI) wd:=by
      have asc:(C.map (·.key)).Nodup:=hC.keys.symm.nodup (Oo _)
      rcases hv with⟨bc,hdg,rfl,jH,F1,jA,jO⟩ | ⟨hdg,c,rfl,⟨fq,Uo⟩,jH,F1,jA,jO⟩
      . obtain⟨j,c,hj,fq,Ul⟩:=X5 hC.data hC.fit aiU hdg
        have H3:=Sep.pick (rs:=[_,_,_]) (aQ _ F1 _ jH jA jO) hj;have Fb:(c::C.eraseIdx j).Perm C:=aaE hj;have hcm:=zao hj;refine⟨c,C.eraseIdx j,D,Ul,fq,by rw[<-fq];exact hC.nums c hcm,?_,λd hd=>?_,hC.data.trans (Fb.symm.map _),H3⟩
        . rw[hT1,yu,zac (hC.keys.mem_iff.1 (zaq.2 ⟨c,hcm,fq⟩))]
          exact(Fb.map _).trans hC.keys
        have hdC:=Fb.mem_iff.1 (zai _ hd);refine⟨λh=>?_,hC.nums d hdC,hC.fit d hdC⟩;have h2:=(Fb.map (·.key)).symm.nodup asc;rw[zax,zet]at h2;exact h2.1 (zaq.2 ⟨d,hd,by rw[h,fq]⟩)
      have qR:=agZ hC.data hdg
      have hnk:e.key∉mH ((Z.take i).map λz=>z.2.2):=λh=>by
        obtain⟨d,hd,hde⟩:=zaq.1 (hC.keys.mem_iff.2 h);exact qR d hd hde
      refine⟨c,C,_,rfl,fq,by rw[Uo,hi5];exact(Dm hnk).symm,?_,λd hd=>⟨qR d hd,hC.nums d hd,hC.fit d hd⟩,?_,(aQ _ F1 _ jH jA jO).bF.dG.bN.bN.bF⟩
      . rw[hT1,yu,zab hnk,zax,fq]
        exact(List.Perm.cons _ hC.keys).trans (List.perm_append_singleton _ _).symm
      have e1:CK D (gB e.key) (aA c.b)=D++[(gB e.key,aA c.b)]:=by unfold CK;rw[hdg];rfl
      rw[e1,zax];refine(List.perm_append_singleton _ _).trans ?_;unfold Vt;rw[fq];exact List.Perm.cons _ hC.data
    obtain⟨⟨bc,kvc,svc,kc,nsc⟩,Cr,D2,rfl,fq,Uo,hpk,hCr,hD2,Hd⟩:=lQ;dsimp only at fq Uo hpk hD2 Hd;subst fq;have Hd:=(Hd.dG.aJ.dG).aJ;dsimp only at Hd;obtain⟨Sv,cSv,rfl,_,_⟩:=Sep.eO Hd At0;have hnl:nsc.length=sums+1:=by rw[Uo,pQ]
    have hnp:0<nsc.length:=oM;obtain⟨n0,CQ⟩:=get_some hnp
    have ao5:nsc.set 0 (n0+e.w)=upN nsc e 1:=by
      have h1:=acA (x:=e) CQ;rw[agX]at h1;exact h1
    refine Zb1 ?_;refine Ds (λSa we He=>?_);refine Zb8 ?_;refine GS (Gn rfl (λ_=>Gives.mK (i:=0) (enc:=dV) rfl rfl (mP He At0) hnp) ?_);refine GS (Gt rfl (Gives.Lh (i:=0) rfl (mP He At0) CQ) ?_);refine Zb2 ?_;refine iZ Sa 12 [(9,false),(8,true),(7,false),(6,true),(5,true),(4,true),(3,false),(2,true),(1,true),(0,true)] He (UZ e.w MU) (h:=λwf Hf kb=>⟨(dN rfl kR (Gives.Lh (i:=0) rfl (mP Hf At0) CQ) rfl (ah (aY Hf (h:=ah (ah (ah (aY Hf (h:=ah (ah (ah (aK))))))))))),?_⟩);refine iZ Sa 13 [(3,false),(2,true),(1,true),(0,true)] Hf (U0 n0 e.w) (h:=λwg Hg kd=>⟨aY Hg (h:=ah (ah (ah (aK)))),?_⟩);refine GS (Gn rfl (λ_=>Gives.mK (i:=0) (enc:=dV) rfl rfl (mP Hg At0) hnp) ?_);refine KG Sa 15 _ (i:=0) (n0+e.w) rfl Hg At0 hnp rfl (h:=λwh Hh=>⟨sT,?_⟩);rw[ao5]at Hh;refine Zb4 ?_;refine aP (λj:Nat=>[(1,.slice A Z.length m),(2,aA b2),(5,aA b5),(6,.func (.func 407) #[] #[aA b5,aA b2]),(8,aA b8),(9,aA bc),(14,.slice A Z.length m),(15,I Z.length),(16,I i),(40,.slice V e.vals.length cv),(41,I e.vals.length),(42,I j)]) (λj w'=>j<=e.vals.length/\Mw.Sep w F (bW 123 3 dV (.slice Sv nsc.length cSv) (upN nsc e (j+1))::bW 52 3 aj kvc e.key::blk bc [kvc,.slice Sv nsc.length cSv] 438::star (blk b5 [.map (some bm)] 434) (blk b2 [aA bg] 107)::blk b8 (BD (.slice K e.key.length ck,.slice V e.vals.length cv,e)) 430::star (iX bm D2) (iX bh Dh)::Cr.map OI) w') (λj _=>e.vals.length-j) 0 tR ⟨zak _,Hh⟩ (λj τ wi hJ=>?_)
    obtain⟨hj,Hi⟩:=hJ;have ab0:nsc.length=(upN nsc e (j+1)).length:=(Vu _ _ _).symm
    try simp only[dA,like,bB]
    refine Za1 ?_;refine Qn (fC (Cp rfl (λIb=>?_) (λIb=>?_)))
    . have ao6:j<e.vals.length:=oM
      obtain⟨cj,hcj⟩:=get_some ao6;have hfj:=hfv cj (zao hcj);have MQ:j+1<nsc.length:=oM;obtain⟨nj,hnj⟩:=get_some MQ;have huj:(upN nsc e (j+1))[j+1]? =some nj:=by rw[BN hnj,zab oM]
      have akO:Gs e (j+1)=if cj.null=true then 0 else e.w*cj.n:=by
        unfold Gs;rw[zab oM,Nat.add_sub_cancel,zau,hcj];rfl
      refine Zb1 ?_;refine Vv (Gives.mK rfl rfl (cO (hVw _ Hi.kept)) ao6) (Vv (Gives.jQ rfl (Sep.aL _) (cO (hVw _ Hi.kept)) hcj) ?_);refine aW Hi (h:=λb11 wj Hj ke=>?_);refine Am ?_;refine au Hj (h:=λwk Hk=>?_);refine Zb2 ?_;refine Vv (Gives.not rfl) (Qn ?_);refine Cd rfl (λIc=>?_) (λIc=>?_)
      . have amY:cj.null=false:=by simpa using Ic
        rw[amY,zab dC]at akO;have ao7:(upN nsc e (j+1)).set (j+1) (nj+e.w*cj.n)=upN nsc e (j+1+1):=by rw[<-acA hnj,akO]
        refine Ds (λSb wl Hl=>?_);refine Zb5 ?_;refine GS (Gn rfl (λ_=>(Gives.M5 (c:=((j+1:Nat):Int)) rfl rfl oM oM)) ?_);refine Zb5 ?_;refine GS (Gn rfl (λ_=>(Gives.M5 (c:=((j+1:Nat):Int)) rfl rfl oM oM)) ?_);refine GS (Gn rfl (λ_=>Gives.ady (i:=j+1) (enc:=dV) (l:=upN nsc e (j+1)) ab0 rfl rfl (rV ab0 Hl At1) oM) ?_);refine GS (Gt rfl (Gives.Lh (i:=j+1) rfl (rV ab0 Hl At1) huj) ?_);refine Zb4 ?_;refine iZ Sb 18 [(13,false),(12,true),(11,true),(10,true),(9,false),(8,true),(7,true),(6,true),(5,true),(4,true),(3,false),(2,true),(1,true),(0,true)] Hl (aju e.w cj.n MU hfj) (h:=λwm Hm kf=>⟨(dN rfl kR (Gives.Lh (i:=j+1) rfl (rV ab0 Hm At1) huj) rfl (ah (ah (ah (aY Hm (h:=ah (ah (ah (ah (ah (aY Hm (h:=ah (ah (ah (aK))))))))))))))),?_⟩);refine iZ Sb 19 [(5,true),(4,true),(3,false),(2,true),(1,true),(0,true)] Hm (U0 nj (e.w*cj.n)) (h:=λwn Hn kg=>⟨ah (ah (aY Hn (h:=ah (ah (ah (aK)))))),?_⟩);refine GS (Gn rfl (λ_=>Gives.ady (i:=j+1) (enc:=dV) (l:=upN nsc e (j+1)) ab0 rfl rfl (rV ab0 Hn At1) oM) ?_);refine KG Sb 21 _ (i:=j+1) (nj+e.w*cj.n) ab0 Hn At1 oM rfl (h:=λwo Ho=>⟨sT,?_⟩);rw[ao7]at Ho;refine Zb0 ?_;refine Vc ((j+1:Nat):Int) ?_;refine Zb1 ?_;exact ak (j+1) tR ⟨oM,Ho.eF⟩ oM
      have amY:cj.null=true:=by simpa using Ic
      rw[amY,zac rfl]at akO;have ao8:=agY (ns:=nsc) akO;refine Zb0 ?_;refine Vc ((j+1:Nat):Int) ?_;refine Zb1 ?_;exact ak (j+1) tR ⟨oM,by rw[ao8];exact Hk.eF⟩ oM
    have hjl:j+1=sums+1:=oM
    have Zx:upN nsc e (j+1)=gL sums (E++(Z.take (i+1)).map (λz=>z.2.2)) e.key:=by
      rw[hjl,Uo,ajM,hT1,zbs]
    refine Zb0 ?_;have iq:Mw.Sep w F (star (blk b5 [.map (some bm)] 434) (blk b2 [aA bg] 107)::star (iX bm D2) (iX bh Dh)::(⟨bc,kvc,.slice Sv nsc.length cSv,e.key,upN nsc e (j+1)⟩::Cr:List yE).map OI) _:=(Hi.aJ.bI.aJ.bI.bF.eF.bF.bF);refine Vc ((i+1:Nat):Int) ?_;refine Zb1 ?_;exact ak ((⟨bc,kvc,.slice Sv nsc.length cSv,e.key,upN nsc e (j+1)⟩::Cr,D2),i+1) tR ⟨⟨dO,⟨hpk,λd hd=>by
    rcases zap.1 hd with h | h
    . rw[h];exact Zx
    . rw[hT1,<-zbs,aaD (λh2=>(hCr d h).1 h2.symm)];exact(hCr d h).2.1,λd hd=>by
    rcases zap.1 hd with h | h
    . rw[h];exact aiU
    exact(hCr d h).2.2,hD2⟩⟩,iq⟩ dO
  have qp:i=Z.length:=oM;rw[qp,zbl]at hC;refine Zb0 ?_;have Hp:=Ha.dG;refine Ld Hp ?_;refine Zb1 ?_;exact⟨bm,D,C,rfl,hC,Hp.eF.eF.dG⟩
end
open Tryz
section
variable {w:Wd} {F:NP}
theorem Mg {l m:List aH} {va vb:Value} (hl:cZ w va l) (hm:cZ w vb m):
    aN prog 17 [va,vb] w λu w'=>u=.bool (decide (l=m))/\Kept noB w w':=by
  obtain⟨r,hr,gW⟩:=hl;obtain⟨s,hs,zW⟩:=hm;obtain⟨A,c,rfl,⟨hc,hc'⟩,hA⟩:=hr;obtain⟨B,d,rfl,⟨hd,hd'⟩,hB⟩:=hs;have xk:=gW.len;have Qi:=zW.len;have H:=Sep.aL w;refine dS func17 rfl rfl rfl rfl ?_;refine Za6 ?_;refine Qn (Cp rfl (λqx=>?_) (λqx=>?_))
  . have iF: ¬l=m:=λe=>qx (by rw[xk,Qi,e])
    refine Zb1 ?_;exact⟨by rw[zar iF];rfl,H.kept⟩
  have hlen:r.length=s.length:=oM;refine Zb1 ?_;refine aP (λi:Nat=>[(0,.slice A r.length c),(1,.slice B s.length d),(5,I i)]) (λi w'=>(i<=r.length/\l.take i=m.take i)/\Mw.Sep w noB [] w') (λi _=>r.length-i) 0 tR ⟨⟨zak _,rfl⟩,H⟩ (λi τ wa hI=>?_);obtain⟨⟨hi,MS⟩,Ha⟩:=hI
  try simp only[dA,like,bB,bY]
  refine Za4 ?_;refine Qn (Cp rfl (λIa=>?_) (λIa=>?_))
  . have bX:i<r.length:=oM
    have Co:i<s.length:=oM;obtain⟨o,ho⟩:=get_some (l:=l) (show i<l.length from oM);obtain⟨p,hp⟩:=get_some (l:=m) (show i<m.length from oM);obtain⟨vo,Qp,Jg⟩:=gW.get ho;obtain⟨vp,hvp,Cm⟩:=zW.get hp;have gQ:=qW MS ho hp;refine Zb0 ?_;refine Ds (λSa wb Hb=>?_);refine Zb2 ?_;refine GS (Gn rfl (λ_=>Gives.mK rfl rfl hA bX) ?_);refine Zb1 ?_;refine GS (Gt rfl (Gives.iJ (f:=1) rfl Hb hA Qp rfl) ?_);refine Zb2 ?_;refine GS (Gn rfl (λ_=>Gives.mK rfl rfl hB Co) ?_);refine Zb1 ?_;refine GS (Gt rfl (Gives.iJ (f:=1) rfl Hb hB hvp rfl) ?_);refine Zb2 ?_;refine fP (t:=28) rfl (λSb=>?_) (λSb=>?_)
    . refine Zb2 ?_
      have iF: ¬l=m:=λe=>by
        have h1:=qc.2 (gQ.1 (by rw[e]));have h2:=h1.1;have h3:=h1.2;omega
      exact⟨by rw[zar iF];rfl,Hb.kept⟩
    refine Zb2 ?_;refine GS (Gn rfl (λ_=>Gives.mK rfl rfl hA bX) ?_);refine Zb1 ?_;refine GS (Gt rfl (Gives.iJ (f:=0) rfl Hb hA Qp rfl) ?_);refine Zb2 ?_;refine GS (Gn rfl (λ_=>Gives.mK rfl rfl hB Co) ?_);refine Zb1 ?_;refine GS (Gt rfl (Gives.iJ (f:=0) rfl Hb hB hvp rfl) ?_);refine iZ Sa 22 _ Hb (adN (Jg.keep Hb.kept) (Cm.keep Hb.kept)) (h:=λwc Hc ka=>⟨sT,?_⟩);refine GS (Gn rfl (λ_=>Gives.notP rfl) ?_);refine Za1 ?_;refine dP Sa kR ?_;refine aU (Cp rfl (λIb=>?_) (λIb=>?_))
    . refine Zb1 ?_
      have iF: ¬l=m:=λe=>by
        have h1:=qc.2 (gQ.1 (by rw[e]));have h2:=h1.1;have h3:=h1.2
        contradiction
      exact⟨by rw[zar iF];rfl,Hc.kept⟩
    refine Zb1 ?_;have Jb:l.take (i+1)=m.take (i+1):=gQ.2 (qc.1 ⟨oM,Decidable.of_not_not (by assumption)⟩);refine Vc ((i+1:Nat):Int) ?_;refine Zb1 ?_;exact ak (i+1) tR ⟨⟨oM,Jb⟩,Hc⟩ oM
  have jy:l=m:=by
    rw[zaf oM,zaf oM]at MS;exact MS
  refine Zb1 ?_;exact⟨by rw[zbe jy];rfl,Ha.kept⟩
theorem Vw {bp:Nat} {tv:Value} {T:List aH} (hp:(star (blk bp [tv] 106) (Di tv T)).ok F w) (hn:T.length<=1000) (hTr: ∀o∈T,o.row.length<=1000):
    aN prog 389 [aA bp] w λu w'=>∃x:Value×List Held,u=x.1/\x.2.map (·.2)=T/\Turn F (star (dR x.1 x.2) (star (blk bp [tv] 106) (Di tv T))) w w':=by
  have H:=(Sep.dZ hp).dG;refine eP func389 rfl rfl rfl rfl ?_;refine Zb5 ?_;have hT0:cZ _ tv T:=Sep.sees H At1;refine dx H (agF hT0 hn hTr) (h:=λx w7 hx H7 k6=>?_);refine Zb1 ?_;exact⟨x,rfl,hx,(H7.aJ.bF.aJ.bI.aJ.bI).turn⟩
theorem aea (keys sums:Int):aN prog 48 [I keys,I sums] w λu w'=>
    (¬(0<=keys/\keys<=16/\0<=sums/\sums<=16)->u=.tuple #[.pointer none,I 2]/\Kept noB w w')/\
    ((0<=keys/\keys<=16/\0<=sums/\sums<=16)->∃x:Nat×Nat,u=.tuple #[aA x.1,I 0]/\Turn noB (star (blk x.1 (uF keys.toNat sums.toNat x.2) 150) (iX x.2 [])) w w'):=by
  have H:=Sep.aL w;refine dS func48 rfl rfl rfl rfl ?_;refine Zb5 ?_;refine aC (t:=8) rfl (λhs6=>?_) (λhs6=>?_)
  . refine Zb7 ?_
    exact⟨λ_=>⟨rfl,H.kept⟩,λh=>oM⟩
  refine Zb4 ?_;refine aC (t:=12) rfl (λSa=>?_) (λSa=>?_)
  . refine Zb5 ?_
    exact⟨λ_=>⟨rfl,H.kept⟩,λh=>oM⟩
  refine Zb4 ?_;refine aC (t:=16) rfl (λSb=>?_) (λSb=>?_)
  . refine Zb3 ?_
    exact⟨λ_=>⟨rfl,H.kept⟩,λh=>oM⟩
  refine Za3 ?_;refine Qn (Cp rfl (λIa=>?_) (λIa=>?_))
  . refine Zb2 ?_
    exact⟨λ_=>⟨rfl,H.kept⟩,λh=>oM⟩
  refine Zb2 ?_;refine yA H (h:=λbm wa Ha ka=>?_);have Ha:=Sep.Vk Ha At0;refine Vb [.bool true,I keys,I sums,.map (some bm)] ?_;refine dz Ha (cs:=[.bool true,I keys,I sums,.map (some bm)]) rfl (h:=λbg wb Hb kb=>?_);refine Zb2 ?_;exact⟨λh=>zat oM h,λh=>⟨(bg,bm),rfl,by
  have e1:((keys.toNat:Nat):Int)=keys:=zcw h.1;have e2:((sums.toNat:Nat):Int)=sums:=zcw h.2.2.1;unfold uF;rw[e1,e2];exact Hb.bI.turn⟩⟩
end
section
variable {w:Wd} {F:NP}
end
abbrev aaG:=Value×Value×List aI×List Int
def grC (g:aaG):LV:=[g.1,I (g.2.2.2.headD 0),g.2.1]
instance:lY grC 3:=⟨λ_=>rfl⟩
def BO (w:Wd) (G:List aaG):Prop:=∀g∈G,aM w g.1 aj 3 g.2.2.1/\aM w g.2.1 CG 1 (g.2.2.2.drop 1)
theorem BO.keep {w w':Wd} {G:List aaG} (h:BO w G) (hk:Kept noB w w'):BO w' G:=λg hg=>⟨(h g hg).1.keep hk,(h g hg).2.keep hk⟩
section
variable {w:Wd}
end
section
variable {w:Wd}
end
theorem xL (ns:List Int) (k:List aI) (wt:Int):(j6 ns k wt).length<=1:=by
 unfold j6
 split<;>simp
section
variable {w:Wd}
end
section
variable {w:Wd}
end
section
variable {w:Wd} {F:NP}
end
def nP (cv wv pv:Value) (g:Int) (ov kv:Value) (o1 o2 o3:Int) (fv:Value):LV:=[cv,wv,pv,I g,ov,kv,.int .u32 o1,.int .i32 o2,.int .u32 o3,fv]
section
variable {w:Wd}
theorem OJ {b:Nat} {E:Td} {cv wv pv ov kv fv:Value} {g o1 o2 o3:Int} {r:Bool} (hb:jo w b (nP cv wv pv g ov kv o1 o2 o3 fv) E) (hk:IsNil kv r):aN Tryz.prog 51 [aA b] w λu w'=>u=.bool r/\Kept noB w w':=by
 haveI:IsIface Tryz.prog 60:=⟨by kernel_rfl⟩
 have H:=Sep.aL w;refine eP Tryz.func51 rfl rfl rfl rfl ?_;refine Zb4 ?_;refine iN (t:=5) rfl (λNh=>?_) (λNh=>?_)
 .refine Zb2 ?_
  (exfalso;simp at *)
 refine Zb3 ?_;refine ig (hb.keep H.kept) (h:=?_);refine On (Vv (Gives.U7 hk rfl rfl) (Zb2 ?_));exact⟨rfl,H.kept⟩
end
end Go.Proofs.YtkfpleidaoaonaaGreatDoor
namespace Go.Mw
open Go.RowKit
section
variable {P:Program} {r:Option Nat} {n:Nat} {ops:AO} {Q:Post} {rest:LO} {σ:St} {w w' w0:Wd} {S:NP} {rs:List HP} {put:HP->List HP} {op:Op} {ty:Td} {pos:String} {after:Array Edge} {guard:Option (Nat×Bool)} {lv:List Bool} {pd:LNB}
theorem ajN {v:Value} (hg:Gives P (evF σ) op ty w v w') (h:FL P r n ops Q rest σ w'):
    FL P r n ops Q (⟨none,op,ty,pos,after,none⟩::rest) σ w:=λa ha=>
  wpListIn_plain rfl λK hK=>by
    refine⟨λ_ _=>trivial,?_⟩;rw[ha.eval,Kq (hg _ _ _ _)];exact hK _ _ (h _ ha)
theorem KS {d:Nat} {x:Od} {T k e:Td} [hm:IsMap P T k e] {b:Nat} {D:List Ent} (H:Sep w0 S rs w) (hat:At rs (iX b D) put) (hx:evF σ x=.map (some b):=by exact rfl) (hd:Nat.blt d n=true:=by exact rfl)
    (h: ∀q w',Sep w0 S (put (yD q b D D)) w'->FL P r n ops Q rest (upd σ d (.pointer (some ⟨q,0,none⟩))) w'):
    FL P r n ops Q (⟨some d,.range T x,ty,pos,after,none⟩::rest) σ w:=by
  obtain⟨q,w',hg,hs,_⟩:=Vs (P:=P) (ty:=ty) (T:=T) (k:=k) (e:=e) H hat hx;exact dU hg hd (h q w' hs)
theorem OL {d:Nat} {x:Od} {q b:Nat} {D L:List Ent} (H:Sep w0 S rs w) (hat:At rs (yD q b D L) put)
    (h1: ∀p L' w',L.Perm (p::L')->Sep w0 S (put (Vp q b D L' p)) w'->FL P r n ops Q rest (upd σ d (.tuple #[.bool true,str p.1,p.2])) w')
    (h2:L=[]->FL P r n ops Q rest (upd σ d (.tuple #[.bool false])) w) (hx:evF σ x=.pointer (some ⟨q,0,none⟩):=by exact rfl) (hd:Nat.blt d n=true:=by exact rfl):
    FL P r n ops Q (⟨some d,.next x false,ty,pos,after,none⟩::rest) σ w:=by
  rcases Nb (P:=P) (ty:=ty) H hat hx with⟨h0,hg⟩ | ⟨p,L',w',hp,hg,hs⟩
  . exact dU hg hd (h2 h0)
  exact dU hg hd (h1 p L' w' hp hs)
theorem aaH {x y:Od} {T U k e:Td} [hm:IsMap P T k e] [hk:nZ P k] {b:Nat} {D:List Ent} {i:L8} (H:Sep w0 S rs w) (hat:At rs (iX b D) put) (hx:evF σ x=.map (some b):=by exact rfl) (hy:evF σ y=str i:=by exact rfl)
    (h: ∀w',Sep w0 S (put (iX b (X0 D i))) w'->FL P r n ops Q rest σ w'):
    FL P r n ops Q (⟨none,.call {callee:=.builtin .delete,args:= #[x,y],argTypes:= #[T,U]},ty,pos,after,none⟩::rest) σ w:=by
  obtain⟨w',hg,hs⟩:=QN (P:=P) (ty:=ty) (T:=T) (U:=U) (k:=k) (e:=e) H hat hx hy;exact ajN hg (h w' hs)
theorem Vy (gT:fT n ops=true) (e:Nat) (pd':LNB) {x y z:Od} {T k el:Td} [IsMap P T k el] [nZ P k] {b:Nat} {D:List Ent} {i:L8} {v:Value} (H:Sep w0 S rs w) (hat:At rs (iX b D) put)
    (ho:ops[e]? =some ⟨none,.mapUpdate T x y z,ty,pos,after,guard⟩:=by exact rfl)
    (hw:Region.wanted ⟨none,.mapUpdate T x y z,ty,pos,after,guard⟩ (eD ops σ)=true:=by kernel_rfl) (hx:evF σ x=.map (some b):=by exact rfl) (hy:evF σ y=str i:=by exact rfl) (hz:evF σ z=v:=by exact rfl)
    (fq:gY ops lv (pd.map (·.1)) e=true:=by kernel_rfl) (rC:pd.filter (λp=> !((above ops e).contains p.1))=pd':=by exact pD)
    (h: ∀w',Sep w0 S (put (iX b (CK D i v))) w'->mI P ops σ w' pd'/\FG P r n ops Q (lv.set e true) pd' σ w'):FG P r n ops Q lv pd σ w:=
  XW gT e pd' ho hw (Cy (P:=P) (T:=T) (k:=k) (e:=el) H hat hx hy hz) fq rC h
end
end Go.Mw
namespace Go.Proofs.YtkfpleidaoaonaaGreatDoor
open Go Go.Mw Go.Lib Tryz
set_option maxRecDepth 4000
section
variable {w0 w:Wd} {S:NP} {rs:List HP} {L M:List Held} {u v:Value}
theorem X7 (H:Mw.Sep w0 S (Mc L::Mc M::rs) w):Mw.Sep w0 S (Mc (L++M)::rs) w:=by
 refine Sep.imp H.bI At0 λF hF=>?_;show(lC ((L++M).map _)).ok F w
 rw[zam];exact Bl.1 hF
theorem FM {ρ:Od->Value} {ty:Td} {x y:Od} (H:Mw.Sep w0 S (dR u M::dR v L::rs) w) (hx:ρ x=v) (hy:ρ y=u) (hn:L.length+M.length<=1000000):
    ∃v' w',Gives prog ρ (.call {callee:=.builtin .append,args:= #[x,y],argTypes:= #[27,27]}) ty w v' w'/\Mw.Sep w0 S (dR v' (L++M)::rs) w':=by
  have H1:=H.dG;have rA: ∀z∈(eU M).flatMap av,z.oneCell'=true:=Ev (XE H1 At1);obtain⟨U,cu,rfl,_,hU⟩:=Sep.eO H1 At0;have H2:=H1.bF.dG;have e1:(eU L).length=L.length:=zae _;have e2:(eU M).length=M.length:=zae _;obtain⟨v',w',hg,hs⟩:=JH (P:=prog) (ρ:=ρ) (ty:=ty) (x:=x) (y:=y) (t:=27) (e:=82) H2 hx hy At0 hU rA dC rfl (by rw[e1,e2];unfold maxLen;omega) (by rw[e1,e2];omega);refine⟨v',w',hg,?_⟩;have h3:=X7 (hs.bF.eF.aJ.bF.aJ);have h4:=h3.aJ;unfold dR bW;have e3:eU (L++M)=eU L++eU M:=zam;rw[e3,zad,zcd];exact h4.bI
end
section
variable {r:Option Nat} {n:Nat} {ops:AO} {Q:Post} {rest:LO} {σ:St} {w w0:Wd} {S:NP} {rs:List HP} {ty:Td} {pos:String} {after:Array Edge} {guard:Option (Nat×Bool)} {lv:List Bool} {pd:LNB} {L M:List Held} {u v:Value}
theorem AA (gT:fT n ops=true) (i:Nat) (pd':LNB) {d:Nat} {x y:Od} (H:Mw.Sep w0 S (dR u M::dR v L::rs) w) (hn:L.length+M.length<=1000000)
    (ho:ops[i]? =some ⟨some d,.call {callee:=.builtin .append,args:= #[x,y],argTypes:= #[27,27]},ty,pos,after,guard⟩:=by exact rfl)
    (hw:Region.wanted ⟨some d,.call {callee:=.builtin .append,args:= #[x,y],argTypes:= #[27,27]},ty,pos,after,guard⟩ (eD ops σ)=true:=by kernel_rfl)
    (hx:evF σ x=v:=by exact rfl) (hy:evF σ y=u:=by exact rfl)
    (fq:gY ops lv (pd.map (·.1)) i=true:=by kernel_rfl) (rC:pd.filter (λp=> !((above ops i).contains p.1))=pd':=by exact pD)
    (h: ∀v' w',Mw.Sep w0 S (dR v' (L++M)::rs) w'->mI prog ops (upd σ d v') w' pd'/\FG prog r n ops Q (lv.set i true) pd' (upd σ d v') w'):FG prog r n ops Q lv pd σ w:=
  Av gT i pd' ho hw (FM (ty:=ty) H hx hy hn) fq rC h
end
def JI (w:Wd) (C:List yE):Prop:=∀c∈C,jo w c.b [c.kv,c.sv] 438/\aM w c.kv aj 3 c.key/\aM w c.sv dV 3 c.ns
theorem X8: ∀{C:List yE} {F:NP} {w:Wd},(lC (C.map OI)).ok F w->JI w C
 | [],_,_,_=>λc hc=>zat hc zaj
 | c::C,F,w,⟨F1,F2,_,_,⟨G1,G2,_,_,hb,G3,G4,_,_,h1,h2⟩,h3⟩=>λd hd=>by
  rcases zap.1 hd with rfl | hd
  .exact⟨hb.2,iE h1,iE h2⟩
  exact X8 h3 d hd
structure oK (f:List aI->Option (List Int)) (L:List iD):Prop where
 nd:(L.map (·.2.2.1)).Nodup
 is: ∀s∈L,f s.2.2.1=some s.2.2.2
 all: ∀k,f k≠none->k∈L.map (·.2.2.1)
 fit: ∀s∈L,iM s.2.2.1/\s.2.2.1.length<=16
def Vz (f:List aI->Option (List Int)) (k:List aI) (o:Option (List Int)):List aI->Option (List Int):=λx=>if x=k then o else f x
def zw (L:List iD) (s:iD):List iD:=if s.2.2.1∈L.map (·.2.2.1)then L.map (λt=>if t.2.2.1=s.2.2.1 then s else t)else L++[s]
def R4 (L:List iD) (k:List aI):List iD:=L.filter λt=> !decide (t.2.2.1=k)
theorem R5 {a b:List aI} (ha:iM a) (hb:iM b):(gB a==gB b)=decide (a=b):=by
 rw[zdj,beq_iff_eq,decide_eq_true_iff];exact⟨Ey ha hb,λe=>by rw[e]⟩
theorem JJ {k:List aI} (hk:iM k): ∀{L:List iD},(∀s∈L,iM s.2.2.1)->ow (L.map je) (gB k)=(L.find? λs=>decide (s.2.2.1=k)).map λs=>agg [s.1,s.2.1]
 | [],_=>rfl
 | s::L,h=>by
  have ih:=JJ hk (L:=L) λt ht=>h t (zai _ ht);have h1:=R5 (h s zah) hk;unfold ow at ih ⊢;rw[zax,zcj,zcj,show((je s).1==gB k)=decide (s.2.2.1=k)from h1];cases hb:decide (s.2.2.1=k)with
  | true=>rfl
  | false=>exact ih
section
variable {f:List aI->Option (List Int)} {L:List iD} {k:List aI} {ns:List Int} {s:iD}
theorem oK.fits (h:oK f L): ∀s∈L,iM s.2.2.1:=λs hs=>(h.fit s hs).1
theorem oK.get (h:oK f L) (hk:iM k) (hf:f k=some ns): ∃s∈L,s.2.2.1=k/\s.2.2.2=ns/\ow (L.map je) (gB k)=some (agg [s.1,s.2.1]):=by
 have hm:=h.all k (by rw[hf];exact λh=>nomatch h);rw[JJ hk h.fits];cases hx:L.find? λs=>decide (s.2.2.1=k)with
 | none=>
  obtain⟨s,hs,e⟩:=zaq.1 hm;exact zat (zbe e) (zeq.1 hx s hs)
 | some s=>
  have hs:=zec hx;have e0:=List.find?_some hx;have e:s.2.2.1=k:=zba e0;refine⟨s,hs,e,?_,rfl⟩;have:=h.is s hs;rw[e,hf]at this;injection this with this
  exact this.symm
theorem oK.aqp (h:oK f L) (hk:iM k) (hf:f k=none):ow (L.map je) (gB k)=none:=by
 rw[JJ hk h.fits,zfh,zeq];intro s hs he;have:=h.is s hs;rw[zba he,hf]at this;cases this
theorem OM:(zw L s).map (·.2.2.1)=if s.2.2.1∈L.map (·.2.2.1)then L.map (·.2.2.1)else L.map (·.2.2.1)++[s.2.2.1]:=by
 unfold zw
 split
 .rw[zcy]
  refine zco λt _=>?_;show(if t.2.2.1=s.2.2.1 then s else t).2.2.1=t.2.2.1
  split
  .rename_i e;exact e.symm
  rfl
 rw[zam];rfl
theorem KT {t:iD} (ht:t∈zw L s):t=s\/(t∈L/\t.2.2.1≠s.2.2.1):=by
 unfold zw at ht
 split at ht
 .obtain⟨u,hu,rfl⟩:=zaq.1 ht
  split
  .exact .inl rfl
  rename_i e;exact .inr ⟨hu,e⟩
 rename_i hm
 rcases zbh.1 ht with h | h
 .exact .inr ⟨h,λe=>hm (zaq.2 ⟨t,h,e⟩)⟩
 exact .inl (zay.1 h)
theorem oK.put (h:oK f L) (hs:iM s.2.2.1/\s.2.2.1.length<=16):oK (Vz f s.2.2.1 (some s.2.2.2)) (zw L s):=by
 refine⟨?_,λt ht=>?_,λk hk=>?_,λt ht=>?_⟩
 .rw[OM]
  split
  .exact h.nd
  rename_i hm;rw[zem];exact⟨h.nd,sM,λa ha b hb e=>by rw[zay]at hb;subst hb;subst e;exact hm ha⟩
 .unfold Vz
  rcases KT ht with rfl | ⟨h1,h2⟩
  .rw[zac rfl]
  rw[zab h2];exact h.is t h1
 .rw[OM]
  unfold Vz at hk
  by_cases e:k=s.2.2.1
  .subst e
   split
   .assumption
   exact zch _ (zay.2 rfl)
  rw[zab e]at hk;have:=h.all k hk
  split
  .exact this
  exact zcg _ this
 rcases KT ht with rfl | ⟨h1,_⟩
 .exact hs
 exact h.fit t h1
theorem oK.del (h:oK f L):oK (Vz f k none) (R4 L k):=by
 unfold R4;refine⟨h.nd.sublist (List.filter_sublist.map _),λt ht=>?_,λx hx=>?_,λt ht=>h.fit t (zbw.1 ht).1⟩
 .obtain⟨h1,h2⟩:=zbw.1 ht
  have h3: ¬t.2.2.1=k:=by simpa using h2
  unfold Vz;rw[zab h3];exact h.is t h1
 unfold Vz at hx
 by_cases e:x=k
 .rw[zac e]at hx;exact zat rfl hx
 rw[zab e]at hx;obtain⟨t,ht,rfl⟩:=zaq.1 (h.all x hx);exact zaq.2 ⟨t,zbw.2 ⟨ht,by simpa using e⟩,rfl⟩
theorem oK.congr {g:List aI->Option (List Int)} (h:oK f L) (e: ∀k,g k=f k):oK g L:=by
 have :g=f:=funext e;rw[this];exact h
theorem R6 (hF: ∀s∈L,iM s.2.2.1) (hs:iM s.2.2.1):CK (L.map je) (gB s.2.2.1) (agg [s.1,s.2.1])=(zw L s).map je:=by
 unfold CK zw
 have hn:(ow (L.map je) (gB s.2.2.1)).isSome=true↔s.2.2.1∈L.map (·.2.2.1):=by
  rw[JJ hs hF,Option.isSome_map,List.find?_isSome];constructor
  .rintro⟨t,ht,e⟩;exact zaq.2 ⟨t,ht,zba e⟩
  intro hm;obtain⟨t,ht,e⟩:=zaq.1 hm;exact⟨t,ht,zbe e⟩
 by_cases hm:s.2.2.1∈L.map (·.2.2.1)
 .rw[zac (hn.2 hm),zac hm,zcy,zcy]
  refine zco λt ht=>?_;show(if(je t).1=gB s.2.2.1 then(gB s.2.2.1,agg [s.1,s.2.1])else je t)=je (if t.2.2.1=s.2.2.1 then s else t)
  by_cases e:t.2.2.1=s.2.2.1
  .rw[zac e,zac (show(je t).1=_ by unfold je;rw[e])];rfl
  rw[zab e,zab (show ¬(je t).1=gB s.2.2.1 from λe2=>e (Ey (hF t ht) hs e2))]
 rw[zab (λe=>hm (hn.1 e)),zab hm,zam];rfl
theorem aeb (hF: ∀s∈L,iM s.2.2.1) (hs:iM s.2.2.1) (hn:s.2.2.1∉L.map (·.2.2.1)):CK (L.map je) (gB s.2.2.1) (agg [s.1,s.2.1])=(L++[s]).map je:=by
 rw[R6 hF hs];unfold zw;rw[zab hn]
theorem aec (hF: ∀s∈L,iM s.2.2.1) (hk:iM k):X0 (L.map je) (gB k)=(R4 L k).map je:=by
 unfold X0 R4;rw[List.filter_map]
 congr 1
 refine List.filter_congr λt ht=>?_;show(!((je t).1==gB k))=_
 rw[show((je t).1==gB k)=decide (t.2.2.1=k)from R5 (hF t ht) hk]
end
def JK (bh sums:Nat) (E:List dH):HP:=exH λL:List iD=>star (iX bh (L.map je)) (star (iC λw=>iQ w L) (jI (oK (stE sums E) L)))
theorem AB {w0 w:Wd} {S:NP} {rs:List HP} {bh sums:Nat} {E:List dH} {L:List iD} (H:Mw.Sep w0 S (iC (λw=>iQ w L)::iX bh (L.map je)::rs) w) (hL:oK (stE sums E) L):Mw.Sep w0 S (JK bh sums E::rs) w:=
 Sep.uW (p:=λL:List iD=>star (iX bh (L.map je)) (star (iC λw=>iQ w L) (jI (oK (stE sums E) L)))) L ((Sep.jT hL H).aJ.bI.aJ.bI)
theorem R7 {w0 w:Wd} {S:NP} {rs:List HP} {bh sums:Nat} {E:List dH} (H:Mw.Sep w0 S (JK bh sums E::rs) w): ∃L,oK (stE sums E) L/\Mw.Sep w0 S (iC (λw=>iQ w L)::iX bh (L.map je)::rs) w:=by
 obtain⟨L,G2⟩:=Sep.ex0 H;obtain⟨hS,G3⟩:=Sep.tJ (G2.dG.aJ.dG.aJ);exact⟨L,hS,G3⟩
theorem aed (sums:Nat):oK (stE sums []) []:=⟨List.nodup_nil,λs hs=>zat hs zaj,λk hk=>zat (by unfold stE;rw[zab];simp[gL,lH]) hk,λs hs=>zat hs zaj⟩
theorem iQ.sub {w:Wd} {L M:List iD} (h:iQ w M) (hs: ∀s∈L,s∈M):iQ w L:=λs hm=>h s (hs s hm)
theorem iQ.app {w:Wd} {L M:List iD} (h:iQ w L) (h2:iQ w M):iQ w (L++M):=λs hm=>(zbh.1 hm).elim (h s) (h2 s)
theorem iQ.push {w:Wd} {L:List iD} {s:iD} (h:iQ w L) (h1:aM w s.1 aj 3 s.2.2.1) (h2:aM w s.2.1 CG 1 s.2.2.2) (h3:iM s.2.2.1):iQ w (L++[s]):=h.app λt ht=>by
 rw[zay]at ht;subst ht;exact⟨⟨h1,h2⟩,h3⟩
def OO (sums:Nat) (E l:List dH) (done:List (List aI)):List aI->Option (List Int):=λk=>if k∈done then stE sums (E++l) k else stE sums E k
theorem ag0 {sums:Nat} {E l:List dH} (k:List aI):OO sums E l [] k=stE sums E k:=zab zaj
theorem ag1 {sums:Nat} {E l:List dH} {done:List (List aI)} (hd: ∀k∈mH l,k∈done) (k:List aI):stE sums (E++l) k=OO sums E l done k:=by
 unfold OO
 split
 .rfl
 rename_i h;exact adI λhk=>h (hd k hk)
theorem R8 {sums:Nat} {E l:List dH} {done:List (List aI)} {k:List aI} {o:Option (List Int)} (ho:o=stE sums (E++l) k) (x:List aI):OO sums E l (k::done) x=Vz (OO sums E l done) k o x:=by
 unfold OO Vz;show(if x∈k::done then stE sums (E++l) x else stE sums E x)=if x=k then o else if x∈done then stE sums (E++l) x else stE sums E x
 by_cases e:x=k
 .subst e;rw[zac zah,zac rfl,ho]
 rw[zab e]
 by_cases hm:x∈done
 .rw[zac hm,zac (zai _ hm)]
 rw[zab hm,zab (λh=>(zap.1 h).elim e hm)]
theorem aee {x:dH} (hw:fits x.w) (hv: ∀c∈x.vals,fits c.n) (i:Nat): -85070591730234615865843651857942052864<=Gs x i/\Gs x i<=85070591730234615865843651857942052864:=by
 unfold Gs
 split
 .unfold fits at hw;omega
 split
 .omega
 refine RA hw ?_;rw[zau];cases hc:x.vals[i-1]? with
 | none=>exact⟨dC,dC⟩
 | some c=>exact hv c (zao hc)
theorem aef {l:List dH} (h: ∀x∈l,fits x.w/\∀c∈x.vals,fits c.n) (k:List aI) (i:Nat): -(85070591730234615865843651857942052864*(l.length:Int))<=lH l k i/\lH l k i<=85070591730234615865843651857942052864*(l.length:Int):=by
 induction l with
 | nil=>exact⟨by simp[lH],by simp[lH]⟩
 | cons x l ih=>
  have h1:=ih λy hy=>h y (zai _ hy);have h2:=aee (h x zah).1 (h x zah).2 i;rw[lH,zal]
  split<;>omega
theorem aaI {sums:Nat} {E l:List dH} (hE:yX sums E=true) (h: ∀x∈l,fits x.w/\∀c∈x.vals,fits c.n) (hn:l.length<=1000) {k:List aI} {n:Int} (hm:n∈gL sums (E++l) k): -3138550867693340381917894711603833208051177722232017256448<=n/\n<3138550867693340381917894711603833208051177722232017256448:=by
 unfold gL at hm;obtain⟨i,hi,rfl⟩:=zaq.1 hm;rw[zdl]at hi;have h1:=zba (tO.1 hE k i oM);have h2:=aef h k i;rw[sw];omega
structure OP (sums:Nat) (E l:List dH) (C:List yE) (Ln:List iD) (Lf:List Ent) (LI:List Held):Prop where
 rest: ∃Cl:List yE,(∀c∈Cl,c∈C)/\Lf.Perm (Cl.map Vt)/\(C.map (·.key)).Perm (Ln.map (·.2.2.1)++Cl.map (·.key))
 nums: ∀s∈Ln,s.2.2.2=gL sums (E++l) s.2.2.1/\(∀n∈s.2.2.2,gU n=true)/\iM s.2.2.1/\s.2.2.1.length<=16
 its:LI.map (·.2)=(Ln.map (·.2.2.1)).flatMap λk=>j6 (gL sums E k) k (-1)++j6 (gL sums (E++l) k) k 1
theorem KU {α β:Type} {f:α->β} {L:List α} {p:β} {L':List β} (h:(p::L').Perm (L.map f)): ∃c Lr,L.Perm (c::Lr)/\p=f c/\L'.Perm (Lr.map f):=by
 obtain⟨c,hc,e⟩:=zaq.1 (h.mem_iff.1 zah);obtain⟨s,t,gQ⟩:=List.append_of_mem hc;have hp:L.Perm (c::(s++t)):=by rw[gQ];exact List.perm_middle
 refine⟨c,s++t,hp,e.symm,?_⟩;have h2:=h.trans (hp.map f);rw[zax,e]at h2;exact(List.perm_cons p).1 h2
theorem OP.step {sums:Nat} {E l:List dH} {C:List yE} {K:List (List aI)} {D0:List Ent} {Ln:List iD} {Lf Lf':List Ent} {LI:List Held} {p:Ent} (h:OP sums E l C Ln Lf LI) (hC:ad9 sums (E++l) K C D0) (hK:K.Nodup) (hkl: ∀k∈K,k.length<=16) (hp:Lf.Perm (p::Lf')):
    ∃c:yE,c∈C/\p=Vt c/\(c.key∉Ln.map (·.2.2.1))/\c.ns=gL sums (E++l) c.key/\(iM c.key/\c.key.length<=16)/\∀(kv nv:Value) (LI':List Held),LI'.map (·.2)=j6 (gL sums E c.key) c.key (-1)++j6 (gL sums (E++l) c.key) c.key 1->(∀n∈c.ns,gU n=true)->OP sums E l C (Ln++[(kv,nv,c.key,c.ns)]) Lf' (LI++LI'):=by
  obtain⟨Cl,h1,h2,h3⟩:=h.rest;obtain⟨c,Cr,hq,rfl,hL⟩:=KU (hp.symm.trans h2);have hcC:c∈C:=h1 c (hq.mem_iff.2 zah);have hnd:(C.map (·.key)).Nodup:=hC.keys.symm.nodup hK;have h4:(C.map (·.key)).Perm (Ln.map (·.2.2.1)++c.key::Cr.map (·.key)):=h3.trans (List.Perm.append_left _ (hq.map _));have h5:(Ln.map (·.2.2.1)++c.key::Cr.map (·.key)).Nodup:=h4.nodup hnd;have hkc:c.key.length<=16:=hkl _ (hC.keys.mem_iff.1 (zeb hcC));refine⟨c,hcC,rfl,λhm=>?_,hC.nums c hcC,⟨hC.fit c hcC,hkc⟩,λkv nv LI' hI hf=>⟨⟨Cr,λd hd=>h1 d (hq.mem_iff.2 (zai _ hd)),hL,?_⟩,λs hs=>?_,?_⟩⟩
  . exact(zem.1 h5).2.2 _ hm _ zah rfl
  . rw[zam,zbs];exact h4
  . rcases zbh.1 hs with hs | hs
    . exact h.nums s hs
    rw[zay]at hs;subst hs;exact⟨hC.nums c hcC,hf,hC.fit c hcC,hkc⟩
  rw[zam,zam,zcd,h.its,hI];simp
theorem OP.start {sums:Nat} {E l:List dH} {C:List yE} {K:List (List aI)} {D:List Ent} (hC:ad9 sums (E++l) K C D):OP sums E l C [] D []:=
 ⟨⟨C,λ_ h=>h,hC.data,List.Perm.refl _⟩,λs hs=>zat hs zaj,rfl⟩
theorem OP.keys {sums:Nat} {E l:List dH} {C:List yE} {K:List (List aI)} {D:List Ent} {Ln:List iD} {LI:List Held} (h:OP sums E l C Ln [] LI) (hC:ad9 sums (E++l) K C D):(Ln.map (·.2.2.1)).Perm K:=by
 obtain⟨Cl,_,h2,h3⟩:=h.rest
 have :Cl=[]:=by
  have:=h2.length_eq;rw[zae]at this;exact zbi this.symm
 subst this;rw[zcr,zci]at h3;exact h3.symm.trans hC.keys
theorem OP.fine {keys sums:Nat} {E l:List dH} {C:List yE} {D:List Ent} {Ln:List iD} {LI:List Held} (h:OP sums E l C Ln [] LI) (hC:ad9 sums (E++l) (mH l) C D) (hm:(l.all λx=>xB keys sums x)=true) (hE:yX sums E=true):yX sums (E++l)=true/\Ak keys sums E l=dY (LI.map (·.2)):=by
 have hp:=h.keys hC
 have hf:yX sums (E++l)=true:=(adL hE).2 λk hk n hn=>by
  obtain⟨s,hs,e⟩:=zaq.1 (hp.mem_iff.2 hk);obtain⟨h1,h2,_⟩:=h.nums s hs;rw[<-e]at hn;exact h2 n (by rw[h1];exact hn)
 refine⟨hf,?_⟩;unfold Ak;rw[zab (by rw[hm];decide),zab (by rw[hf];decide),h.its,aaq hp]
theorem aeg {keys sums:Nat} {E l:List dH} {k:List aI} {n:Int} (hm:(l.all λx=>xB keys sums x)=true) (hn:n∈gL sums (E++l) k) (hf:gU n≠true):Ak keys sums E l=([],50):=by
 have :yX sums (E++l)=false:=by
  cases h:yX sums (E++l)with
  | false=>rfl
  | true=>
   unfold gL at hn;obtain⟨i,hi,rfl⟩:=zaq.1 hn;exact zat (tO.1 h k i (by have:=zdl.1 hi;omega)) hf
 unfold Ak;rw[zab (by rw[hm];decide),zac this]
structure QO (sums:Nat) (E l:List dH) (L0 Ln L:List iD) (Lf:List Ent) (done:List (List aI)):Prop where
 held:oK (OO sums E l done) L
 from_: ∀s∈L,s∈Ln\/s∈L0
 rest: ∃Lr:List iD,(∀s∈Lr,s∈Ln)/\Lf.Perm (Lr.map je)/\∀s∈Ln,s∈Lr\/s.2.2.1∈done
theorem QO.start {sums:Nat} {E l:List dH} {L0 Ln:List iD} (h:oK (stE sums E) L0):QO sums E l L0 Ln L0 (Ln.map je) []:=
 ⟨h.congr λk=>ag0 k,λs hs=>.inr hs,⟨Ln,λ_ h=>h,List.Perm.refl _,λs hs=>.inl hs⟩⟩
theorem QO.step {sums:Nat} {E l:List dH} {L0 Ln L:List iD} {Lf Lf':List Ent} {done:List (List aI)} {p:Ent} (h:QO sums E l L0 Ln L Lf done) (hn: ∀s∈Ln,s.2.2.2=gL sums (E++l) s.2.2.1/\iM s.2.2.1/\s.2.2.1.length<=16) (hp:Lf.Perm (p::Lf')):
    ∃s:iD,s∈Ln/\p=je s/\((s.2.2.2.any λn=>decide (n≠0))=true->QO sums E l L0 Ln (zw L s) Lf' (s.2.2.1::done))/\((s.2.2.2.any λn=>decide (n≠0))=false->QO sums E l L0 Ln (R4 (zw L s) s.2.2.1) Lf' (s.2.2.1::done)):=by
  obtain⟨Lr,h1,h2,h3⟩:=h.rest;obtain⟨s,Lq,hq,rfl,hL⟩:=KU (hp.symm.trans h2);have hs:s∈Ln:=h1 s (hq.mem_iff.2 zah);obtain⟨e1,e2,e3⟩:=hn s hs;have nA:=h.held.put ⟨e2,e3⟩
  have alx: ∀t∈zw L s,t∈Ln\/t∈L0:=λt ht=>by
    rcases KT ht with rfl | ⟨ht,_⟩
    . exact .inl hs
    exact h.from_ t ht
  have Ki: ∃Lr:List iD,(∀s∈Lr,s∈Ln)/\Lf'.Perm (Lr.map je)/\∀t∈Ln,t∈Lr\/t.2.2.1∈s.2.2.1::done:=⟨Lq,λt ht=>h1 t (hq.mem_iff.2 (zai _ ht)),hL,λt ht=>by
    rcases h3 t ht with h4 | h4
    . rcases zap.1 (hq.mem_iff.1 h4)with rfl | h5
      . exact .inr zah
      exact .inl h5
    exact .inr (zai _ h4)⟩
  refine⟨s,hs,rfl,λha=>⟨nA.congr λx=>R8 ?_ x,alx,Ki⟩,λha=>⟨?_,λt ht=>alx t (zbw.1 ht).1,Ki⟩⟩
  . unfold stE
    rw[<-e1,zac ha]
  refine(nA.del (k:=s.2.2.1)).congr λx=>?_;rw[R8 (o:=none) (by unfold stE;rw[<-e1,zab (by rw[ha];decide)])];unfold Vz
  split<;>rfl
theorem QO.end_ {sums:Nat} {E l:List dH} {L0 Ln L:List iD} {done:List (List aI)} (h:QO sums E l L0 Ln L [] done) (hk: ∀k∈mH l,k∈Ln.map (·.2.2.1)):oK (stE sums (E++l)) L:=by
 obtain⟨Lr,_,h2,h3⟩:=h.rest
 have :Lr=[]:=by
  have:=h2.length_eq;rw[zae]at this;exact zbi this.symm
 subst this;refine h.held.congr λk=>ag1 (λk hk'=>?_) k;obtain⟨s,hs,e⟩:=zaq.1 (hk k hk')
 rcases h3 s hs with h4 | h4
 .exact zat h4 zaj
 rw[<-e];exact h4
end Go.Proofs.YtkfpleidaoaonaaGreatDoor
