/-
 What changes at a key,begun;walked.
-/
import Derived.Test.YtjcgliljofbopaaGreatDoorNv23
set_option linter.all false
set_option maxRecDepth 4000
namespace Go.Proofs.Mw
attribute [local irreducible] FW FL FG FGn jK jO fI lU Qfn Gives
def Sep.pick {α:Type} {f:α->HP} {L:List α} {i:Nat} {x:α} {w0 w:Wd} {S:NP} {rs:List HP} (H:Sep w0 S (rs++L.map f) w) (h:L[i]? =some x):Sep w0 S (f x::(rs++(L.eraseIdx i).map f)) w:=by
 have hi:i<L.length:=(zbb.1 h).1
 have e:L=L.take i++x::L.drop (i+1):=by
  have h1:=zbs i L
  have h2:L.drop i=x::L.drop (i+1):=by
   rw[zbn hi]
   congr 1
   exact(zbb.1 h).2
  rw[h2]at h1;exact h1.symm
 have e2:L.eraseIdx i=L.take i++L.drop (i+1):=List.eraseIdx_eq_take_drop_succ L i;rw[e2];rw[e]at H
 have k:Sep w0 S ((rs++(L.take i).map f)++f x::(L.drop (i+1)).map f) w:=by
  rw[zbm];simpa using H
 have I:=k.front;rw[zai,<-zbm];exact I
open Go.Lib
structure uX where
 b:Nat
 kv:Value
 sv:Value
 key:List aC
 ns:List Int
def Nk (c:uX):HP:=star (blk c.b [c.kv,c.sv] 414) (star (aY 41 3 ah c.kv c.key) (aY 371 3 bW c.sv c.ns))
def TU (c:uX):Ent:=(eH c.key,ay c.b)
abbrev gu:=Value×Value×List aC×List Int
def gZ (s:gu):Ent:=(eH s.2.2.1,agg [s.1,s.2.1])
def gI (w:Wd) (L:List gu):Prop:=∀s∈L,(aJ w s.1 ah 3 s.2.2.1/\aJ w s.2.1 oH 1 s.2.2.2)/\gH s.2.2.1
variable {w:Wd} {F:NP}
variable {k:List aC} {v:Value} {D Dh:List Ent}
def Xc {b2 b5 bg bm bh keys sums bc:Nat} {E2 E5 Eg:Td} (hk: ∀w1,Kept F w w1->aJ w1 v ah 3 k) (hn:k.length<=64) (Dw:gH k) (hT: ∀w1,Kept F w w1->iB w1)
    (h2: ∀w1,Kept F w w1->gM w1 b2 [ay bg] E2) (h5: ∀w1,Kept F w w1->gM w1 b5 [.map (some bm)] E5)
    (hp:(star (gQ bm D) (gQ bh Dh)).ok F w) (hd:l7 D (eH k)=some (ay bc)):
    aR Tryz.prog 372 [v,ay b5,ay b2] w λu w'=>u=ay bc/\Turn F (star (gQ bm D) (gQ bh Dh)) w w':=by
  have H:=(Sep.bR hp).bL;refine AP Tryz.func372 ?_;refine Kz (abG (hk _ H.kept) hn Dw (hT _ H.kept)) (λ_ S _=>?_);refine Zb1 ?_;refine dM (h5 _ S.kept) (h:=?_);refine Mv ?_;refine dw (nE (i:=eH k) S At0 rfl rfl) rfl ?_;rw[hd];dsimp only[Option.getD_some];refine Za1 ?_;refine Qn (Cd rfl (λI=>?_) (λI=>?_))
  . exact zar I sM
  refine Zb0 ?_;refine dM (h5 _ S.kept) (h:=?_);refine Mv ?_;refine dw (nE (i:=eH k) S At0 rfl rfl) rfl ?_;rw[hd];dsimp only[Option.getD_some];refine Zb1 ?_;exact⟨rfl,S.aQ.turn⟩
theorem Xd {b2 b5 bg bm bh keys sums:Nat} {E2 E5 Eg:Td} {hv nv:Value} {ns:List Int} (hk: ∀w1,Kept F w w1->aJ w1 v ah 3 k) (hn:k.length<=64) (Dw:gH k) (hT: ∀w1,Kept F w w1->iB w1)
    (h2: ∀w1,Kept F w w1->gM w1 b2 [ay bg] E2) (h5: ∀w1,Kept F w w1->gM w1 b5 [.map (some bm)] E5) (hg: ∀w1,Kept F w w1->gM w1 bg (qR keys sums bh) Eg) (Lv:sums<=64)
    (hz:(l7 Dh (eH k)).getD (agg [.slice none 0 0,.slice none 0 0])=agg [hv,nv]) (hns: ∀w1,Kept F w w1->aJ w1 nv oH 1 ns) (Lj:ns.length<=sums+1) (Yp: ∀n∈ns,fits n)
    (hp:(star (gQ bm D) (gQ bh Dh)).ok F w) (hd:l7 D (eH k)=none):
    aR Tryz.prog 372 [v,ay b5,ay b2] w λu w'=>∃c:uX,u=ay c.b/\(c.key=k/\c.ns=ns++List.replicate (sums+1-ns.length) 0)/\Turn F (star (Nk c) (star (gQ bm (AB D (eH k) (ay c.b))) (gQ bh Dh))) w w':=by
  have H:=(Sep.bR hp).bL;obtain⟨N,cn,rfl,⟨LA,arU⟩,_⟩:=hns w (Kept.refl _ _);refine AP Tryz.func372 ?_;refine Kz (abG (hk _ H.kept) hn Dw (hT _ H.kept)) (λ_ S _=>?_);refine Zb1 ?_;refine dM (h5 _ S.kept) (h:=?_);refine Mv ?_;refine dw (nE (i:=eH k) S At0 rfl rfl) rfl ?_;rw[hd];dsimp only[Option.getD_none];refine Za1 ?_;refine Qn (Cd rfl (λS=>?_) (λS=>?_))
  . refine dD (λx:(OA×Nat)×Nat×Nat=>[(1,ay b5),(2,ay b2),(5,str (eH k)),(6,ay x.2.2)]) (λx w'=>Mw.Sep w F [blk x.2.2 [.slice x.1.1 k.length x.1.2,.slice (some ⟨x.2.1,0,none⟩) (sums+1) (sums+1)] 414,aY 41 3 ah (.slice x.1.1 k.length x.1.2) k,uR 371 3 (.slice (some ⟨x.2.1,0,none⟩) (sums+1) (sums+1)) (sums+1) ((List.replicate (sums+1) (0:Int)).flatMap bW),gQ bm D,gQ bh Dh] w') ?_ ?_
    . refine Dz (λa _ d=>?_)
      refine Zb1 ?_;refine Gl a 2 rfl rfl (Gives.mW rfl (h2 _ d.kept) rfl) (Zb2 ?_);refine GS (Gt rfl (Gives.mW rfl (hg _ d.kept) rfl) ?_);refine Gc a 6 ((sums+1:Nat):Int) ?_;refine j4 a (e1:=1) (e2:=7) kR ?_ ?_
      . refine mO a 1 [(6,true),(5,false),(4,true),(3,true),(2,false)] d (qg (hk _ d.kept) oM) (h:=λy _ _ g _=>?_)
        obtain⟨Y,cy,rfl,_,_⟩:=Sep.bJ g At0;refine⟨av ((bK rfl kR (Gives.mW rfl (hg _ g.kept) rfl) rfl (av (av ((bK rfl kR (Gives.mW rfl (h2 _ g.kept) rfl) rfl (eu))))))),?_⟩;refine abH (t:=385) a 7 _ g (k:=sums+1) (cs:=(List.replicate (sums+1) (0:Int)).flatMap bW) (hcs:=by exact rO (enc:=bW) dC 0 (sums+1)) (hk:=by unfold maxLen;omega) (hb:=by omega) (h:=λbw _ g=>?_);have g:=Sep.nM (n:=sums+1) (s:=3) g At0 (by rw[jq (je.len (enc:=bW) (k:=3)),zcv]) (by unfold maxLen;omega);refine⟨sT,?_⟩;refine Gp a 8 rfl rfl (λ_=>(Gives.build (Fills.one rfl rfl rfl sM rfl (Fills.one rfl rfl rfl sM rfl Fills.nil)))) (Ni a 9 _ g (cs:=[.slice Y k.length cy,.slice (some ⟨bw,0,none⟩) (sums+1) (sums+1)]) rfl rfl (h:=λbc _ g=>⟨sT,?_⟩));refine Zb1 ?_;exact au ((Y,cy),bw,bc) tR g.aN.aG
      refine Nh (t:=385) a 7 _ d (k:=sums+1) (cs:=(List.replicate (sums+1) (0:Int)).flatMap bW) (hcs:=by exact rO (enc:=bW) dC 0 (sums+1)) (hk:=by unfold maxLen;omega) (hb:=by omega) (h:=λbw _ g=>?_);have g:=Sep.nM (n:=sums+1) (s:=3) g At0 (by rw[jq (je.len (enc:=bW) (k:=3)),zcv]) (by unfold maxLen;omega);refine⟨sT,?_⟩;refine dY a 1 _ g (qg (hk _ g.kept) oM) (h:=λy _ _ g _=>?_);obtain⟨Y,cy,rfl,_,_⟩:=Sep.bJ g At0;refine⟨sT,?_⟩;refine Gp a 8 rfl rfl (λ_=>(Gives.build (Fills.one rfl rfl rfl sM rfl (Fills.one rfl rfl rfl sM rfl Fills.nil)))) (Ni a 9 _ g (cs:=[.slice Y k.length cy,.slice (some ⟨bw,0,none⟩) (sums+1) (sums+1)]) rfl rfl (h:=λbc _ g=>⟨sT,?_⟩));refine Zb1 ?_;exact au ((Y,cy),bw,bc) tR g
    rintro⟨⟨Y,cy⟩,bw,bc⟩ τ g g;dsimp only at g;refine Lp ?_;refine Zb0 ?_;refine dM (h2 _ g.kept) (h:=?_);refine Zb2 ?_;refine dM (hg _ g.kept) (h:=?_);refine Mv ?_;refine dw (v:=agg [hv,.slice N ns.length cn]) (by rw[<-hz];exact nE (i:=eH k) g At4 rfl rfl) rfl ?_;refine Vv (Gives.XH rfl rfl) (Zb2 ?_);have Gx:sums+1=(List.replicate (sums+1) (0:Int)).length:=List.length_replicate.symm;have OQ:List.replicate (sums+1) (0:Int)=ns.take 0++List.replicate (sums+1-0) 0:=rfl
    refine aI (λi:Nat=>[(1,ay b5),(2,ay b2),(5,str (eH k)),(6,ay bc),(31,.slice N ns.length cn),(32,I ns.length),(33,I i)]) (λi w'=>i<=ns.length/\Mw.Sep w F [aY 371 3 bW (.slice (some ⟨bw,0,none⟩) (sums+1) (sums+1)) (ns.take i++List.replicate (sums+1-i) 0),blk bc [.slice Y k.length cy,.slice (some ⟨bw,0,none⟩) (sums+1) (sums+1)] 414,aY 41 3 ah (.slice Y k.length cy) k,gQ bm D,gQ bh Dh] w') (λi _=>ns.length-i) 0 tR ⟨zak _,by
      have h1:=g.aN;unfold aY;rw[<-OQ,<-Gx];exact h1⟩ (λi τ _ hI=>?_)
    clear OQ Gx;obtain⟨hi,g⟩:=hI;refine Lp ?_;refine Cz (λa=>?_) (λa=>?_)
    . have aS:i<ns.length:=oM
      obtain⟨m,hm⟩:=get_some aS;have aoY:=λw1 h1=>eO (hns w1 h1);have EM:sums+1=(ns.take i++List.replicate (sums+1-i) (0:Int)).length:=by rw[zad,zah,zcv];omega
      have y9:(ns.take i++List.replicate (sums+1-i) (0:Int)).set i m=ns.take (i+1)++List.replicate (sums+1-(i+1)) 0:=by
        rw[zeu _ _ (by rw[zah];omega),zah,zdc hi,zen,show sums+1-i=(sums+1-(i+1))+1 from oM,zer,zdr,zay,hm,zbm];rfl
      refine Zb1 ?_;refine Vv (Gives.fF rfl rfl (aoY _ g.kept) aS) (Vv (Gives.dz (f:=0) rfl (Sep.aF _) (aoY _ g.kept) hm rfl) ?_);refine Dz (λa _ d=>?_);refine Zb6 ?_;refine dB a 6 [(4,true),(3,false),(2,true),(1,true),(0,true)] d (TB m (Yp m (zag hm))) (h:=λ_ d _=>⟨sL,?_⟩);refine GS (Gn rfl (λ_=>Gives.ai3 (enc:=bW) (l:=ns.take i++List.replicate (sums+1-i) (0:Int)) EM rfl rfl (Fu EM d At0) oM) ?_);refine Jb a 8 _ (i:=i) m EM d At0 oM rfl (h:=λ_ d=>⟨sT,?_⟩);rw[y9]at d;refine Zb0 ?_;refine Vc ((i+1:Nat):Int) ?_;refine Zb1 ?_;exact aj (i+1) tR ⟨oM,d⟩ oM
    have jF:i=ns.length:=oM;rw[jF,zbr]at g;refine Zb0 ?_;refine dM (h5 _ g.kept) (h:=?_);refine Zb2 ?_;refine DK (i:=eH k) (v:=ay bc) g At3 (h:=λ_ d=>?_);refine Nx (dM (h5 _ d.kept) (h:=?_));refine Mv ?_;have hgt:l7 (AB D (eH k) (ay bc)) (eH k)=some (ay bc):=by rw[ahv,zac rfl]
    refine dw (nE (i:=eH k) d At3 rfl rfl) rfl ?_;rw[hgt];dsimp only[Option.getD_some];refine Zb1 ?_;have e:(uX.mk bc (.slice Y k.length cy) (.slice (some ⟨bw,0,none⟩) (sums+1) (sums+1)) k (ns++List.replicate (sums+1-ns.length) 0)).b=bc:=rfl;exact⟨⟨bc,.slice Y k.length cy,.slice (some ⟨bw,0,none⟩) (sums+1) (sums+1),k,ns++List.replicate (sums+1-ns.length) 0⟩,rfl,⟨rfl,rfl⟩,(d.gG.gG.aQ.aG.aX.aQ.aN.aQ.aQ).turn⟩
  cases S
open Go.Proofs.Tryz
structure adV (sums:Nat) (E:List bC) (K:List (List aC)) (C:List uX) (D:List Ent):Prop where
 keys:(C.map (·.key)).Perm K
 nums: ∀c∈C,c.ns=dW sums E c.key
 fit: ∀c∈C,gH c.key
 data:D.Perm (C.map TU)
def Xe {C:List uX} (hD:D.Perm (C.map TU)) (hF: ∀c∈C,gH c.key) (hk:gH k) (h:l7 D (eH k)=some v): ∃(i:Nat) (c:uX),C[i]? =some c/\c.key=k/\v=ay c.b:=by
 obtain⟨c,hc,e⟩:=zaq.1 (hD.mem_iff.1 (ahu h));obtain⟨i,hi,e2⟩:=zfk hc;unfold TU at e;injection e with e3 e4
 exact⟨i,c,by rw[zaa hi,e2],Cw (hF c hc) hk e3,e4.symm⟩
def agO {C:List uX} (hD:D.Perm (C.map TU)) (h:l7 D (eH k)=none): ∀c∈C,c.key≠k:=λc hc e=>
 Dc.1 h (zaq.2 ⟨TU c,hD.mem_iff.2 (zdn hc),by rw[<-e];rfl⟩)
def ZO {α:Type} {L:List α} {i:Nat} {x:α} (h:L[i]? =some x):(x::L.eraseIdx i).Perm L:=by
 have hi:i<L.length:=(zbb.1 h).1;have h1:=zbs i L
 have h2:L.drop i=x::L.drop (i+1):=by
  rw[zbn hi]
  congr 1
  exact(zbb.1 h).2
 rw[List.eraseIdx_eq_take_drop_succ L i]
 conv=>rhs;rw[<-h1,h2]
 exact List.perm_middle.symm
def Xf {b2 b5 bg bm bh keys sums:Nat} {E2 E5 Eg:Td} {hv nv:Value} {ns:List Int} (hk: ∀w1,Kept F w w1->aJ w1 v ah 3 k) (hn:k.length<=64) (Dw:gH k) (hT: ∀w1,Kept F w w1->iB w1)
    (h2: ∀w1,Kept F w w1->gM w1 b2 [ay bg] E2) (h5: ∀w1,Kept F w w1->gM w1 b5 [.map (some bm)] E5) (hg: ∀w1,Kept F w w1->gM w1 bg (qR keys sums bh) Eg) (Lv:sums<=64)
    (hz:(l7 Dh (eH k)).getD (agg [.slice none 0 0,.slice none 0 0])=agg [hv,nv]) (hns: ∀w1,Kept F w w1->aJ w1 nv oH 1 ns) (Lj:ns.length<=sums+1) (Yp: ∀n∈ns,fits n)
    (hp:(star (gQ bm D) (gQ bh Dh)).ok F w) (hd:l7 D (eH k)=none\/∃bc,l7 D (eH k)=some (ay bc)):
    aR Tryz.prog 372 [v,ay b5,ay b2] w λu w'=>(∃bc,l7 D (eH k)=some (ay bc)/\u=ay bc/\Turn F (star (gQ bm D) (gQ bh Dh)) w w')\/
      (l7 D (eH k)=none/\∃c:uX,u=ay c.b/\(c.key=k/\c.ns=ns++List.replicate (sums+1-ns.length) 0)/\Turn F (star (Nk c) (star (gQ bm (AB D (eH k) (ay c.b))) (gQ bh Dh))) w w'):=by
  rcases hd with hd | ⟨bc,hd⟩
  . exact aR.mono (Xd hk hn Dw hT h2 h5 hg Lv hz hns Lj Yp hp hd) λu w' h=>.inr ⟨hd,h⟩
  exact aR.mono (Xc (keys:=keys) (sums:=sums) (Eg:=Eg) hk hn Dw hT h2 h5 hp hd) λu w' h=>.inl ⟨bc,hd,h⟩
variable {Z:List vR}
theorem ZP {bg bh keys sums:Nat} {Eg:Td} {E:List bC} (hg: ∀w1,Kept F w w1->gM w1 bg (qR keys sums bh) Eg)
    (hv: ∀w1,Kept F w w1->aJ w1 v qw 3 Z) (hZ: ∀w1,Kept F w w1->yM w1 Z) (hT: ∀w1,Kept F w w1->iB w1)
    (Lv:sums<=16) (hkl: ∀z∈Z,z.2.2.key.length<=16/\gH z.2.2.key) (hvl: ∀z∈Z,z.2.2.vals.length=sums) (hf: ∀z∈Z,fits z.2.2.w/\∀c∈z.2.2.vals,fits c.n) (hn:Z.length<=1000)
    (arV: ∀z∈Z,∃hv nv ns,(l7 Dh (eH z.2.2.key)).getD (agg [.slice none 0 0,.slice none 0 0])=agg [hv,nv]/\(∀w1,Kept F w w1->aJ w1 nv oH 1 ns)/\ns.length<=sums+1/\(∀n∈ns,fits n)/\ns++List.replicate (sums+1-ns.length) 0=dW sums E z.2.2.key)
    (hp:(gQ bh Dh).ok F w):
    aR Tryz.prog 364 [ay bg,v] w λu w'=>∃(bm:Nat) (D:List Ent) (C:List uX),u=.map (some bm)/\adV sums (E++Z.map (·.2.2)) (fU (Z.map (·.2.2))) C D/\Mw.Sep w F (gQ bm D::gQ bh Dh::C.map Nk) w':=by
  have H:=Sep.bR hp;obtain⟨A,m,rfl,⟨hm,om⟩,_⟩:=hv w (Kept.refl _ _);refine bQ Tryz.func364 ?_;refine Sr (bB H (cs:=[ay bg]) rfl (h:=λb2 w2 H2 k1=>?_));refine Zb1 ?_;refine uT H2 (h:=λbm w5 H5 k4=>?_);have H5:=Sep.Uq H5 At0;refine Az (λb5 w7 H7 k6=>?_);refine Uz (λw9 H9=>?_);refine Zb5 ?_;refine aI (λx:(List uX×List Ent)×Nat=>[(1,.slice A Z.length m),(2,ay b2),(5,ay b5),(6,.func (.func 372) #[] #[ay b5,ay b2]),(14,.slice A Z.length m),(15,I Z.length),(16,I x.2)]) (λx w'=>(x.2<=Z.length/\adV sums (E++(Z.take x.2).map (·.2.2)) (fU ((Z.take x.2).map (·.2.2))) x.1.1 x.1.2)/\Mw.Sep w F (star (blk b5 [.map (some bm)] 410) (blk b2 [ay bg] 88)::star (gQ bm x.1.2) (gQ bh Dh)::x.1.1.map Nk) w') (λx _=>Z.length-x.2) (([],[]),0) tR ⟨⟨zak _,⟨List.Perm.refl _,λc hc=>by simp at hc,λc hc=>by simp at hc,List.Perm.refl _⟩⟩,H9.aN.aG.aQ.aN.aN.aQ.aG⟩ (λx τ wa hI=>?_);obtain⟨⟨C,D⟩,i⟩:=x;obtain⟨⟨hi,hC⟩,Ha⟩:=hI;dsimp only at hi hC Ha;refine Lp ?_;refine Cz (λIe=>?_) (λIe=>?_)
  . have aS:i<Z.length:=oM
    obtain⟨z,hz⟩:=get_some aS;have OI:=zag hz;obtain⟨kv,vv,e⟩:=z;have hKw: ∀w1,Kept F w w1->aJ w1 kv ah 3 e.key:=λw1 h1=>(hZ w1 h1 _ OI).1;have hVw: ∀w1,Kept F w w1->aJ w1 vv ah 3 e.vals:=λw1 h1=>(hZ w1 h1 _ OI).2;obtain⟨K,ck,rfl,_,_⟩:=hKw w (Kept.refl _ _);obtain⟨V,cv,rfl,_,_⟩:=hVw w (Kept.refl _ _);obtain⟨arX,aip⟩:=hkl _ OI;have arY:=hvl _ OI;obtain⟨Ai,hfv⟩:=hf _ OI;obtain⟨KY,nv0,ns0,hi1,JR,hi3,hi4,hi5⟩:=arV _ OI;dsimp only at arX aip arY Ai hfv hi1 hi5;have hT1:(Z.take (i+1)).map (λz=>z.2.2)=(Z.take i).map (λz=>z.2.2)++[e]:=by rw[zay,hz,zai];rfl
    refine Zb0 ?_;refine Vv (Gives.fF rfl rfl (eO (hv _ Ha.kept)) aS) (Vv (Gives.iH rfl (Sep.aF _) (eO (hv _ Ha.kept)) hz) ?_);refine Az (λb8 wb Hb ka=>?_);refine Tz (λwc Hc=>?_);refine Zb3 ?_;have hnd:=Sep.aoa (Hc.aN.bL) At0;obtain⟨F0,vN,gV,hQ0,aK⟩:=Sep.Ja (Hc.aG) At1;have EK: ∀w1,Kept F0 _ w1->Kept F w w1:=λw1 h1=>Mw.Kept.into Hc.kept gV h1
    have hd:l7 D (eH e.key)=none\/∃bc,l7 D (eH e.key)=some (ay bc):=by
      cases hdg:l7 D (eH e.key)with
      | none=>exact .inl rfl
      | some u=>
        obtain⟨j,c,_,_,rfl⟩:=Xe hC.data hC.fit aip hdg;exact .inr ⟨c.b,rfl⟩
    refine eP (fs:=[]) (cs:=[ay b5,ay b2]) (vals:=[.slice K e.key.length ck]) rfl (Xf (keys:=keys) (sums:=sums) (bg:=bg) (Eg:=Eg) (λw1 h1=>hKw w1 (EK w1 h1)) oM aip (λw1 h1=>hT w1 (EK w1 h1)) (λw1 h1=>by obtain⟨Fq,F1,F2,_,_,_,h2⟩:=hQ0 w1 h1;exact h2.2) (λw1 h1=>by obtain⟨Fq,F1,F2,_,_,h2,_⟩:=hQ0 w1 h1;exact h2.2) (λw1 h1=>hg w1 (EK w1 h1)) oM hi1 (λw1 h1=>JR w1 (EK w1 h1)) hi3 hi4 vN hd) rfl rfl (λv' wd hv=>?_)
    have jE: ∃(c:uX) (Cr:List uX) (D2:List Ent),v'=ay c.b/\c.key=e.key/\c.ns=dW sums (E++(Z.take i).map (λz=>z.2.2)) e.key/\((c::Cr).map (λd=>d.key)).Perm (fU ((Z.take (i+1)).map λz=>z.2.2))/\(∀d∈Cr,d.key≠e.key/\d.ns=dW sums (E++(Z.take i).map (λz=>z.2.2)) d.key/\gH d.key)/\D2.Perm ((c::Cr).map TU)/\Mw.Sep w F (Nk c::star (blk b5 [.map (some bm)] 410) (blk b2 [ay bg] 88)::blk b8 (qw (.slice K e.key.length ck,.slice V e.vals.length cv,e)) 406::star (gQ bm D2) (gQ bh Dh)::Cr.map Nk) wd:=by
      have arZ:(C.map (·.key)).Nodup:=hC.keys.symm.nodup (Fv _)
      rcases hv with⟨bc,hdg,rfl,lI,F1,lq,yc⟩ | ⟨hdg,c,rfl,⟨dX,LA⟩,lI,F1,lq,yc⟩
      . obtain⟨j,c,hj,dX,OO⟩:=Xe hC.data hC.fit aip hdg
        have H3:=Sep.pick (rs:=[_,_,_]) (aK _ F1 _ lI lq yc) hj;have Dm:(c::C.eraseIdx j).Perm C:=ZO hj;have hcm:=zag hj;refine⟨c,C.eraseIdx j,D,OO,dX,by rw[<-dX];exact hC.nums c hcm,?_,λd hd=>?_,hC.data.trans (Dm.symm.map _),H3⟩
        . rw[hT1,nT,zac (hC.keys.mem_iff.1 (zaq.2 ⟨c,hcm,dX⟩))]
          exact(Dm.map _).trans hC.keys
        have hdC:=Dm.mem_iff.1 (zat _ hd);refine⟨λh=>?_,hC.nums d hdC,hC.fit d hdC⟩;have h2:=(Dm.map (·.key)).symm.nodup arZ;rw[zav,zfa]at h2;exact h2.1 (zaq.2 ⟨d,hd,by rw[h,dX]⟩)
      have l9:=agO hC.data hdg
      have hnk:e.key∉fU ((Z.take i).map λz=>z.2.2):=λh=>by
        obtain⟨d,hd,hde⟩:=zaq.1 (hC.keys.mem_iff.2 h);exact l9 d hd hde
      refine⟨c,C,_,rfl,dX,by rw[LA,hi5];exact(Bh hnk).symm,?_,λd hd=>⟨l9 d hd,hC.nums d hd,hC.fit d hd⟩,?_,(aK _ F1 _ lI lq yc).aN.bL.aX.aX.aN⟩
      . rw[hT1,nT,zab hnk,zav,dX]
        exact(List.Perm.cons _ hC.keys).trans (List.perm_append_singleton _ _).symm
      have e1:AB D (eH e.key) (ay c.b)=D++[(eH e.key,ay c.b)]:=by unfold AB;rw[hdg];rfl
      rw[e1,zav];refine(List.perm_append_singleton _ _).trans ?_;unfold TU;rw[dX];exact List.Perm.cons _ hC.data
    obtain⟨⟨bc,kvc,svc,kc,nsc⟩,Cr,D2,rfl,dX,LA,hpk,hCr,hD2,Hd⟩:=jE;dsimp only at dX LA hpk hD2 Hd;subst dX;have Hd:=(Hd.bL.aG.bL).aG;dsimp only at Hd;obtain⟨Sv,cSv,rfl,_,_⟩:=Sep.bJ Hd At0;have Lj:nsc.length=sums+1:=by rw[LA,lg]
    have hnp:0<nsc.length:=oM;obtain⟨n0,za⟩:=get_some hnp
    have aoZ:nsc.set 0 (n0+e.w)=upN nsc e 1:=by
      have h1:=abp (x:=e) za;rw[agf]at h1;exact h1
    refine Dz (λSa we He=>?_);refine Zb8 ?_;refine GS (Gn rfl (λ_=>Gives.fF (i:=0) (enc:=bW) rfl rfl (eX He At0) hnp) ?_);refine GS (Gt rfl (Gives.oW (i:=0) rfl (eX He At0) za) ?_);refine Zb2 ?_;refine dB Sa 12 [(9,false),(8,true),(7,false),(6,true),(5,true),(4,true),(3,false),(2,true),(1,true),(0,true)] He (TB e.w Ai) (h:=λwf Hf kb=>⟨(bK rfl kR (Gives.oW (i:=0) rfl (eX Hf At0) za) rfl (av (iI Hf (h:=av (av (av (iI Hf (h:=av (av (av (eu))))))))))),?_⟩);refine dB Sa 13 [(3,false),(2,true),(1,true),(0,true)] Hf (TD n0 e.w) (h:=λwg Hg kd=>⟨sL,?_⟩);refine GS (Gn rfl (λ_=>Gives.fF (i:=0) (enc:=bW) rfl rfl (eX Hg At0) hnp) ?_);refine Jb Sa 15 _ (i:=0) (n0+e.w) rfl Hg At0 hnp rfl (h:=λwh Hh=>⟨sT,?_⟩);rw[aoZ]at Hh;refine Zb4 ?_;refine aI (λj:Nat=>[(1,.slice A Z.length m),(2,ay b2),(5,ay b5),(6,.func (.func 372) #[] #[ay b5,ay b2]),(8,ay b8),(9,ay bc),(14,.slice A Z.length m),(15,I Z.length),(16,I i),(40,.slice V e.vals.length cv),(41,I e.vals.length),(42,I j)]) (λj w'=>j<=e.vals.length/\Mw.Sep w F (aY 371 3 bW (.slice Sv nsc.length cSv) (upN nsc e (j+1))::aY 41 3 ah kvc e.key::blk bc [kvc,.slice Sv nsc.length cSv] 414::star (blk b5 [.map (some bm)] 410) (blk b2 [ay bg] 88)::blk b8 (qw (.slice K e.key.length ck,.slice V e.vals.length cv,e)) 406::star (gQ bm D2) (gQ bh Dh)::Cr.map Nk) w') (λj _=>e.vals.length-j) 0 tR ⟨zak _,Hh⟩ (λj τ wi hJ=>?_)
    obtain⟨hj,Hi⟩:=hJ;have aaV:nsc.length=(upN nsc e (j+1)).length:=(Tt _ _ _).symm;refine Lp ?_;refine Cz (λIf=>?_) (λIf=>?_)
    . have ao0:j<e.vals.length:=oM
      obtain⟨cj,hcj⟩:=get_some ao0;have hfj:=hfv cj (zag hcj);have hjn:j+1<nsc.length:=oM;obtain⟨nj,hnj⟩:=get_some hjn;have huj:(upN nsc e (j+1))[j+1]? =some nj:=by rw[zJ hnj,zab oM]
      have akt:EY e (j+1)=if cj.null=true then 0 else e.w*cj.n:=by
        unfold EY;rw[zab oM,zgd,zax,hcj];rfl
      refine Zb1 ?_;refine Vv (Gives.fF rfl rfl (eO (hVw _ Hi.kept)) ao0) (Vv (Gives.iH rfl (Sep.aF _) (eO (hVw _ Hi.kept)) hcj) ?_);refine Az (λb11 wj Hj ke=>?_);refine Am ?_;refine Tz (λwk Hk=>?_);refine Zb2 ?_;refine Vv (Gives.not rfl) (Qn ?_);refine Cd rfl (λIg=>?_) (λIg=>?_)
      . have aio:cj.null=false:=by simpa using Ig
        rw[aio,zab dC]at akt;have ao1:(upN nsc e (j+1)).set (j+1) (nj+e.w*cj.n)=upN nsc e (j+1+1):=by rw[<-abp hnj,akt]
        refine Dz (λSb wl Hl=>?_);refine Zb5 ?_;refine Gc Sb 5 ((j+1:Nat):Int) ?_;refine Zb5 ?_;refine Gc Sb 11 ((j+1:Nat):Int) ?_;refine GS (Gn rfl (λ_=>Gives.ai3 (i:=j+1) (enc:=bW) (l:=upN nsc e (j+1)) aaV rfl rfl (Fu aaV Hl At1) oM) ?_);refine GS (Gt rfl (Gives.oW (i:=j+1) rfl (Fu aaV Hl At1) huj) ?_);refine Zb4 ?_;refine dB Sb 18 [(13,false),(12,true),(11,true),(10,true),(9,false),(8,true),(7,true),(6,true),(5,true),(4,true),(3,false),(2,true),(1,true),(0,true)] Hl (ajd e.w cj.n Ai hfj) (h:=λwm Hm kf=>⟨(bK rfl kR (Gives.oW (i:=j+1) rfl (Fu aaV Hm At1) huj) rfl (av (av (av (iI Hm (h:=av (av (av (av (av (iI Hm (h:=av (av (av (eu))))))))))))))),?_⟩);refine dB Sb 19 [(5,true),(4,true),(3,false),(2,true),(1,true),(0,true)] Hm (TD nj (e.w*cj.n)) (h:=λwn Hn kg=>⟨sL,?_⟩);refine GS (Gn rfl (λ_=>Gives.ai3 (i:=j+1) (enc:=bW) (l:=upN nsc e (j+1)) aaV rfl rfl (Fu aaV Hn At1) oM) ?_);refine Jb Sb 21 _ (i:=j+1) (nj+e.w*cj.n) aaV Hn At1 oM rfl (h:=λwo Ho=>⟨sT,?_⟩);rw[ao1]at Ho;refine Zb0 ?_;refine Vc ((j+1:Nat):Int) ?_;refine Zb1 ?_;exact aj (j+1) tR ⟨oM,Ho.bH⟩ oM
      have aio:cj.null=true:=by simpa using Ig
      rw[aio,zac rfl]at akt;have ao2:=agh (ns:=nsc) akt;refine Zb0 ?_;refine Vc ((j+1:Nat):Int) ?_;refine Zb1 ?_;exact aj (j+1) tR ⟨oM,by rw[ao2];exact Hk.bH⟩ oM
    have RN:j+1=sums+1:=oM
    have Ck:upN nsc e (j+1)=dW sums (E++(Z.take (i+1)).map (λz=>z.2.2)) e.key:=by
      rw[RN,LA,ai7,hT1,zbm]
    refine Zb0 ?_;have bT:Mw.Sep w F (star (blk b5 [.map (some bm)] 410) (blk b2 [ay bg] 88)::star (gQ bm D2) (gQ bh Dh)::(⟨bc,kvc,.slice Sv nsc.length cSv,e.key,upN nsc e (j+1)⟩::Cr:List uX).map Nk) _:=(Hi.aG.aQ.aG.aQ.aN.bH.aN.aN);refine Vc ((i+1:Nat):Int) ?_;refine Zb1 ?_;exact aj ((⟨bc,kvc,.slice Sv nsc.length cSv,e.key,upN nsc e (j+1)⟩::Cr,D2),i+1) tR ⟨⟨dO,⟨hpk,λd hd=>by
    rcases zba.1 hd with h | h
    . rw[h];exact Ck
    . rw[hT1,<-zbm,Zw (λh2=>(hCr d h).1 h2.symm)];exact(hCr d h).2.1,λd hd=>by
    rcases zba.1 hd with h | h
    . rw[h];exact aip
    exact(hCr d h).2.2,hD2⟩⟩,bT⟩ dO
  have jF:i=Z.length:=oM;rw[jF,zbr]at hC;refine Zb0 ?_;have Hp:=Ha.bL;refine Ld Hp ?_;refine Zb1 ?_;exact⟨bm,D,C,rfl,hC,Hp.bH.bH.bL⟩
def xA {l m:List aH} {va vb:Value} (hl:dI w va l) (hm:dI w vb m):
    Rk prog 9 [va,vb] w (.bool (decide (l=m))):=by
  obtain⟨r,hr,eF⟩:=hl;obtain⟨s,hs,PG⟩:=hm;obtain⟨A,c,rfl,⟨hc,hc'⟩,hA⟩:=hr;obtain⟨B,d,rfl,⟨hd,hd'⟩,hB⟩:=hs;have zi:=eF.len;have X9:=PG.len;have H:=Sep.aF w;refine bQ func9 ?_;refine Cz (λk=>?_) (λk=>?_)
  . have iN: ¬l=m:=λe=>k (by rw[zi,X9,e])
    refine Zb1 ?_;exact⟨by rw[zal iN];rfl,H.kept⟩
  have hlen:r.length=s.length:=oM;refine Zb1 ?_;refine aI (λi:Nat=>[(0,.slice A r.length c),(1,.slice B s.length d),(5,I i)]) (λi w'=>(i<=r.length/\l.take i=m.take i)/\Mw.Sep w noB [] w') (λi _=>r.length-i) 0 tR ⟨⟨zak _,rfl⟩,H⟩ (λi τ _ hI=>?_);obtain⟨⟨hi,heq⟩,k⟩:=hI;refine Lp ?_;refine Cz (λS=>?_) (λS=>?_)
  . have aS:i<r.length:=oM
    have KW:i<s.length:=oM;obtain⟨o,ho⟩:=get_some (l:=l) (show i<l.length from oM);obtain⟨p,hp⟩:=get_some (l:=m) (show i<m.length from oM);obtain⟨vo,zh,Dp⟩:=eF.get ho;obtain⟨vp,hvp,D7⟩:=PG.get hp;have dJ:=TN heq ho hp;refine Dz (λS _ a=>?_);refine Zb2 ?_;refine GS (Gn rfl (λ_=>Gives.fF rfl rfl hA aS) ?_);refine Zb1 ?_;refine GS (Gt rfl (Gives.dz (f:=1) rfl a hA zh rfl) ?_);refine Zb2 ?_;refine GS (Gn rfl (λ_=>Gives.fF rfl rfl hB KW) ?_);refine Zb1 ?_;refine GS (Gt rfl (Gives.dz (f:=1) rfl a hB hvp rfl) ?_);refine Zb2 ?_;refine fM (t:=28) rfl (λb=>?_) (λb=>?_)
    . refine Zb2 ?_
      have iN: ¬l=m:=λe=>by
        have h1:=La.2 (dJ.1 (by rw[e]));have h2:=h1.1;have h3:=h1.2;omega
      exact⟨by rw[zal iN];rfl,a.kept⟩
    refine Zb2 ?_;refine GS (Gn rfl (λ_=>Gives.fF rfl rfl hA aS) ?_);refine Zb1 ?_;refine GS (Gt rfl (Gives.dz (f:=0) rfl a hA zh rfl) ?_);refine Zb2 ?_;refine GS (Gn rfl (λ_=>Gives.fF rfl rfl hB KW) ?_);refine Zb1 ?_;refine GS (Gt rfl (Gives.dz (f:=0) rfl a hB hvp rfl) ?_);refine dB S 22 _ a (um (Dp.keep a.kept) (D7.keep a.kept)) (h:=λ_ b _=>⟨sT,?_⟩);refine GS (Gn rfl (λ_=>Gives.notP rfl) ?_);refine Za1 ?_;refine fK S kR ?_;refine Cz (λS=>?_) (λS=>?_)
    . refine Zb1 ?_
      have iN: ¬l=m:=λe=>by
        have h1:=La.2 (dJ.1 (by rw[e]));have h2:=h1.1;have h3:=h1.2
        contradiction
      exact⟨by rw[zal iN];rfl,b.kept⟩
    refine Zb1 ?_;have UK:l.take (i+1)=m.take (i+1):=dJ.2 (La.1 ⟨oM,Decidable.of_not_not (by assumption)⟩);refine Vc ((i+1:Nat):Int) ?_;refine Zb1 ?_;exact aj (i+1) tR ⟨⟨oM,UK⟩,b⟩ oM
  have qU:l=m:=by
    rw[zaj oM,zaj oM]at heq;exact heq
  refine Zb1 ?_;exact⟨by rw[zap qU];rfl,k.kept⟩
def TV {bp:Nat} {tv:Value} {T:List aH} (hp:(star (blk bp [tv] 70) (Bq tv T)).ok F w) (hn:T.length<=1000) (hTr: ∀o∈T,o.row.length<=1000):
    aR prog 317 [ay bp] w λu w'=>∃x:Value×List Held,u=x.1/\x.2.map (·.2)=T/\Turn F (star (dV x.1 x.2) (star (blk bp [tv] 70) (Bq tv T))) w w':=by
  have H:=(Sep.bR hp).bL;refine cK func317 ?_;refine Zb5 ?_;have hT0:dI _ tv T:=Sep.sees H At1;refine Nz (agK hT0 hn hTr) (λx _ hx k _=>?_);refine Zb1 ?_;exact⟨x,rfl,hx,(k.aG.aN.aG.aQ.aG.aQ).turn⟩
def adW (keys sums:Int):aR prog 30 [I keys,I sums] w λu w'=>
    (¬(0<=keys/\keys<=16/\0<=sums/\sums<=16)->u=.tuple #[.pointer none,I 2]/\Kept noB w w')/\
    ((0<=keys/\keys<=16/\0<=sums/\sums<=16)->∃x:Nat×Nat,u=.tuple #[ay x.1,I 0]/\Turn noB (star (blk x.1 (qR keys.toNat sums.toNat x.2) 118) (gQ x.2 [])) w w'):=by
  have H:=Sep.aF w;refine bQ func30 ?_;refine Sz (λk=>?_) (λk=>?_)
  . refine Zb7 ?_
    exact⟨λ_=>⟨rfl,H.kept⟩,λh=>oM⟩
  refine Sz (λk=>?_) (λk=>?_)
  . refine Zb5 ?_
    exact⟨λ_=>⟨rfl,H.kept⟩,λh=>oM⟩
  refine Sz (λk=>?_) (λk=>?_)
  . refine Zb3 ?_
    exact⟨λ_=>⟨rfl,H.kept⟩,λh=>oM⟩
  refine Cz (λk=>?_) (λk=>?_)
  . refine Zb2 ?_
    exact⟨λ_=>⟨rfl,H.kept⟩,λh=>oM⟩
  refine Zb2 ?_;refine uT H (h:=λbm _ k _=>?_);have k:=Sep.Uq k At0;refine Vb [.bool true,I keys,I sums,.map (some bm)] ?_;refine bB k (cs:=[.bool true,I keys,I sums,.map (some bm)]) rfl (h:=λbg _ k _=>?_);refine Zb2 ?_;exact⟨λh=>zar oM h,λh=>⟨(bg,bm),rfl,by
  have e1:((keys.toNat:Nat):Int)=keys:=zcp h.1;have e2:((sums.toNat:Nat):Int)=sums:=zcp h.2.2.1;unfold qR;rw[e1,e2];exact k.aQ.turn⟩⟩
def FR {l:List bY} (hl:aJ w v aP 7 l) (oP:l.length<=1000):aR prog 14 [v] w λv' w'=>∃x,v'=x/\True/\Turn noB (aY 67 7 aP x l) w w':=by
 obtain⟨A,m,rfl,⟨hm,om⟩,hA⟩:=hl;have H:=Sep.aF w;refine cK func14 ?_;refine Zb4 ?_;have k:=Sep.iW H 67 7 aP;refine mU k At0 (hA.keep H.kept) (by unfold maxLen;simp;omega) (by simp;omega) (cells_one (λ_=>rfl) _) (h:=?_);intro v2 S k;refine Zb1 ?_;exact⟨_,rfl,trivial,by rw[zbu]at k;exact k.turn⟩
def DL {l:List aH} (hl:dI w v l) (hn:l.length<=1000) (oP: ∀o∈l,o.row.length<=1000):aR prog 37 [v] w λu w'=>∃x:Value×List Held,u=x.1/\x.2.map (·.2)=l/\Turn noB (dV x.1 x.2) w w':=by
 obtain⟨r,hr,eF⟩:=hl;obtain⟨A,m,rfl,⟨hm,om⟩,hA⟩:=hr;have zi:=eF.len;have H:=Sep.aF w;refine cK func37 ?_;refine Zb3 ?_;refine aI (λx:(OA×Nat)×List Held×Nat=>[(0,.slice A r.length m),(3,.slice x.1.1 (aO x.2.1).length x.1.2),(4,I x.2.2)]) (λx w'=>(x.2.2<=r.length/\x.2.1.map (·.2)=l.take x.2.2)/\Mw.Sep w noB [aY 39 2 aA (.slice x.1.1 (aO x.2.1).length x.1.2) (aO x.2.1),vJ 41 3 ah (·.1) (λb:Held=>b.2.row) x.2.1] w') (λx _=>r.length-x.2.2) ((none,0),[],0) tR ⟨⟨zak _,rfl⟩,Sep.fT (bD H) 39 2⟩ (λx τ _ hI=>?_);obtain⟨⟨R,cR⟩,L,i⟩:=x;obtain⟨⟨hi,hL⟩,k⟩:=hI;dsimp only at hi hL k;refine Lp ?_;refine Cz (λS=>?_) (λS=>?_)
 .have aS:i<r.length:=oM
  obtain⟨o,ho⟩:=get_some (l:=l) (show i<l.length from oM);have hom:=zag ho;obtain⟨vo,zh,Dp⟩:=eF.get ho;have hLr:(aO L).length=L.length:=zaf _
  have hLn:L.length<=i:=by
   have h1:=zaw List.length hL;rw[zaf,zah]at h1;omega
  refine Dz (λS _ a=>?_);refine Zb3 ?_;refine GS (Gn rfl (λ_=>Gives.fF rfl rfl hA aS) ?_);refine Zb1 ?_;refine GS (Gt rfl (Gives.dz (f:=0) rfl a hA zh rfl) ?_);refine Gm S 7 ?_;refine Zb1 ?_;refine GS (Gn rfl (λ_=>Gives.fF rfl rfl hA aS) ?_);refine Zb1 ?_;refine GS (Gt rfl (Gives.dz (f:=1) rfl a hA zh rfl) ?_);refine dY S 6 [(11,false),(10,true),(9,true),(8,true),(7,true),(0,true)] a (mF (Dp.keep a.kept) (oP o hom)) (h:=λy _ _ a _=>?_);obtain⟨Y,cy,rfl,_,_⟩:=Sep.bJ a At0;refine⟨(bK rfl kR (Gives.dz (f:=1) rfl a hA zh rfl) rfl (av (av (av (av (av (eu))))))),?_⟩;refine Gb S 12 (aA (.slice Y o.row.length cy,o.w)) ?_;refine Gz S 13 _ a ([(Value.slice Y o.row.length cy,o.w)].flatMap aA) (h:=λbs _ a=>⟨sT,?_⟩);refine gF S 14 _ a (news:=[(Value.slice Y o.row.length cy,o.w)]) At1 (by unfold maxLen;simp only[zae];omega) (by simp only[zae];omega) (λu hu=>zaz.1 (show([(Value.slice Y o.row.length cy,o.w)].flatMap aA).all Value.oneCell'=true from rfl) u hu) (h:=λv9 _ a=>?_);obtain⟨R2,cR2,rfl,_,_⟩:=Sep.bJ a At1
  have Cj:aO L++[(Value.slice Y o.row.length cy,o.w)]=aO (L++[(Value.slice Y o.row.length cy,o)]):=by
   unfold aO;rw[zai];rfl
  have Dn:(L++[(Value.slice Y o.row.length cy,o)]).map (·.2)=l.take (i+1):=by rw[zai,hL,zay,ho];rfl
  refine⟨sT,?_⟩;refine sH S 15 _ (h:=⟨sT,?_⟩);refine Zb1 ?_;refine Vc ((i+1:Nat):Int) ?_;refine Zb1 ?_;have Aj:=(iR (x:=.slice Y o.row.length cy) (o:=o) (a.aN.aG)).aG;rw[Cj]at Aj;exact aj ((R2,cR2),L++[(Value.slice Y o.row.length cy,o)],i+1) ⟨rfl,by rw[<-Cj];rfl,rfl,trivial⟩ ⟨⟨dO,Dn⟩,Aj⟩ dO
 have jF:l.take i=l:=zaj oM;refine Zb2 ?_;exact⟨(_,L),rfl,by dsimp only;rw[hL,jF],k.aQ.turn⟩
def yN (keys sums:Nat) (lv:Value):LV:=[I keys,I sums,lv]
abbrev oI:=Value×Value×List aC×List Int
def grC (g:oI):LV:=[g.1,I (g.2.2.2.headD 0),g.2.1]
instance:je grC 3:=⟨λ_=>rfl⟩
def jT (w:Wd) (G:List oI):Prop:=∀g∈G,aJ w g.1 ah 3 g.2.2.1/\aJ w g.2.1 oH 1 (g.2.2.2.drop 1)
def jT.keep {w w':Wd} {G:List oI} (h:jT w G) (hk:Kept noB w w'):jT w' G:=λg hg=>⟨(h g hg).1.keep hk,(h g hg).2.keep hk⟩
def ZQ (keys sums:Int):aR prog 64 [I keys,I sums] w λu w'=>
    (¬(0<=keys/\keys<=16/\0<=sums/\sums<=16)->u=.tuple #[.pointer none,I 2]/\Kept noB w w')/\
    ((0<=keys/\keys<=16/\0<=sums/\sums<=16)->∃x:Nat,u=.tuple #[ay x,I 0]/\Turn noB (blk x (yN keys.toNat sums.toNat (.slice none 0 0)) 185) w w'):=by
  have H:=Sep.aF w;refine bQ func64 ?_;refine Sz (λk=>?_) (λk=>?_)
  . refine Zb7 ?_
    exact⟨λ_=>⟨rfl,H.kept⟩,λh=>oM⟩
  refine Sz (λk=>?_) (λk=>?_)
  . refine Zb5 ?_
    exact⟨λ_=>⟨rfl,H.kept⟩,λh=>oM⟩
  refine Sz (λk=>?_) (λk=>?_)
  . refine Zb3 ?_
    exact⟨λ_=>⟨rfl,H.kept⟩,λh=>oM⟩
  refine Cz (λk=>?_) (λk=>?_)
  . refine Zb2 ?_
    exact⟨λ_=>⟨rfl,H.kept⟩,λh=>oM⟩
  refine Zb2 ?_;refine Vb [I keys,I sums,.slice none 0 0] ?_;refine bB H (cs:=[I keys,I sums,.slice none 0 0]) rfl (h:=λbg _ k _=>?_);refine Zb2 ?_;exact⟨λh=>zar oM h,λh=>⟨bg,rfl,by
  have e1:((keys.toNat:Nat):Int)=keys:=zcp h.1;have e2:((sums.toNat:Nat):Int)=sums:=zcp h.2.2.1;unfold yN;rw[e1,e2];exact k.turn⟩⟩
def ZR {bg keys sums:Nat} {lv:Value} {E:Td} {z:vR} (hg:gM w bg (yN keys sums lv) E) (hk:aJ w z.1 ah 3 z.2.2.key) (hv:aJ w z.2.1 ah 3 z.2.2.vals):
    Rk prog 107 [ay bg,agg (qw z)] w (.bool (qo keys sums z.2.2)):=by
  obtain⟨kv,vv,e⟩:=z;dsimp only at hk hv ⊢;obtain⟨K,ck,rfl,⟨dX,amV⟩,hK⟩:=hk;obtain⟨V,cv,rfl,⟨hcv,aks⟩,hV⟩:=hv;rw[Xa];have H:=Sep.aF w;refine bQ func107 ?_;refine Sr (bB H (cs:=qw (.slice K e.key.length ck,.slice V e.vals.length cv,e)) rfl (h:=λb3 w2 H2 k1=>?_));refine Zb2 ?_;refine aI (λi:Nat=>[(0,ay bg),(3,ay b3),(5,I i)]) (λi w'=>(i<=e.vals.length/\∀(j:Nat) c,j<i->e.vals[j]? =some c->zT c=false)/\Mw.Sep w noB [blk b3 (qw (.slice K e.key.length ck,.slice V e.vals.length cv,e)) 133] w') (λi _=>e.vals.length-i) 0 tR ⟨⟨zak _,λj c hj=>zar hj (zdv _)⟩,H2⟩ (λi τ w6 hI=>?_);obtain⟨⟨hi,sZ⟩,H6⟩:=hI;refine Lp ?_;refine Cz (λIe=>?_) (λIe=>?_)
  . have aS:i<e.vals.length:=oM
    obtain⟨c,hc⟩:=get_some aS;refine Zb3 ?_;refine Vv (Gives.fF rfl rfl hV aS) (Vv (Gives.iH rfl H6 hV hc) ?_);refine Az (λb6 wa Ha ka=>?_);refine Tz (λwb Hb=>?_);refine Sz (λSa=>?_) (λSa=>?_)
    . refine Zb2 ?_
      have UO:zT c=true:=by unfold zT;simp only[decide_eq_true_eq];first | exact .inl (by assumption) | exact .inr ⟨by assumption,by assumption⟩
      have KU:e.vals.any zT=true:=zfz.2 ⟨c,zag hc,UO⟩;exact⟨by rw[KU,Bool.not_true,Bool.and_false];rfl,Hb.kept⟩
    refine Zb3 ?_;refine dH (t:=25) rfl (λSb=>?_) (λSb=>?_)
    . refine Cz (λIf=>?_) (λIf=>?_)
      . refine Zb1 ?_
        have UO:zT c=true:=by unfold zT;simp only[decide_eq_true_eq];first | exact .inl (by assumption) | exact .inr ⟨by assumption,by assumption⟩
        have KU:e.vals.any zT=true:=zfz.2 ⟨c,zag hc,UO⟩;exact⟨by rw[KU,Bool.not_true,Bool.and_false];rfl,Hb.kept⟩
      refine Zb1 ?_;have UO:zT c=false:=by unfold zT;simp only[decide_eq_false_iff_not,not_or,not_and];simp_all
      refine Vc ((i+1:Nat):Int) ?_;refine Zb1 ?_;exact aj (i+1) tR ⟨⟨oM,λj d hj hd=>by
      by_cases e2:j=i
      . subst e2;rw[hc]at hd;injection hd with hd;rw[<-hd];exact UO
      exact sZ j d oM hd⟩,Hb.bH⟩ oM
    refine Zb3 ?_;have UO:zT c=false:=by unfold zT;simp only[decide_eq_false_iff_not,not_or,not_and];simp_all
    refine Vc ((i+1:Nat):Int) ?_;refine Zb1 ?_;exact aj (i+1) tR ⟨⟨oM,λj d hj hd=>by
    by_cases e2:j=i
    . subst e2;rw[hc]at hd;injection hd with hd;rw[<-hd];exact UO
    exact sZ j d oM hd⟩,Hb.bH⟩ oM
  have KU:e.vals.any zT=false:=by
    rw[List.any_eq_false];intro c hc;obtain⟨j,hj,e2⟩:=zfk hc;rw[sZ j c oM (by rw[zaa hj,e2])]
    decide
  refine Dz (λSc wc Hc=>?_);refine Zb6 ?_;refine GS (Gt rfl (Gives.mW rfl (hg.keep Hc.kept) rfl) ?_);refine Zb2 ?_;refine fM (t:=39) rfl (λSd=>?_) (λSd=>?_)
  . refine Zb6 ?_
    refine GS (Gt rfl (Gives.mW rfl (hg.keep Hc.kept) rfl) ?_);refine Zb3 ?_
    first
    | exact⟨by rw[KU,Bool.not_false,Bool.and_true];exact zaw Value.bool (zbf.2 ⟨λh=>⟨oM,oM⟩,λh=>by have h2:=h.2;omega⟩),Hc.kept⟩
    | exact⟨by rw[zal (show ¬(e.key.length=keys/\e.vals.length=sums)from λh=>by have h1:=h.1;have h2:=h.2;omega),zdw];rfl,Hc.kept⟩
  refine Zb2 ?_
  first
  | exact⟨by rw[KU,Bool.not_false,Bool.and_true];exact zaw Value.bool (zbf.2 ⟨λh=>⟨oM,oM⟩,λh=>by have h2:=h.2;omega⟩),Hc.kept⟩
  | exact⟨by rw[zal (show ¬(e.key.length=keys/\e.vals.length=sums)from λh=>by have h1:=h.1;have h2:=h.2;omega),zdw];rfl,Hc.kept⟩
variable {vk:Value}
def agP {G:List oI} {vl:Value} (hG:aJ w vl grC 3 G) (hR:jT w G) (hk:aJ w vk ah 3 k):
    Rk prog 108 [vl,vk] w (I (zq (G.findIdx? λg=>decide (g.2.2.1=k)))):=by
  obtain⟨A,m,rfl,⟨hm,om⟩,hA⟩:=hG;have H:=Sep.aF w;refine bQ func108 ?_;refine Zb2 ?_;refine aI (λi:Nat=>[(0,.slice A G.length m),(1,vk),(5,I i)]) (λi w'=>(i<=G.length/\∀(j:Nat) y,j<i->G[j]? =some y->decide (y.2.2.1=k)=false)/\Mw.Sep w noB [] w') (λi _=>G.length-i) 0 tR ⟨⟨zak _,λj y hj=>oM⟩,H⟩ (λi τ w4 hI=>?_);obtain⟨⟨hi,sZ⟩,H4⟩:=hI;refine Lp ?_;refine Cz (λhc9=>?_) (λhc9=>?_)
  . have aS:i<G.length:=oM
    obtain⟨g,hg⟩:=get_some aS;have hgR:=hR g (zag hg);refine Zb2 ?_;refine Vv (Gives.fF rfl rfl hA aS) (Zb1 ?_);refine Vv (Gives.dz (f:=0) rfl H4 hA hg rfl) (Mv ?_);refine Kz (um (hgR.1.keep H4.kept) (hk.keep H4.kept)) (λwa Ha ka=>?_);refine Cz (λIe=>?_) (λIe=>?_)
    . have bT:G.findIdx? (λg=>decide (g.2.2.1=k))=some i:=uf sZ hg (zap Ie)
      refine Zb2 ?_;exact⟨by rw[bT];rfl,Ha.kept⟩
    have Gr:=Ie;refine Zb1 ?_;refine Vc ((i+1:Nat):Int) ?_;refine Zb1 ?_;exact aj (i+1) tR ⟨⟨oM,λj y hj hy=>by
    by_cases e:j=i
    . subst e;rw[hg]at hy;injection hy with hy;rw[<-hy];exact zal Gr
    exact sZ j y oM hy⟩,Ha⟩ oM
  have bT:G.findIdx? (λg=>decide (g.2.2.1=k))=none:=qO λj y hy=>sZ j y (by have:=fO hy;omega) hy;refine Zb1 ?_;exact⟨by rw[bT];rfl,H4.kept⟩
def prE (k:List aC) (n:Nat) (x:bC):List (Int×Int):=
 if x.key=k then(if n=0 then [(x.w,1)]else if(x.vals.getD (n-1) cell0).null=true then []else [(x.w,(x.vals.getD (n-1) cell0).n)])else []
def ajs (k:List aC) (n:Nat) (x:bC):rE (prE k n x)=if x.key=k then EY x n else 0:=by
 unfold prE EY
 by_cases h:x.key=k
 .rw[zac h,zac h]
  by_cases h0:n=0
  .rw[zac h0,zac h0];show x.w*1+0=x.w;omega
  rw[zab h0,zab h0]
  split
  .rfl
  exact zgf _
 rw[zab h,zab h];rfl
def abI (k:List aC) (n:Nat): ∀l:List bC,rE (l.flatMap (prE k n))=jD l k n
 | []=>rfl
 | x::l=>by rw[zbh,Kj,ajs,abI k n l,jD]
def pQ (base:Int) (k:List aC) (n:Nat) (l:List bC):List (Int×Int):=(base,1)::l.flatMap (prE k n)
def QU (base:Int) (k:List aC) (n:Nat) (l:List bC):rE (pQ base k n l)=base+jD l k n:=by
 unfold pQ;rw[rE,abI];show base*1+_=_;omega
def Nl {base:Int} {k:List aC} {n:Nat} {j:Nat} {z:vR} (h:Z[j]? =some z):pQ base k n ((Z.take (j+1)).map (·.2.2))=pQ base k n ((Z.take j).map (·.2.2))++prE k n z.2.2:=by
 unfold pQ;rw[zay,h,zai,zbt];simp
def ajt (k:List aC) (n:Nat) (x:bC):(prE k n x).length<=1:=by
 unfold prE
 (repeat' split)<;>simp
def uY (base:Int) (k:List aC) (n:Nat): ∀l:List bC,(pQ base k n l).length<=l.length+1
 | []=>zbj _
 | x::l=>by
  have h1:=uY base k n l;have h2:=ajt k n x;unfold pQ at h1 ⊢;rw[zbh];simp only[zas,zad]at h1 ⊢;omega
theorem aju {ve:Value} {base:Int} (q:Nat) (hZ:aJ w ve qw 3 Z) (hR:yM w Z) (hk:aJ w vk ah 3 k) (hn:Z.length<=1000) (hb:fits base) (hf: ∀z∈Z,fits z.2.2.w/\∀c∈z.2.2.vals,fits c.n) (hq: ∀z∈Z,(-1:Int)<z.2.2.vals.length):
    Rk prog 109 [I base,ve,vk,I (-1:Int)] w (.tuple #[I (if aW (base+jD (Z.map (·.2.2)) k 0)=true then base+jD (Z.map (·.2.2)) k 0 else 0),I (if aW (base+jD (Z.map (·.2.2)) k 0)=true then 0 else 50)]):=by
  obtain⟨A,m,rfl,⟨hm,om⟩,hA⟩:=hZ
  have hft: ∀l:List bC,(∀x∈l,fits x.w/\∀c∈x.vals,fits c.n)->∀p∈pQ base k 0 l,fits p.1/\fits p.2:=by
    intro l hl p hp;have h1:fits (1:Int):=by show -9223372036854775808<=(1:Int)/\(1:Int)<=9223372036854775807;decide
    have h0:fits (0:Int):=by show -9223372036854775808<=(0:Int)/\(0:Int)<=9223372036854775807;decide
    rcases zba.1 hp with e | e
    . rw[e];exact⟨hb,h1⟩
    obtain⟨x,hx,e⟩:=zca.1 e;obtain⟨h2,h3⟩:=hl x hx;unfold prE at e
    split at e
    . split at e
      . rw[zau]at e;rw[e];exact⟨h2,h1⟩
      split at e
      . exact zar e zan
      rw[zau]at e;rw[e];refine⟨h2,?_⟩;dsimp only;rw[zax];cases hc:x.vals[0-1]? with
      | none=>exact h0
      | some c=>exact h3 c (zag hc)
    exact zar e zan
  have H:=Sep.aF w;refine yg func109 ?_;refine Zb3 ?_;refine Vv (Gives.yL (zs:=[I 0,I 0]) (out:=lW (base,1)) rfl (Fills.one rfl rfl rfl sM rfl (Fills.one rfl rfl rfl sM rfl Fills.nil))) (Bs H ([(base,(1:Int))].flatMap lW) (λbs _ S _=>?_));have S:=Sep.nM (n:=1) (s:=2) S At0 rfl dC;refine Zb2 ?_;refine aI (λx:(OA×Nat)×Nat=>[(1,.slice A Z.length m),(2,vk),(3,I (-1:Int)),(10,.slice x.1.1 (pQ base k 0 ((Z.take x.2).map (·.2.2))).length x.1.2),(11,I x.2)]) (λx w'=>x.2<=Z.length/\Mw.Sep w noB [aY 195 2 lW (.slice x.1.1 (pQ base k 0 ((Z.take x.2).map (·.2.2))).length x.1.2) (pQ base k 0 ((Z.take x.2).map (·.2.2)))] w') (λx _=>Z.length-x.2) ((some ⟨bs,0,none⟩,1),0) tR ⟨zak _,S⟩ (λx τ _ hI=>?_);obtain⟨⟨R,cR⟩,j⟩:=x;obtain⟨hj,S⟩:=hI;dsimp only at hj S;refine Lp ?_;refine Cz (λa=>?_) (λa=>?_)
  . have aS:j<Z.length:=oM
    obtain⟨z,hz⟩:=get_some aS;have OI:=zag hz;obtain⟨kv,vv,e⟩:=z;obtain⟨hzk,hzv⟩:=hR _ OI;have hqz:=hq _ OI;dsimp only at hzk hzv hqz;obtain⟨V,cv,rfl,_,hV⟩:=hzv;have nu:=Nl (base:=base) (k:=k) (n:=0) hz;dsimp only at nu;unfold prE at nu;have Py:=uY base k 0 ((Z.take j).map (·.2.2));rw[zaf,zah]at Py;refine Zb2 ?_;refine Vv (Gives.fF rfl rfl hA aS) (Zb1 ?_);refine Vv (Gives.dz (f:=0) rfl S hA hz rfl) (Mv ?_);refine Kz (um (hzk.keep S.kept) (hk.keep S.kept)) (λ_ a _=>?_);refine Vv (Gives.notP rfl) (Cz (λb=>?_) (λb=>?_))
    . rw[zab b,zbw]at nu
      refine Zb1 ?_;refine Vc ((j+1:Nat):Int) ?_;refine Zb1 ?_
      first
      | exact aj ((R2,cR2),j+1) tR ⟨dO,a⟩ dO
      | exact aj ((R,cR),j+1) ⟨rfl,rfl,rfl,by dsimp only;rw[nu];rfl,rfl,trivial⟩ ⟨dO,by dsimp only;rw[nu];exact a⟩ dO
    rw[zac (Decidable.of_not_not b)]at nu;refine Cz (λb=>?_) (λb=>?_)
    . rw[zac rfl]at nu
      refine Zb3 ?_;refine Vv (Gives.fF rfl rfl hA aS) (Zb1 ?_);refine Vv (Gives.dz (f:=2) rfl a hA hz rfl) (Vv (Gives.yL (zs:=[I 0,I 0]) (out:=lW (e.w,1)) rfl (Fills.one rfl rfl rfl sM rfl (Fills.one rfl rfl rfl sM rfl Fills.nil))) ?_);refine Bs a ([(e.w,(1:Int))].flatMap lW) (λbs _ a _=>?_);refine dG a (news:=[(e.w,(1:Int))]) At0 (by unfold maxLen;simp only[zae];omega) (by simp only[zae];omega) (cells_one (λ_=>rfl) _) (h:=?_);intro v6 a a;rw[<-nu]at a;obtain⟨R2,cR2,rfl,_,_⟩:=Sep.bJ a At0;refine Zb2 ?_;refine Vc ((j+1:Nat):Int) ?_;refine Zb1 ?_
      first
      | exact aj ((R2,cR2),j+1) tR ⟨dO,a⟩ dO
      | exact aj ((R,cR),j+1) ⟨rfl,rfl,rfl,by dsimp only;rw[nu];rfl,rfl,trivial⟩ ⟨dO,by dsimp only;rw[nu];exact a⟩ dO
    exact zar (show(-1:Int)<0 from dC) b
  have RN:Z.take j=Z:=zaj oM;refine Zb1 ?_;have OQ:=jG S At0;have hpn:=uY base k 0 ((Z.take j).map (·.2.2));rw[zaf,zah]at hpn
  have RG:=hft ((Z.take j).map (·.2.2)) λx hx=>by
    obtain⟨z,hz,rfl⟩:=zaq.1 hx;exact hf z (zcg hz)
  refine Kz (Jh OQ RG oM) (λ_ a _=>?_);rw[QU,RN];refine Zb4 ?_;exact⟨rfl,a.kept⟩
theorem ajv {ve:Value} {base:Int} (q:Nat) (hZ:aJ w ve qw 3 Z) (hR:yM w Z) (hk:aJ w vk ah 3 k) (hn:Z.length<=1000) (hb:fits base) (hf: ∀z∈Z,fits z.2.2.w/\∀c∈z.2.2.vals,fits c.n) (hq: ∀z∈Z,((q:Nat):Int)<z.2.2.vals.length):
    Rk prog 109 [I base,ve,vk,I ((q:Nat):Int)] w (.tuple #[I (if aW (base+jD (Z.map (·.2.2)) k (q+1))=true then base+jD (Z.map (·.2.2)) k (q+1)else 0),I (if aW (base+jD (Z.map (·.2.2)) k (q+1))=true then 0 else 50)]):=by
  obtain⟨A,m,rfl,⟨hm,om⟩,hA⟩:=hZ
  have hft: ∀l:List bC,(∀x∈l,fits x.w/\∀c∈x.vals,fits c.n)->∀p∈pQ base k (q+1) l,fits p.1/\fits p.2:=by
    intro l hl p hp;have h1:fits (1:Int):=by show -9223372036854775808<=(1:Int)/\(1:Int)<=9223372036854775807;decide
    have h0:fits (0:Int):=by show -9223372036854775808<=(0:Int)/\(0:Int)<=9223372036854775807;decide
    rcases zba.1 hp with e | e
    . rw[e];exact⟨hb,h1⟩
    obtain⟨x,hx,e⟩:=zca.1 e;obtain⟨h2,h3⟩:=hl x hx;unfold prE at e
    split at e
    . split at e
      . rw[zau]at e;rw[e];exact⟨h2,h1⟩
      split at e
      . exact zar e zan
      rw[zau]at e;rw[e];refine⟨h2,?_⟩;dsimp only;rw[zax];cases hc:x.vals[(q+1)-1]? with
      | none=>exact h0
      | some c=>exact h3 c (zag hc)
    exact zar e zan
  have H:=Sep.aF w;refine yg func109 ?_;refine Zb3 ?_;refine Vv (Gives.yL (zs:=[I 0,I 0]) (out:=lW (base,1)) rfl (Fills.one rfl rfl rfl sM rfl (Fills.one rfl rfl rfl sM rfl Fills.nil))) (Bs H ([(base,(1:Int))].flatMap lW) (λbs _ S _=>?_));have S:=Sep.nM (n:=1) (s:=2) S At0 rfl dC;refine Zb2 ?_;refine aI (λx:(OA×Nat)×Nat=>[(1,.slice A Z.length m),(2,vk),(3,I ((q:Nat):Int)),(10,.slice x.1.1 (pQ base k (q+1) ((Z.take x.2).map (·.2.2))).length x.1.2),(11,I x.2)]) (λx w'=>x.2<=Z.length/\Mw.Sep w noB [aY 195 2 lW (.slice x.1.1 (pQ base k (q+1) ((Z.take x.2).map (·.2.2))).length x.1.2) (pQ base k (q+1) ((Z.take x.2).map (·.2.2)))] w') (λx _=>Z.length-x.2) ((some ⟨bs,0,none⟩,1),0) tR ⟨zak _,S⟩ (λx τ _ hI=>?_);obtain⟨⟨R,cR⟩,j⟩:=x;obtain⟨hj,S⟩:=hI;dsimp only at hj S;refine Lp ?_;refine Cz (λa=>?_) (λa=>?_)
  . have aS:j<Z.length:=oM
    obtain⟨z,hz⟩:=get_some aS;have OI:=zag hz;obtain⟨kv,vv,e⟩:=z;obtain⟨hzk,hzv⟩:=hR _ OI;have hqz:=hq _ OI;dsimp only at hzk hzv hqz;obtain⟨V,cv,rfl,_,hV⟩:=hzv;have nu:=Nl (base:=base) (k:=k) (n:=(q+1)) hz;dsimp only at nu;unfold prE at nu;have Py:=uY base k (q+1) ((Z.take j).map (·.2.2));rw[zaf,zah]at Py;refine Zb2 ?_;refine Vv (Gives.fF rfl rfl hA aS) (Zb1 ?_);refine Vv (Gives.dz (f:=0) rfl S hA hz rfl) (Mv ?_);refine Kz (um (hzk.keep S.kept) (hk.keep S.kept)) (λ_ a _=>?_);refine Vv (Gives.notP rfl) (Cz (λb=>?_) (λb=>?_))
    . rw[zab b,zbw]at nu
      refine Zb1 ?_;refine Vc ((j+1:Nat):Int) ?_;refine Zb1 ?_
      first
      | exact aj ((R2,cR2),j+1) tR ⟨dO,a⟩ dO
      | exact aj ((R,cR),j+1) ⟨rfl,rfl,rfl,by dsimp only;rw[nu];rfl,rfl,trivial⟩ ⟨dO,by dsimp only;rw[nu];exact a⟩ dO
    rw[zac (Decidable.of_not_not b)]at nu;refine Cz (λb=>?_) (λb=>?_)
    . omega
    obtain⟨cq,hcq⟩:=get_some (l:=e.vals) (show q<e.vals.length from oM);rw[zab oM,zgd,zax,hcq]at nu;dsimp only[Option.getD_some]at nu;refine Zb2 ?_;refine Vv (Gives.fF rfl rfl hA aS) (Zb1 ?_);refine Vv (Gives.dz (f:=1) rfl a hA hz rfl) (Mv ?_);refine Vv (Gives.fF (l:=e.vals) rfl rfl hV (fO hcq)) (Zb1 ?_);refine Vv (Gives.dz (f:=0) rfl a hV hcq rfl) (Vv (Gives.not rfl) ?_);refine Qn (Cd rfl (λb=>?_) (λb=>?_))
    . have Lj:cq.null=false:=by simpa using b
      rw[zab (by rw[Lj];decide)]at nu;refine Dz (λd _ g=>?_);refine Zb3 ?_;refine GS (Gn rfl (λ_=>Gives.fF rfl rfl hA aS) ?_);refine Zb1 ?_;refine GS (Gt rfl (Gives.dz (f:=2) rfl g hA hz rfl) ?_);refine Zb2 ?_;refine GS (Gn rfl (λ_=>Gives.fF rfl rfl hA aS) ?_);refine Zb1 ?_;refine GS (Gt rfl (Gives.dz (f:=1) rfl g hA hz rfl) ?_);refine Zb1 ?_;refine GS (Gn rfl (λ_=>Gives.fF (l:=e.vals) rfl rfl hV (fO hcq)) ?_);refine Zb1 ?_;refine GS (Gt rfl (Gives.dz (f:=1) rfl g hV hcq rfl) ?_);refine GS (Gn rfl (λ_=>Gives.yL (zs:=[I 0,I 0]) (out:=lW (e.w,cq.n)) rfl (Fills.one rfl rfl rfl sM rfl (Fills.one rfl rfl rfl sM rfl Fills.nil))) ?_);refine Gz d 16 _ g ([(e.w,cq.n)].flatMap lW) (h:=λbs _ g=>⟨sT,?_⟩);refine gF d 17 _ g (news:=[(e.w,cq.n)]) At0 (by unfold maxLen;simp only[zae];omega) (by simp only[zae];omega) (cells_one (λ_=>rfl) _) (h:=λv6 _ g=>?_);rw[<-nu]at g;obtain⟨R2,cR2,rfl,_,_⟩:=Sep.bJ g At0;refine⟨sT,?_⟩;refine sH d 18 _ (h:=⟨sT,?_⟩);refine Zb1 ?_;refine Vc ((j+1:Nat):Int) ?_;refine Zb1 ?_
      first
      | exact aj ((R2,cR2),j+1) tR ⟨dO,g⟩ dO
      | exact aj ((R,cR),j+1) ⟨rfl,rfl,rfl,by dsimp only;rw[nu];rfl,rfl,trivial⟩ ⟨dO,by dsimp only;rw[nu];exact g⟩ dO
    have Lj:cq.null=true:=by simpa using b
    rw[zac Lj,zbw]at nu;refine Zb1 ?_;refine Vc ((j+1:Nat):Int) ?_;refine Zb1 ?_
    first
    | exact aj ((R2,cR2),j+1) tR ⟨dO,a⟩ dO
    | exact aj ((R,cR),j+1) ⟨rfl,rfl,rfl,by dsimp only;rw[nu];rfl,rfl,trivial⟩ ⟨dO,by dsimp only;rw[nu];exact a⟩ dO
  have RN:Z.take j=Z:=zaj oM;refine Zb1 ?_;have OQ:=jG S At0;have hpn:=uY base k (q+1) ((Z.take j).map (·.2.2));rw[zaf,zah]at hpn
  have RG:=hft ((Z.take j).map (·.2.2)) λx hx=>by
    obtain⟨z,hz,rfl⟩:=zaq.1 hx;exact hf z (zcg hz)
  refine Kz (Jh OQ RG oM) (λ_ g _=>?_);rw[QU,RN];refine Zb4 ?_;exact⟨rfl,g.kept⟩
end Go.Proofs.Mw
